/- Contracts of the lexer: the next token, by the class of its first character. -/
import Derived.Test.YtmjeajfakhmakaaDoorLexB
import Derived.Test.YtmjeajfakhmakaaDoorLexC
import Derived.Test.YtmjeajfakhmakaaDoorLexD
namespace Go.Proofs.YtmjeajfakhmakaaDoor
open Go.RowKit Hb
set_option maxRecDepth 100000

set_option maxHeartbeats 800000 in
theorem lex_next (b : Nat) (s : ByteArray) (tab : Int → Int) (a : Nat) (at0 : Int) (w : World) (h : Lex w b s tab at0) (ha : a ≤ s.size) :
    Calls Tryd.prog 50 #[.pointer (some ⟨b, 0, none⟩), .int .i64 a] w fun e w' => GivesN (nextR (cvt tab s.data.toList) s.data.toList a) e ∧ Only b w w' ∧ ∃ q, Lex w' b s tab q := by
  by_cases e1 : (a + skipN ((cvt tab s.data.toList).drop a)) = s.size
  · exact lex_next_end b s tab a at0 w h ha e1
  by_cases e3 : rawAt (cvt tab s.data.toList) (a + skipN ((cvt tab s.data.toList).drop a)) = 47
  · by_cases e4 : rawAt (cvt tab s.data.toList) ((a + skipN ((cvt tab s.data.toList).drop a)) + 1) = 42
    · exact lex_next_open b s tab a at0 w h ha e1 ⟨e3, e4⟩
    · exact lex_next_slash b s tab a at0 w h ha e1 e3 e4
  have h0 := cls_lo (rawAt (cvt tab s.data.toList) (a + skipN ((cvt tab s.data.toList).drop a)))
  have h1 := cls_hi (rawAt (cvt tab s.data.toList) (a + skipN ((cvt tab s.data.toList).drop a)))
  have hcs : cls (rawAt (cvt tab s.data.toList) (a + skipN ((cvt tab s.data.toList).drop a))) = 0 ∨ cls (rawAt (cvt tab s.data.toList) (a + skipN ((cvt tab s.data.toList).drop a))) = 1 ∨ cls (rawAt (cvt tab s.data.toList) (a + skipN ((cvt tab s.data.toList).drop a))) = 2 ∨ cls (rawAt (cvt tab s.data.toList) (a + skipN ((cvt tab s.data.toList).drop a))) = 3 ∨ cls (rawAt (cvt tab s.data.toList) (a + skipN ((cvt tab s.data.toList).drop a))) = 4 ∨ cls (rawAt (cvt tab s.data.toList) (a + skipN ((cvt tab s.data.toList).drop a))) = 5 ∨ cls (rawAt (cvt tab s.data.toList) (a + skipN ((cvt tab s.data.toList).drop a))) = 6 ∨ cls (rawAt (cvt tab s.data.toList) (a + skipN ((cvt tab s.data.toList).drop a))) = 7 ∨ cls (rawAt (cvt tab s.data.toList) (a + skipN ((cvt tab s.data.toList).drop a))) = 8 := by omega
  rcases hcs with hc | hc | hc | hc | hc | hc | hc | hc | hc
  · exact lex_next_0 b s tab a at0 w h ha e1 e3 hc
  · exact lex_next_1 b s tab a at0 w h ha e1 e3 hc
  · exact lex_next_2 b s tab a at0 w h ha e1 e3 hc
  · exact lex_next_3 b s tab a at0 w h ha e1 e3 hc
  · exact lex_next_4 b s tab a at0 w h ha e1 e3 hc
  · exact lex_next_5 b s tab a at0 w h ha e1 e3 hc
  · exact lex_next_6 b s tab a at0 w h ha e1 e3 hc
  · exact lex_next_7 b s tab a at0 w h ha e1 e3 hc
  · exact lex_next_8 b s tab a at0 w h ha e1 e3 hc
end Go.Proofs.YtmjeajfakhmakaaDoor
