/- Words for a law's drawn region: new bytes and their string; rows of terms of any kind. -/
import Derived.Test.YtpokpgkjaifccaaGreatDoorRRH01
import Derived.Test.YtpokpgkjaifccaaGreatDoorRRH14
import Derived.Lib.Strings
namespace Hb
open Go Go.RowKit
def vcByt (n:Nat) (cs:List Value):List Value→(Nat→Prop)→World→Prop | [v],N,X=>∃g,v=.slice (some ⟨g,0,none⟩) n n∧N g∧Bk X g cs | _,_,_=>False
def rBytes (A:List Nat) (j n:Nat) (cs:List Value):ROp:=rCall A [j] (vpRow n) (vcByt n cs) fun vs _ _ _ _ h hk hN _=>match vs,h with | [_],⟨g,e,hg,hb⟩=>⟨g,e,hN g hg,hb.keeps (hk g hg)⟩
theorem conv_bk1 {P:Program} {X:World} {g:Nat} (src dst e:TypeId) (hs:P.underlying src=some (.slice e)) (he:P.underlying e=some (.int .u8)) (hd:P.underlying dst=some .string) (n:Int) (h0:0≤n) (h1:n≤255) (hk:Bk X g [.int .u8 n]) :
  (convert src dst (.slice (some ⟨g,0,none⟩) 1 1)).run P X=.ok (.string ⟨#[n.toNat.toUInt8]⟩) X:=by
 refine run_convert_bytes_back X src dst e ⟨g,0,none⟩ 1 [n.toNat.toUInt8] hs he hd fun j hj=>?_
 have:j=0:=by simp at hj;omega
 subst this
 refine (hk.c 0 _ rfl).trans ?_
 simp;omega
end Hb
