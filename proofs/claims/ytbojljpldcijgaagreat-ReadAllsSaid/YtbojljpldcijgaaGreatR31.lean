/- Parts of the proof. -/
import Derived.Test.YtbojljpldcijgaaGreatR01
set_option maxHeartbeats 12800000
set_option maxRecDepth 100000
open Go.RowKit.Below renaming refl -> ap
open Nat renaming le_refl -> ae
namespace Go.Proofs.YtbojljpldcijgaaGreat
open Go.RowKit Hb
theorem qM (o:OpR) (w:World):Calls Tryz.prog 68 #[jK o] w fun e w'=>e=.returned (.tuple #[.int .i64 (kL o),.int .i64 (ig o)])/\Below w.heap.size w w':=by
 unfold jK
 generalize c:kL o=x
 generalize d:ig o=y
 have f:=zq c
 have g:=zq d
 clear c d
 obtain ⟨u,a,b⟩:=o
 have hd:b<1\/1200<b\/((1<=b/\b<=1200)/\(a=1\/a=2\/a=3\/a=4\/a=5\/a=6\/a=7\/(¬a=1/\¬a=2/\¬a=3/\¬a=4/\¬a=5/\¬a=6/\¬a=7))):=by omega
 rcases hd with h | h | ⟨⟨k,l⟩,rfl|rfl|rfl|rfl|rfl|rfl|rfl | ⟨m,n,p,q,r,s,t⟩⟩
 all_goals
  go_enter Tryz.func68,Tryz.ntmps68
  go_wp2_with fail
  try (go_quiet (fail);go_wp2_with fail)
  refine bodyPost_ret (v:=.tuple #[.int .i64 x,.int .i64 y]) ?_ rfl ⟨rfl,by first | exact (ap _ _).alloc (ae _) _ | exact dF ((ap _ _).alloc (ae _) _) _⟩
  have i:=f.out
  have j:=g.out
  unfold kL at i
  unfold ig at j
  simp [results,Tryz.results68,go_sem]
  grind
end Go.Proofs.YtbojljpldcijgaaGreat
