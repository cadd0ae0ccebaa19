/- Parts of the proof. -/
import Derived.Test.YtbojljpldcijgaaGreatR01
import Derived.Test.YtbojljpldcijgaaGreatR32
import Derived.Test.YtbojljpldcijgaaGreatR17
namespace Hb
open Go Go.RowKit
structure TkF (E:RE):Prop where
 int:∀i,(E.at i).r.kind=4->0<=(E.at i).r.n\/(E.at i).r.n=-9223372036854775808
 stop:∀i,stopT (E.at i)=(if (E.at i).r.kind=7 then true else if (E.at i).r.kind=6 then decide (¬(E.at i).r.text=[40])&&(decide (¬(E.at i).r.text=[91])&&decide (¬(E.at i).r.text=[123])) else false)
theorem ke {t:NextR} {s:List UInt8} (h:dp t s=true):t.r.kind=6/\t.r.text=s:=by
 unfold dp at h
 rw [Bool.and_eq_true] at h
 exact ⟨by simpa using h.1,by simpa using h.2⟩
theorem tM (E:RE) (S:PT) (s:ByteArray) (n:Nat) (h:qW (E.at n)=true):ky E S s n=jb E [41] (fun l=>some (ju s l)) (kN E S (n+1)):=by
 unfold ky jb
 rw [if_pos h]
 cases kN E S (n+1) <;> rfl
theorem tN (E:RE) (S:PT) (s:ByteArray) (n:Nat) (h:¬qW (E.at n)=true):ky E S s n=.ok (none,n):=by
 unfold ky
 rw [if_neg h]
theorem Al (E:RE) (S:PT) (t:NextR) (most:Int) (n:Nat):tr E S t most n=vL E S t t.txt true most n:=by
 unfold tr vL
 by_cases h:qW (E.at n)=true
 ·rw [if_pos h,tM E S _ n h]
  unfold jb
  cases kN E S (n+1) with
  | error e=>rfl
  | ok x=>
   unfold gy
   simp only
   by_cases a:dp (E.at x.2) [41]=true
   ·rw [if_pos a,if_pos a];rfl
   ·rw [if_neg a,if_neg a];rfl
 ·rw [if_neg h,tN E S _ n h]
  simp only
  unfold yr Cb
  rw [Bool.true_and]
  split
  ·rfl
  ·split
   ·cases S (ig ((dK E.P t.txt 1).getD jL)) n <;> rfl
   ·rfl
theorem rp (E:RE) (S:PT) (t:NextR) (c:¬t.r.kind=1) (s:ByteArray) (most:Int) (n:Nat):lF 0 (jE E S s n)=vL E S t s false most n:=by
 unfold jE vL
 by_cases h:qW (E.at n)=true
 ·rw [if_pos h,tM E S _ n h]
  unfold jb
  cases kN E S (n+1) with
  | error e=>rfl
  | ok x=>
   unfold gy
   simp only
   by_cases a:dp (E.at x.2) [41]=true
   ·rw [if_pos a,if_pos a]
   ·rw [if_neg a,if_neg a]
 ·have b:kF E t n=false:=by unfold kF;simp [c]
  rw [if_neg h,tN E S _ n h,b]
  unfold yr
  rw [Bool.false_and]
  rfl
theorem ws {α:Type} (p:Int) (R:RR (α×Nat)):lF p R=(match R with | .error e=>.error e | .ok (a,m)=>.ok (a,p,m)):=by cases R <;> rfl
def un (S:PT) (most:Int) (n:Nat):RR (Tm×Nat):=(S most n).map fun x=>(x.1,x.2.2)
theorem th (E:RE) (S:PT) (s:List UInt8) (F:Tm->Tm) (n:Nat):zZ E S s F n=jb E s F (un S 1200 n):=by
 unfold zZ jb un
 cases S 1200 n <;> rfl
def zK (E:RE) (S:PT):RR (List Tm×Nat)->RR ((List Tm×Tm)×Nat)
 | .error e=>.error e
 | .ok (l,m)=>if dp (E.at m) [124]=true then (S 999 (m+1)).map (fun x=>((l,x.1),x.2.2)) else .ok ((l,kn),m)
theorem xp (E:RE) (S:PT) (n:Nat):qZ E S n=jb E [93] (fun x=>la x.1 x.2) (zK E S (kN E S n)):=by
 unfold qZ sJ
 cases kN E S n with
 | error e=>rfl
 | ok x=>
  unfold zK
  simp only
  by_cases h:dp (E.at x.2) [124]=true
  ·rw [if_pos h,if_pos h]
   cases S 999 (x.2+1) <;> rfl
  ·rw [if_neg h,if_neg h];rfl
theorem AZ {E:RE} {S:PT} {R:RR (List Tm×Nat)} {n m:Nat} {l:List Tm} (h:AnQ R n (l,m) m true):AnQ (zK E S R) n ((l,kn),m) m true:=by
 refine ⟨h.1,.inl ⟨rfl,?_⟩⟩
 rcases h.2 with ⟨_,h⟩ | ⟨h,_⟩
 ·rw [h];rfl
 ·cases h
theorem zJ {E:RE} {S:PT} {R:RR (List Tm×Nat)} {n m:Nat} {l:List Tm} (h:AnQ R n (l,m) m false) (c:dp (E.at m) [124]=false):AnQ (zK E S R) n ((l,kn),m) m false:=by
 refine ⟨h.1,.inr ⟨rfl,?_⟩⟩
 rcases h.2 with ⟨h,_⟩ | ⟨_,a,b⟩
 ·cases h
 ·exact ⟨a,by rw [b];unfold zK;simp [c]⟩
theorem zI {E:RE} {S:PT} {R:RR (List Tm×Nat)} {n m a:Nat} {l:List Tm} {t:Tm} {p:Int} {wr:Bool} (h:AnQ R n (l,m) m false) (g:dp (E.at m) [124]=true) (d:AnQ (S 999 (m+1)) (m+1) (t,p,a) a wr):AnQ (zK E S R) n ((l,t),a) a wr:=by
 have i:=h.1
 have j:=d.1
 rcases h.2 with ⟨h,_⟩ | ⟨_,k,f⟩
 ·cases h
 ·refine ⟨by omega,?_⟩
  rw [f];unfold zK;simp only [g,if_true]
  rcases d.2 with ⟨b,c⟩ | ⟨b,c,e⟩
  ·exact .inl ⟨b,by rw [c];rfl⟩
  ·exact .inr ⟨b,by omega,by rw [e];rfl⟩
theorem vB {S:PT} {most:Int} {n m:Nat} {t:Tm} {p:Int} {wr:Bool} (h:AnQ (S most n) n (t,p,m) m wr):AnQ (un S most n) n (t,m) m wr:=AnQ.map (fun x:Tm×Int×Nat=>(x.1,x.2.2)) h
section
open Go.Proofs.YtbojljpldcijgaaGreat
variable {E:RE} {S:PT} {most:Int} {n:Nat}
theorem Ag (h:(E.at n).r.kind=4) (a:0<=(E.at n).r.n):kQ E S most n=.ok (pQ (E.at n).r.n,0,n+1):=by
 rw [lj E S most n _ rfl,if_pos ⟨h,a⟩]
theorem Ac (h:(E.at n).r.kind=3):kQ E S most n=.ok (AT ((bv E.T n).num (E.at n).r.text),0,n+1):=by
 rw [lj E S most n _ rfl,if_neg (by omega),if_pos h]
theorem Ad (h:(E.at n).r.kind=5):kQ E S most n=.ok (tY E.q (E.at n).r.text,0,n+1):=by
 rw [lj E S most n _ rfl,if_neg (by omega),if_neg (by omega),if_pos h]
theorem nl {s:List UInt8} (h:dp (E.at n) s=true) (c:s=[40]\/s=[91]\/s=[123]):kQ E S most n=lF 0 (lB E S s (n+1)):=by
 have b:=ke h
 have a:kW (E.at n)=true:=by
  unfold kW
  rcases c with rfl|rfl|rfl <;> simp [h]
 rw [lj E S most n _ rfl,if_neg (by omega),if_neg (by omega),if_neg (by omega),if_pos a,b.2,ws]
 cases lB E S s (n+1) <;> rfl
theorem Ae (h:dp (E.at n) [40]=true):kQ E S most n=lF 0 (jb E [41] id (un S 1200 (n+1))):=by
 rw [nl h (.inl rfl)];unfold lB;rw [if_pos rfl,th]
theorem Bo (h:dp (E.at n) [91]=true) (a:dp (E.at (n+1)) [93]=true):kQ E S most n=vL E S (E.at n) ⟨#[91,93]⟩ false most (n+2):=by
 rw [nl h (.inr (.inl rfl))];unfold lB;rw [if_neg (by decide),if_pos ⟨rfl,a⟩]
 exact rp E S _ (by rw [(ke h).1];decide) _ most (n+2)
theorem Bn (h:dp (E.at n) [123]=true) (a:dp (E.at (n+1)) [125]=true):kQ E S most n=vL E S (E.at n) ⟨#[123,125]⟩ false most (n+2):=by
 rw [nl h (.inr (.inr rfl))];unfold lB;rw [if_neg (by decide),if_neg (by simp),if_pos ⟨rfl,a⟩]
 exact rp E S _ (by rw [(ke h).1];decide) _ most (n+2)
theorem yy (h:dp (E.at n) [91]=true) (a:dp (E.at (n+1)) [93]=false):kQ E S most n=lF 0 (jb E [93] (fun x=>la x.1 x.2) (zK E S (kN E S (n+1)))):=by
 rw [nl h (.inr (.inl rfl))];unfold lB;rw [if_neg (by decide),if_neg (by simp [a]),if_neg (by simp),if_pos rfl,xp]
theorem Ah (h:dp (E.at n) [123]=true) (a:dp (E.at (n+1)) [125]=false):kQ E S most n=lF 0 (jb E [125] (fun t=>ju ⟨#[123,125]⟩ [t]) (un S 1200 (n+1))):=by
 rw [nl h (.inr (.inr rfl))];unfold lB;rw [if_neg (by decide),if_neg (by simp),if_neg (by simp [a]),if_neg (by simp),th]
theorem vO {t:NextR} (h:fa t=true):(t.r.kind=1\/t.r.kind=2):=by
 unfold fa at h;simpa using h
theorem iR {t:NextR} (h:¬t.r.kind=6) (s:List UInt8):dp t s=false:=by
 unfold dp;simp [h]
theorem Af (h:fa (E.at n)=true):kQ E S most n=vL E S (E.at n) (E.at n).txt true most (n+1):=by
 have b:=vO h
 have a:kW (E.at n)=false:=by unfold kW;rw [iR (by omega),iR (by omega),iR (by omega)];rfl
 rw [lj E S most n _ rfl,if_neg (by omega),if_neg (by omega),if_neg (by omega),a,if_neg (by simp),if_pos h,Al]
theorem Ai (c:¬((E.at n).r.kind=4/\0<=(E.at n).r.n)) (b:¬(E.at n).r.kind=3) (e:¬(E.at n).r.kind=5) (d:dp (E.at n) [40]=false) (f:dp (E.at n) [91]=false) (a:dp (E.at n) [123]=false) (h:fa (E.at n)=false):kQ E S most n=.error n:=by
 have g:kW (E.at n)=false:=by unfold kW;rw [d,f,a];rfl
 rw [lj E S most n _ rfl,if_neg c,if_neg b,if_neg e,g,if_neg (by simp),h,if_neg (by simp)]
end
end Hb
