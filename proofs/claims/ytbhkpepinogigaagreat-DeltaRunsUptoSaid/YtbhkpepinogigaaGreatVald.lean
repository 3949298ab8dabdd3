/- What the reference valued leans on. -/
import Derived.Test.YtbhkpepinogigaaGreatMacP
import Derived.Test.YtbhkpepinogigaaGreatNumRef
namespace Go.Proofs.YtbhkpepinogigaaGreat
open Go.RowKit Go.Maps

def ValN (l:List Fct) (F:Option Addr) (nF cF N:Nat):Prop:=∀ (x:Exp) (A:Option Addr) (c:Nat) (w:World),x.nodes ≤ N → prtN x = 0 → XRep w (old w) (x.cs A c) x → Sl w (old w) 7 RFct F nF l →
 Calls Tryz.prog 137 #[.agg (x.cs A c).toArray,.slice F nF cF] w (RetV w (evX l x))
theorem Own.fresh (w:World) (e:TypeId) (v:Val) (hv:v.wf):Own (w.alloc (.cells #[.int .i64 v.k,.int .i64 v.n,.string v.s] e)) w.heap.size e 3 (fun _ _ => RVal) (.slice (some ⟨w.heap.size,0,none⟩) 1 1) [v]:=by
 refine ⟨[v.cs],⟨by simp,.inr ⟨w.heap.size,1,#[.int .i64 v.k,.int .i64 v.n,.string v.s],rfl,Nat.le_refl _,?_,Nat.le_refl _,by decide,rfl,rfl⟩⟩,rfl,fun c hc => ?_,fun i c a hc ha => ?_⟩
 ·exact heap_alloc_new w _
 ·simp at hc;subst hc;rfl
 ·have hi:i = 0:=by
   have:=(List.getElem?_eq_some_iff.1 hc).1
   simp at this;exact this
  subst hi
  simp at hc ha
  subst hc;subst ha
  exact ⟨rfl,hv⟩
theorem lackV_pend1 {vs:List Val} {k:Nat} {v:Val} (h5:vs.any (fun v => v.k == 5) = false) (h0:(vs.take k).any (fun v => v.k == 4) = false) (h1:vs[k]? = some v) (h2:v.k = 4):lackV vs = some v:=by
 unfold lackV
 rw [find_none _ _ h5]
 dsimp only
 rw [find_at0 h0 h1 (by simpa using h2)]
theorem app4 (v0:Val):appV 4 [v0] = bif [v0].all (fun v => v.k == 2) then truthV (v0.n == 0) else faultV 9:=by
 unfold appV
 rw [if_neg (by decide),if_pos rfl]
 show (if v0.k = 2 then _ else _) = _
 by_cases h:v0.k = 2
 ·have e:(v0.k == 2) = true:=by simpa using h
  rw [if_pos h];simp [e,vAt]
 ·have e:(v0.k == 2) = false:=by simpa using h
  rw [if_neg h];simp [e]
theorem app10 (v0 v1:Val):appV 10 [v0,v1] = bif [v0,v1].all (fun v => v.k == 3) then joinV v0.s v1.s else faultV 9:=by
 unfold appV
 rw [if_neg (by decide),if_neg (by decide),if_pos rfl]
 show (if v0.k = 3 ∧ v1.k = 3 then _ else _) = _
 by_cases h:v0.k = 3
 ·have e:(v0.k == 3) = true:=by simpa using h
  by_cases h':v1.k = 3
  ·have e':(v1.k == 3) = true:=by simpa using h'
   rw [if_pos ⟨h,h'⟩];simp [e,e',vAt]
  ·have e':(v1.k == 3) = false:=by simpa using h'
   rw [if_neg (fun hh => h' hh.2)];simp [e']
 ·have e:(v0.k == 3) = false:=by simpa using h
  rw [if_neg (fun hh => h hh.1)];simp [e]
theorem app18 (v0:Val):appV 18 [v0] = bif [v0].all (fun v => v.k == 3) then ⟨1,v0.s.size,⟨#[]⟩⟩ else faultV 9:=by
 unfold appV
 rw [if_neg (by decide),if_neg (by decide),if_neg (by decide),if_pos rfl]
 show (if v0.k = 3 then _ else _) = _
 by_cases h:v0.k = 3
 ·have e:(v0.k == 3) = true:=by simpa using h
  rw [if_pos h];simp [e,vAt]
 ·have e:(v0.k == 3) = false:=by simpa using h
  rw [if_neg h];simp [e]
theorem app3 (v0:Val):appV 3 [v0] = bif [v0].all (fun v => v.k == 1) then ⟨1,-v0.n,⟨#[]⟩⟩ else faultV 9:=by
 unfold appV
 rw [if_neg (by decide),if_neg (by decide),if_neg (by decide),if_neg (by decide),if_pos rfl]
 show (if v0.k = 1 then _ else _) = _
 by_cases h:v0.k = 1
 ·have e:(v0.k == 1) = true:=by simpa using h
  rw [if_pos h];simp [e,vAt]
 ·have e:(v0.k == 1) = false:=by simpa using h
  rw [if_neg h];simp [e]
theorem appMul (v0 v1:Val):appV 5 [v0,v1] = bif [v0,v1].all (fun v => v.k == 1) then numV (numMul v0.n v1.n) else faultV 9:=by
 unfold appV
 rw [if_neg (by decide),if_neg (by decide),if_neg (by decide),if_neg (by decide),if_neg (by decide)]
 show (if v0.k = 1 ∧ v1.k = 1 then _ else _) = _
 by_cases h:v0.k = 1
 ·have e:(v0.k == 1) = true:=by simpa using h
  by_cases h':v1.k = 1
  ·have e':(v1.k == 1) = true:=by simpa using h'
   rw [if_pos ⟨h,h'⟩];simp [e,e',vAt,numApp]
  ·have e':(v1.k == 1) = false:=by simpa using h'
   rw [if_neg (fun hh => h' hh.2)];simp [e']
 ·have e:(v0.k == 1) = false:=by simpa using h
  rw [if_neg (fun hh => h hh.1)];simp [e]
theorem appDiv (v0 v1:Val):appV 6 [v0,v1] = bif [v0,v1].all (fun v => v.k == 1) then numV (numDiv v0.n v1.n) else faultV 9:=by
 unfold appV
 rw [if_neg (by decide),if_neg (by decide),if_neg (by decide),if_neg (by decide),if_neg (by decide)]
 show (if v0.k = 1 ∧ v1.k = 1 then _ else _) = _
 by_cases h:v0.k = 1
 ·have e:(v0.k == 1) = true:=by simpa using h
  by_cases h':v1.k = 1
  ·have e':(v1.k == 1) = true:=by simpa using h'
   rw [if_pos ⟨h,h'⟩];simp [e,e',vAt,numApp]
  ·have e':(v1.k == 1) = false:=by simpa using h'
   rw [if_neg (fun hh => h' hh.2)];simp [e']
 ·have e:(v0.k == 1) = false:=by simpa using h
  rw [if_neg (fun hh => h hh.1)];simp [e]
theorem appMod (v0 v1:Val):appV 7 [v0,v1] = bif [v0,v1].all (fun v => v.k == 1) then numV (numMod v0.n v1.n) else faultV 9:=by
 unfold appV
 rw [if_neg (by decide),if_neg (by decide),if_neg (by decide),if_neg (by decide),if_neg (by decide)]
 show (if v0.k = 1 ∧ v1.k = 1 then _ else _) = _
 by_cases h:v0.k = 1
 ·have e:(v0.k == 1) = true:=by simpa using h
  by_cases h':v1.k = 1
  ·have e':(v1.k == 1) = true:=by simpa using h'
   rw [if_pos ⟨h,h'⟩];simp [e,e',vAt,numApp]
  ·have e':(v1.k == 1) = false:=by simpa using h'
   rw [if_neg (fun hh => h' hh.2)];simp [e']
 ·have e:(v0.k == 1) = false:=by simpa using h
  rw [if_neg (fun hh => h hh.1)];simp [e]
theorem appAdd (v0 v1:Val):appV 8 [v0,v1] = bif [v0,v1].all (fun v => v.k == 1) then numV (numAdd v0.n v1.n) else faultV 9:=by
 unfold appV
 rw [if_neg (by decide),if_neg (by decide),if_neg (by decide),if_neg (by decide),if_neg (by decide)]
 show (if v0.k = 1 ∧ v1.k = 1 then _ else _) = _
 by_cases h:v0.k = 1
 ·have e:(v0.k == 1) = true:=by simpa using h
  by_cases h':v1.k = 1
  ·have e':(v1.k == 1) = true:=by simpa using h'
   rw [if_pos ⟨h,h'⟩];simp [e,e',vAt,numApp]
  ·have e':(v1.k == 1) = false:=by simpa using h'
   rw [if_neg (fun hh => h' hh.2)];simp [e']
 ·have e:(v0.k == 1) = false:=by simpa using h
  rw [if_neg (fun hh => h hh.1)];simp [e]
theorem appSub (v0 v1:Val):appV 9 [v0,v1] = bif [v0,v1].all (fun v => v.k == 1) then numV (numSub v0.n v1.n) else faultV 9:=by
 unfold appV
 rw [if_neg (by decide),if_neg (by decide),if_neg (by decide),if_neg (by decide),if_neg (by decide)]
 show (if v0.k = 1 ∧ v1.k = 1 then _ else _) = _
 by_cases h:v0.k = 1
 ·have e:(v0.k == 1) = true:=by simpa using h
  by_cases h':v1.k = 1
  ·have e':(v1.k == 1) = true:=by simpa using h'
   rw [if_pos ⟨h,h'⟩];simp [e,e',vAt,numApp]
  ·have e':(v1.k == 1) = false:=by simpa using h'
   rw [if_neg (fun hh => h' hh.2)];simp [e']
 ·have e:(v0.k == 1) = false:=by simpa using h
  rw [if_neg (fun hh => h hh.1)];simp [e]
theorem Tryz.zeroBool (w:World):(zeroValue 4).run Tryz.prog w = .ok (.bool false) w:=by kernel_rfl
def boolMap (r:Int):Lit → Option Value:=putAt (putAt (putAt (putAt (fun _ => none) (.int .i64 11) (.bool (r == -1))) (.int .i64 12) (.bool (r != 1))) (.int .i64 13) (.bool (r == 0))) (.int .i64 14) (.bool (r != 0))
theorem valOrder_one {a b:Val} {r e:Int} (h:valOrder a b = (r,e)):r = -1 ∨ r = 0 ∨ r = 1:=by
 have h1:r = (valOrder a b).1:=by rw [h]
 rw [h1]
 unfold valOrder
 split
 ·show or2 _ _ = -1 ∨ or2 _ _ = 0 ∨ or2 _ _ = 1
  unfold or2 cmpZ cmpS
  repeat' split
  all_goals omega
 ·exact .inr (.inl rfl)
theorem boolMap_at {r:Int} (op:Int) (h1:11 ≤ op) (h2:op ≤ 14) (hr:r = -1 ∨ r = 0 ∨ r = 1):(boolMap r (.int .i64 op)).getD (.bool false) = .bool (cmpTruth op r):=by
 rcases (by omega:op = 11 ∨ op = 12 ∨ op = 13 ∨ op = 14) with rfl | rfl | rfl | rfl <;> rcases hr with rfl | rfl | rfl <;> rfl
theorem ref_no (e:Int) (w:World):Calls Tryz.prog 183 #[.int .i64 e] w (RetV w (faultV e)):=by
 go_enter Tryz.func183,Tryz.ntmps183
 go_wp2_with fail
 exact bodyPost_ret (v:=.agg #[.int .i64 5,.int .i64 e,.string ⟨#[]⟩]) (by first | (simp [results,Tryz.results183,go_sem];done) | (simp [results,Tryz.results183,go_sem, *];done)) rfl ⟨rfl,bel⟩
theorem ref_yes (b:Bool) (w:World):Calls Tryz.prog 185 #[.bool b] w (RetV w (truthV b)):=by
 cases b
 ·go_enter Tryz.func185,Tryz.ntmps185
  go_wp2_with fail
  exact bodyPost_ret (v:=.agg #[.int .i64 2,.int .i64 0,.string ⟨#[]⟩]) (by first | (simp [results,Tryz.results185,go_sem];done) | (simp [results,Tryz.results185,go_sem, *];done)) rfl ⟨rfl,bel⟩
 ·go_enter Tryz.func185,Tryz.ntmps185
  go_wp2_with fail
  exact bodyPost_ret (v:=.agg #[.int .i64 2,.int .i64 1,.string ⟨#[]⟩]) (by first | (simp [results,Tryz.results185,go_sem];done) | (simp [results,Tryz.results185,go_sem, *];done)) rfl ⟨rfl,bel⟩
end Go.Proofs.YtbhkpepinogigaaGreat
