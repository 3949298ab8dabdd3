/- whole.Oracle and the reference OracleFault. -/
import Derived.Test.YtbhkpepinogigaaGreatAsk
import Derived.Test.YtbhkpepinogigaaGreatFCk
--TRYSZ (some lists of worlds name one that is not there)
namespace Go.Proofs.YtbhkpepinogigaaGreat
open Go.RowKit

def sameKey (x z:Fct):Bool:=z.name.toList == x.name.toList && valEq z.key x.key
def good (fl:List Fld) (x:Fct) (y:Fld):Bool:=valKnown x.key && (x.key.k == (tyRes fl y.source).1 && (valCheck x.has == 0 && (x.has.k == y.type || x.has.k == 5)))
def orStep (fl:List Fld) (l:List Fct) (i:Nat):Int:=match l[i]? with
 | none => 0
 | some x => match fl[firstAt (hasName x.name) fl]? with
  | none => 5
  | some y => if y.kind = 3 then (if good fl x y then (if (l.take i).any (sameKey x) then 6 else 0) else 9) else 2
def oracleErr (fl:List Fld) (l:List Fct):Int:=firstErr (orStep fl l) l.length
theorem oracle_hit {fl:List Fld} {l:List Fct} {k:Nat} {v:Int} (h:firstErr (orStep fl l) k = 0) (hk:orStep fl l k = v) (hv:v ≠ 0) (hl:k < l.length):oracleErr fl l = v:=by
 unfold oracleErr;rw [firstErr_hit h (by rw [hk];exact hv) _ hl,hk]
theorem or_none {fl:List Fld} {l:List Fct} {k:Nat} {x:Fct} (h:l[k]? = some x) (hf:fl[firstAt (hasName x.name) fl]? = none):orStep fl l k = 5:=by
 unfold orStep;rw [h];show (match fl[firstAt (hasName x.name) fl]? with | none => (5:Int) | some y => _) = 5;rw [hf]
theorem or_some {fl:List Fld} {l:List Fct} {k:Nat} {x:Fct} {y:Fld} (h:l[k]? = some x) (hf:fl[firstAt (hasName x.name) fl]? = some y) :
  orStep fl l k = if y.kind = 3 then (if good fl x y then (if (l.take k).any (sameKey x) then 6 else 0) else 9) else 2:=by
 unfold orStep;rw [h];show (match fl[firstAt (hasName x.name) fl]? with | none => (5:Int) | some y => _) = _;rw [hf]
theorem good_cases (fl:List Fld) (x:Fct) (y:Fld) {t:Int} (ht:(tyRes fl y.source).1 = t) :
  (valKnown x.key = false ∧ good fl x y = false) ∨ (valKnown x.key = true ∧ (x.key.k == t) = false ∧ good fl x y = false) ∨
  (valKnown x.key = true ∧ (x.key.k == t) = true ∧ (valCheck x.has == 0) = false ∧ good fl x y = false) ∨
  (valKnown x.key = true ∧ (x.key.k == t) = true ∧ (valCheck x.has == 0) = true ∧ (x.has.k == y.type) = false ∧ (x.has.k == 5) = false ∧ good fl x y = false) ∨
  (valKnown x.key = true ∧ (x.key.k == t) = true ∧ (valCheck x.has == 0) = true ∧ (x.has.k == y.type) = true ∧ good fl x y = true) ∨
  (valKnown x.key = true ∧ (x.key.k == t) = true ∧ (valCheck x.has == 0) = true ∧ (x.has.k == y.type) = false ∧ (x.has.k == 5) = true ∧ good fl x y = true):=by
 unfold good
 rw [ht]
 cases valKnown x.key <;> cases (x.key.k == t) <;> cases (valCheck x.has == 0) <;> cases (x.has.k == y.type) <;> cases (x.has.k == 5) <;> simp
theorem neq_of {a b:Int} {c:Bool} (h:(a == b) = c):(a != b) = !c:=by rw [← h];rfl

set_option maxHeartbeats 400000 in
theorem oracle_1 (x:Fct) (g:Nat) (z:Fct) (w:World) (h0:w.cell? ⟨g,0,none⟩ = some (.string x.name)) (h1:w.cell? ⟨g,1,none⟩ = some (.int .i64 x.key.k)) (h2:w.cell? ⟨g,2,none⟩ = some (.int .i64 x.key.n)) (h3:w.cell? ⟨g,3,none⟩ = some (.string x.key.s)) :
  Calls Tryz.prog 141 #[.agg #[.string z.name,.int .i64 z.key.k,.int .i64 z.key.n,.string z.key.s,.int .i64 z.has.k,.int .i64 z.has.n,.string z.has.s],.pointer (some ⟨g,0,none⟩)] w
   fun e w' => e = .returned (.bool (sameKey x z)) ∧ Below w.heap.size w w':=by
 have hg:=block_lt_of_cell h0
 simp only at hg
 have hq:=fun w => run_eql_Val w z.key.k z.key.n x.key.k x.key.n z.key.s x.key.s
 rw [show (⟨z.key.k,z.key.n,z.key.s⟩:Val) = z.key from rfl,show (⟨x.key.k,x.key.n,x.key.s⟩:Val) = x.key from rfl] at hq
 unfold sameKey
 cases hc:(z.name.toList == x.name.toList)
 ·go_enter Tryz.func141,Tryz.ntmps141
  go_wp2_with fail
  go_ret
  exact ⟨rfl,bel⟩
 ·rw [Bool.true_and]
  generalize valEq z.key x.key = bb at hq ⊢
  go_enter Tryz.func141,Tryz.ntmps141
  go_wp2_with fail
  go_ret
  exact ⟨rfl,bel⟩
theorem cf_oracle1 (args:Array Value) (w:World):(callFunc 141 args).run Tryz.prog w = .ok (.enter 141 args) w :=
 cf _ _ Tryz.func141 (by kernel_rfl) (by kernel_rfl) args w
set_option maxHeartbeats 400000 in
theorem oracle_ContainsFunc (x:Fct) (g:Nat) (A:Option Addr) (n c:Nat) (l:List Fct) (w:World) (hn:inL n) (h0:w.cell? ⟨g,0,none⟩ = some (.string x.name)) (h1:w.cell? ⟨g,1,none⟩ = some (.int .i64 x.key.k)) (h2:w.cell? ⟨g,2,none⟩ = some (.int .i64 x.key.n)) (h3:w.cell? ⟨g,3,none⟩ = some (.string x.key.s)) (h:Sl w (old w) 7 RFct A n l) :
  Calls Tryz.prog 138 #[.slice A n c,.func (.func 141) #[] #[.pointer (some ⟨g,0,none⟩)]] w fun e w' => e = .returned (.bool (l.any (sameKey x))) ∧ Below w.heap.size w w':=by
 have hcl:=facts_IndexFunc (sameKey x) 141 (.pointer (some ⟨g,0,none⟩)) A n c l w hn h cf_oracle1 (fun wr k z hb _ _ => oracle_1 x g z wr (cell_keep h0 hb) (cell_keep h1 hb) (cell_keep h2 hb) (cell_keep h3 hb))
 have hlen:=h.len
 clear h
 cases ha:l.any (sameKey x)
 ·have h1:idxOf (sameKey x) l = -1:=by rw [idxOf,ha];rfl
  rw [h1] at hcl
  clear ha h1
  go_enter Tryz.func138,Tryz.ntmps138
  go_wp2_with (refine hcl.mono ?_;rintro e w1 ⟨rfl,hb1⟩)
  go_ret
  exact ⟨rfl,bel⟩
 ·have h1:idxOf (sameKey x) l = (firstAt (sameKey x) l:Int):=by rw [idxOf,ha];rfl
  rw [h1] at hcl
  have hlt:=firstAt_le (sameKey x) l
  unfold inL at hn
  clear ha h1
  go_enter Tryz.func138,Tryz.ntmps138
  go_wp2_with (refine hcl.mono ?_;rintro e w1 ⟨rfl,hb1⟩)
  go_ret
  exact ⟨rfl,bel⟩
theorem firstAt_anyO {α:Type} {p:α → Bool}:∀ {l:List α},l.any p = true → firstAt p l < l.length
 | [],h => by simp at h
 | a :: l,h => by
  unfold firstAt
  cases hp:p a
  ·have:=firstAt_anyO (p:=p) (l:=l) (by simpa [hp] using h)
   simp;omega
  ·simp

set_option maxRecDepth 100000 in
set_option maxHeartbeats 8000000 in
theorem whole_Oracle (A:Option Addr) (n c:Nat) (fl:List Fld) (A2:Option Addr) (n2 c2:Nat) (A1:Option Addr) (n1 c1:Nat) (l:List Fct) (w:World) (hn:inB 112 n) (hn1:inL n1) (hc1:n1 ≤ c1)
  (h:Sl w (old w) 9 (RFld w (old w)) A n fl) (h1:Sl w (old w) 7 RFct A1 n1 l) :
  Calls Tryz.prog 80 #[.agg #[.slice A n c,.slice A2 n2 c2],.slice A1 n1 c1] w (RetI w (oracleErr fl l)):=by
 have hnL:=hn.l (by decide)
 have hFl:=h.len
 have HH:=Lib.hid (And.intro h (And.intro h1 (And.intro hn (And.intro h1.len hc1))))
 have hn':n ≤ 140737488351232:=hnL
 have hn1':n1 ≤ 140737488351232:=hn1
 clear h h1 hn hc1
 go_enter Tryz.func80,Tryz.ntmps80
 go_wp2_with fail
 go_loopw [15] (fun i wr => ∃ k:Nat,k ≤ n1 ∧ i = .int .i64 k ∧ Hid (firstErr (orStep fl l) k = 0) ∧ Below (w.alloc (.cells #[.slice A n c,.slice A2 n2 c2] 32)).heap.size (w.alloc (.cells #[.slice A n c,.slice A2 n2 c2] 32)) wr) (fun i _ => n1 - (intOf i).toNat)
 case atStart => exact ⟨0,by omega,rfl,Lib.hid rfl,Below.refl _ _⟩
 case round =>
  obtain ⟨wo,rfl⟩:∃ wo:World,wo = wr:=⟨_,rfl⟩
  obtain ⟨k,hk,rfl,hz,hbr⟩:=hrel
  have hbw:Below w.heap.size w wo:=alloc_below (o:=.cells #[.slice A n c,.slice A2 n2 c2] 32) (by simpa using hbr)
  obtain ⟨hcr,hfr⟩:=bcell hbr;(try simp only [bqh,bqc,bqf] at hcr hfr);have hzr:=hbr.size;(try simp at hzr);(try have hyr:=nl1 hzr);(try have hxr:=nl2 hyr);(try refine szz wr w ?_);intros
  by_cases hlt:k < n1
  ·obtain ⟨b,o,x,rfl,hbl,hl,hwf,x0,x1,x2,x3,x4,x5,x6⟩:=Fct_at (HH.out.2.1.now hbw) hlt
   have hkn:=fun w => value_Known x.key.k x.key.n x.key.s w (inS_max hwf.2.1.2.2)
   have hch:=fun w => value_Check x.has.k x.has.n x.has.s w (inS_max hwf.2.2.2.2)
   rw [show (⟨x.key.k,x.key.n,x.key.s⟩:Val) = x.key from rfl] at hkn
   rw [show (⟨x.has.k,x.has.n,x.has.s⟩:Val) = x.has from rfl] at hch
   have hfi:=fun w h => field_Find A n c fl x.name w hnL h
   have hbl':b < wo.heap.size:=hbl
   have hkl:k < l.length:=by rw [HH.out.2.2.2.1];exact hlt
   have HKL:=Lib.hid (And.intro hkl hl)
   clear hwf hbl hkl
   cases hfa:fl[firstAt (hasName x.name) fl]? with
   | none =>
    have HR:=Lib.hid (oracle_hit hz.out (or_none hl hfa) (by decide) HKL.out.1)
    have hge:fl.length ≤ firstAt (hasName x.name) fl:=List.getElem?_eq_none_iff.1 hfa
    have hle:=firstAt_le (hasName x.name) fl
    have hno:fl.any (hasName x.name) = false:=by
     cases hh:fl.any (hasName x.name)
     ·rfl
     ·have:=firstAt_anyO hh;omega
    simp only [findRes,hno,Bool.false_eq_true,if_false] at hfi
    clear hno
    clear hfa hl hge hle hFl hkn hch
    go_wp2_with (go_at_call 57;refine (hfi _ (HH.out.1.nowN keeps_Fld bel)).mono ?_;rintro e w1 ⟨rfl,hb1⟩;obtain ⟨hc1,hf1⟩:=bcell hb1;(try simp only [bqh,bqc,bqf] at hc1 hf1);have hz1:=hb1.size;(try simp at hz1);(try have hy1:=nl1 hz1);(try have hx1:=nl2 hy1);(try refine szz w1 w ?_);intros;(try refine szz w1 wo ?_);intros;dsimp only)
    go_ret
    rw [HR.out]
    exact ⟨rfl,bel⟩
   | some y =>
    have hst:=or_some hl hfa
    have hfl:firstAt (hasName x.name) fl < fl.length:=(List.getElem?_eq_some_iff.1 hfa).1
    have hno:fl.any (hasName x.name) = true:=firstAt_lt _ _ hfl
    simp only [findRes,hno,if_true] at hfi
    clear hno
    generalize firstAt (hasName x.name) fl = fa at hfi hfa hfl
    rw [hFl] at hfl
    clear hFl hl
    obtain ⟨b2,o2,y',X,C,hAe,hbl2,hl2,hrep,v0,v1,v2,v3,v4,v5,v6,v7,v8⟩:=Fld_at HH.out.1 hfl
    rw [hfa] at hl2
    cases hl2
    subst hAe
    have hbl3:b2 < w.heap.size:=hbl2
    have hty:=fun w h h' => typing_Of fl (some ⟨b2,o2,none⟩) n c y.source X C w HH.out.2.2.1 h h'
    have HY:=Lib.hid hrep.parts.2.2.2
    have HST:=Lib.hid hst
    clear hrep hbl2 hfa hst
    have HVV:=Lib.hid (And.intro v0 (And.intro v1 (And.intro v2 (And.intro v3 (And.intro v4 (And.intro v5 (And.intro v6 (And.intro v7 v8))))))))
    clear v0 v1 v2 v3 v4 v5 v6 v7 v8
    by_cases hk3:y.kind = 3
    ·have hst3:=HST.out
     rw [if_pos hk3] at hst3
     have HS3:=Lib.hid hst3
     clear hst3
     obtain ⟨⟨t,te⟩,hr⟩:∃ r,tyRes fl y.source = r:=⟨_,rfl⟩
     have hgc:=good_cases fl x y (t:=t) (by rw [hr])
     rw [hr] at hty
     clear hr
     rcases hgc with ⟨q1,qg⟩ | ⟨q1,q2,qg⟩ | ⟨q1,q2,q3,qg⟩ | ⟨q1,q2,q3,q4,q5,qg⟩ | ⟨q1,q2,q3,q4,qg⟩ | ⟨q1,q2,q3,q4,q5,qg⟩
     ·have hv:=HS3.out
      rw [qg,if_neg (by decide)] at hv
      have HR:=Lib.hid (oracle_hit hz.out hv (by decide) HKL.out.1)
      rw [q1] at hkn
      clear hv qg
      go_wp2_with (first | (go_at_call 57;refine (hfi _ (HH.out.1.nowN keeps_Fld bel)).mono ?_;rintro e w1 ⟨rfl,hb1⟩;obtain ⟨hc1,hf1⟩:=bcell hb1;(try simp only [bqh,bqc,bqf] at hc1 hf1);have hz1:=hb1.size;(try simp at hz1);(try have hy1:=nl1 hz1);(try have hx1:=nl2 hy1);(try refine szz w1 w ?_);intros;(try refine szz w1 wo ?_);intros;dsimp only;have hBx:Below w.heap.size w w1:=bel;have hbl4:b2 < w1.heap.size:=Nat.lt_of_lt_of_le hbl3 hBx.size;have y0:=(hBx.cell (p:=⟨b2,o2 + fa * 9,none⟩) hbl3).trans HVV.out.1;have y1:=(hBx.cell (p:=⟨b2,o2 + fa * 9 + 1,none⟩) hbl3).trans HVV.out.2.1;have y2:=(hBx.cell (p:=⟨b2,o2 + fa * 9 + 2,none⟩) hbl3).trans HVV.out.2.2.1;have y3:=(hBx.cell (p:=⟨b2,o2 + fa * 9 + 3,none⟩) hbl3).trans HVV.out.2.2.2.1;have y4:=(hBx.cell (p:=⟨b2,o2 + fa * 9 + 4,none⟩) hbl3).trans HVV.out.2.2.2.2.1;have y5:=(hBx.cell (p:=⟨b2,o2 + fa * 9 + 5,none⟩) hbl3).trans HVV.out.2.2.2.2.2.1;have y6:=(hBx.cell (p:=⟨b2,o2 + fa * 9 + 6,none⟩) hbl3).trans HVV.out.2.2.2.2.2.2.1;have y7:=(hBx.cell (p:=⟨b2,o2 + fa * 9 + 7,none⟩) hbl3).trans HVV.out.2.2.2.2.2.2.2.1;have y8:=(hBx.cell (p:=⟨b2,o2 + fa * 9 + 8,none⟩) hbl3).trans HVV.out.2.2.2.2.2.2.2.2;clear hBx) | (go_at_call 140;refine (hty _ (HY.out.keep (old_keep bel)) (HH.out.1.nowN keeps_Fld bel)).mono ?_;rintro e w2 ⟨rfl,hb2⟩;obtain ⟨hc2,hf2⟩:=bcell hb2;(try simp only [bqh,bqc,bqf] at hc2 hf2);have hz2:=hb2.size;(try simp at hz2);(try have hy2:=nl1 hz2);(try have hx2:=nl2 hy2);(try refine szz w2 w ?_);intros;(try refine szz w2 wo ?_);intros;(try refine szz w2 w1 ?_);intros;dsimp only) | (go_at_call 69;refine (hkn _).mono ?_;rintro e w3 ⟨rfl,hb3⟩;obtain ⟨hc3,hf3⟩:=bcell hb3;(try simp only [bqh,bqc,bqf] at hc3 hf3);have hz3:=hb3.size;(try simp at hz3);(try have hy3:=nl1 hz3);(try have hx3:=nl2 hy3);(try refine szz w3 w ?_);intros;(try refine szz w3 wo ?_);intros;(try refine szz w3 w1 ?_);intros;(try refine szz w3 w2 ?_);intros))
      go_ret
      rw [HR.out]
      exact ⟨rfl,bel⟩
     ·have hv:=HS3.out
      rw [qg,if_neg (by decide)] at hv
      have HR:=Lib.hid (oracle_hit hz.out hv (by decide) HKL.out.1)
      rw [q1] at hkn
      have q2':=neq_of q2
      simp only [Bool.not_false] at q2'
      clear hv qg
      go_wp2_with (first | (go_at_call 57;refine (hfi _ (HH.out.1.nowN keeps_Fld bel)).mono ?_;rintro e w1 ⟨rfl,hb1⟩;obtain ⟨hc1,hf1⟩:=bcell hb1;(try simp only [bqh,bqc,bqf] at hc1 hf1);have hz1:=hb1.size;(try simp at hz1);(try have hy1:=nl1 hz1);(try have hx1:=nl2 hy1);(try refine szz w1 w ?_);intros;(try refine szz w1 wo ?_);intros;dsimp only;have hBx:Below w.heap.size w w1:=bel;have hbl4:b2 < w1.heap.size:=Nat.lt_of_lt_of_le hbl3 hBx.size;have y0:=(hBx.cell (p:=⟨b2,o2 + fa * 9,none⟩) hbl3).trans HVV.out.1;have y1:=(hBx.cell (p:=⟨b2,o2 + fa * 9 + 1,none⟩) hbl3).trans HVV.out.2.1;have y2:=(hBx.cell (p:=⟨b2,o2 + fa * 9 + 2,none⟩) hbl3).trans HVV.out.2.2.1;have y3:=(hBx.cell (p:=⟨b2,o2 + fa * 9 + 3,none⟩) hbl3).trans HVV.out.2.2.2.1;have y4:=(hBx.cell (p:=⟨b2,o2 + fa * 9 + 4,none⟩) hbl3).trans HVV.out.2.2.2.2.1;have y5:=(hBx.cell (p:=⟨b2,o2 + fa * 9 + 5,none⟩) hbl3).trans HVV.out.2.2.2.2.2.1;have y6:=(hBx.cell (p:=⟨b2,o2 + fa * 9 + 6,none⟩) hbl3).trans HVV.out.2.2.2.2.2.2.1;have y7:=(hBx.cell (p:=⟨b2,o2 + fa * 9 + 7,none⟩) hbl3).trans HVV.out.2.2.2.2.2.2.2.1;have y8:=(hBx.cell (p:=⟨b2,o2 + fa * 9 + 8,none⟩) hbl3).trans HVV.out.2.2.2.2.2.2.2.2;clear hBx) | (go_at_call 140;refine (hty _ (HY.out.keep (old_keep bel)) (HH.out.1.nowN keeps_Fld bel)).mono ?_;rintro e w2 ⟨rfl,hb2⟩;obtain ⟨hc2,hf2⟩:=bcell hb2;(try simp only [bqh,bqc,bqf] at hc2 hf2);have hz2:=hb2.size;(try simp at hz2);(try have hy2:=nl1 hz2);(try have hx2:=nl2 hy2);(try refine szz w2 w ?_);intros;(try refine szz w2 wo ?_);intros;(try refine szz w2 w1 ?_);intros;dsimp only) | (go_at_call 69;refine (hkn _).mono ?_;rintro e w3 ⟨rfl,hb3⟩;obtain ⟨hc3,hf3⟩:=bcell hb3;(try simp only [bqh,bqc,bqf] at hc3 hf3);have hz3:=hb3.size;(try simp at hz3);(try have hy3:=nl1 hz3);(try have hx3:=nl2 hy3);(try refine szz w3 w ?_);intros;(try refine szz w3 wo ?_);intros;(try refine szz w3 w1 ?_);intros;(try refine szz w3 w2 ?_);intros))
      go_ret
      rw [HR.out]
      exact ⟨rfl,bel⟩
     ·have hv:=HS3.out
      rw [qg,if_neg (by decide)] at hv
      have HR:=Lib.hid (oracle_hit hz.out hv (by decide) HKL.out.1)
      rw [q1] at hkn
      have q2':=neq_of q2
      simp only [Bool.not_true] at q2'
      have q3':=neq_of q3
      simp only [Bool.not_false] at q3'
      generalize valCheck x.has = vc at hch q3 q3'
      clear hv qg
      go_wp2_with (first | (go_at_call 57;refine (hfi _ (HH.out.1.nowN keeps_Fld bel)).mono ?_;rintro e w1 ⟨rfl,hb1⟩;obtain ⟨hc1,hf1⟩:=bcell hb1;(try simp only [bqh,bqc,bqf] at hc1 hf1);have hz1:=hb1.size;(try simp at hz1);(try have hy1:=nl1 hz1);(try have hx1:=nl2 hy1);(try refine szz w1 w ?_);intros;(try refine szz w1 wo ?_);intros;dsimp only;have hBx:Below w.heap.size w w1:=bel;have hbl4:b2 < w1.heap.size:=Nat.lt_of_lt_of_le hbl3 hBx.size;have y0:=(hBx.cell (p:=⟨b2,o2 + fa * 9,none⟩) hbl3).trans HVV.out.1;have y1:=(hBx.cell (p:=⟨b2,o2 + fa * 9 + 1,none⟩) hbl3).trans HVV.out.2.1;have y2:=(hBx.cell (p:=⟨b2,o2 + fa * 9 + 2,none⟩) hbl3).trans HVV.out.2.2.1;have y3:=(hBx.cell (p:=⟨b2,o2 + fa * 9 + 3,none⟩) hbl3).trans HVV.out.2.2.2.1;have y4:=(hBx.cell (p:=⟨b2,o2 + fa * 9 + 4,none⟩) hbl3).trans HVV.out.2.2.2.2.1;have y5:=(hBx.cell (p:=⟨b2,o2 + fa * 9 + 5,none⟩) hbl3).trans HVV.out.2.2.2.2.2.1;have y6:=(hBx.cell (p:=⟨b2,o2 + fa * 9 + 6,none⟩) hbl3).trans HVV.out.2.2.2.2.2.2.1;have y7:=(hBx.cell (p:=⟨b2,o2 + fa * 9 + 7,none⟩) hbl3).trans HVV.out.2.2.2.2.2.2.2.1;have y8:=(hBx.cell (p:=⟨b2,o2 + fa * 9 + 8,none⟩) hbl3).trans HVV.out.2.2.2.2.2.2.2.2;clear hBx) | (go_at_call 140;refine (hty _ (HY.out.keep (old_keep bel)) (HH.out.1.nowN keeps_Fld bel)).mono ?_;rintro e w2 ⟨rfl,hb2⟩;obtain ⟨hc2,hf2⟩:=bcell hb2;(try simp only [bqh,bqc,bqf] at hc2 hf2);have hz2:=hb2.size;(try simp at hz2);(try have hy2:=nl1 hz2);(try have hx2:=nl2 hy2);(try refine szz w2 w ?_);intros;(try refine szz w2 wo ?_);intros;(try refine szz w2 w1 ?_);intros;dsimp only) | (go_at_call 69;refine (hkn _).mono ?_;rintro e w3 ⟨rfl,hb3⟩;obtain ⟨hc3,hf3⟩:=bcell hb3;(try simp only [bqh,bqc,bqf] at hc3 hf3);have hz3:=hb3.size;(try simp at hz3);(try have hy3:=nl1 hz3);(try have hx3:=nl2 hy3);(try refine szz w3 w ?_);intros;(try refine szz w3 wo ?_);intros;(try refine szz w3 w1 ?_);intros;(try refine szz w3 w2 ?_);intros) | (go_at_call 67;refine (hch _).mono ?_;rintro e w4 ⟨rfl,hb4⟩;obtain ⟨hc4,hf4⟩:=bcell hb4;(try simp only [bqh,bqc,bqf] at hc4 hf4);have hz4:=hb4.size;(try simp at hz4);(try have hy4:=nl1 hz4);(try have hx4:=nl2 hy4);(try refine szz w4 w ?_);intros;(try refine szz w4 wo ?_);intros;(try refine szz w4 w1 ?_);intros;(try refine szz w4 w2 ?_);intros;(try refine szz w4 w3 ?_);intros))
      go_ret
      rw [HR.out]
      exact ⟨rfl,bel⟩
     ·have hv:=HS3.out
      rw [qg,if_neg (by decide)] at hv
      have HR:=Lib.hid (oracle_hit hz.out hv (by decide) HKL.out.1)
      rw [q1] at hkn
      have q2':=neq_of q2
      simp only [Bool.not_true] at q2'
      have q3':=neq_of q3
      simp only [Bool.not_true] at q3'
      generalize valCheck x.has = vc at hch q3 q3'
      have q4':=neq_of q4
      simp only [Bool.not_false] at q4'
      have q5':=neq_of q5
      simp only [Bool.not_false] at q5'
      clear hv qg
      go_wp2_with (first | (go_at_call 57;refine (hfi _ (HH.out.1.nowN keeps_Fld bel)).mono ?_;rintro e w1 ⟨rfl,hb1⟩;obtain ⟨hc1,hf1⟩:=bcell hb1;(try simp only [bqh,bqc,bqf] at hc1 hf1);have hz1:=hb1.size;(try simp at hz1);(try have hy1:=nl1 hz1);(try have hx1:=nl2 hy1);(try refine szz w1 w ?_);intros;(try refine szz w1 wo ?_);intros;dsimp only;have hBx:Below w.heap.size w w1:=bel;have hbl4:b2 < w1.heap.size:=Nat.lt_of_lt_of_le hbl3 hBx.size;have y0:=(hBx.cell (p:=⟨b2,o2 + fa * 9,none⟩) hbl3).trans HVV.out.1;have y1:=(hBx.cell (p:=⟨b2,o2 + fa * 9 + 1,none⟩) hbl3).trans HVV.out.2.1;have y2:=(hBx.cell (p:=⟨b2,o2 + fa * 9 + 2,none⟩) hbl3).trans HVV.out.2.2.1;have y3:=(hBx.cell (p:=⟨b2,o2 + fa * 9 + 3,none⟩) hbl3).trans HVV.out.2.2.2.1;have y4:=(hBx.cell (p:=⟨b2,o2 + fa * 9 + 4,none⟩) hbl3).trans HVV.out.2.2.2.2.1;have y5:=(hBx.cell (p:=⟨b2,o2 + fa * 9 + 5,none⟩) hbl3).trans HVV.out.2.2.2.2.2.1;have y6:=(hBx.cell (p:=⟨b2,o2 + fa * 9 + 6,none⟩) hbl3).trans HVV.out.2.2.2.2.2.2.1;have y7:=(hBx.cell (p:=⟨b2,o2 + fa * 9 + 7,none⟩) hbl3).trans HVV.out.2.2.2.2.2.2.2.1;have y8:=(hBx.cell (p:=⟨b2,o2 + fa * 9 + 8,none⟩) hbl3).trans HVV.out.2.2.2.2.2.2.2.2;clear hBx) | (go_at_call 140;refine (hty _ (HY.out.keep (old_keep bel)) (HH.out.1.nowN keeps_Fld bel)).mono ?_;rintro e w2 ⟨rfl,hb2⟩;obtain ⟨hc2,hf2⟩:=bcell hb2;(try simp only [bqh,bqc,bqf] at hc2 hf2);have hz2:=hb2.size;(try simp at hz2);(try have hy2:=nl1 hz2);(try have hx2:=nl2 hy2);(try refine szz w2 w ?_);intros;(try refine szz w2 wo ?_);intros;(try refine szz w2 w1 ?_);intros;dsimp only) | (go_at_call 69;refine (hkn _).mono ?_;rintro e w3 ⟨rfl,hb3⟩;obtain ⟨hc3,hf3⟩:=bcell hb3;(try simp only [bqh,bqc,bqf] at hc3 hf3);have hz3:=hb3.size;(try simp at hz3);(try have hy3:=nl1 hz3);(try have hx3:=nl2 hy3);(try refine szz w3 w ?_);intros;(try refine szz w3 wo ?_);intros;(try refine szz w3 w1 ?_);intros;(try refine szz w3 w2 ?_);intros) | (go_at_call 67;refine (hch _).mono ?_;rintro e w4 ⟨rfl,hb4⟩;obtain ⟨hc4,hf4⟩:=bcell hb4;(try simp only [bqh,bqc,bqf] at hc4 hf4);have hz4:=hb4.size;(try simp at hz4);(try have hy4:=nl1 hz4);(try have hx4:=nl2 hy4);(try refine szz w4 w ?_);intros;(try refine szz w4 wo ?_);intros;(try refine szz w4 w1 ?_);intros;(try refine szz w4 w2 ?_);intros;(try refine szz w4 w3 ?_);intros))
      go_ret
      rw [HR.out]
      exact ⟨rfl,bel⟩
     ·have hv:=HS3.out
      rw [qg,if_pos rfl] at hv
      rw [q1] at hkn
      have q2':=neq_of q2
      simp only [Bool.not_true] at q2'
      have q3':=neq_of q3
      simp only [Bool.not_true] at q3'
      generalize valCheck x.has = vc at hch q3 q3'
      have q4':=neq_of q4
      simp only [Bool.not_true] at q4'
      clear qg
      have hcc:k ≤ c1:=Nat.le_trans hk HH.out.2.2.2.2
      cases hA:(l.take k).any (sameKey x)
      ·rw [hA,if_neg (by decide)] at hv
       have HZ:=Lib.hid (firstErr_next hz.out hv)
       have HA:=Lib.hid hA
       clear hv hA
       go_wp2_with (first | (go_at_call 57;refine (hfi _ (HH.out.1.nowN keeps_Fld bel)).mono ?_;rintro e w1 ⟨rfl,hb1⟩;obtain ⟨hc1,hf1⟩:=bcell hb1;(try simp only [bqh,bqc,bqf] at hc1 hf1);have hz1:=hb1.size;(try simp at hz1);(try have hy1:=nl1 hz1);(try have hx1:=nl2 hy1);(try refine szz w1 w ?_);intros;(try refine szz w1 wo ?_);intros;dsimp only;have hBx:Below w.heap.size w w1:=bel;have hbl4:b2 < w1.heap.size:=Nat.lt_of_lt_of_le hbl3 hBx.size;have y0:=(hBx.cell (p:=⟨b2,o2 + fa * 9,none⟩) hbl3).trans HVV.out.1;have y1:=(hBx.cell (p:=⟨b2,o2 + fa * 9 + 1,none⟩) hbl3).trans HVV.out.2.1;have y2:=(hBx.cell (p:=⟨b2,o2 + fa * 9 + 2,none⟩) hbl3).trans HVV.out.2.2.1;have y3:=(hBx.cell (p:=⟨b2,o2 + fa * 9 + 3,none⟩) hbl3).trans HVV.out.2.2.2.1;have y4:=(hBx.cell (p:=⟨b2,o2 + fa * 9 + 4,none⟩) hbl3).trans HVV.out.2.2.2.2.1;have y5:=(hBx.cell (p:=⟨b2,o2 + fa * 9 + 5,none⟩) hbl3).trans HVV.out.2.2.2.2.2.1;have y6:=(hBx.cell (p:=⟨b2,o2 + fa * 9 + 6,none⟩) hbl3).trans HVV.out.2.2.2.2.2.2.1;have y7:=(hBx.cell (p:=⟨b2,o2 + fa * 9 + 7,none⟩) hbl3).trans HVV.out.2.2.2.2.2.2.2.1;have y8:=(hBx.cell (p:=⟨b2,o2 + fa * 9 + 8,none⟩) hbl3).trans HVV.out.2.2.2.2.2.2.2.2;clear hBx) | (go_at_call 140;refine (hty _ (HY.out.keep (old_keep bel)) (HH.out.1.nowN keeps_Fld bel)).mono ?_;rintro e w2 ⟨rfl,hb2⟩;obtain ⟨hc2,hf2⟩:=bcell hb2;(try simp only [bqh,bqc,bqf] at hc2 hf2);have hz2:=hb2.size;(try simp at hz2);(try have hy2:=nl1 hz2);(try have hx2:=nl2 hy2);(try refine szz w2 w ?_);intros;(try refine szz w2 wo ?_);intros;(try refine szz w2 w1 ?_);intros;dsimp only) | (go_at_call 69;refine (hkn _).mono ?_;rintro e w3 ⟨rfl,hb3⟩;obtain ⟨hc3,hf3⟩:=bcell hb3;(try simp only [bqh,bqc,bqf] at hc3 hf3);have hz3:=hb3.size;(try simp at hz3);(try have hy3:=nl1 hz3);(try have hx3:=nl2 hy3);(try refine szz w3 w ?_);intros;(try refine szz w3 wo ?_);intros;(try refine szz w3 w1 ?_);intros;(try refine szz w3 w2 ?_);intros) | (go_at_call 67;refine (hch _).mono ?_;rintro e w4 ⟨rfl,hb4⟩;obtain ⟨hc4,hf4⟩:=bcell hb4;(try simp only [bqh,bqc,bqf] at hc4 hf4);have hz4:=hb4.size;(try simp at hz4);(try have hy4:=nl1 hz4);(try have hx4:=nl2 hy4);(try refine szz w4 w ?_);intros;(try refine szz w4 wo ?_);intros;(try refine szz w4 w1 ?_);intros;(try refine szz w4 w2 ?_);intros;(try refine szz w4 w3 ?_);intros) | (go_at_call 138;refine (oracle_ContainsFunc x _ _ k _ (l.take k) _ (by unfold inL;omega) ?h0 ?h1 ?h2 ?h3 ((HH.out.2.1.now bel).take hk)).mono ?_;(case h0 => go_simp);(case h1 => go_simp);(case h2 => go_simp);(case h3 => go_simp);rw [HA.out];rintro e w5 ⟨rfl,hb5⟩))
       go_roundw
       case rel => exact ⟨k + 1,by omega,by go_num,HZ,bel⟩
       case measure => simp [intOf];omega
      ·rw [hA,if_pos rfl] at hv
       have HR:=Lib.hid (oracle_hit hz.out hv (by decide) HKL.out.1)
       have HA:=Lib.hid hA
       clear hv hA
       go_wp2_with (first | (go_at_call 57;refine (hfi _ (HH.out.1.nowN keeps_Fld bel)).mono ?_;rintro e w1 ⟨rfl,hb1⟩;obtain ⟨hc1,hf1⟩:=bcell hb1;(try simp only [bqh,bqc,bqf] at hc1 hf1);have hz1:=hb1.size;(try simp at hz1);(try have hy1:=nl1 hz1);(try have hx1:=nl2 hy1);(try refine szz w1 w ?_);intros;(try refine szz w1 wo ?_);intros;dsimp only;have hBx:Below w.heap.size w w1:=bel;have hbl4:b2 < w1.heap.size:=Nat.lt_of_lt_of_le hbl3 hBx.size;have y0:=(hBx.cell (p:=⟨b2,o2 + fa * 9,none⟩) hbl3).trans HVV.out.1;have y1:=(hBx.cell (p:=⟨b2,o2 + fa * 9 + 1,none⟩) hbl3).trans HVV.out.2.1;have y2:=(hBx.cell (p:=⟨b2,o2 + fa * 9 + 2,none⟩) hbl3).trans HVV.out.2.2.1;have y3:=(hBx.cell (p:=⟨b2,o2 + fa * 9 + 3,none⟩) hbl3).trans HVV.out.2.2.2.1;have y4:=(hBx.cell (p:=⟨b2,o2 + fa * 9 + 4,none⟩) hbl3).trans HVV.out.2.2.2.2.1;have y5:=(hBx.cell (p:=⟨b2,o2 + fa * 9 + 5,none⟩) hbl3).trans HVV.out.2.2.2.2.2.1;have y6:=(hBx.cell (p:=⟨b2,o2 + fa * 9 + 6,none⟩) hbl3).trans HVV.out.2.2.2.2.2.2.1;have y7:=(hBx.cell (p:=⟨b2,o2 + fa * 9 + 7,none⟩) hbl3).trans HVV.out.2.2.2.2.2.2.2.1;have y8:=(hBx.cell (p:=⟨b2,o2 + fa * 9 + 8,none⟩) hbl3).trans HVV.out.2.2.2.2.2.2.2.2;clear hBx) | (go_at_call 140;refine (hty _ (HY.out.keep (old_keep bel)) (HH.out.1.nowN keeps_Fld bel)).mono ?_;rintro e w2 ⟨rfl,hb2⟩;obtain ⟨hc2,hf2⟩:=bcell hb2;(try simp only [bqh,bqc,bqf] at hc2 hf2);have hz2:=hb2.size;(try simp at hz2);(try have hy2:=nl1 hz2);(try have hx2:=nl2 hy2);(try refine szz w2 w ?_);intros;(try refine szz w2 wo ?_);intros;(try refine szz w2 w1 ?_);intros;dsimp only) | (go_at_call 69;refine (hkn _).mono ?_;rintro e w3 ⟨rfl,hb3⟩;obtain ⟨hc3,hf3⟩:=bcell hb3;(try simp only [bqh,bqc,bqf] at hc3 hf3);have hz3:=hb3.size;(try simp at hz3);(try have hy3:=nl1 hz3);(try have hx3:=nl2 hy3);(try refine szz w3 w ?_);intros;(try refine szz w3 wo ?_);intros;(try refine szz w3 w1 ?_);intros;(try refine szz w3 w2 ?_);intros) | (go_at_call 67;refine (hch _).mono ?_;rintro e w4 ⟨rfl,hb4⟩;obtain ⟨hc4,hf4⟩:=bcell hb4;(try simp only [bqh,bqc,bqf] at hc4 hf4);have hz4:=hb4.size;(try simp at hz4);(try have hy4:=nl1 hz4);(try have hx4:=nl2 hy4);(try refine szz w4 w ?_);intros;(try refine szz w4 wo ?_);intros;(try refine szz w4 w1 ?_);intros;(try refine szz w4 w2 ?_);intros;(try refine szz w4 w3 ?_);intros) | (go_at_call 138;refine (oracle_ContainsFunc x _ _ k _ (l.take k) _ (by unfold inL;omega) ?h0 ?h1 ?h2 ?h3 ((HH.out.2.1.now bel).take hk)).mono ?_;(case h0 => go_simp);(case h1 => go_simp);(case h2 => go_simp);(case h3 => go_simp);rw [HA.out];rintro e w5 ⟨rfl,hb5⟩))
       go_ret
       rw [HR.out]
       exact ⟨rfl,bel⟩
     ·have hv:=HS3.out
      rw [qg,if_pos rfl] at hv
      rw [q1] at hkn
      have q2':=neq_of q2
      simp only [Bool.not_true] at q2'
      have q3':=neq_of q3
      simp only [Bool.not_true] at q3'
      generalize valCheck x.has = vc at hch q3 q3'
      have q4':=neq_of q4
      simp only [Bool.not_false] at q4'
      have q5':=neq_of q5
      simp only [Bool.not_true] at q5'
      clear qg
      have hcc:k ≤ c1:=Nat.le_trans hk HH.out.2.2.2.2
      cases hA:(l.take k).any (sameKey x)
      ·rw [hA,if_neg (by decide)] at hv
       have HZ:=Lib.hid (firstErr_next hz.out hv)
       have HA:=Lib.hid hA
       clear hv hA
       go_wp2_with (first | (go_at_call 57;refine (hfi _ (HH.out.1.nowN keeps_Fld bel)).mono ?_;rintro e w1 ⟨rfl,hb1⟩;obtain ⟨hc1,hf1⟩:=bcell hb1;(try simp only [bqh,bqc,bqf] at hc1 hf1);have hz1:=hb1.size;(try simp at hz1);(try have hy1:=nl1 hz1);(try have hx1:=nl2 hy1);(try refine szz w1 w ?_);intros;(try refine szz w1 wo ?_);intros;dsimp only;have hBx:Below w.heap.size w w1:=bel;have hbl4:b2 < w1.heap.size:=Nat.lt_of_lt_of_le hbl3 hBx.size;have y0:=(hBx.cell (p:=⟨b2,o2 + fa * 9,none⟩) hbl3).trans HVV.out.1;have y1:=(hBx.cell (p:=⟨b2,o2 + fa * 9 + 1,none⟩) hbl3).trans HVV.out.2.1;have y2:=(hBx.cell (p:=⟨b2,o2 + fa * 9 + 2,none⟩) hbl3).trans HVV.out.2.2.1;have y3:=(hBx.cell (p:=⟨b2,o2 + fa * 9 + 3,none⟩) hbl3).trans HVV.out.2.2.2.1;have y4:=(hBx.cell (p:=⟨b2,o2 + fa * 9 + 4,none⟩) hbl3).trans HVV.out.2.2.2.2.1;have y5:=(hBx.cell (p:=⟨b2,o2 + fa * 9 + 5,none⟩) hbl3).trans HVV.out.2.2.2.2.2.1;have y6:=(hBx.cell (p:=⟨b2,o2 + fa * 9 + 6,none⟩) hbl3).trans HVV.out.2.2.2.2.2.2.1;have y7:=(hBx.cell (p:=⟨b2,o2 + fa * 9 + 7,none⟩) hbl3).trans HVV.out.2.2.2.2.2.2.2.1;have y8:=(hBx.cell (p:=⟨b2,o2 + fa * 9 + 8,none⟩) hbl3).trans HVV.out.2.2.2.2.2.2.2.2;clear hBx) | (go_at_call 140;refine (hty _ (HY.out.keep (old_keep bel)) (HH.out.1.nowN keeps_Fld bel)).mono ?_;rintro e w2 ⟨rfl,hb2⟩;obtain ⟨hc2,hf2⟩:=bcell hb2;(try simp only [bqh,bqc,bqf] at hc2 hf2);have hz2:=hb2.size;(try simp at hz2);(try have hy2:=nl1 hz2);(try have hx2:=nl2 hy2);(try refine szz w2 w ?_);intros;(try refine szz w2 wo ?_);intros;(try refine szz w2 w1 ?_);intros;dsimp only) | (go_at_call 69;refine (hkn _).mono ?_;rintro e w3 ⟨rfl,hb3⟩;obtain ⟨hc3,hf3⟩:=bcell hb3;(try simp only [bqh,bqc,bqf] at hc3 hf3);have hz3:=hb3.size;(try simp at hz3);(try have hy3:=nl1 hz3);(try have hx3:=nl2 hy3);(try refine szz w3 w ?_);intros;(try refine szz w3 wo ?_);intros;(try refine szz w3 w1 ?_);intros;(try refine szz w3 w2 ?_);intros) | (go_at_call 67;refine (hch _).mono ?_;rintro e w4 ⟨rfl,hb4⟩;obtain ⟨hc4,hf4⟩:=bcell hb4;(try simp only [bqh,bqc,bqf] at hc4 hf4);have hz4:=hb4.size;(try simp at hz4);(try have hy4:=nl1 hz4);(try have hx4:=nl2 hy4);(try refine szz w4 w ?_);intros;(try refine szz w4 wo ?_);intros;(try refine szz w4 w1 ?_);intros;(try refine szz w4 w2 ?_);intros;(try refine szz w4 w3 ?_);intros) | (go_at_call 138;refine (oracle_ContainsFunc x _ _ k _ (l.take k) _ (by unfold inL;omega) ?h0 ?h1 ?h2 ?h3 ((HH.out.2.1.now bel).take hk)).mono ?_;(case h0 => go_simp);(case h1 => go_simp);(case h2 => go_simp);(case h3 => go_simp);rw [HA.out];rintro e w5 ⟨rfl,hb5⟩))
       go_roundw
       case rel => exact ⟨k + 1,by omega,by go_num,HZ,bel⟩
       case measure => simp [intOf];omega
      ·rw [hA,if_pos rfl] at hv
       have HR:=Lib.hid (oracle_hit hz.out hv (by decide) HKL.out.1)
       have HA:=Lib.hid hA
       clear hv hA
       go_wp2_with (first | (go_at_call 57;refine (hfi _ (HH.out.1.nowN keeps_Fld bel)).mono ?_;rintro e w1 ⟨rfl,hb1⟩;obtain ⟨hc1,hf1⟩:=bcell hb1;(try simp only [bqh,bqc,bqf] at hc1 hf1);have hz1:=hb1.size;(try simp at hz1);(try have hy1:=nl1 hz1);(try have hx1:=nl2 hy1);(try refine szz w1 w ?_);intros;(try refine szz w1 wo ?_);intros;dsimp only;have hBx:Below w.heap.size w w1:=bel;have hbl4:b2 < w1.heap.size:=Nat.lt_of_lt_of_le hbl3 hBx.size;have y0:=(hBx.cell (p:=⟨b2,o2 + fa * 9,none⟩) hbl3).trans HVV.out.1;have y1:=(hBx.cell (p:=⟨b2,o2 + fa * 9 + 1,none⟩) hbl3).trans HVV.out.2.1;have y2:=(hBx.cell (p:=⟨b2,o2 + fa * 9 + 2,none⟩) hbl3).trans HVV.out.2.2.1;have y3:=(hBx.cell (p:=⟨b2,o2 + fa * 9 + 3,none⟩) hbl3).trans HVV.out.2.2.2.1;have y4:=(hBx.cell (p:=⟨b2,o2 + fa * 9 + 4,none⟩) hbl3).trans HVV.out.2.2.2.2.1;have y5:=(hBx.cell (p:=⟨b2,o2 + fa * 9 + 5,none⟩) hbl3).trans HVV.out.2.2.2.2.2.1;have y6:=(hBx.cell (p:=⟨b2,o2 + fa * 9 + 6,none⟩) hbl3).trans HVV.out.2.2.2.2.2.2.1;have y7:=(hBx.cell (p:=⟨b2,o2 + fa * 9 + 7,none⟩) hbl3).trans HVV.out.2.2.2.2.2.2.2.1;have y8:=(hBx.cell (p:=⟨b2,o2 + fa * 9 + 8,none⟩) hbl3).trans HVV.out.2.2.2.2.2.2.2.2;clear hBx) | (go_at_call 140;refine (hty _ (HY.out.keep (old_keep bel)) (HH.out.1.nowN keeps_Fld bel)).mono ?_;rintro e w2 ⟨rfl,hb2⟩;obtain ⟨hc2,hf2⟩:=bcell hb2;(try simp only [bqh,bqc,bqf] at hc2 hf2);have hz2:=hb2.size;(try simp at hz2);(try have hy2:=nl1 hz2);(try have hx2:=nl2 hy2);(try refine szz w2 w ?_);intros;(try refine szz w2 wo ?_);intros;(try refine szz w2 w1 ?_);intros;dsimp only) | (go_at_call 69;refine (hkn _).mono ?_;rintro e w3 ⟨rfl,hb3⟩;obtain ⟨hc3,hf3⟩:=bcell hb3;(try simp only [bqh,bqc,bqf] at hc3 hf3);have hz3:=hb3.size;(try simp at hz3);(try have hy3:=nl1 hz3);(try have hx3:=nl2 hy3);(try refine szz w3 w ?_);intros;(try refine szz w3 wo ?_);intros;(try refine szz w3 w1 ?_);intros;(try refine szz w3 w2 ?_);intros) | (go_at_call 67;refine (hch _).mono ?_;rintro e w4 ⟨rfl,hb4⟩;obtain ⟨hc4,hf4⟩:=bcell hb4;(try simp only [bqh,bqc,bqf] at hc4 hf4);have hz4:=hb4.size;(try simp at hz4);(try have hy4:=nl1 hz4);(try have hx4:=nl2 hy4);(try refine szz w4 w ?_);intros;(try refine szz w4 wo ?_);intros;(try refine szz w4 w1 ?_);intros;(try refine szz w4 w2 ?_);intros;(try refine szz w4 w3 ?_);intros) | (go_at_call 138;refine (oracle_ContainsFunc x _ _ k _ (l.take k) _ (by unfold inL;omega) ?h0 ?h1 ?h2 ?h3 ((HH.out.2.1.now bel).take hk)).mono ?_;(case h0 => go_simp);(case h1 => go_simp);(case h2 => go_simp);(case h3 => go_simp);rw [HA.out];rintro e w5 ⟨rfl,hb5⟩))
       go_ret
       rw [HR.out]
       exact ⟨rfl,bel⟩
    ·have hst2:=HST.out
     rw [if_neg hk3] at hst2
     have HR:=Lib.hid (oracle_hit hz.out hst2 (by decide) HKL.out.1)
     have hk3':(y.kind != 3) = true:=by simpa using hk3
     clear hst2 hk3
     go_wp2_with (go_at_call 57;refine (hfi _ (HH.out.1.nowN keeps_Fld bel)).mono ?_;rintro e w1 ⟨rfl,hb1⟩;obtain ⟨hc1,hf1⟩:=bcell hb1;(try simp only [bqh,bqc,bqf] at hc1 hf1);have hz1:=hb1.size;(try simp at hz1);(try have hy1:=nl1 hz1);(try have hx1:=nl2 hy1);(try refine szz w1 w ?_);intros;(try refine szz w1 wo ?_);intros;dsimp only;have hBx:Below w.heap.size w w1:=bel;have hbl4:b2 < w1.heap.size:=Nat.lt_of_lt_of_le hbl3 hBx.size;have y0:=(hBx.cell (p:=⟨b2,o2 + fa * 9,none⟩) hbl3).trans HVV.out.1;have y1:=(hBx.cell (p:=⟨b2,o2 + fa * 9 + 1,none⟩) hbl3).trans HVV.out.2.1;have y2:=(hBx.cell (p:=⟨b2,o2 + fa * 9 + 2,none⟩) hbl3).trans HVV.out.2.2.1;have y3:=(hBx.cell (p:=⟨b2,o2 + fa * 9 + 3,none⟩) hbl3).trans HVV.out.2.2.2.1;have y4:=(hBx.cell (p:=⟨b2,o2 + fa * 9 + 4,none⟩) hbl3).trans HVV.out.2.2.2.2.1;have y5:=(hBx.cell (p:=⟨b2,o2 + fa * 9 + 5,none⟩) hbl3).trans HVV.out.2.2.2.2.2.1;have y6:=(hBx.cell (p:=⟨b2,o2 + fa * 9 + 6,none⟩) hbl3).trans HVV.out.2.2.2.2.2.2.1;have y7:=(hBx.cell (p:=⟨b2,o2 + fa * 9 + 7,none⟩) hbl3).trans HVV.out.2.2.2.2.2.2.2.1;have y8:=(hBx.cell (p:=⟨b2,o2 + fa * 9 + 8,none⟩) hbl3).trans HVV.out.2.2.2.2.2.2.2.2;clear hBx)
     go_ret
     rw [HR.out]
     exact ⟨rfl,bel⟩
  ·have hke:k = n1:=by omega
   subst hke
   have HR:=Lib.hid (show oracleErr fl l = 0 by unfold oracleErr;rw [HH.out.2.2.2.1];exact hz.out)
   go_wp2_with fail
   go_ret
   rw [HR.out]
   exact ⟨rfl,hbw⟩
end Go.Proofs.YtbhkpepinogigaaGreat
