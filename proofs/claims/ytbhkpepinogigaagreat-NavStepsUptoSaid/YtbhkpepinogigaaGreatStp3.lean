/- Texts merged: StpP Stp1 Stp2 Stp3. -/
import Derived.Test.YtbhkpepinogigaaGreatAllP
import Derived.Test.YtbhkpepinogigaaGreatNavP
import Derived.Test.YtbhkpepinogigaaGreatWhl1
import Derived.Test.YtbhkpepinogigaaGreatNav2
/- One step forth and back through the pages of a form. Plain laws. -/
namespace Go.Proofs.YtbhkpepinogigaaGreat
open Go.RowKit

def passV (F:List Fld) (V:List Val) (p:Pag):Val:=(evalRes (namedF F V) p.skip).1
def pSt (F:List Fld) (V:List Val) (p:Pag):Nat:=if bareB p.skip.op p.skip.v p.skip.name p.skip.args.length then 0 else if (passV F V p).k ≠ 2 then 1 else if (passV F V p).n = 1 then 2 else 0
def goTo (st:Pag → Nat):List Pag → Nat → Nat × Bool
 | [],k => (k,false)
 | p :: r,k => if st p = 2 then goTo st r (k + 1) else (k,st p == 1)
theorem goTo_at {st:Pag → Nat} {P:List Pag} {j:Nat} {p:Pag} (h:P[j]? = some p):goTo st (P.drop j) j = if st p = 2 then goTo st (P.drop (j + 1)) (j + 1) else (j,st p == 1):=by
 rw [drop_at h,goTo]
theorem goTo_end {st:Pag → Nat} {P:List Pag} {j:Nat} (h:j = P.length):goTo st (P.drop j) j = (j,false):=by
 rw [List.drop_of_length_le (by omega),goTo]
theorem pass_bool {F:List Fld} {V:List Val} {p:Pag} (h:(passV F V p).k = 2):(passV F V p).n = 0 ∨ (passV F V p).n = 1:=by
 unfold passV evalRes at *
 split at h
 ·cases h
 ·rename_i h1
  rw [if_neg h1]
  split at h
  ·cases h
  ·rename_i h2
   rw [if_neg h2]
   have h1':exprErr p.skip = 0:=by simpa using h1
   have h2':factsErr (namedF F V) = 0:=by simpa using h2
   exact (val_bool (evX_ok (factsErr_ok h2') _ _ (Nat.le_refl _) (prt_of_exprErr h1')) h).1
def w00:Wlk:=⟨0,[],false⟩
def nextG (F:List Fld) (P:List Pag) (V:List Val) (x:Wlk):Nat × Bool:=goTo (pSt F V) (P.drop (x.at_.toNat + 1)) (x.at_.toNat + 1)
def nextR (F:List Fld) (P:List Pag) (V:List Val) (x:Wlk):Wlk × Int :=
 if walkErr F P V x ≠ 0 then (w00,walkErr F P V x) else if x.done = true then (w00,13) else if 0 < (lackR F P V x.at_).1.length then (w00,11)
 else if (nextG F P V x).2 = true then (w00,11) else (⟨(nextG F P V x).1,x.path ++ [x.at_],decide ((nextG F P V x).1 = P.length)⟩,0)
def backR (F:List Fld) (P:List Pag) (V:List Val) (x:Wlk):Wlk × Int :=
 if walkErr F P V x ≠ 0 then (w00,walkErr F P V x) else if x.path = [] then (w00,5) else (⟨(x.path[x.path.length - 1]?).getD 0,x.path.take (x.path.length - 1),false⟩,0)
section
variable {F:List Fld} {P:List Pag} {V:List Val} {x:Wlk}
theorem nextR_err (h:walkErr F P V x ≠ 0):nextR F P V x = (w00,walkErr F P V x):=by unfold nextR;rw [if_pos h]
theorem nextR_done (h:walkErr F P V x = 0) (h1:x.done = true):nextR F P V x = (w00,13):=by unfold nextR;rw [if_neg (by simpa using h),if_pos h1]
theorem nextR_lack (h:walkErr F P V x = 0) (h1:x.done = false) (h2:0 < (lackR F P V x.at_).1.length):nextR F P V x = (w00,11):=by
 unfold nextR;rw [if_neg (by simpa using h),if_neg (by rw [h1];decide),if_pos h2]
theorem nextR_block (h:walkErr F P V x = 0) (h1:x.done = false) (h2:¬ 0 < (lackR F P V x.at_).1.length) (h3:(nextG F P V x).2 = true):nextR F P V x = (w00,11):=by
 unfold nextR;rw [if_neg (by simpa using h),if_neg (by rw [h1];decide),if_neg h2,if_pos h3]
theorem nextR_ok (h:walkErr F P V x = 0) (h1:x.done = false) (h2:¬ 0 < (lackR F P V x.at_).1.length) (h3:(nextG F P V x).2 = false):nextR F P V x = (⟨(nextG F P V x).1,x.path ++ [x.at_],decide ((nextG F P V x).1 = P.length)⟩,0):=by
 unfold nextR;rw [if_neg (by simpa using h),if_neg (by rw [h1];decide),if_neg h2,if_neg (by rw [h3];decide)]
theorem backR_err (h:walkErr F P V x ≠ 0):backR F P V x = (w00,walkErr F P V x):=by unfold backR;rw [if_pos h]
theorem backR_none (h:walkErr F P V x = 0) (h1:x.path = []):backR F P V x = (w00,5):=by unfold backR;rw [if_neg (by simpa using h),if_pos h1]
theorem backR_ok (h:walkErr F P V x = 0) {k:Nat} {p:Int} (hl:x.path.length = k + 1) (hp:x.path[k]? = some p):backR F P V x = (⟨p,x.path.take k,false⟩,0):=by
 unfold backR
 rw [if_neg (by simpa using h),if_neg (by intro e;rw [e] at hl;cases hl),hl,Nat.add_sub_cancel,hp]
 rfl
end
def RetWlk (w:World) (r:Wlk × Int) (e:Ending) (w':World):Prop :=
 ∃ Q cq,e = .returned (.tuple #[.agg #[.int .i64 r.1.at_,.slice Q r.1.path.length cq,.bool r.1.done],.int .i64 r.2]) ∧ Sl w' (old w') 1 RInt Q r.1.path.length r.1.path ∧ Below w.heap.size w w'
end Go.Proofs.YtbhkpepinogigaaGreat
/- nav.facts, nav.passed. -/
namespace Go.Proofs.YtbhkpepinogigaaGreat
open Go.RowKit

set_option maxRecDepth 100000 in
set_option maxHeartbeats 4000000 in
theorem nav_facts (B:Option Addr) (m d:Nat) (F:List Fld) (A:Option Addr) (n c:Nat) (Vb:Option Addr) (cv:Nat) (V:List Val) (w:World) (h14:m ≤ 14) (hF:Sl w (old w) 9 (RFld w (old w)) B m F) (hV:Sl w (old w) 3 RVal Vb m V) :
  Calls Tryz.prog 75 #[.agg #[.slice B m d,.slice A n c],.slice Vb m cv] w (OwnRow Fct.cs 109 7 w (namedF F V)):=by
 have hml:=hF.len
 have hvl:=hV.len
 have HX:=Lib.hid (And.intro hF (And.intro hV (And.intro hml hvl)))
 obtain ⟨i0,ei,ez0,ez1,ez2⟩:=info_parts Tryz.infoFct
 clear hF hV hml hvl
 go_enter Tryz.func75,Tryz.ntmps75
 go_wp2_with fail
 go_loopw [5,11] (fun v i wr => ∃ k:Nat,k ≤ m ∧ i = .int .i64 k ∧ Hid (wr.ownsRow (w.heap.size + 1) 109 7 v k (((namedF F V).take k).flatMap Fct.cs)) ∧ Below w.heap.size w wr ∧ w.heap.size < wr.heap.size) (fun _ i _ => m - (intOf i).toNat)
 case atStart => exact ⟨0,by omega,rfl,Lib.hid (by simpa using World.ownsRow_nil _ _ _ _),bel,by simp⟩
 case round =>
  obtain ⟨k,hk,rfl,hown,hbr,hlr⟩:=hrel
  by_cases hlt:k < m
  ·obtain ⟨b,o,f,X,C,hAe,hbl,hlf,hrep,x0,x1,x2,x3,x4,x5,x6,x7,x8⟩:=Fld_at (HX.out.1.nowN keeps_Fld hbr) hlt
   obtain ⟨b3,o3,v,hVe,hbl3,hlv,hwf,z0,z1,z2⟩:=Val_at (HX.out.2.1.now hbr) hlt
   have HAE:=Lib.hid (And.intro hAe hVe)
   subst hAe
   subst hVe
   have hbl':b < wr.heap.size:=hbl
   have hbl3':b3 < wr.heap.size:=hbl3
   have hki:(k:Int) < (m:Int):=by omega
   have HT:=Lib.hid (named_next hlf hlv)
   clear hbl hlf hrep hbl3 hlv hwf HAE
   go_wp2_with fail
   refine wp_world ?_;intro W0 hW0
   have hB0:Below wr.heap.size wr W0:=by rw [hW0];exact bel
   have k0:W0.cell? ⟨wr.heap.size,0,none⟩ = some (.string f.name):=by rw [hW0];go_simp
   have hs0:wr.heap.size < W0.heap.size:=by rw [hW0];simp
   replace z0:=cell_keep z0 hB0
   replace z1:=cell_keep z1 hB0
   replace z2:=cell_keep z2 hB0
   have hb30:b3 < W0.heap.size:=by omega
   clear hW0 x0 x1 x2 x3 x4 x5 x6 x7 x8
   go_region_law (refine step_append_sl rfl (.tmp 16) (.tmp 24) 42 rfl (w.heap.size + 1) 109 i0 _ 7 80 Tryz.underlying42 ei ez0 ez1 ez2 rfl (by decide) _ k _ rfl (ownsRow_keep (ownsRow_keep hown.out hB0) bel) _ 1 1 (Fct.mk f.name noVal v).cs rfl rfl (fun p hp j u hj => by cases hp;exact news_new _ _ _ j u hj) (by simp) (by simp [Value.oneCell']) (by unfold maxLen;omega) (by omega) (by have:=hbr.size;first | omega | (simp;omega)) ?_;intro v6 w6 hown6 hb6 hz6)
   all_goals
    go_wp2_with fail
    go_roundw
    case rel => exact ⟨k + 1,by omega,by go_num,Lib.hid (by rw [HT.out,List.flatMap_append];simpa using hown6),below_step (below_step hbr (below_step hB0 (show Below W0.heap.size W0 _ from (Below.refl W0.heap.size W0).drew.alloc (Nat.le_refl _) (.cells (Fct.mk f.name noVal v).cs.toArray 109)) (by omega)) (by omega)) hb6 (by omega),by simp at hz6;omega⟩
    case measure => simp [intOf];omega
  ·have hke:k = m:=by omega
   subst hke
   have ho:=hown.out
   rw [List.take_of_length_le (by rw [namedF_len (by rw [HX.out.2.2.2,HX.out.2.2.1]),HX.out.2.2.1];exact Nat.le_refl _)] at ho
   have HO:=Lib.hid ho
   clear hown ho
   go_wp2_with fail
   go_ret
   exact ⟨_,rfl,by rw [namedF_len (by rw [HX.out.2.2.2,HX.out.2.2.1]),HX.out.2.2.1];exact ownsRow_base HO.out (by omega),hbr⟩
def passB (l:List Fct) (f:Pag):Bool × Bool:=if bareB f.skip.op f.skip.v f.skip.name f.skip.args.length then (false,true) else ((evalRes l f.skip).1.n == 1,(evalRes l f.skip).1.k == 2)
def RetBB (w:World) (r:Bool × Bool) (e:Ending) (w':World):Prop:=e = .returned (.tuple #[.bool r.1,.bool r.2]) ∧ Below w.heap.size w w'
set_option maxRecDepth 100000 in
set_option maxHeartbeats 4000000 in
theorem nav_passed (f:Pag) (Y:Option Addr) (D:Nat) (X:Option Addr) (C:Nat) (L:Option Addr) (n d:Nat) (l:List Fct) (w:World) (hn:inL n) (hn0:inL f.skip.args.length) (hx:XRep w (old w) (f.skip.cs X C) f.skip) (hl:Sl w (old w) 7 RFct L n l) :
  Calls Tryz.prog 74 #[.agg #[.string f.name,.slice Y f.fields.length D,.int .i64 f.skip.op,.int .i64 f.skip.v.k,.int .i64 f.skip.v.n,.string f.skip.v.s,.string f.skip.name,.slice X f.skip.args.length C],.slice L n d] w (RetBB w (passB l f)):=by
 have h1:=fun w => page_Never f Y D X C w hn0
 have h2:=fun w h h' => eval_Of l L n d f.skip X C w hn h h'
 have HX:=Lib.hid (And.intro hx hl)
 clear hx hl
 cases hb:bareB f.skip.op f.skip.v f.skip.name f.skip.args.length
 ·rw [hb] at h1
  have hp:passB l f = ((evalRes l f.skip).1.n == 1,(evalRes l f.skip).1.k == 2):=by unfold passB;rw [hb];rfl
  rw [hp]
  obtain ⟨vk,vn,vs,ve,hev⟩:∃ vk vn vs ve,evalRes l f.skip = (⟨vk,vn,vs⟩,ve):=⟨_,_,_,_,rfl⟩
  rw [hev] at h2 ⊢
  dsimp only
  clear hb hp hev
  go_enter Tryz.func74,Tryz.ntmps74
  go_wp2_with (first
   | (go_at_call 134;refine (h1 _).mono ?_;rintro e w1 ⟨rfl,hb1⟩;obtain ⟨hc1,hf1⟩:=bcell hb1;(try simp only [bqh,bqc,bqf] at hc1 hf1);have hz1:=hb1.size;(try simp at hz1);(try have hy1:=nl1 hz1);(try have hx1:=nl2 hy1);refine szz w1 w ?_;intros)
   | (go_at_call 135;refine (h2 _ (HX.out.1.keep (old_keep bel)) (HX.out.2.now bel)).mono ?_;rintro e w2 ⟨rfl,hb2⟩;obtain ⟨hc2,hf2⟩:=bcell hb2;(try simp only [bqh,bqc,bqf] at hc2 hf2);have hz2:=hb2.size;(try simp at hz2);(try have hy2:=nl1 hz2);(try have hx2:=nl2 hy2);refine szz w2 w ?_;intros;refine szz w2 w1 ?_;intros;dsimp only))
  go_quiet (fail)
  go_wp2_with fail
  go_ret2
  exact ⟨rfl,bel⟩
 ·rw [hb] at h1
  have hp:passB l f = (false,true):=by unfold passB;rw [hb];rfl
  rw [hp]
  clear hb hp h2
  go_enter Tryz.func74,Tryz.ntmps74
  go_wp2_with (go_at_call 134;refine (h1 _).mono ?_;rintro e w1 ⟨rfl,hb1⟩;obtain ⟨hc1,hf1⟩:=bcell hb1;(try simp only [bqh,bqc,bqf] at hc1 hf1);have hz1:=hb1.size;(try simp at hz1);(try have hy1:=nl1 hz1);(try have hx1:=nl2 hy1);refine szz w1 w ?_;intros)
  go_ret2
  exact ⟨rfl,bel⟩
end Go.Proofs.YtbhkpepinogigaaGreat
/- nav.Back. -/
namespace Go.Proofs.YtbhkpepinogigaaGreat
open Go.RowKit

set_option maxRecDepth 100000 in
set_option maxHeartbeats 4000000 in
theorem nav_Back (B:Option Addr) (m d:Nat) (F:List Fld) (A:Option Addr) (n c:Nat) (P:List Pag) (Vb:Option Addr) (nv cv:Nat) (V:List Val) (x:Wlk) (Q:Option Addr) (q cq:Nat) (w:World)
  (hX:RFo w B m d F A n c P) (hO:FldsOk F) (hY:RVp w Vb nv cv V Q q cq x.path) (hia:inI x.at_) :
  Calls Tryz.prog 28 #[.agg #[.slice B m d,.slice A n c],.slice Vb nv cv,.agg #[.int .i64 x.at_,.slice Q q cq,.bool x.done]] w (RetWlk w (backR F P V x)):=by
 have h1:=fun w h h' => nav_Check B m d F A n c P Vb nv cv V x Q q cq w h hO h' hia
 have hql:=hY.2.2.2.2.2.len
 have hn4:=hY.2.2.1
 unfold inB at hn4
 have HX:=Lib.hid (And.intro hX hY)
 by_cases he:walkErr F P V x = 0
 ·rw [he] at h1
  rcases q with _ | k
  ·have hp0:x.path = []:=List.eq_nil_of_length_eq_zero hql
   rw [backR_none he hp0]
   clear hX hY hO he hql hp0
   go_enter Tryz.func28,Tryz.ntmps28
   go_wp2_with (go_at_call 19;refine (h1 _ (HX.out.1.now bel) (HX.out.2.now bel)).mono ?_;rintro e w1 ⟨rfl,hb1⟩;obtain ⟨hc1,hf1⟩:=bcell hb1;(try simp only [bqh,bqc,bqf] at hc1 hf1);have hz1:=hb1.size;(try simp at hz1);(try have hy1:=nl1 hz1);(try have hx1:=nl2 hy1);refine szz w1 w ?_;intros)
   refine bodyPost_ret (v:=.tuple #[.agg #[.int .i64 0,.slice none 0 0,.bool false],.int .i64 5]) (by first | (simp [results,Tryz.results28,go_sem];done) | (simp [results,Tryz.results28,go_sem, *];done)) rfl ?_
   exact ⟨none,0,rfl,Sl.nil,bel⟩
  ·obtain ⟨p,hp⟩:∃ p,x.path[k]? = some p:=⟨_,List.getElem?_eq_getElem (by omega)⟩
   rw [backR_ok he hql hp]
   have hcl:=fun w h => clone_Int Q k cq (x.path.take k) w (by unfold inB;omega) h
   have hcq:=hY.2.2.2.1
   have HP:=Lib.hid (And.intro hp hql)
   clear hX hY hO he hql hp
   go_enter Tryz.func28,Tryz.ntmps28
   go_upto_region 7 with (go_at_call 19;refine (h1 _ (HX.out.1.now bel) (HX.out.2.now bel)).mono ?_;rintro e w1 ⟨rfl,hb1⟩;obtain ⟨hc1,hf1⟩:=bcell hb1;(try simp only [bqh,bqc,bqf] at hc1 hf1);have hz1:=hb1.size;(try simp at hz1);(try have hy1:=nl1 hz1);(try have hx1:=nl2 hy1);refine szz w1 w ?_;intros)
   have hB1:Below w.heap.size w w1:=bel
   have hlw:w.heap.size + 2 < w1.heap.size:=by have:=hb1.size;simp at this;omega
   have hl2:w.heap.size + 1 + 1 < w1.heap.size:=by omega
   have c0:w1.cell? ⟨w.heap.size + 1 + 1,0,none⟩ = some (.int .i64 0):=(hb1.cell (p:=⟨w.heap.size + 1 + 1,0,none⟩) (by simp)).trans (by go_simp)
   have c1:w1.cell? ⟨w.heap.size + 1 + 1,1,none⟩ = some (.slice none 0 0):=(hb1.cell (p:=⟨w.heap.size + 1 + 1,1,none⟩) (by simp)).trans (by go_simp)
   have c2:w1.cell? ⟨w.heap.size + 1 + 1,2,none⟩ = some (.bool false):=(hb1.cell (p:=⟨w.heap.size + 1 + 1,2,none⟩) (by simp)).trans (by go_simp)
   have f0:w1.frozen? ⟨w.heap.size + 1 + 1,0,none⟩ = false:=(hb1.frozen (p:=⟨w.heap.size + 1 + 1,0,none⟩) (by simp)).trans (by go_simp)
   have f1:w1.frozen? ⟨w.heap.size + 1 + 1,1,none⟩ = false:=(hb1.frozen (p:=⟨w.heap.size + 1 + 1,1,none⟩) (by simp)).trans (by go_simp)
   have f2:w1.frozen? ⟨w.heap.size + 1 + 1,2,none⟩ = false:=(hb1.frozen (p:=⟨w.heap.size + 1 + 1,2,none⟩) (by simp)).trans (by go_simp)
   obtain ⟨b,o,p',hQe,hbl,hlp,hpi,y0⟩:=Int_at (HX.out.2.2.2.2.2.2.now hB1) (show k < k + 1 by omega)
   obtain rfl:p = p':=Option.some.inj (HP.out.1.symm.trans hlp)
   have hbl':b < w1.heap.size:=hbl
   have HQE:=Lib.hid hQe
   subst hQe
   have hkq:(k:Int) < (k:Int) + 1:=by omega
   have hkc:k ≤ cq:=by omega
   have hkci:(k:Int) ≤ (cq:Int):=by omega
   have hwk:IntKind.i64.wrap (k:Int) = k:=IntWalk.i64_in _ (by omega)
   have hwk1:IntKind.i64.wrap ((k:Int) + 1 - 1) = k:=by rw [Int.add_sub_cancel];exact hwk
   clear hbl hlp hpi
   go_region_law (go_simp;go_at_call 68;refine (hcl _ ((HX.out.2.2.2.2.2.2.now (show Below w.heap.size w _ from bel)).take (by omega))).mono ?_;rintro e w3 ⟨v3,rfl,ho3,hb3⟩;obtain ⟨A3,c3,rfl,hc3',_⟩:=ownInt ho3 rfl (fun a ha => HX.out.2.2.2.2.2.2.wfInt a (List.mem_of_mem_take ha));have hb3':=hb3;(try simp only [heap_drew] at hb3');obtain ⟨hc3,hf3⟩:=bcell hb3;(try simp only [bqh,bqc,bqf] at hc3 hf3);have hz3:=hb3.size;(try simp at hz3);(try have hy3:=nl1 hz3);(try have hx3:=nl2 hy3);refine szz w3 w ?_;intros;refine szz w3 w1 ?_;intros;(try simp only [heap_drew,World.cell?_drew] at hc3 hz3);have ff0:w3.frozen? ⟨w.heap.size + 1 + 1,0,none⟩ = false:=(hb3'.frozen (p:=⟨w.heap.size + 1 + 1,0,none⟩) (by omega)).trans f0;have ff1:w3.frozen? ⟨w.heap.size + 1 + 1,1,none⟩ = false:=(hb3'.frozen (p:=⟨w.heap.size + 1 + 1,1,none⟩) (by omega)).trans f1;have ff2:w3.frozen? ⟨w.heap.size + 1 + 1,2,none⟩ = false:=(hb3'.frozen (p:=⟨w.heap.size + 1 + 1,2,none⟩) (by omega)).trans f2)
   all_goals
    go_wp2_with fail
    refine bodyPost_ret (v:=.tuple #[.agg #[.int .i64 p,.slice A3 (x.path.take k).length c3,.bool false],.int .i64 0]) (by first | (simp [results,Tryz.results28,go_sem];done) | (simp [results,Tryz.results28,go_sem, *];done)) rfl ?_
    refine ⟨A3,c3,rfl,?_,?_⟩
    ·have h5:=ownsRow_setCell_below (ownsRow_setCell_below (ownsRow_setCell_below ho3 (a:=⟨w.heap.size + 1 + 1,0,none⟩) (by (try simp only [heap_drew]);(try simp);omega) (.int .i64 p)) (a:=⟨w.heap.size + 1 + 1,1,none⟩) (by (try simp only [heap_drew]);(try simp);omega) (.slice A3 (x.path.take k).length c3)) (a:=⟨w.heap.size + 1 + 1,2,none⟩) (by (try simp only [heap_drew]);(try simp);omega) (.bool false)
     obtain ⟨A4,c4,e4,_,hs4⟩:=ownInt h5 rfl (fun a ha => HX.out.2.2.2.2.2.2.wfInt a (List.mem_of_mem_take ha))
     cases e4
     simpa using hs4
    ·exact bel
 ·rw [backR_err he]
  have g1:(walkErr F P V x != 0) = true:=by simpa using he
  generalize walkErr F P V x = er at *
  clear hX hY hO he hql
  go_enter Tryz.func28,Tryz.ntmps28
  go_wp2_with (go_at_call 19;refine (h1 _ (HX.out.1.now bel) (HX.out.2.now bel)).mono ?_;rintro e w1 ⟨rfl,hb1⟩;obtain ⟨hc1,hf1⟩:=bcell hb1;(try simp only [bqh,bqc,bqf] at hc1 hf1);have hz1:=hb1.size;(try simp at hz1);(try have hy1:=nl1 hz1);(try have hx1:=nl2 hy1);refine szz w1 w ?_;intros)
  refine bodyPost_ret (v:=.tuple #[.agg #[.int .i64 0,.slice none 0 0,.bool false],.int .i64 er]) (by first | (simp [results,Tryz.results28,go_sem];done) | (simp [results,Tryz.results28,go_sem, *];done)) rfl ?_
  exact ⟨none,0,rfl,Sl.nil,bel⟩
end Go.Proofs.YtbhkpepinogigaaGreat
/- The reference WalkBack. -/
namespace Go.Proofs.YtbhkpepinogigaaGreat
open Go.RowKit

def atB (l:List Int):Nat → Int
 | 0 => 0
 | j + 1 => (l[j]?).getD 0
set_option maxRecDepth 100000 in
set_option maxHeartbeats 4000000 in
theorem ref_WalkBack (B:Option Addr) (m d:Nat) (F:List Fld) (A:Option Addr) (n c:Nat) (P:List Pag) (Vb:Option Addr) (nv cv:Nat) (V:List Val) (x:Wlk) (Q:Option Addr) (q cq:Nat) (w:World)
  (hX:RFo w B m d F A n c P) (hO:FldsOk F) (hY:RVp w Vb nv cv V Q q cq x.path) (hia:inI x.at_) :
  Calls Tryz.prog 30 #[.agg #[.slice B m d,.slice A n c],.slice Vb nv cv,.agg #[.int .i64 x.at_,.slice Q q cq,.bool x.done]] w (RetWlk w (backR F P V x)):=by
 have h1:=fun w h h' => ref_WalkFault B m d F A n c P Vb nv cv V x Q q cq w h hO h' hia
 have hql:=hY.2.2.2.2.2.len
 have hn4:=hY.2.2.1
 unfold inB at hn4
 have HX:=Lib.hid (And.intro hX hY)
 by_cases he:walkErr F P V x = 0
 ·rw [he] at h1
  obtain ⟨rr,hrr⟩:∃ rr,rr = backR F P V x:=⟨_,rfl⟩
  rw [← hrr]
  have HR:=Lib.hid (And.intro hrr (And.intro he hql))
  obtain ⟨i0,ei,ez0,ez1,ez2⟩:=info_parts Tryz.infoIn9
  clear hX hY hO he hql hrr
  go_enter Tryz.func30,Tryz.ntmps30
  go_wp2_with (go_at_call 21;refine (h1 _ (HX.out.1.now bel) (HX.out.2.now bel)).mono ?_;rintro e w1 ⟨rfl,hb1⟩;obtain ⟨hc1,hf1⟩:=bcell hb1;(try simp only [bqh,bqc,bqf] at hc1 hf1);have hz1:=hb1.size;(try simp at hz1);(try have hy1:=nl1 hz1);(try have hx1:=nl2 hy1);refine szz w1 w ?_;intros)
  have hB1:Below w.heap.size w w1:=bel
  have hlw:w.heap.size + 2 < w1.heap.size:=by have:=hb1.size;simp at this;omega
  have hl2:w.heap.size + 1 + 1 < w1.heap.size:=by omega
  have p1:w1.cell? ⟨w.heap.size + 1,1,none⟩ = some (.slice Q q cq):=(hb1.cell (p:=⟨w.heap.size + 1,1,none⟩) (by simp;try omega)).trans (by go_simp)
  have c0:w1.cell? ⟨w.heap.size + 1 + 1,0,none⟩ = some (.int .i64 0):=(hb1.cell (p:=⟨w.heap.size + 1 + 1,0,none⟩) (by simp)).trans (by go_simp)
  have c1:w1.cell? ⟨w.heap.size + 1 + 1,1,none⟩ = some (.slice none 0 0):=(hb1.cell (p:=⟨w.heap.size + 1 + 1,1,none⟩) (by simp)).trans (by go_simp)
  have c2:w1.cell? ⟨w.heap.size + 1 + 1,2,none⟩ = some (.bool false):=(hb1.cell (p:=⟨w.heap.size + 1 + 1,2,none⟩) (by simp)).trans (by go_simp)
  have f0:w1.frozen? ⟨w.heap.size + 1 + 1,0,none⟩ = false:=(hb1.frozen (p:=⟨w.heap.size + 1 + 1,0,none⟩) (by simp)).trans (by go_simp)
  have f1:w1.frozen? ⟨w.heap.size + 1 + 1,1,none⟩ = false:=(hb1.frozen (p:=⟨w.heap.size + 1 + 1,1,none⟩) (by simp)).trans (by go_simp)
  have f2:w1.frozen? ⟨w.heap.size + 1 + 1,2,none⟩ = false:=(hb1.frozen (p:=⟨w.heap.size + 1 + 1,2,none⟩) (by simp)).trans (by go_simp)
  obtain ⟨g,hg⟩:∃ g,g = w1.heap.size:=⟨_,rfl⟩
  go_loopw [24] (fun i wr => ∃ (j:Nat) (v:Value),j ≤ q ∧ i = .int .i64 j ∧ wr.cell? ⟨w1.heap.size,0,none⟩ = some (.int .i64 (atB x.path j)) ∧ wr.cell? ⟨w1.heap.size,1,none⟩ = some v ∧ wr.cell? ⟨w1.heap.size,2,none⟩ = some (.bool false) ∧ wr.frozen? ⟨w1.heap.size,0,none⟩ = false ∧ wr.frozen? ⟨w1.heap.size,1,none⟩ = false ∧ Hid (wr.ownsRow (w1.heap.size + 1) 3 1 v (min j (q - 1)) ((x.path.take (min j (q - 1))).flatMap intCs)) ∧ Below w1.heap.size w1 wr ∧ w1.heap.size < wr.heap.size) (fun i _ => q - (intOf i).toNat)
  case atStart =>
   refine ⟨0,.slice none 0 0,by omega,rfl,by go_simp;rfl,by go_simp,by go_simp,by go_simp,by go_simp,Lib.hid ?_,bel,by simp⟩
   rw [Nat.zero_min]
   simpa using World.ownsRow_nil _ _ _ _
  case round =>
   obtain ⟨j,v,hj,rfl,d0,d1,d2,e0,e1,hown,hbr,hgr⟩:=hrel
   have hBr:Below w.heap.size w wr:=below_step hB1 hbr (by omega)
   have s1:=cell_keep p1 hbr
   have hlr:w.heap.size + 1 < wr.heap.size:=by omega
   by_cases hlt:j < q
   ·obtain ⟨b,o,p,hQe,hbl,hlp,hpi,y0⟩:=Int_at (HX.out.2.2.2.2.2.2.now hBr) hlt
    have hbl':b < wr.heap.size:=hbl
    have HQE:=Lib.hid hQe
    subst hQe
    have hji:(j:Int) < (q:Int):=by omega
    have hat:atB x.path (j + 1) = p:=by show (x.path[j]?).getD 0 = p;rw [hlp];rfl
    have HA:=Lib.hid (And.intro hat hlp)
    clear hbl hlp hpi hat
    by_cases hj2:j + 1 < q
    ·have g1:(j:Int) + 1 < (q:Int):=by omega
     have hm1:min j (q - 1) = j:=by omega
     have hm2:min (j + 1) (q - 1) = j + 1:=by omega
     have hown':Hid (wr.ownsRow (w1.heap.size + 1) 3 1 v j ((x.path.take j).flatMap intCs)):=Lib.hid (by have:=hown.out;rwa [hm1] at this)
     have HM:=Lib.hid hm2
     clear hown hm1 hm2
     go_wp2_with (at_builtin;refine wpList_append1 rfl _ _ 23 rfl (w1.heap.size + 1) 3 i0 (.int .i64 0) 1 8 Tryz.underlying23 ei ez0 ez1 ez2 rfl (by decide) v j _ rfl (ownsRow_setCell_below hown'.out (by simp) _) [.int .i64 p] 3 rfl _ rfl (by first | rfl | simp) rfl (by simp [Value.oneCell']) (by omega) (by unfold maxLen;omega) (by simp;omega) ?_;intro v6 w6 hown6 hb6 hz6 _;have y6:w6.cell? ⟨w1.heap.size,1,none⟩ = some v:=(hb6.cell (p:=⟨w1.heap.size,1,none⟩) (by simp)).trans (by go_simp);have z6:w6.frozen? ⟨w1.heap.size,1,none⟩ = false:=(hb6.frozen (p:=⟨w1.heap.size,1,none⟩) (by simp)).trans (by go_simp);have y60:w6.cell? ⟨w1.heap.size,0,none⟩ = some (.int .i64 p):=(hb6.cell (p:=⟨w1.heap.size,0,none⟩) (by simp)).trans (by go_simp);have y62:w6.cell? ⟨w1.heap.size,2,none⟩ = some (.bool false):=(hb6.cell (p:=⟨w1.heap.size,2,none⟩) (by simp)).trans (by go_simp);have z60:w6.frozen? ⟨w1.heap.size,0,none⟩ = false:=(hb6.frozen (p:=⟨w1.heap.size,0,none⟩) (by simp)).trans (by go_simp);obtain ⟨g6,cap6,rfl,_,_⟩:=hown6.form (by omega))
     go_roundw
     case rel =>
      refine ⟨j + 1,.slice (some ⟨g6,0,none⟩) (j + 1) cap6,by omega,by go_num,by rw [HA.out.1];go_simp,by go_simp,by go_simp,by go_simp,by go_simp,Lib.hid ?_,?_,?_⟩
      ·rw [HM.out,List.take_add_one,HA.out.2,List.flatMap_append]
       exact ownsRow_setCell_below (by simpa using hown6) (by simp) _
      ·exact below_set (below_step (below_step hbr (show Below w1.heap.size wr _ from below_set (Below.refl _ _) (Nat.le_refl _)) (Nat.le_refl _)) hb6 (by omega)) (Nat.le_refl _)
      ·simp at hz6 ⊢;omega
     case measure => simp [intOf];omega
    ·have g1:¬ (j:Int) + 1 < (q:Int):=by omega
     have hm1:min j (q - 1) = j:=by omega
     have hm2:min (j + 1) (q - 1) = j:=by omega
     have hown':Hid (wr.ownsRow (w1.heap.size + 1) 3 1 v j ((x.path.take j).flatMap intCs)):=Lib.hid (by have:=hown.out;rwa [hm1] at this)
     have HM:=Lib.hid hm2
     clear hown hm1 hm2
     go_wp2_with fail
     go_roundw
     case rel =>
      refine ⟨j + 1,v,by omega,by go_num,by rw [HA.out.1];go_simp,by go_simp,by go_simp,by go_simp,by go_simp,Lib.hid ?_,?_,by simp;omega⟩
      ·rw [HM.out]
       exact ownsRow_setCell_below hown'.out (by simp) _
      ·exact below_set hbr (Nat.le_refl _)
     case measure => simp [intOf];omega
   ·have hke:j = q:=by omega
    subst hke
    have u0:=cell_keep c0 hbr
    have u1:=cell_keep c1 hbr
    have u2:=cell_keep c2 hbr
    have t0:=(hbr.frozen (p:=⟨w.heap.size + 1 + 1,0,none⟩) hl2).trans f0
    have t1:=(hbr.frozen (p:=⟨w.heap.size + 1 + 1,1,none⟩) hl2).trans f1
    have t2:=(hbr.frozen (p:=⟨w.heap.size + 1 + 1,2,none⟩) hl2).trans f2
    have hl3:w.heap.size + 1 + 1 < wr.heap.size:=by omega
    rcases j with _ | k
    ·have hre:rr = (w00,5):=HR.out.1.trans (backR_none HR.out.2.1 (List.eq_nil_of_length_eq_zero HR.out.2.2))
     have HRE:=Lib.hid hre
     clear hre
     go_wp2_with fail
     refine bodyPost_ret (v:=.tuple #[.agg #[.int .i64 0,.slice none 0 0,.bool false],.int .i64 5]) (by first | (simp [results,Tryz.results30,go_sem];done) | (simp [results,Tryz.results30,go_sem, *];done)) rfl ?_
     rw [HRE.out]
     exact ⟨none,0,rfl,Sl.nil,bel⟩
    ·obtain ⟨p,hp⟩:∃ p,x.path[k]? = some p:=⟨_,List.getElem?_eq_getElem (by rw [HR.out.2.2];omega)⟩
     have hre:rr = (⟨p,x.path.take k,false⟩,0):=HR.out.1.trans (backR_ok HR.out.2.1 HR.out.2.2 hp)
     have hat:atB x.path (k + 1) = p:=by show (x.path[k]?).getD 0 = p;rw [hp];rfl
     rw [hat] at d0
     have hown':=hown.out
     rw [show min (k + 1) (k + 1 - 1) = k by omega] at hown'
     have hlk:(x.path.take k).length = k:=by rw [List.length_take,HR.out.2.2];omega
     have hwf:∀ a ∈ x.path.take k,inI a:=fun a ha => HX.out.2.2.2.2.2.2.wfInt a (List.mem_of_mem_take ha)
     obtain ⟨A3,c3,hv3,hc3',_⟩:=ownInt hown' hlk hwf
     subst hv3
     have g2:((k:Int) + 1 == 0) = false:=by simp only [beq_eq_false_iff_ne,ne_eq];omega
     have HRE:=Lib.hid (And.intro hre (And.intro hown' (And.intro hlk hwf)))
     clear hre hat hown hown' hp hlk hwf
     go_wp2_with fail
     refine bodyPost_ret (v:=.tuple #[.agg #[.int .i64 p,.slice A3 k c3,.bool false],.int .i64 0]) (by first | (simp [results,Tryz.results30,go_sem];done) | (simp [results,Tryz.results30,go_sem, *];done)) rfl ?_
     rw [HRE.out.1]
     refine ⟨A3,c3,by rw [HRE.out.2.2.1],?_,?_⟩
     ·have h5:=ownsRow_setCell_below (ownsRow_setCell_below (ownsRow_setCell_below HRE.out.2.1 (a:=⟨w.heap.size + 1 + 1,0,none⟩) (by (try simp);omega) (.int .i64 p)) (a:=⟨w.heap.size + 1 + 1,1,none⟩) (by (try simp);omega) (.slice A3 k c3)) (a:=⟨w.heap.size + 1 + 1,2,none⟩) (by (try simp);omega) (.bool false)
      obtain ⟨A4,c4,e4,_,hs4⟩:=ownInt h5 HRE.out.2.2.1 HRE.out.2.2.2
      cases e4
      rw [HRE.out.2.2.1]
      exact hs4
     ·exact bel
 ·rw [backR_err he]
  have g1:(walkErr F P V x != 0) = true:=by simpa using he
  generalize walkErr F P V x = er at *
  clear hX hY hO he hql
  go_enter Tryz.func30,Tryz.ntmps30
  go_wp2_with (go_at_call 21;refine (h1 _ (HX.out.1.now bel) (HX.out.2.now bel)).mono ?_;rintro e w1 ⟨rfl,hb1⟩;obtain ⟨hc1,hf1⟩:=bcell hb1;(try simp only [bqh,bqc,bqf] at hc1 hf1);have hz1:=hb1.size;(try simp at hz1);(try have hy1:=nl1 hz1);(try have hx1:=nl2 hy1);refine szz w1 w ?_;intros)
  refine bodyPost_ret (v:=.tuple #[.agg #[.int .i64 0,.slice none 0 0,.bool false],.int .i64 er]) (by first | (simp [results,Tryz.results30,go_sem];done) | (simp [results,Tryz.results30,go_sem, *];done)) rfl ?_
  exact ⟨none,0,rfl,Sl.nil,bel⟩
end Go.Proofs.YtbhkpepinogigaaGreat
