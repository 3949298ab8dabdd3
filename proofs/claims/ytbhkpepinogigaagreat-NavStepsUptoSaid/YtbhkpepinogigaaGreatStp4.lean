/- nav.Next: a new walk is made (a region that draws its order: a call, two blocks, an append). (printed by mkstp.py) -/
import Derived.Test.YtbhkpepinogigaaGreatStp3
import Derived.Test.YtbhkpepinogigaaGreatFrm
import Derived.Test.YtbhkpepinogigaaGreatRec2
namespace Go.Proofs.YtbhkpepinogigaaGreat
open Go.RowKit

section
variable {P:Program} {ops:Array Oper} {Q:Exit → Act → World → Prop} {S:World → Prop} {n:Nat}
theorem wpAnyT_two {i j:Nat} {o p:Oper} {fuel:Nat} {listed:Array Bool} {a:Act} {w:World} (ho':ops.toList[i]? = some o) (hp':ops.toList[j]? = some p) (hr:Region.ready .any ops listed = [i,j])
  (h:∀ K:Act → World → Prop,Hid (∀ a w,(i < n → S w) → wpAnyT P ops Q S n fuel (listed.setIfInBounds i true) a w → K a w) → if Region.wanted o (yielded ops a.tmps) = true then Oper.wp P o a w K Q else K (a.put o.dst undef) w)
  (h2:∀ K:Act → World → Prop,Hid (∀ a w,(j < n → S w) → wpAnyT P ops Q S n fuel (listed.setIfInBounds j true) a w → K a w) → if Region.wanted p (yielded ops a.tmps) = true then Oper.wp P p a w K Q else K (a.put p.dst undef) w) :
  wpAnyT P ops Q S n (fuel + 1) listed a w:=by
 have ho:ops[i]? = some o:=by simpa using ho'
 have hp:ops[j]? = some p:=by simpa using hp'
 refine ⟨fun h0 => (by rw [h0] at hr;cases hr),fun k hk => ?_⟩
 rw [hr] at hk
 rcases List.mem_cons.1 hk with rfl | hk
 ·exact wpOp_step ho (fun K' hK => h K' (Lib.hid fun a w h1 h2 => hK a w ⟨h1,h2⟩))
 ·obtain rfl:=List.mem_singleton.1 hk
  exact wpOp_step hp (fun K' hK => h2 K' (Lib.hid fun a w h1 h2 => hK a w ⟨h1,h2⟩))
theorem wpAnyT_three {i j k:Nat} {o p r:Oper} {fuel:Nat} {listed:Array Bool} {a:Act} {w:World} (ho':ops.toList[i]? = some o) (hp':ops.toList[j]? = some p) (hr':ops.toList[k]? = some r) (hr:Region.ready .any ops listed = [i,j,k])
  (h:∀ K:Act → World → Prop,Hid (∀ a w,(i < n → S w) → wpAnyT P ops Q S n fuel (listed.setIfInBounds i true) a w → K a w) → if Region.wanted o (yielded ops a.tmps) = true then Oper.wp P o a w K Q else K (a.put o.dst undef) w)
  (h2:∀ K:Act → World → Prop,Hid (∀ a w,(j < n → S w) → wpAnyT P ops Q S n fuel (listed.setIfInBounds j true) a w → K a w) → if Region.wanted p (yielded ops a.tmps) = true then Oper.wp P p a w K Q else K (a.put p.dst undef) w)
  (h3:∀ K:Act → World → Prop,Hid (∀ a w,(k < n → S w) → wpAnyT P ops Q S n fuel (listed.setIfInBounds k true) a w → K a w) → if Region.wanted r (yielded ops a.tmps) = true then Oper.wp P r a w K Q else K (a.put r.dst undef) w) :
  wpAnyT P ops Q S n (fuel + 1) listed a w:=by
 have ho:ops[i]? = some o:=by simpa using ho'
 have hp:ops[j]? = some p:=by simpa using hp'
 have hq:ops[k]? = some r:=by simpa using hr'
 refine ⟨fun h0 => (by rw [h0] at hr;cases hr),fun m hm => ?_⟩
 rw [hr] at hm
 rcases List.mem_cons.1 hm with rfl | hm
 ·exact wpOp_step ho (fun K' hK => h K' (Lib.hid fun a w h1 h2 => hK a w ⟨h1,h2⟩))
 rcases List.mem_cons.1 hm with rfl | hm
 ·exact wpOp_step hp (fun K' hK => h2 K' (Lib.hid fun a w h1 h2 => hK a w ⟨h1,h2⟩))
 ·obtain rfl:=List.mem_singleton.1 hm
  exact wpOp_step hq (fun K' hK => h3 K' (Lib.hid fun a w h1 h2 => hK a w ⟨h1,h2⟩))
theorem step_append_g {w:World} {o:Oper} {a:Act} {K:Act → World → Prop} {E:Prop} (hgd:o.guard = none) (s x:Operand) (t:TypeId)
  (ho:o.op = .call { callee:=.builtin .append,args:=#[s,x],argTypes:=#[t,t] })
  (base:Nat) (e:TypeId) (i:TypeInfo) (z:Value) (size bytes:Nat) (ht:P.underlying t = some (.slice e)) (hi:P.info? e = some i) (hz:i.zero = some z)
  (hsize:i.size = size) (hby:i.bytes = bytes) (hzs:z.cells.size = size) (hsz:0 < size)
  (v:Value) (n:Nat) (xs:List Value) (hs:a.eval s = v) (hown:w.ownsRow base e size v n xs)
  (A:Option Addr) (m c:Nat) (news:List Value) (hx:a.eval x = .slice A m c) (hl:news.length = m * size) (hnews:∀ p,A = some p → ∀ j u,news[j]? = some u → w.cell? (p.add j) = some u) (hnone:A = none → m = 0) (h1:∀ u ∈ news,u.oneCell' = true)
  (h63:n + m ≤ maxLen) (hbytes:(n + m) * bytes ≤ 140737488355328) (hbase:base ≤ w.heap.size)
  (h:∀ v' w',w'.ownsRow base e size v' (n + m) (xs ++ news) → w.grownBy w' v.ownBlock → (v'.ownBlock = v.ownBlock ∨ v'.ownBlock = some w.heap.size) → K (a.put o.dst v') w') :
  if Region.wanted o (yielded ops a.tmps) = true then Oper.wp P o a w K Q else E:=by
 have hw:Region.wanted o (yielded ops a.tmps) = true:=by simp [Region.wanted,hgd]
 rw [if_pos hw]
 obtain ⟨v',w',hr,h2,h3,h4⟩:=run_append_sl (P:=P) w base t o.type e i z size bytes ht hi hz hsize hby hzs hsz v n xs hown A m c news hl hnews hnone h1 h63 hbytes hbase
 unfold Oper.wp execOp
 simp only [ho,resolve,invoke,builtin,Sem.run_bind,Sem.run_pure,Result.andThen_ok,List.map_toArray,List.map_cons,List.map_nil,hs,hx,hr]
 exact h v' w' h2 h3 h4
end
def Cel3 (w:World) (g:Nat) (a b c:Value):Prop:=w.cell? ⟨g,0,none⟩ = some a ∧ w.cell? ⟨g,1,none⟩ = some b ∧ w.cell? ⟨g,2,none⟩ = some c ∧ w.frozen? ⟨g,0,none⟩ = false ∧ w.frozen? ⟨g,1,none⟩ = false ∧ w.frozen? ⟨g,2,none⟩ = false
theorem Cel3.block {w w':World} {g:Nat} {a b c:Value} (h:Cel3 w g a b c) (hb:w'.heap[g]? = w.heap[g]?):Cel3 w' g a b c :=
 ⟨(World.cell?_of_block (a:=⟨g,0,none⟩) hb).trans h.1,(World.cell?_of_block (a:=⟨g,1,none⟩) hb).trans h.2.1,(World.cell?_of_block (a:=⟨g,2,none⟩) hb).trans h.2.2.1,
  (World.frozen?_of_block (a:=⟨g,0,none⟩) hb).trans h.2.2.2.1,(World.frozen?_of_block (a:=⟨g,1,none⟩) hb).trans h.2.2.2.2.1,(World.frozen?_of_block (a:=⟨g,2,none⟩) hb).trans h.2.2.2.2.2⟩
theorem Cel3.lt {w:World} {g:Nat} {a b c:Value} (h:Cel3 w g a b c):g < w.heap.size:=block_lt_of_cell h.1
theorem Cel3.keep {w w':World} {g:Nat} {a b c:Value} (h:Cel3 w g a b c) (hb:Below w.heap.size w w'):Cel3 w' g a b c:=h.block (hb.block g h.lt)
theorem pSt_of {F:List Fld} {V:List Val} {p:Pag} {pb:Bool × Bool} (h:pb = passB (namedF F V) p):pSt F V p = if pb.2 = false then 1 else if pb.1 = true then 2 else 0:=by
 rw [h]
 unfold passB pSt passV
 cases bareB p.skip.op p.skip.v p.skip.name p.skip.args.length
 ·generalize (evalRes (namedF F V) p.skip).1 = v
  by_cases hk:v.k = 2
  ·by_cases hn:v.n = 1
   ·simp [hk,hn]
   ·simp [hk,hn]
  ·simp [hk]
 ·rfl
theorem nv_wf:noVal.wf:=by unfold noVal Val.wf inI inS;exact ⟨by decide +kernel,by decide +kernel,by decide⟩
theorem lackR_wf {F:List Fld} {P:List Pag} {V:List Val} {at_:Int} (hP:∀ p ∈ P,∀ s ∈ p.fields,inS s):∀ s ∈ (lackR F P V at_).1,inS s:=by
 intro s hs
 by_cases he:walkErr F P V ⟨0,[],false⟩ = 0
 ·by_cases ha:at_ < 0 ∨ (P.length:Int) ≤ at_
  ·rw [lackR_out he ha] at hs;cases hs
  ·obtain ⟨k,rfl⟩:∃ k:Nat,at_ = k:=⟨at_.toNat,by omega⟩
   have hp:P[k]? = some (P[k]'(by omega)):=List.getElem?_eq_getElem _
   rw [lackR_in he hp] at hs
   exact lackL_in (hP _ (List.mem_of_getElem? hp)) s hs
 ·rw [lackR_err he] at hs;cases hs
set_option maxRecDepth 100000 in
set_option maxHeartbeats 8000000 in
theorem nav_Next (B:Option Addr) (m d:Nat) (F:List Fld) (A:Option Addr) (n c:Nat) (P:List Pag) (Vb:Option Addr) (nv cv:Nat) (V:List Val) (x:Wlk) (Q:Option Addr) (q cq:Nat) (w:World)
  (hX:RFo w B m d F A n c P) (hO:FldsOk F) (hY:RVp w Vb nv cv V Q q cq x.path) (hia:inI x.at_) :
  Calls Tryz.prog 27 #[.agg #[.slice B m d,.slice A n c],.slice Vb nv cv,.agg #[.int .i64 x.at_,.slice Q q cq,.bool x.done]] w (RetWlk w (nextR F P V x)):=by
 have h1:=fun w h h' => nav_Check B m d F A n c P Vb nv cv V x Q q cq w h hO h' hia
 have h2:=fun w h h' => nav_Lacks B m d F A n c P Vb nv cv V x.at_ w h hO h'
 have hql:=hY.2.2.2.2.2.len
 have hpl:=hX.2.2.2.2.2.len
 have hml:=hX.2.2.2.2.1.len
 have hn4:=hY.2.2.1
 unfold inB at hn4
 have HX:=Lib.hid (And.intro hX hY)
 have HLI:=Lib.hid (lackR_wf (F:=F) (V:=V) (at_:=x.at_) (pag_fields hX.2.2.2.2.2))
 by_cases he:walkErr F P V x = 0
 ·rw [he] at h1
  cases hd:x.done
  ·rw [hd] at h1
   by_cases hpos:0 < (lackR F P V x.at_).1.length
   ·rw [nextR_lack he hd hpos]
    clear hX hY hO he hql hpl hml hd
    generalize (lackR F P V x.at_).2 = e2 at *
    generalize (lackR F P V x.at_).1 = ll at *
    go_enter Tryz.func27,Tryz.ntmps27
    go_wp2_with (first
     | (go_at_call 19;refine (h1 _ (HX.out.1.now bel) (HX.out.2.now bel)).mono ?_;rintro e w1 ⟨rfl,hb1⟩;obtain ⟨hc1,hf1⟩:=bcell hb1;(try simp only [bqh,bqc,bqf] at hc1 hf1);have hz1:=hb1.size;(try simp at hz1);(try have hy1:=nl1 hz1);(try have hx1:=nl2 hy1);refine szz w1 w ?_;intros)
     | (go_at_call 20;refine (h2 _ (HX.out.1.now bel) (HX.out.2.noPath.now bel)).mono ?_;rintro e w2 ⟨v2,rfl,ho2,hb2⟩;obtain ⟨A2,c2,rfl,_,_⟩:=ownStr ho2 rfl HLI.out;clear ho2;obtain ⟨hc2,hf2⟩:=bcell hb2;(try simp only [bqh,bqc,bqf] at hc2 hf2);have hz2:=hb2.size;(try simp at hz2);(try have hy2:=nl1 hz2);(try have hx2:=nl2 hy2);refine szz w2 w ?_;intros;refine szz w2 w1 ?_;intros))
    refine bodyPost_ret (v:=.tuple #[.agg #[.int .i64 0,.slice none 0 0,.bool false],.int .i64 11]) (by first | (simp [results,Tryz.results27,go_sem];done) | (simp [results,Tryz.results27,go_sem, *];done)) rfl ?_
    exact ⟨none,0,rfl,Sl.nil,bel⟩
   ·obtain ⟨rr,hrr⟩:∃ rr,rr = nextR F P V x:=⟨_,rfl⟩
    rw [← hrr]
    have hz:=walkErr_zero he
    have hwp:=walkOk_path hz.2.2.2
    have hq6:q ≤ 6:=by have h1:=walkOk_len hz.2.2.2;have h2:=(pagesErr_len (formErr_pages hz.1)).2;omega
    have hm14:m ≤ 14:=by rw [← hml];exact (fieldsErr_all (formErr_flds hz.1)).1
    have hn6:n ≤ 6:=by have h2:=(pagesErr_len (formErr_pages hz.1)).2;omega
    obtain ⟨k0,hk0⟩:∃ k0:Nat,x.at_ = k0:=⟨x.at_.toNat,by omega⟩
    have hk0n:k0 < n:=by
     have h3:=hwp.2.2.1
     rw [hd] at h3
     have h4:=hwp.2.1
     have h5:¬ x.at_ = (P.length:Int):=fun e => by rw [decide_eq_true e] at h3;cases h3
     omega
    have HR:=Lib.hid (And.intro hrr (And.intro he (And.intro hd (And.intro hpos (And.intro hz (And.intro hk0 (And.intro hml (And.intro hpl hql))))))))
    have hcl:=fun w h => clone_Int Q q cq x.path w hY.2.2.1 h
    have hvl:nv = m:=by have:=hz.2.1;have:=hY.2.2.2.2.1.len;omega
    subst hvl
    obtain ⟨i0,ei,ez0,ez1,ez2⟩:=info_parts Tryz.infoIn9
    generalize hll:(lackR F P V x.at_).1 = ll at *
    generalize hle:(lackR F P V x.at_).2 = le at *
    have HLL:=Lib.hid hll
    clear hX hY hO he hql hpl hml hd hrr hz hwp hk0 hll hle
    go_enter Tryz.func27,Tryz.ntmps27
    go_upto_region 9 with (first
     | (go_at_call 19;refine (h1 _ (HX.out.1.now bel) (HX.out.2.now bel)).mono ?_;rintro e w1 ⟨rfl,hb1⟩;obtain ⟨hc1,hf1⟩:=bcell hb1;(try simp only [bqh,bqc,bqf] at hc1 hf1);have hz1:=hb1.size;(try simp at hz1);(try have hy1:=nl1 hz1);(try have hx1:=nl2 hy1);refine szz w1 w ?_;intros)
     | (go_at_call 20;refine (h2 _ (HX.out.1.now bel) (HX.out.2.noPath.now bel)).mono ?_;rintro e w2 ⟨v2,rfl,ho2,hb2⟩;obtain ⟨A2,c2,rfl,_,_⟩:=ownStr ho2 rfl HLI.out;clear ho2;obtain ⟨hc2,hf2⟩:=bcell hb2;(try simp only [bqh,bqc,bqf] at hc2 hf2);have hz2:=hb2.size;(try simp at hz2);(try have hy2:=nl1 hz2);(try have hx2:=nl2 hy2);refine szz w2 w ?_;intros;refine szz w2 w1 ?_;intros))
    have hB20:Below w.heap.size w w2:=bel
    have hBW:=hB20
    have hlw:w.heap.size + 2 < w2.heap.size:=by have:=hb1.size;have:=hb2.size;simp at *;omega
    have q0:w2.cell? ⟨w.heap.size,0,none⟩ = some (.slice B nv d):=by go_simp
    have q1:w2.cell? ⟨w.heap.size,1,none⟩ = some (.slice A n c):=by go_simp
    have p0:w2.cell? ⟨w.heap.size + 1,0,none⟩ = some (.int .i64 x.at_):=by go_simp
    have p1:w2.cell? ⟨w.heap.size + 1,1,none⟩ = some (.slice Q q cq):=by go_simp
    have CR:Cel3 w2 (w.heap.size + 1 + 1) (.int .i64 0) (.slice none 0 0) (.bool false):=⟨by go_simp,by go_simp,by go_simp,by go_simp,by go_simp,by go_simp⟩
    have hwk:IntKind.i64.wrap (x.at_ + 1) = x.at_ + 1:=IntWalk.i64_in _ (by have h7:=HR.out.2.2.2.2.2.1;rw [h7];omega)
    go_cut [11] (fun s11 wx => ∃ (g:Nat) (A9:Option Addr) (c9:Nat),s11 = .pointer (some ⟨g,0,none⟩) ∧ w2.heap.size ≤ g ∧ Cel3 wx g (.int .i64 (x.at_ + 1)) (.slice A9 (q + 1) c9) (.bool false) ∧ Hid (wx.ownsRow w2.heap.size 3 1 (.slice A9 (q + 1) c9) (q + 1) ((x.path ++ [x.at_]).flatMap intCs)) ∧ some g ≠ (Value.slice A9 (q + 1) c9).ownBlock ∧ Below w2.heap.size w2 wx)
    case first =>
     refine wp_world ?_;intro y0' hy0'
     obtain ⟨y0,hy0⟩:∃ y,y = y0'.drew:=⟨_,rfl⟩
     have hS0:y0.cell? ⟨w.heap.size + 1,0,none⟩ = some (.int .i64 x.at_) ∧ y0.cell? ⟨w.heap.size + 1,1,none⟩ = some (.slice Q q cq):=by rw [hy0,hy0'];exact ⟨p0,p1⟩
     have hB0:Below w2.heap.size w2 y0:=by rw [hy0,hy0'];exact (Below.refl _ _).drew
     refine wp_region_T (fun w' => w'.cell? ⟨w.heap.size + 1,0,none⟩ = some (.int .i64 x.at_) ∧ w'.cell? ⟨w.heap.size + 1,1,none⟩ = some (.slice Q q cq)) 12 (by kernel_rfl) ?_
     rw [← hy0]
     clear hy0' hy0
     refine wpAnyT_take (i:=0) (oi:=_) (v:=?_) rfl (by kernel_rfl) (fun _ _ _ h => h) hS0 (by rfl) ?_ ?_
     rotate_left
     ·intro w' hS';(try dsimp only at hS');(try go_split_ands);go_simp;(try rw [if_neg (by omega)]);try with_reducible rfl
     simp only [Act.put,List.setIfInBounds_toArray,List.set_cons_zero,List.set_cons_succ]
     refine wpAnyT_take (i:=1) (oi:=_) (v:=?_) rfl (by kernel_rfl) (fun _ _ _ h => h) hS0 (by rfl) ?_ ?_
     rotate_left
     ·intro w' hS';(try dsimp only at hS');(try go_split_ands);go_simp;(try rw [if_neg (by omega)]);try with_reducible rfl
     simp only [Act.put,List.setIfInBounds_toArray,List.set_cons_zero,List.set_cons_succ]
     refine wpAnyT_take (i:=2) (oi:=_) (v:=?_) rfl (by kernel_rfl) (fun _ _ _ h => h) hS0 (by rfl) ?_ ?_
     rotate_left
     ·intro w' hS';(try dsimp only at hS');(try go_split_ands);go_simp;(try rw [if_neg (by omega)]);try with_reducible rfl
     simp only [Act.put,List.setIfInBounds_toArray,List.set_cons_zero,List.set_cons_succ]
     refine wpAnyT_take (i:=3) (oi:=_) (v:=?_) rfl (by kernel_rfl) (fun _ _ _ h => h) hS0 (by rfl) ?_ ?_
     rotate_left
     ·intro w' hS';(try dsimp only at hS');(try go_split_ands);go_simp;(try rw [if_neg (by omega)]);try with_reducible rfl
     simp only [Act.put,List.setIfInBounds_toArray,List.set_cons_zero,List.set_cons_succ]
     refine wpAnyT_take (i:=4) (oi:=_) (v:=?_) rfl (by kernel_rfl) (fun _ _ _ h => h) hS0 (by rfl) ?_ ?_
     rotate_left
     ·intro w' hS';(try dsimp only at hS');(try go_split_ands);go_simp;(try rw [if_neg (by omega)]);try with_reducible rfl
     simp only [Act.put,List.setIfInBounds_toArray,List.set_cons_zero,List.set_cons_succ]
     refine wpAnyT_take (i:=6) (oi:=_) (v:=?_) rfl (by kernel_rfl) (fun _ _ _ h => h) hS0 (by rfl) ?_ ?_
     rotate_left
     ·intro w' hS';(try dsimp only at hS');(try go_split_ands);go_simp;(try rw [if_neg (by omega)]);try with_reducible rfl
     simp only [Act.put,List.setIfInBounds_toArray,List.set_cons_zero,List.set_cons_succ]
     refine wpAnyT_take (i:=7) (oi:=_) (v:=?_) rfl (by kernel_rfl) (fun _ _ _ h => h) hS0 (by rfl) ?_ ?_
     rotate_left
     ·intro w' hS';(try dsimp only at hS');(try go_split_ands);go_simp;(try rw [if_neg (by omega)]);try with_reducible rfl
     simp only [Act.put,List.setIfInBounds_toArray,List.set_cons_zero,List.set_cons_succ]
     refine wpAnyT_three (i:=5) (j:=8) (k:=11) (o:=_) (p:=_) (r:=_) rfl rfl rfl (by kernel_rfl) (fun K hK => ?_) (fun K hK => ?_) (fun K hK => ?_)
     ·go_simp
      go_at_call 68;refine (hcl _ (HX.out.2.2.2.2.2.2.now (below_step hBW hB0 (by omega)))).mono ?_;rintro e y1 ⟨v3,rfl,HO1,hb1⟩
      rw [HR.out.2.2.2.2.2.2.2.2] at HO1
      have hL5:=HO1.lt
      obtain ⟨bc,hbcE⟩:∃ bc,bc = y0.heap.size:=⟨_,rfl⟩
      rw [← hbcE] at HO1 hL5
      have hbc:w2.heap.size ≤ bc:=by rw [hbcE];exact hB0.size
      have hz5:=hb1.size
      have hS1:=And.intro (cell_keep hS0.1 hb1) (cell_keep hS0.2 hb1)
      have hB1:Below w2.heap.size w2 y1:=below_step hB0 hb1 hB0.size
      have hzM:y1.heap.size ≤ y1.heap.size:=Nat.le_refl _
      have hzL:bc ≤ y1.heap.size:=by omega
      refine hK.out _ _ (fun _ => hS1) ?_
      clear hK K
      try simp only [Act.put,List.setIfInBounds_toArray,List.set_cons_zero,List.set_cons_succ]
      refine wpAnyT_two (i:=8) (j:=11) (o:=_) (p:=_) rfl rfl (by kernel_rfl) (fun K hK => ?_) (fun K hK => ?_)
      ·go_simp
       obtain ⟨y2,hy2⟩:∃ y,y = y1.alloc (.cells #[.int .i64 x.at_] 3):=⟨_,rfl⟩
       rw [← hy2]
       have hb2:Below y1.heap.size y1 y2:=by rw [hy2];exact (Below.refl _ _).alloc (Nat.le_refl _) _
       have hG2:y2.cell? ⟨y1.heap.size,0,none⟩ = some (.int .i64 x.at_):=by rw [hy2];go_simp
       clear hy2
       have hS2:=And.intro (cell_keep hS1.1 hb2) (cell_keep hS1.2 hb2)
       have hB2:Below w2.heap.size w2 y2:=below_step hB1 hb2 hB1.size
       have HO2:=ownsRow_keep HO1 hb2
       have hzM:=Nat.le_trans hzM hb2.size
       have hzL:bc ≤ y2.heap.size:=by have:=hb2.size;omega
       refine hK.out _ _ (fun _ => hS2) ?_
       clear hK K
       try simp only [Act.put,List.setIfInBounds_toArray,List.set_cons_zero,List.set_cons_succ]
       refine wpAnyT_two (i:=9) (j:=11) (o:=_) (p:=_) rfl rfl (by kernel_rfl) (fun K hK => ?_) (fun K hK => ?_)
       ·refine step_append_g rfl (.tmp 42) (.tmp 45) 23 rfl bc 3 i0 (.int .i64 0) 1 8 Tryz.underlying23 ei ez0 ez1 ez2 rfl (by decide) v3 q _ rfl HO2 _ 1 1 [.int .i64 x.at_] rfl rfl (news1 hG2) (by simp) (by simp [Value.oneCell']) (by unfold maxLen;omega) (by omega) (by have:=hB2.size;have:=hzL;omega) ?_
        intro v4 y3 HO3 hgr hob
        have hbA:Below bc y2 y3:=(Below.refl bc y2).grown hgr (by have:=hzL;omega) (fun kk hk => (HO2.lt kk hk).1)
        obtain ⟨g4,cap4,rfl,_,_⟩:=HO3.form (by omega)
        rw [show x.path.flatMap intCs ++ [Value.int .i64 x.at_] = (x.path ++ [x.at_]).flatMap intCs by rw [List.flatMap_append];rfl] at HO3
        have hS3:=And.intro ((hbA.cell (p:=⟨w.heap.size + 1,0,none⟩) (by show w.heap.size + 1 < bc;omega)).trans hS2.1) ((hbA.cell (p:=⟨w.heap.size + 1,1,none⟩) (by show w.heap.size + 1 < bc;omega)).trans hS2.2)
        have hB3:Below w2.heap.size w2 y3:=below_step hB2 hbA hbc
        refine hK.out _ _ (fun _ => hS3) ?_
        clear hK K
        try simp only [Act.put,List.setIfInBounds_toArray,List.set_cons_zero,List.set_cons_succ]
        refine wpAnyT_take (i:=10) (oi:=_) (v:=?_) rfl (by kernel_rfl) (fun _ _ _ h => h) hS3 (by rfl) ?_ ?_
        rotate_left
        ·intro w' hS';(try dsimp only at hS');(try go_split_ands);go_simp;(try rw [if_neg (by omega)]);try with_reducible rfl
        simp only [Act.put,List.setIfInBounds_toArray,List.set_cons_zero,List.set_cons_succ]
        refine wpAnyT_one (i:=11) (o:=_) rfl (by kernel_rfl) (fun K hK => ?_)
        ·go_simp
         obtain ⟨y4,hy4⟩:∃ y,y = y3.alloc (.cells #[.int .i64 0,.slice none 0 0,.bool false] 35):=⟨_,rfl⟩
         rw [← hy4]
         have hb4:Below y3.heap.size y3 y4:=by rw [hy4];exact (Below.refl _ _).alloc (Nat.le_refl _) _
         have hgA:w2.heap.size ≤ y3.heap.size:=hB3.size
         have hC4:Cel3 y4 y3.heap.size (.int .i64 0) (.slice none 0 0) (.bool false):=by rw [hy4];exact ⟨by go_simp,by go_simp,by go_simp,by go_simp,by go_simp,by go_simp⟩
         have hne:some (y3.heap.size) ≠ (Value.slice (some ⟨g4,0,none⟩) (q + 1) cap4).ownBlock:=fun e => by have:=(HO3.lt (y3.heap.size) e.symm).2;omega
         clear hy4
         have hS4:=And.intro (cell_keep hS3.1 hb4) (cell_keep hS3.2 hb4)
         have hB4:Below w2.heap.size w2 y4:=below_step hB3 hb4 hB3.size
         have HO4:=ownsRow_keep HO3 hb4
         have hzL:bc ≤ y4.heap.size:=by have:=hb4.size;omega
         refine hK.out _ _ (fun _ => hS4) ?_
         clear hK K
         try simp only [Act.put,List.setIfInBounds_toArray,List.set_cons_zero,List.set_cons_succ]
         refine wpAnyT_one (i:=12) (o:=_) rfl (by kernel_rfl) (fun K hK => ?_)
         obtain ⟨u0,u1,u2,t0,t1,t2⟩:=hC4
         go_simp
         refine hK.out _ _ (fun h => absurd h (by decide)) ?_
         clear hK K
         refine wpAnyT_done (by kernel_rfl) ?_ _
         try simp only [Act.put,List.setIfInBounds_toArray,List.set_cons_zero,List.set_cons_succ]
         go_wp2_with fail
         go_meet
         refine ⟨y3.heap.size,some ⟨g4,0,none⟩,cap4,rfl,hgA,⟨by go_simp,by go_simp,by go_simp,by go_simp,by go_simp,by go_simp⟩,Lib.hid ?_,hne,?_⟩
         ·exact ownsRow_setCell_other (ownsRow_setCell_other (ownsRow_setCell_other (ownsRow_base HO4 hbc) (fun e => hne e.symm) _) (fun e => hne e.symm) _) (fun e => hne e.symm) _
         ·exact below_set (below_set (below_set hB4 hgA) hgA) hgA
       ·go_simp
        obtain ⟨y3,hy3⟩:∃ y,y = y2.alloc (.cells #[.int .i64 0,.slice none 0 0,.bool false] 35):=⟨_,rfl⟩
        rw [← hy3]
        have hb3:Below y2.heap.size y2 y3:=by rw [hy3];exact (Below.refl _ _).alloc (Nat.le_refl _) _
        have hgA:w2.heap.size ≤ y2.heap.size:=hB2.size
        have hC3:Cel3 y3 y2.heap.size (.int .i64 0) (.slice none 0 0) (.bool false):=by rw [hy3];exact ⟨by go_simp,by go_simp,by go_simp,by go_simp,by go_simp,by go_simp⟩
        have hg5:∀ kk,v3.ownBlock = some kk → kk < y2.heap.size:=fun kk hk => by have:=(hL5 kk hk).2;have:=hzM;omega
        clear hy3
        have hS3:=And.intro (cell_keep hS2.1 hb3) (cell_keep hS2.2 hb3)
        have hB3:Below w2.heap.size w2 y3:=below_step hB2 hb3 hB2.size
        have HO3:=ownsRow_keep HO2 hb3
        have hG3:=cell_keep hG2 hb3
        have hzM:=Nat.le_trans hzM hb3.size
        have hzL:bc ≤ y3.heap.size:=by have:=hb3.size;omega
        refine hK.out _ _ (fun _ => hS3) ?_
        clear hK K
        try simp only [Act.put,List.setIfInBounds_toArray,List.set_cons_zero,List.set_cons_succ]
        refine wpAnyT_one (i:=9) (o:=_) rfl (by kernel_rfl) (fun K hK => ?_)
        ·refine step_append_g rfl (.tmp 42) (.tmp 45) 23 rfl bc 3 i0 (.int .i64 0) 1 8 Tryz.underlying23 ei ez0 ez1 ez2 rfl (by decide) v3 q _ rfl HO3 _ 1 1 [.int .i64 x.at_] rfl rfl (news1 hG3) (by simp) (by simp [Value.oneCell']) (by unfold maxLen;omega) (by omega) (by have:=hB3.size;have:=hzL;omega) ?_
         intro v4 y4 HO4 hgr hob
         have hbA:Below bc y3 y4:=(Below.refl bc y3).grown hgr (by have:=hzL;omega) (fun kk hk => (HO3.lt kk hk).1)
         have hn3:some (y2.heap.size) ≠ v3.ownBlock:=fun e => by have h9:=hg5;have h8:=hL5 _ e.symm;first | omega | (have:=h9 _ e.symm;omega)
         have hC4:Cel3 y4 (y2.heap.size) (.int .i64 0) (.slice none 0 0) (.bool false):=hC3.block (hgr.block _ hC3.lt hn3)
         have hne0:some (y2.heap.size) ≠ v4.ownBlock:=by rcases hob with h | h;(rw [h];exact hn3);(rw [h];intro e;have h7:=hC3.lt;have h6:=Option.some.inj e;omega)
         obtain ⟨g4,cap4,rfl,_,_⟩:=HO4.form (by omega)
         have hne:=hne0
         rw [show x.path.flatMap intCs ++ [Value.int .i64 x.at_] = (x.path ++ [x.at_]).flatMap intCs by rw [List.flatMap_append];rfl] at HO4
         have hS4:=And.intro ((hbA.cell (p:=⟨w.heap.size + 1,0,none⟩) (by show w.heap.size + 1 < bc;omega)).trans hS3.1) ((hbA.cell (p:=⟨w.heap.size + 1,1,none⟩) (by show w.heap.size + 1 < bc;omega)).trans hS3.2)
         have hB4:Below w2.heap.size w2 y4:=below_step hB3 hbA hbc
         refine hK.out _ _ (fun _ => hS4) ?_
         clear hK K
         try simp only [Act.put,List.setIfInBounds_toArray,List.set_cons_zero,List.set_cons_succ]
         refine wpAnyT_take (i:=10) (oi:=_) (v:=?_) rfl (by kernel_rfl) (fun _ _ _ h => h) hS4 (by rfl) ?_ ?_
         rotate_left
         ·intro w' hS';(try dsimp only at hS');(try go_split_ands);go_simp;(try rw [if_neg (by omega)]);try with_reducible rfl
         simp only [Act.put,List.setIfInBounds_toArray,List.set_cons_zero,List.set_cons_succ]
         refine wpAnyT_one (i:=12) (o:=_) rfl (by kernel_rfl) (fun K hK => ?_)
         obtain ⟨u0,u1,u2,t0,t1,t2⟩:=hC4
         go_simp
         refine hK.out _ _ (fun h => absurd h (by decide)) ?_
         clear hK K
         refine wpAnyT_done (by kernel_rfl) ?_ _
         try simp only [Act.put,List.setIfInBounds_toArray,List.set_cons_zero,List.set_cons_succ]
         go_wp2_with fail
         go_meet
         refine ⟨y2.heap.size,some ⟨g4,0,none⟩,cap4,rfl,hgA,⟨by go_simp,by go_simp,by go_simp,by go_simp,by go_simp,by go_simp⟩,Lib.hid ?_,hne,?_⟩
         ·exact ownsRow_setCell_other (ownsRow_setCell_other (ownsRow_setCell_other (ownsRow_base HO4 hbc) (fun e => hne e.symm) _) (fun e => hne e.symm) _) (fun e => hne e.symm) _
         ·exact below_set (below_set (below_set hB4 hgA) hgA) hgA
      ·go_simp
       obtain ⟨y2,hy2⟩:∃ y,y = y1.alloc (.cells #[.int .i64 0,.slice none 0 0,.bool false] 35):=⟨_,rfl⟩
       rw [← hy2]
       have hb2:Below y1.heap.size y1 y2:=by rw [hy2];exact (Below.refl _ _).alloc (Nat.le_refl _) _
       have hgA:w2.heap.size ≤ y1.heap.size:=hB1.size
       have hC2:Cel3 y2 y1.heap.size (.int .i64 0) (.slice none 0 0) (.bool false):=by rw [hy2];exact ⟨by go_simp,by go_simp,by go_simp,by go_simp,by go_simp,by go_simp⟩
       have hg5:∀ kk,v3.ownBlock = some kk → kk < y1.heap.size:=fun kk hk => by have:=(hL5 kk hk).2;have:=hzM;omega
       clear hy2
       have hS2:=And.intro (cell_keep hS1.1 hb2) (cell_keep hS1.2 hb2)
       have hB2:Below w2.heap.size w2 y2:=below_step hB1 hb2 hB1.size
       have HO2:=ownsRow_keep HO1 hb2
       have hzM:=Nat.le_trans hzM hb2.size
       have hzL:bc ≤ y2.heap.size:=by have:=hb2.size;omega
       refine hK.out _ _ (fun _ => hS2) ?_
       clear hK K
       try simp only [Act.put,List.setIfInBounds_toArray,List.set_cons_zero,List.set_cons_succ]
       refine wpAnyT_one (i:=8) (o:=_) rfl (by kernel_rfl) (fun K hK => ?_)
       ·go_simp
        obtain ⟨y3,hy3⟩:∃ y,y = y2.alloc (.cells #[.int .i64 x.at_] 3):=⟨_,rfl⟩
        rw [← hy3]
        have hb3:Below y2.heap.size y2 y3:=by rw [hy3];exact (Below.refl _ _).alloc (Nat.le_refl _) _
        have hG3:y3.cell? ⟨y2.heap.size,0,none⟩ = some (.int .i64 x.at_):=by rw [hy3];go_simp
        clear hy3
        have hS3:=And.intro (cell_keep hS2.1 hb3) (cell_keep hS2.2 hb3)
        have hB3:Below w2.heap.size w2 y3:=below_step hB2 hb3 hB2.size
        have HO3:=ownsRow_keep HO2 hb3
        have hC3:=hC2.keep hb3
        have hzM:=Nat.le_trans hzM hb3.size
        have hzL:bc ≤ y3.heap.size:=by have:=hb3.size;omega
        refine hK.out _ _ (fun _ => hS3) ?_
        clear hK K
        try simp only [Act.put,List.setIfInBounds_toArray,List.set_cons_zero,List.set_cons_succ]
        refine wpAnyT_one (i:=9) (o:=_) rfl (by kernel_rfl) (fun K hK => ?_)
        ·refine step_append_g rfl (.tmp 42) (.tmp 45) 23 rfl bc 3 i0 (.int .i64 0) 1 8 Tryz.underlying23 ei ez0 ez1 ez2 rfl (by decide) v3 q _ rfl HO3 _ 1 1 [.int .i64 x.at_] rfl rfl (news1 hG3) (by simp) (by simp [Value.oneCell']) (by unfold maxLen;omega) (by omega) (by have:=hB3.size;have:=hzL;omega) ?_
         intro v4 y4 HO4 hgr hob
         have hbA:Below bc y3 y4:=(Below.refl bc y3).grown hgr (by have:=hzL;omega) (fun kk hk => (HO3.lt kk hk).1)
         have hn3:some (y1.heap.size) ≠ v3.ownBlock:=fun e => by have h9:=hg5;have h8:=hL5 _ e.symm;first | omega | (have:=h9 _ e.symm;omega)
         have hC4:Cel3 y4 (y1.heap.size) (.int .i64 0) (.slice none 0 0) (.bool false):=hC3.block (hgr.block _ hC3.lt hn3)
         have hne0:some (y1.heap.size) ≠ v4.ownBlock:=by rcases hob with h | h;(rw [h];exact hn3);(rw [h];intro e;have h7:=hC3.lt;have h6:=Option.some.inj e;omega)
         obtain ⟨g4,cap4,rfl,_,_⟩:=HO4.form (by omega)
         have hne:=hne0
         rw [show x.path.flatMap intCs ++ [Value.int .i64 x.at_] = (x.path ++ [x.at_]).flatMap intCs by rw [List.flatMap_append];rfl] at HO4
         have hS4:=And.intro ((hbA.cell (p:=⟨w.heap.size + 1,0,none⟩) (by show w.heap.size + 1 < bc;omega)).trans hS3.1) ((hbA.cell (p:=⟨w.heap.size + 1,1,none⟩) (by show w.heap.size + 1 < bc;omega)).trans hS3.2)
         have hB4:Below w2.heap.size w2 y4:=below_step hB3 hbA hbc
         refine hK.out _ _ (fun _ => hS4) ?_
         clear hK K
         try simp only [Act.put,List.setIfInBounds_toArray,List.set_cons_zero,List.set_cons_succ]
         refine wpAnyT_take (i:=10) (oi:=_) (v:=?_) rfl (by kernel_rfl) (fun _ _ _ h => h) hS4 (by rfl) ?_ ?_
         rotate_left
         ·intro w' hS';(try dsimp only at hS');(try go_split_ands);go_simp;(try rw [if_neg (by omega)]);try with_reducible rfl
         simp only [Act.put,List.setIfInBounds_toArray,List.set_cons_zero,List.set_cons_succ]
         refine wpAnyT_one (i:=12) (o:=_) rfl (by kernel_rfl) (fun K hK => ?_)
         obtain ⟨u0,u1,u2,t0,t1,t2⟩:=hC4
         go_simp
         refine hK.out _ _ (fun h => absurd h (by decide)) ?_
         clear hK K
         refine wpAnyT_done (by kernel_rfl) ?_ _
         try simp only [Act.put,List.setIfInBounds_toArray,List.set_cons_zero,List.set_cons_succ]
         go_wp2_with fail
         go_meet
         refine ⟨y1.heap.size,some ⟨g4,0,none⟩,cap4,rfl,hgA,⟨by go_simp,by go_simp,by go_simp,by go_simp,by go_simp,by go_simp⟩,Lib.hid ?_,hne,?_⟩
         ·exact ownsRow_setCell_other (ownsRow_setCell_other (ownsRow_setCell_other (ownsRow_base HO4 hbc) (fun e => hne e.symm) _) (fun e => hne e.symm) _) (fun e => hne e.symm) _
         ·exact below_set (below_set (below_set hB4 hgA) hgA) hgA
     ·go_simp
      obtain ⟨y1,hy1⟩:∃ y,y = y0.alloc (.cells #[.int .i64 x.at_] 3):=⟨_,rfl⟩
      rw [← hy1]
      have hb1:Below y0.heap.size y0 y1:=by rw [hy1];exact (Below.refl _ _).alloc (Nat.le_refl _) _
      have hG1:y1.cell? ⟨y0.heap.size,0,none⟩ = some (.int .i64 x.at_):=by rw [hy1];go_simp
      clear hy1
      have hS1:=And.intro (cell_keep hS0.1 hb1) (cell_keep hS0.2 hb1)
      have hB1:Below w2.heap.size w2 y1:=below_step hB0 hb1 hB0.size
      refine hK.out _ _ (fun _ => hS1) ?_
      clear hK K
      try simp only [Act.put,List.setIfInBounds_toArray,List.set_cons_zero,List.set_cons_succ]
      refine wpAnyT_two (i:=5) (j:=11) (o:=_) (p:=_) rfl rfl (by kernel_rfl) (fun K hK => ?_) (fun K hK => ?_)
      ·go_simp
       go_at_call 68;refine (hcl _ (HX.out.2.2.2.2.2.2.now (below_step hBW hB1 (by omega)))).mono ?_;rintro e y2 ⟨v3,rfl,HO2,hb2⟩
       rw [HR.out.2.2.2.2.2.2.2.2] at HO2
       have hL5:=HO2.lt
       obtain ⟨bc,hbcE⟩:∃ bc,bc = y1.heap.size:=⟨_,rfl⟩
       rw [← hbcE] at HO2 hL5
       have hbc:w2.heap.size ≤ bc:=by rw [hbcE];exact hB1.size
       have hz5:=hb2.size
       have hS2:=And.intro (cell_keep hS1.1 hb2) (cell_keep hS1.2 hb2)
       have hB2:Below w2.heap.size w2 y2:=below_step hB1 hb2 hB1.size
       have hG2:=cell_keep hG1 hb2
       have hzM:y2.heap.size ≤ y2.heap.size:=Nat.le_refl _
       have hzL:bc ≤ y2.heap.size:=by omega
       refine hK.out _ _ (fun _ => hS2) ?_
       clear hK K
       try simp only [Act.put,List.setIfInBounds_toArray,List.set_cons_zero,List.set_cons_succ]
       refine wpAnyT_two (i:=9) (j:=11) (o:=_) (p:=_) rfl rfl (by kernel_rfl) (fun K hK => ?_) (fun K hK => ?_)
       ·refine step_append_g rfl (.tmp 42) (.tmp 45) 23 rfl bc 3 i0 (.int .i64 0) 1 8 Tryz.underlying23 ei ez0 ez1 ez2 rfl (by decide) v3 q _ rfl HO2 _ 1 1 [.int .i64 x.at_] rfl rfl (news1 hG2) (by simp) (by simp [Value.oneCell']) (by unfold maxLen;omega) (by omega) (by have:=hB2.size;have:=hzL;omega) ?_
        intro v4 y3 HO3 hgr hob
        have hbA:Below bc y2 y3:=(Below.refl bc y2).grown hgr (by have:=hzL;omega) (fun kk hk => (HO2.lt kk hk).1)
        obtain ⟨g4,cap4,rfl,_,_⟩:=HO3.form (by omega)
        rw [show x.path.flatMap intCs ++ [Value.int .i64 x.at_] = (x.path ++ [x.at_]).flatMap intCs by rw [List.flatMap_append];rfl] at HO3
        have hS3:=And.intro ((hbA.cell (p:=⟨w.heap.size + 1,0,none⟩) (by show w.heap.size + 1 < bc;omega)).trans hS2.1) ((hbA.cell (p:=⟨w.heap.size + 1,1,none⟩) (by show w.heap.size + 1 < bc;omega)).trans hS2.2)
        have hB3:Below w2.heap.size w2 y3:=below_step hB2 hbA hbc
        refine hK.out _ _ (fun _ => hS3) ?_
        clear hK K
        try simp only [Act.put,List.setIfInBounds_toArray,List.set_cons_zero,List.set_cons_succ]
        refine wpAnyT_take (i:=10) (oi:=_) (v:=?_) rfl (by kernel_rfl) (fun _ _ _ h => h) hS3 (by rfl) ?_ ?_
        rotate_left
        ·intro w' hS';(try dsimp only at hS');(try go_split_ands);go_simp;(try rw [if_neg (by omega)]);try with_reducible rfl
        simp only [Act.put,List.setIfInBounds_toArray,List.set_cons_zero,List.set_cons_succ]
        refine wpAnyT_one (i:=11) (o:=_) rfl (by kernel_rfl) (fun K hK => ?_)
        ·go_simp
         obtain ⟨y4,hy4⟩:∃ y,y = y3.alloc (.cells #[.int .i64 0,.slice none 0 0,.bool false] 35):=⟨_,rfl⟩
         rw [← hy4]
         have hb4:Below y3.heap.size y3 y4:=by rw [hy4];exact (Below.refl _ _).alloc (Nat.le_refl _) _
         have hgA:w2.heap.size ≤ y3.heap.size:=hB3.size
         have hC4:Cel3 y4 y3.heap.size (.int .i64 0) (.slice none 0 0) (.bool false):=by rw [hy4];exact ⟨by go_simp,by go_simp,by go_simp,by go_simp,by go_simp,by go_simp⟩
         have hne:some (y3.heap.size) ≠ (Value.slice (some ⟨g4,0,none⟩) (q + 1) cap4).ownBlock:=fun e => by have:=(HO3.lt (y3.heap.size) e.symm).2;omega
         clear hy4
         have hS4:=And.intro (cell_keep hS3.1 hb4) (cell_keep hS3.2 hb4)
         have hB4:Below w2.heap.size w2 y4:=below_step hB3 hb4 hB3.size
         have HO4:=ownsRow_keep HO3 hb4
         have hzL:bc ≤ y4.heap.size:=by have:=hb4.size;omega
         refine hK.out _ _ (fun _ => hS4) ?_
         clear hK K
         try simp only [Act.put,List.setIfInBounds_toArray,List.set_cons_zero,List.set_cons_succ]
         refine wpAnyT_one (i:=12) (o:=_) rfl (by kernel_rfl) (fun K hK => ?_)
         obtain ⟨u0,u1,u2,t0,t1,t2⟩:=hC4
         go_simp
         refine hK.out _ _ (fun h => absurd h (by decide)) ?_
         clear hK K
         refine wpAnyT_done (by kernel_rfl) ?_ _
         try simp only [Act.put,List.setIfInBounds_toArray,List.set_cons_zero,List.set_cons_succ]
         go_wp2_with fail
         go_meet
         refine ⟨y3.heap.size,some ⟨g4,0,none⟩,cap4,rfl,hgA,⟨by go_simp,by go_simp,by go_simp,by go_simp,by go_simp,by go_simp⟩,Lib.hid ?_,hne,?_⟩
         ·exact ownsRow_setCell_other (ownsRow_setCell_other (ownsRow_setCell_other (ownsRow_base HO4 hbc) (fun e => hne e.symm) _) (fun e => hne e.symm) _) (fun e => hne e.symm) _
         ·exact below_set (below_set (below_set hB4 hgA) hgA) hgA
       ·go_simp
        obtain ⟨y3,hy3⟩:∃ y,y = y2.alloc (.cells #[.int .i64 0,.slice none 0 0,.bool false] 35):=⟨_,rfl⟩
        rw [← hy3]
        have hb3:Below y2.heap.size y2 y3:=by rw [hy3];exact (Below.refl _ _).alloc (Nat.le_refl _) _
        have hgA:w2.heap.size ≤ y2.heap.size:=hB2.size
        have hC3:Cel3 y3 y2.heap.size (.int .i64 0) (.slice none 0 0) (.bool false):=by rw [hy3];exact ⟨by go_simp,by go_simp,by go_simp,by go_simp,by go_simp,by go_simp⟩
        have hg5:∀ kk,v3.ownBlock = some kk → kk < y2.heap.size:=fun kk hk => by have:=(hL5 kk hk).2;have:=hzM;omega
        clear hy3
        have hS3:=And.intro (cell_keep hS2.1 hb3) (cell_keep hS2.2 hb3)
        have hB3:Below w2.heap.size w2 y3:=below_step hB2 hb3 hB2.size
        have HO3:=ownsRow_keep HO2 hb3
        have hG3:=cell_keep hG2 hb3
        have hzM:=Nat.le_trans hzM hb3.size
        have hzL:bc ≤ y3.heap.size:=by have:=hb3.size;omega
        refine hK.out _ _ (fun _ => hS3) ?_
        clear hK K
        try simp only [Act.put,List.setIfInBounds_toArray,List.set_cons_zero,List.set_cons_succ]
        refine wpAnyT_one (i:=9) (o:=_) rfl (by kernel_rfl) (fun K hK => ?_)
        ·refine step_append_g rfl (.tmp 42) (.tmp 45) 23 rfl bc 3 i0 (.int .i64 0) 1 8 Tryz.underlying23 ei ez0 ez1 ez2 rfl (by decide) v3 q _ rfl HO3 _ 1 1 [.int .i64 x.at_] rfl rfl (news1 hG3) (by simp) (by simp [Value.oneCell']) (by unfold maxLen;omega) (by omega) (by have:=hB3.size;have:=hzL;omega) ?_
         intro v4 y4 HO4 hgr hob
         have hbA:Below bc y3 y4:=(Below.refl bc y3).grown hgr (by have:=hzL;omega) (fun kk hk => (HO3.lt kk hk).1)
         have hn3:some (y2.heap.size) ≠ v3.ownBlock:=fun e => by have h9:=hg5;have h8:=hL5 _ e.symm;first | omega | (have:=h9 _ e.symm;omega)
         have hC4:Cel3 y4 (y2.heap.size) (.int .i64 0) (.slice none 0 0) (.bool false):=hC3.block (hgr.block _ hC3.lt hn3)
         have hne0:some (y2.heap.size) ≠ v4.ownBlock:=by rcases hob with h | h;(rw [h];exact hn3);(rw [h];intro e;have h7:=hC3.lt;have h6:=Option.some.inj e;omega)
         obtain ⟨g4,cap4,rfl,_,_⟩:=HO4.form (by omega)
         have hne:=hne0
         rw [show x.path.flatMap intCs ++ [Value.int .i64 x.at_] = (x.path ++ [x.at_]).flatMap intCs by rw [List.flatMap_append];rfl] at HO4
         have hS4:=And.intro ((hbA.cell (p:=⟨w.heap.size + 1,0,none⟩) (by show w.heap.size + 1 < bc;omega)).trans hS3.1) ((hbA.cell (p:=⟨w.heap.size + 1,1,none⟩) (by show w.heap.size + 1 < bc;omega)).trans hS3.2)
         have hB4:Below w2.heap.size w2 y4:=below_step hB3 hbA hbc
         refine hK.out _ _ (fun _ => hS4) ?_
         clear hK K
         try simp only [Act.put,List.setIfInBounds_toArray,List.set_cons_zero,List.set_cons_succ]
         refine wpAnyT_take (i:=10) (oi:=_) (v:=?_) rfl (by kernel_rfl) (fun _ _ _ h => h) hS4 (by rfl) ?_ ?_
         rotate_left
         ·intro w' hS';(try dsimp only at hS');(try go_split_ands);go_simp;(try rw [if_neg (by omega)]);try with_reducible rfl
         simp only [Act.put,List.setIfInBounds_toArray,List.set_cons_zero,List.set_cons_succ]
         refine wpAnyT_one (i:=12) (o:=_) rfl (by kernel_rfl) (fun K hK => ?_)
         obtain ⟨u0,u1,u2,t0,t1,t2⟩:=hC4
         go_simp
         refine hK.out _ _ (fun h => absurd h (by decide)) ?_
         clear hK K
         refine wpAnyT_done (by kernel_rfl) ?_ _
         try simp only [Act.put,List.setIfInBounds_toArray,List.set_cons_zero,List.set_cons_succ]
         go_wp2_with fail
         go_meet
         refine ⟨y2.heap.size,some ⟨g4,0,none⟩,cap4,rfl,hgA,⟨by go_simp,by go_simp,by go_simp,by go_simp,by go_simp,by go_simp⟩,Lib.hid ?_,hne,?_⟩
         ·exact ownsRow_setCell_other (ownsRow_setCell_other (ownsRow_setCell_other (ownsRow_base HO4 hbc) (fun e => hne e.symm) _) (fun e => hne e.symm) _) (fun e => hne e.symm) _
         ·exact below_set (below_set (below_set hB4 hgA) hgA) hgA
      ·go_simp
       obtain ⟨y2,hy2⟩:∃ y,y = y1.alloc (.cells #[.int .i64 0,.slice none 0 0,.bool false] 35):=⟨_,rfl⟩
       rw [← hy2]
       have hb2:Below y1.heap.size y1 y2:=by rw [hy2];exact (Below.refl _ _).alloc (Nat.le_refl _) _
       have hgA:w2.heap.size ≤ y1.heap.size:=hB1.size
       have hC2:Cel3 y2 y1.heap.size (.int .i64 0) (.slice none 0 0) (.bool false):=by rw [hy2];exact ⟨by go_simp,by go_simp,by go_simp,by go_simp,by go_simp,by go_simp⟩
       clear hy2
       have hS2:=And.intro (cell_keep hS1.1 hb2) (cell_keep hS1.2 hb2)
       have hB2:Below w2.heap.size w2 y2:=below_step hB1 hb2 hB1.size
       have hG2:=cell_keep hG1 hb2
       refine hK.out _ _ (fun _ => hS2) ?_
       clear hK K
       try simp only [Act.put,List.setIfInBounds_toArray,List.set_cons_zero,List.set_cons_succ]
       refine wpAnyT_one (i:=5) (o:=_) rfl (by kernel_rfl) (fun K hK => ?_)
       ·go_simp
        go_at_call 68;refine (hcl _ (HX.out.2.2.2.2.2.2.now (below_step hBW hB2 (by omega)))).mono ?_;rintro e y3 ⟨v3,rfl,HO3,hb3⟩
        rw [HR.out.2.2.2.2.2.2.2.2] at HO3
        have hL5:=HO3.lt
        obtain ⟨bc,hbcE⟩:∃ bc,bc = y2.heap.size:=⟨_,rfl⟩
        rw [← hbcE] at HO3 hL5
        have hbc:w2.heap.size ≤ bc:=by rw [hbcE];exact hB2.size
        have hg5:y1.heap.size < bc:=by rw [hbcE];exact hC2.lt
        have hz5:=hb3.size
        have hS3:=And.intro (cell_keep hS2.1 hb3) (cell_keep hS2.2 hb3)
        have hB3:Below w2.heap.size w2 y3:=below_step hB2 hb3 hB2.size
        have hG3:=cell_keep hG2 hb3
        have hC3:=hC2.keep hb3
        have hzM:y3.heap.size ≤ y3.heap.size:=Nat.le_refl _
        have hzL:bc ≤ y3.heap.size:=by omega
        refine hK.out _ _ (fun _ => hS3) ?_
        clear hK K
        try simp only [Act.put,List.setIfInBounds_toArray,List.set_cons_zero,List.set_cons_succ]
        refine wpAnyT_one (i:=9) (o:=_) rfl (by kernel_rfl) (fun K hK => ?_)
        ·refine step_append_g rfl (.tmp 42) (.tmp 45) 23 rfl bc 3 i0 (.int .i64 0) 1 8 Tryz.underlying23 ei ez0 ez1 ez2 rfl (by decide) v3 q _ rfl HO3 _ 1 1 [.int .i64 x.at_] rfl rfl (news1 hG3) (by simp) (by simp [Value.oneCell']) (by unfold maxLen;omega) (by omega) (by have:=hB3.size;have:=hzL;omega) ?_
         intro v4 y4 HO4 hgr hob
         have hbA:Below bc y3 y4:=(Below.refl bc y3).grown hgr (by have:=hzL;omega) (fun kk hk => (HO3.lt kk hk).1)
         have hn3:some (y1.heap.size) ≠ v3.ownBlock:=fun e => by have h9:=hg5;have h8:=hL5 _ e.symm;first | omega | (have:=h9 _ e.symm;omega)
         have hC4:Cel3 y4 (y1.heap.size) (.int .i64 0) (.slice none 0 0) (.bool false):=hC3.block (hgr.block _ hC3.lt hn3)
         have hne0:some (y1.heap.size) ≠ v4.ownBlock:=by rcases hob with h | h;(rw [h];exact hn3);(rw [h];intro e;have h7:=hC3.lt;have h6:=Option.some.inj e;omega)
         obtain ⟨g4,cap4,rfl,_,_⟩:=HO4.form (by omega)
         have hne:=hne0
         rw [show x.path.flatMap intCs ++ [Value.int .i64 x.at_] = (x.path ++ [x.at_]).flatMap intCs by rw [List.flatMap_append];rfl] at HO4
         have hS4:=And.intro ((hbA.cell (p:=⟨w.heap.size + 1,0,none⟩) (by show w.heap.size + 1 < bc;omega)).trans hS3.1) ((hbA.cell (p:=⟨w.heap.size + 1,1,none⟩) (by show w.heap.size + 1 < bc;omega)).trans hS3.2)
         have hB4:Below w2.heap.size w2 y4:=below_step hB3 hbA hbc
         refine hK.out _ _ (fun _ => hS4) ?_
         clear hK K
         try simp only [Act.put,List.setIfInBounds_toArray,List.set_cons_zero,List.set_cons_succ]
         refine wpAnyT_take (i:=10) (oi:=_) (v:=?_) rfl (by kernel_rfl) (fun _ _ _ h => h) hS4 (by rfl) ?_ ?_
         rotate_left
         ·intro w' hS';(try dsimp only at hS');(try go_split_ands);go_simp;(try rw [if_neg (by omega)]);try with_reducible rfl
         simp only [Act.put,List.setIfInBounds_toArray,List.set_cons_zero,List.set_cons_succ]
         refine wpAnyT_one (i:=12) (o:=_) rfl (by kernel_rfl) (fun K hK => ?_)
         obtain ⟨u0,u1,u2,t0,t1,t2⟩:=hC4
         go_simp
         refine hK.out _ _ (fun h => absurd h (by decide)) ?_
         clear hK K
         refine wpAnyT_done (by kernel_rfl) ?_ _
         try simp only [Act.put,List.setIfInBounds_toArray,List.set_cons_zero,List.set_cons_succ]
         go_wp2_with fail
         go_meet
         refine ⟨y1.heap.size,some ⟨g4,0,none⟩,cap4,rfl,hgA,⟨by go_simp,by go_simp,by go_simp,by go_simp,by go_simp,by go_simp⟩,Lib.hid ?_,hne,?_⟩
         ·exact ownsRow_setCell_other (ownsRow_setCell_other (ownsRow_setCell_other (ownsRow_base HO4 hbc) (fun e => hne e.symm) _) (fun e => hne e.symm) _) (fun e => hne e.symm) _
         ·exact below_set (below_set (below_set hB4 hgA) hgA) hgA
     ·go_simp
      obtain ⟨y1,hy1⟩:∃ y,y = y0.alloc (.cells #[.int .i64 0,.slice none 0 0,.bool false] 35):=⟨_,rfl⟩
      rw [← hy1]
      have hb1:Below y0.heap.size y0 y1:=by rw [hy1];exact (Below.refl _ _).alloc (Nat.le_refl _) _
      have hgA:w2.heap.size ≤ y0.heap.size:=hB0.size
      have hC1:Cel3 y1 y0.heap.size (.int .i64 0) (.slice none 0 0) (.bool false):=by rw [hy1];exact ⟨by go_simp,by go_simp,by go_simp,by go_simp,by go_simp,by go_simp⟩
      clear hy1
      have hS1:=And.intro (cell_keep hS0.1 hb1) (cell_keep hS0.2 hb1)
      have hB1:Below w2.heap.size w2 y1:=below_step hB0 hb1 hB0.size
      refine hK.out _ _ (fun _ => hS1) ?_
      clear hK K
      try simp only [Act.put,List.setIfInBounds_toArray,List.set_cons_zero,List.set_cons_succ]
      refine wpAnyT_two (i:=5) (j:=8) (o:=_) (p:=_) rfl rfl (by kernel_rfl) (fun K hK => ?_) (fun K hK => ?_)
      ·go_simp
       go_at_call 68;refine (hcl _ (HX.out.2.2.2.2.2.2.now (below_step hBW hB1 (by omega)))).mono ?_;rintro e y2 ⟨v3,rfl,HO2,hb2⟩
       rw [HR.out.2.2.2.2.2.2.2.2] at HO2
       have hL5:=HO2.lt
       obtain ⟨bc,hbcE⟩:∃ bc,bc = y1.heap.size:=⟨_,rfl⟩
       rw [← hbcE] at HO2 hL5
       have hbc:w2.heap.size ≤ bc:=by rw [hbcE];exact hB1.size
       have hg5:y0.heap.size < bc:=by rw [hbcE];exact hC1.lt
       have hz5:=hb2.size
       have hS2:=And.intro (cell_keep hS1.1 hb2) (cell_keep hS1.2 hb2)
       have hB2:Below w2.heap.size w2 y2:=below_step hB1 hb2 hB1.size
       have hC2:=hC1.keep hb2
       have hzM:y2.heap.size ≤ y2.heap.size:=Nat.le_refl _
       have hzL:bc ≤ y2.heap.size:=by omega
       refine hK.out _ _ (fun _ => hS2) ?_
       clear hK K
       try simp only [Act.put,List.setIfInBounds_toArray,List.set_cons_zero,List.set_cons_succ]
       refine wpAnyT_one (i:=8) (o:=_) rfl (by kernel_rfl) (fun K hK => ?_)
       ·go_simp
        obtain ⟨y3,hy3⟩:∃ y,y = y2.alloc (.cells #[.int .i64 x.at_] 3):=⟨_,rfl⟩
        rw [← hy3]
        have hb3:Below y2.heap.size y2 y3:=by rw [hy3];exact (Below.refl _ _).alloc (Nat.le_refl _) _
        have hG3:y3.cell? ⟨y2.heap.size,0,none⟩ = some (.int .i64 x.at_):=by rw [hy3];go_simp
        clear hy3
        have hS3:=And.intro (cell_keep hS2.1 hb3) (cell_keep hS2.2 hb3)
        have hB3:Below w2.heap.size w2 y3:=below_step hB2 hb3 hB2.size
        have HO3:=ownsRow_keep HO2 hb3
        have hC3:=hC2.keep hb3
        have hzM:=Nat.le_trans hzM hb3.size
        have hzL:bc ≤ y3.heap.size:=by have:=hb3.size;omega
        refine hK.out _ _ (fun _ => hS3) ?_
        clear hK K
        try simp only [Act.put,List.setIfInBounds_toArray,List.set_cons_zero,List.set_cons_succ]
        refine wpAnyT_one (i:=9) (o:=_) rfl (by kernel_rfl) (fun K hK => ?_)
        ·refine step_append_g rfl (.tmp 42) (.tmp 45) 23 rfl bc 3 i0 (.int .i64 0) 1 8 Tryz.underlying23 ei ez0 ez1 ez2 rfl (by decide) v3 q _ rfl HO3 _ 1 1 [.int .i64 x.at_] rfl rfl (news1 hG3) (by simp) (by simp [Value.oneCell']) (by unfold maxLen;omega) (by omega) (by have:=hB3.size;have:=hzL;omega) ?_
         intro v4 y4 HO4 hgr hob
         have hbA:Below bc y3 y4:=(Below.refl bc y3).grown hgr (by have:=hzL;omega) (fun kk hk => (HO3.lt kk hk).1)
         have hn3:some (y0.heap.size) ≠ v3.ownBlock:=fun e => by have h9:=hg5;have h8:=hL5 _ e.symm;first | omega | (have:=h9 _ e.symm;omega)
         have hC4:Cel3 y4 (y0.heap.size) (.int .i64 0) (.slice none 0 0) (.bool false):=hC3.block (hgr.block _ hC3.lt hn3)
         have hne0:some (y0.heap.size) ≠ v4.ownBlock:=by rcases hob with h | h;(rw [h];exact hn3);(rw [h];intro e;have h7:=hC3.lt;have h6:=Option.some.inj e;omega)
         obtain ⟨g4,cap4,rfl,_,_⟩:=HO4.form (by omega)
         have hne:=hne0
         rw [show x.path.flatMap intCs ++ [Value.int .i64 x.at_] = (x.path ++ [x.at_]).flatMap intCs by rw [List.flatMap_append];rfl] at HO4
         have hS4:=And.intro ((hbA.cell (p:=⟨w.heap.size + 1,0,none⟩) (by show w.heap.size + 1 < bc;omega)).trans hS3.1) ((hbA.cell (p:=⟨w.heap.size + 1,1,none⟩) (by show w.heap.size + 1 < bc;omega)).trans hS3.2)
         have hB4:Below w2.heap.size w2 y4:=below_step hB3 hbA hbc
         refine hK.out _ _ (fun _ => hS4) ?_
         clear hK K
         try simp only [Act.put,List.setIfInBounds_toArray,List.set_cons_zero,List.set_cons_succ]
         refine wpAnyT_take (i:=10) (oi:=_) (v:=?_) rfl (by kernel_rfl) (fun _ _ _ h => h) hS4 (by rfl) ?_ ?_
         rotate_left
         ·intro w' hS';(try dsimp only at hS');(try go_split_ands);go_simp;(try rw [if_neg (by omega)]);try with_reducible rfl
         simp only [Act.put,List.setIfInBounds_toArray,List.set_cons_zero,List.set_cons_succ]
         refine wpAnyT_one (i:=12) (o:=_) rfl (by kernel_rfl) (fun K hK => ?_)
         obtain ⟨u0,u1,u2,t0,t1,t2⟩:=hC4
         go_simp
         refine hK.out _ _ (fun h => absurd h (by decide)) ?_
         clear hK K
         refine wpAnyT_done (by kernel_rfl) ?_ _
         try simp only [Act.put,List.setIfInBounds_toArray,List.set_cons_zero,List.set_cons_succ]
         go_wp2_with fail
         go_meet
         refine ⟨y0.heap.size,some ⟨g4,0,none⟩,cap4,rfl,hgA,⟨by go_simp,by go_simp,by go_simp,by go_simp,by go_simp,by go_simp⟩,Lib.hid ?_,hne,?_⟩
         ·exact ownsRow_setCell_other (ownsRow_setCell_other (ownsRow_setCell_other (ownsRow_base HO4 hbc) (fun e => hne e.symm) _) (fun e => hne e.symm) _) (fun e => hne e.symm) _
         ·exact below_set (below_set (below_set hB4 hgA) hgA) hgA
      ·go_simp
       obtain ⟨y2,hy2⟩:∃ y,y = y1.alloc (.cells #[.int .i64 x.at_] 3):=⟨_,rfl⟩
       rw [← hy2]
       have hb2:Below y1.heap.size y1 y2:=by rw [hy2];exact (Below.refl _ _).alloc (Nat.le_refl _) _
       have hG2:y2.cell? ⟨y1.heap.size,0,none⟩ = some (.int .i64 x.at_):=by rw [hy2];go_simp
       clear hy2
       have hS2:=And.intro (cell_keep hS1.1 hb2) (cell_keep hS1.2 hb2)
       have hB2:Below w2.heap.size w2 y2:=below_step hB1 hb2 hB1.size
       have hC2:=hC1.keep hb2
       refine hK.out _ _ (fun _ => hS2) ?_
       clear hK K
       try simp only [Act.put,List.setIfInBounds_toArray,List.set_cons_zero,List.set_cons_succ]
       refine wpAnyT_one (i:=5) (o:=_) rfl (by kernel_rfl) (fun K hK => ?_)
       ·go_simp
        go_at_call 68;refine (hcl _ (HX.out.2.2.2.2.2.2.now (below_step hBW hB2 (by omega)))).mono ?_;rintro e y3 ⟨v3,rfl,HO3,hb3⟩
        rw [HR.out.2.2.2.2.2.2.2.2] at HO3
        have hL5:=HO3.lt
        obtain ⟨bc,hbcE⟩:∃ bc,bc = y2.heap.size:=⟨_,rfl⟩
        rw [← hbcE] at HO3 hL5
        have hbc:w2.heap.size ≤ bc:=by rw [hbcE];exact hB2.size
        have hg5:y0.heap.size < bc:=by rw [hbcE];exact hC2.lt
        have hz5:=hb3.size
        have hS3:=And.intro (cell_keep hS2.1 hb3) (cell_keep hS2.2 hb3)
        have hB3:Below w2.heap.size w2 y3:=below_step hB2 hb3 hB2.size
        have hG3:=cell_keep hG2 hb3
        have hC3:=hC2.keep hb3
        have hzM:y3.heap.size ≤ y3.heap.size:=Nat.le_refl _
        have hzL:bc ≤ y3.heap.size:=by omega
        refine hK.out _ _ (fun _ => hS3) ?_
        clear hK K
        try simp only [Act.put,List.setIfInBounds_toArray,List.set_cons_zero,List.set_cons_succ]
        refine wpAnyT_one (i:=9) (o:=_) rfl (by kernel_rfl) (fun K hK => ?_)
        ·refine step_append_g rfl (.tmp 42) (.tmp 45) 23 rfl bc 3 i0 (.int .i64 0) 1 8 Tryz.underlying23 ei ez0 ez1 ez2 rfl (by decide) v3 q _ rfl HO3 _ 1 1 [.int .i64 x.at_] rfl rfl (news1 hG3) (by simp) (by simp [Value.oneCell']) (by unfold maxLen;omega) (by omega) (by have:=hB3.size;have:=hzL;omega) ?_
         intro v4 y4 HO4 hgr hob
         have hbA:Below bc y3 y4:=(Below.refl bc y3).grown hgr (by have:=hzL;omega) (fun kk hk => (HO3.lt kk hk).1)
         have hn3:some (y0.heap.size) ≠ v3.ownBlock:=fun e => by have h9:=hg5;have h8:=hL5 _ e.symm;first | omega | (have:=h9 _ e.symm;omega)
         have hC4:Cel3 y4 (y0.heap.size) (.int .i64 0) (.slice none 0 0) (.bool false):=hC3.block (hgr.block _ hC3.lt hn3)
         have hne0:some (y0.heap.size) ≠ v4.ownBlock:=by rcases hob with h | h;(rw [h];exact hn3);(rw [h];intro e;have h7:=hC3.lt;have h6:=Option.some.inj e;omega)
         obtain ⟨g4,cap4,rfl,_,_⟩:=HO4.form (by omega)
         have hne:=hne0
         rw [show x.path.flatMap intCs ++ [Value.int .i64 x.at_] = (x.path ++ [x.at_]).flatMap intCs by rw [List.flatMap_append];rfl] at HO4
         have hS4:=And.intro ((hbA.cell (p:=⟨w.heap.size + 1,0,none⟩) (by show w.heap.size + 1 < bc;omega)).trans hS3.1) ((hbA.cell (p:=⟨w.heap.size + 1,1,none⟩) (by show w.heap.size + 1 < bc;omega)).trans hS3.2)
         have hB4:Below w2.heap.size w2 y4:=below_step hB3 hbA hbc
         refine hK.out _ _ (fun _ => hS4) ?_
         clear hK K
         try simp only [Act.put,List.setIfInBounds_toArray,List.set_cons_zero,List.set_cons_succ]
         refine wpAnyT_take (i:=10) (oi:=_) (v:=?_) rfl (by kernel_rfl) (fun _ _ _ h => h) hS4 (by rfl) ?_ ?_
         rotate_left
         ·intro w' hS';(try dsimp only at hS');(try go_split_ands);go_simp;(try rw [if_neg (by omega)]);try with_reducible rfl
         simp only [Act.put,List.setIfInBounds_toArray,List.set_cons_zero,List.set_cons_succ]
         refine wpAnyT_one (i:=12) (o:=_) rfl (by kernel_rfl) (fun K hK => ?_)
         obtain ⟨u0,u1,u2,t0,t1,t2⟩:=hC4
         go_simp
         refine hK.out _ _ (fun h => absurd h (by decide)) ?_
         clear hK K
         refine wpAnyT_done (by kernel_rfl) ?_ _
         try simp only [Act.put,List.setIfInBounds_toArray,List.set_cons_zero,List.set_cons_succ]
         go_wp2_with fail
         go_meet
         refine ⟨y0.heap.size,some ⟨g4,0,none⟩,cap4,rfl,hgA,⟨by go_simp,by go_simp,by go_simp,by go_simp,by go_simp,by go_simp⟩,Lib.hid ?_,hne,?_⟩
         ·exact ownsRow_setCell_other (ownsRow_setCell_other (ownsRow_setCell_other (ownsRow_base HO4 hbc) (fun e => hne e.symm) _) (fun e => hne e.symm) _) (fun e => hne e.symm) _
         ·exact below_set (below_set (below_set hB4 hgA) hgA) hgA
    case rest =>
     obtain ⟨g,A9,c9,rfl,hgA,hC9,ho9,hne9,hb9⟩:=hcut
     have hne:=Lib.hid hne9
     have hnx0:Hid (nextG F P V x = goTo (pSt F V) (P.drop (k0 + 1)) (k0 + 1)):=Lib.hid (by unfold nextG;rw [HR.out.2.2.2.2.2.1,Int.toNat_natCast])
     have hkA:x.at_ + 1 = ((k0 + 1:Nat):Int):=by rw [HR.out.2.2.2.2.2.1];rfl
     rw [hkA] at hC9
     clear hne9 hkA h1 h2 hcl p0 p1 hwk
     go_wp2_with fail
     go_loopw [] (fun wr => ∃ j:Nat,k0 + 1 ≤ j ∧ j ≤ n ∧ Hid (nextG F P V x = goTo (pSt F V) (P.drop j) j) ∧ Cel3 wr g (.int .i64 (j:Int)) (.slice A9 (q + 1) c9) (.bool false) ∧ Hid (wr.ownsRow w2.heap.size 3 1 (.slice A9 (q + 1) c9) (q + 1) ((x.path ++ [x.at_]).flatMap intCs)) ∧ Below w2.heap.size w2 wr) (fun wr => n - (match wr.cell? ⟨g,0,none⟩ with | some (.int _ k) => k.toNat | _ => 0))
     case atStart => exact ⟨k0 + 1,Nat.le_refl _,by omega,hnx0,hC9,ho9,hb9⟩
     case round =>
      obtain ⟨j,hj1,hj2,hgt,hC,hown,hbr⟩:=hrel
      obtain ⟨d0,d1,d2,e0,e1,e2⟩:=hC
      have hBr:Below w.heap.size w wr:=below_step hBW hbr (by omega)
      have r0:=cell_keep q0 hbr
      have r1:=cell_keep q1 hbr
      have CR2:=(CR.block (hbr.block _ CR.lt))
      have hzr:=hbr.size
      have hlr:w.heap.size + 2 < wr.heap.size:=by omega
      have hgw:g < wr.heap.size:=block_lt_of_cell d0
      have hlr0:w.heap.size < wr.heap.size:=by omega
      have hlr1:w.heap.size + 1 < wr.heap.size:=by omega
      by_cases hlt:j < n
      ·have hji:(j:Int) < (n:Int):=by omega
       obtain ⟨b2,o2,p,Y,D,X,C,hAe,hbl2,hlp,hrep,x0,x1,x2,x3,x4,x5,x6,x7⟩:=Pag_at HX.out.1.2.2.2.2.2 hlt
       have HAE:=Lib.hid hAe
       subst hAe
       obtain ⟨_,_,_,_,r5⟩:=hrep.open_
       obtain ⟨A0,c0,e0',i1',i2',i3',i4',i5',_⟩:=r5.open_
       simp only [List.cons.injEq,Value.slice.injEq,and_true,true_and] at e0'
       have hn0:inL p.skip.args.length:=i4'.l (by decide)
       have HR5:=Lib.hid (And.intro r5 (And.intro hlp hn0))
       have hbl2':b2 < wr.heap.size:=Nat.lt_of_lt_of_le hbl2 hBr.size
       replace x0:=cell_keep x0 hBr
       replace x1:=cell_keep x1 hBr
       replace x2:=cell_keep x2 hBr
       replace x3:=cell_keep x3 hBr
       replace x4:=cell_keep x4 hBr
       replace x5:=cell_keep x5 hBr
       replace x6:=cell_keep x6 hBr
       replace x7:=cell_keep x7 hBr
       have hfa:=fun w h h' => nav_facts B nv d F (some ⟨b2,o2,none⟩) n c Vb cv V w hm14 h h'
       have hnl:(namedF F V).length = nv:=by rw [namedF_len HR.out.2.2.2.2.1.2.1,HR.out.2.2.2.2.2.2.1]
       have hnw:∀ a ∈ namedF F V,a.wf:=by
        intro a ha
        obtain ⟨i,f,v,hf,hq,rfl⟩:=namedF_mem ha
        exact ⟨(flds_inS HX.out.1.2.2.2.2.1 f (List.mem_of_getElem? hf)).1,nv_wf,(Sl.all_wf HX.out.2.2.2.2.2.1 fun _ _ h => h.2) v (List.mem_of_getElem? hq)⟩
       have HNW:=Lib.hid (And.intro hnl hnw)
       have hps:=fun A9 c9 w h h' => nav_passed p Y D X C A9 nv c9 (namedF F V) w (HX.out.1.1.l (by decide)) HR5.out.2.2 h h'
       obtain ⟨pb,hpb⟩:∃ pb,pb = passB (namedF F V) p:=⟨_,rfl⟩
       simp only [← hpb] at hps
       have HPB:=Lib.hid hpb
       clear hpb hbl2 hlp hrep r5 hnl hnw hn0 i1' i2' i3' i4' i5' e0'
       go_upto_region 12 with fail
       go_cut [12,13] (fun s12 s13 wx => s12 = .bool pb.1 ∧ s13 = .bool pb.2 ∧ Below wr.heap.size wr wx)
       case first =>
        go_region_law (first
         | (go_simp;go_at_call 75;refine (hfa _ (HX.out.1.2.2.2.2.1.nowN keeps_Fld (show Below w.heap.size w _ from bel)) (HX.out.2.2.2.2.2.1.now (show Below w.heap.size w _ from bel))).mono ?_;rintro e w4 ⟨v4,rfl,ho4,hb4⟩;rw [HNW.out.1] at ho4;obtain ⟨A4,c4,rfl,_,hs4⟩:=ownFct ho4 HNW.out.1 HNW.out.2;clear ho4;have hb4':=hb4;(try simp only [heap_drew] at hb4');obtain ⟨hc4,hf4⟩:=bcell hb4;(try simp only [bqh,bqc,bqf] at hc4 hf4);have hz4:=hb4.size;(try simp at hz4);(try have hy4:=nl1 hz4);(try have hx4:=nl2 hy4);refine szz w4 wr ?_;intros;(try simp only [heap_drew,World.cell?_drew] at hc4 hz4);have hl4:w.heap.size < w4.heap.size:=(by have:=hb4'.size;omega);have hl5:g < w4.heap.size:=(by have:=hb4'.size;omega);have hl6:b2 < w4.heap.size:=(by have:=hb4'.size;omega))
         | (go_simp;go_at_call 74;refine (hps A4 c4 _ (HR5.out.1.keep (old_keep (show Below w.heap.size w _ from bel))) (hs4.now bel)).mono ?_;rintro e w5 ⟨rfl,hb5⟩;dsimp only))
        all_goals
         go_wp2_with fail
         go_meet
         exact ⟨rfl,rfl,by first | exact bel | (refine below_step ?_ hb5 (by have:=hb4'.size;omega);exact bel)⟩
       case rest =>
        obtain ⟨rfl,rfl,hbc⟩:=hcut
        have hps2:=pSt_of HPB.out
        have hga:=goTo_at (st:=pSt F V) HR5.out.2.1
        have hbW:Below w2.heap.size w2 wc:=below_step hbr hbc hzr
        have hBW2:Below w.heap.size w wc:=below_step hBr hbc hBr.size
        have d0r:=d0
        have d0:=(hbc.cell (p:=⟨g,0,none⟩) hgw).trans d0
        have d1:=(hbc.cell (p:=⟨g,1,none⟩) hgw).trans d1
        have d2:=(hbc.cell (p:=⟨g,2,none⟩) hgw).trans d2
        have e0:=(hbc.frozen (p:=⟨g,0,none⟩) hgw).trans e0
        have e1:=(hbc.frozen (p:=⟨g,1,none⟩) hgw).trans e1
        have e2:=(hbc.frozen (p:=⟨g,2,none⟩) hgw).trans e2
        have CRW:=CR.block (hbW.block _ CR.lt)
        have hown:=Lib.hid (ownsRow_keep hown.out hbc)
        have r0:=cell_keep r0 hbc
        have r1:=cell_keep r1 hbc
        clear x0 x1 x2 x3 x4 x5 x6 x7 hfa hps
        obtain ⟨b1,b2⟩:=pb
        have hgt2:=hgt.out.trans hga
        rw [hps2] at hgt2
        clear hps2 hga
        cases b2
        ·have hnG:(nextG F P V x).2 = true:=by rw [hgt2];rfl
         have HRE:=Lib.hid (HR.out.1.trans (nextR_block HR.out.2.1 HR.out.2.2.1 (by rw [HLL.out];exact HR.out.2.2.2.1) hnG))
         obtain ⟨u0,u1,u2,t0,t1,t2⟩:=CRW
         clear hnG hgt2
         go_wp2_with fail
         refine bodyPost_ret (v:=.tuple #[.agg #[.int .i64 0,.slice none 0 0,.bool false],.int .i64 11]) (by first | (simp [results,Tryz.results27,go_sem];done) | (simp [results,Tryz.results27,go_sem, *];done)) rfl ?_
         rw [HRE.out]
         exact ⟨none,0,rfl,Sl.nil,by exact bel⟩
        cases b1
        ·have hnG:nextG F P V x = (j,false):=hgt2
         clear hgt2
         have hrr:rr = (⟨(j:Nat),x.path ++ [x.at_],decide (j = P.length)⟩,0):=by
          rw [HR.out.1,nextR_ok HR.out.2.1 HR.out.2.2.1 (by rw [HLL.out];exact HR.out.2.2.2.1) (by rw [hnG]),hnG]
         have hlq:(x.path ++ [x.at_]).length = q + 1:=by rw [List.length_append,HR.out.2.2.2.2.2.2.2.2];rfl
         have hwf9:∀ a ∈ x.path ++ [x.at_],inI a:=by
          intro a ha
          rcases List.mem_append.1 ha with ha | ha
          ·exact HX.out.2.2.2.2.2.2.wfInt a ha
          ·rw [List.mem_singleton.1 ha];exact hia
         have HRR:=Lib.hid (And.intro hrr (And.intro hlq hwf9))
         have hcl2:=fun w h => clone_Int A9 (q + 1) c9 (x.path ++ [x.at_]) w (by unfold inB;omega) h
         have hjd:decide (j = P.length) = ((j:Int) == (n:Int)):=by rw [HR.out.2.2.2.2.2.2.2.1,Bool.eq_iff_iff,decide_eq_true_iff,beq_iff_eq];omega
         have hgz:g < wc.heap.size:=block_lt_of_cell d0
         have hwz:w.heap.size + 1 + 1 < wc.heap.size:=CRW.lt
         have HJ:=Lib.hid hjd
         obtain ⟨u0,u1,u2,t0,t1,t2⟩:=CRW
         clear hrr hlq hwf9 hjd hnG
         go_upto_region 17 with fail
         refine wp_world ?_;intro W1 hW1
         have ho1:W1.ownsRow w2.heap.size 3 1 (.slice A9 (q + 1) c9) (q + 1) ((x.path ++ [x.at_]).flatMap intCs):=by rw [hW1];exact ownsRow_setCell_other hown.out (fun e => hne.out e.symm) _
         have hb1w:Below w2.heap.size w2 W1:=by rw [hW1];exact below_set hbW hgA
         have k0':W1.cell? ⟨g,0,none⟩ = some (.int .i64 (j:Int)):=by rw [hW1];go_simp
         have k1':W1.cell? ⟨g,1,none⟩ = some (.slice A9 (q + 1) c9):=by rw [hW1];go_simp
         have k2':W1.cell? ⟨g,2,none⟩ = some (.bool ((j:Int) == (n:Int))):=by rw [hW1];go_simp
         have l1':W1.frozen? ⟨g,1,none⟩ = false:=by rw [hW1];go_simp
         have CR1:Cel3 W1 (w.heap.size + 1 + 1) (.int .i64 0) (.slice none 0 0) (.bool false):=CR.block (hb1w.block _ CR.lt)
         have hz1:W1.heap.size = wc.heap.size:=by rw [hW1];simp
         clear hW1
         obtain ⟨A6,c6,e6,_,hs6⟩:=ownInt ho1 HRR.out.2.1 HRR.out.2.2
         cases e6
         obtain ⟨v0,v1,v2,s0,s1,s2⟩:=CR1
         have HS6:=Lib.hid hs6
         clear hs6 d0 d1 d2 e0 e1 e2 u0 u1 u2 t0 t1 t2
         have hg1:g < W1.heap.size:=by omega
         have hw1:w.heap.size + 1 + 1 < W1.heap.size:=by omega
         go_wp2_with (go_at_call 68;refine (hcl2 _ HS6.out).mono ?_;rintro e w5 ⟨v5,rfl,ho5,hb5⟩;rw [HRR.out.2.1] at ho5;obtain ⟨A5,c5,rfl,_,_⟩:=ownInt ho5 HRR.out.2.1 HRR.out.2.2;obtain ⟨hc5,hf5⟩:=bcell hb5;(try simp only [bqh,bqc,bqf] at hc5 hf5);have hz5:=hb5.size;(try simp at hz5);(try have hy5:=nl1 hz5);(try have hx5:=nl2 hy5);refine szz w5 W1 ?_;intros)
         refine bodyPost_ret (v:=.tuple #[.agg #[.int .i64 (j:Int),.slice A5 (q + 1) c5,.bool ((j:Int) == (n:Int))],.int .i64 0]) (by first | (simp [results,Tryz.results27,go_sem];done) | (simp [results,Tryz.results27,go_sem, *];done)) rfl ?_
         rw [HRR.out.1,HJ.out]
         refine ⟨A5,c5,by rw [HRR.out.2.1],?_,?_⟩
         ·have h9:=ownsRow_setCell_below (ownsRow_setCell_below (ownsRow_setCell_below (ownsRow_setCell_below ho5 (a:=⟨g,1,none⟩) hg1 (.slice A5 (q + 1) c5)) (a:=⟨w.heap.size + 1 + 1,0,none⟩) hw1 (.int .i64 (j:Int))) (a:=⟨w.heap.size + 1 + 1,1,none⟩) hw1 (.slice A5 (q + 1) c5)) (a:=⟨w.heap.size + 1 + 1,2,none⟩) hw1 (.bool ((j:Int) == (n:Int)))
          obtain ⟨A7,c7,e7,_,hs7⟩:=ownInt h9 HRR.out.2.1 HRR.out.2.2
          cases e7
          rw [HRR.out.2.1]
          exact hs7
         ·exact below_set (below_set (below_set (below_set (below_step (below_step hBW hb1w (by omega)) hb5 (by omega)) (by show w.heap.size ≤ g;omega)) (by show w.heap.size ≤ w.heap.size + 1 + 1;omega)) (by show w.heap.size ≤ w.heap.size + 1 + 1;omega)) (by show w.heap.size ≤ w.heap.size + 1 + 1;omega)
        ·have hgt3:nextG F P V x = goTo (pSt F V) (P.drop (j + 1)) (j + 1):=hgt2
         have HG:=Lib.hid hgt3
         have hwj:IntKind.i64.wrap ((j:Int) + 1) = (j:Int) + 1:=IntWalk.i64_in _ (by omega)
         clear hgt2 hgt3
         go_wp2_with fail
         go_roundw
         case rel => exact ⟨j + 1,by omega,by omega,HG,⟨by go_simp,by go_simp,by go_simp,by go_simp,by go_simp,by go_simp⟩,Lib.hid (ownsRow_setCell_other hown.out (fun e => hne.out e.symm) _),below_set hbW hgA⟩
         case measure =>
          have hq:(wc.setCell ⟨g,0,none⟩ (.int .i64 ((j:Int) + 1))).cell? ⟨g,0,none⟩ = some (.int .i64 ((j:Int) + 1)):=by go_simp
          have hq2:((j:Int) + 1).toNat = j + 1:=Int.toNat_natCast (j + 1)
          simp only [hq,d0r,hq2,Int.toNat_natCast]
          exact Nat.sub_lt_sub_left hlt (Nat.lt_succ_self j)
      ·obtain rfl:j = n:=by omega
       have hnG:nextG F P V x = (j,false):=hgt.out.trans (goTo_end HR.out.2.2.2.2.2.2.2.1.symm)
       have hbW:=hbr
       have CRW:=CR2
       have hrr:rr = (⟨(j:Nat),x.path ++ [x.at_],decide (j = P.length)⟩,0):=by
        rw [HR.out.1,nextR_ok HR.out.2.1 HR.out.2.2.1 (by rw [HLL.out];exact HR.out.2.2.2.1) (by rw [hnG]),hnG]
       have hlq:(x.path ++ [x.at_]).length = q + 1:=by rw [List.length_append,HR.out.2.2.2.2.2.2.2.2];rfl
       have hwf9:∀ a ∈ x.path ++ [x.at_],inI a:=by
        intro a ha
        rcases List.mem_append.1 ha with ha | ha
        ·exact HX.out.2.2.2.2.2.2.wfInt a ha
        ·rw [List.mem_singleton.1 ha];exact hia
       have HRR:=Lib.hid (And.intro hrr (And.intro hlq hwf9))
       have hcl2:=fun w h => clone_Int A9 (q + 1) c9 (x.path ++ [x.at_]) w (by unfold inB;omega) h
       have hjd:decide (j = P.length) = true:=by rw [HR.out.2.2.2.2.2.2.2.1];simp
       have hgz:g < wr.heap.size:=block_lt_of_cell d0
       have hwz:w.heap.size + 1 + 1 < wr.heap.size:=CRW.lt
       have HJ:=Lib.hid hjd
       obtain ⟨u0,u1,u2,t0,t1,t2⟩:=CRW
       clear hrr hlq hwf9 hjd hnG
       go_upto_region 17 with fail
       refine wp_world ?_;intro W1 hW1
       have ho1:W1.ownsRow w2.heap.size 3 1 (.slice A9 (q + 1) c9) (q + 1) ((x.path ++ [x.at_]).flatMap intCs):=by rw [hW1];exact ownsRow_setCell_other hown.out (fun e => hne.out e.symm) _
       have hb1w:Below w2.heap.size w2 W1:=by rw [hW1];exact below_set hbW hgA
       have k0':W1.cell? ⟨g,0,none⟩ = some (.int .i64 (j:Int)):=by rw [hW1];go_simp
       have k1':W1.cell? ⟨g,1,none⟩ = some (.slice A9 (q + 1) c9):=by rw [hW1];go_simp
       have k2':W1.cell? ⟨g,2,none⟩ = some (.bool true):=by rw [hW1];go_simp
       have l1':W1.frozen? ⟨g,1,none⟩ = false:=by rw [hW1];go_simp
       have CR1:Cel3 W1 (w.heap.size + 1 + 1) (.int .i64 0) (.slice none 0 0) (.bool false):=CR.block (hb1w.block _ CR.lt)
       have hz1:W1.heap.size = wr.heap.size:=by rw [hW1];simp
       clear hW1
       obtain ⟨A6,c6,e6,_,hs6⟩:=ownInt ho1 HRR.out.2.1 HRR.out.2.2
       cases e6
       obtain ⟨v0,v1,v2,s0,s1,s2⟩:=CR1
       have HS6:=Lib.hid hs6
       clear hs6 d0 d1 d2 e0 e1 e2 u0 u1 u2 t0 t1 t2
       have hg1:g < W1.heap.size:=by omega
       have hw1:w.heap.size + 1 + 1 < W1.heap.size:=by omega
       go_wp2_with (go_at_call 68;refine (hcl2 _ HS6.out).mono ?_;rintro e w5 ⟨v5,rfl,ho5,hb5⟩;rw [HRR.out.2.1] at ho5;obtain ⟨A5,c5,rfl,_,_⟩:=ownInt ho5 HRR.out.2.1 HRR.out.2.2;obtain ⟨hc5,hf5⟩:=bcell hb5;(try simp only [bqh,bqc,bqf] at hc5 hf5);have hz5:=hb5.size;(try simp at hz5);(try have hy5:=nl1 hz5);(try have hx5:=nl2 hy5);refine szz w5 W1 ?_;intros)
       refine bodyPost_ret (v:=.tuple #[.agg #[.int .i64 (j:Int),.slice A5 (q + 1) c5,.bool true],.int .i64 0]) (by first | (simp [results,Tryz.results27,go_sem];done) | (simp [results,Tryz.results27,go_sem, *];done)) rfl ?_
       rw [HRR.out.1,HJ.out]
       refine ⟨A5,c5,by rw [HRR.out.2.1],?_,?_⟩
       ·have h9:=ownsRow_setCell_below (ownsRow_setCell_below (ownsRow_setCell_below (ownsRow_setCell_below ho5 (a:=⟨g,1,none⟩) hg1 (.slice A5 (q + 1) c5)) (a:=⟨w.heap.size + 1 + 1,0,none⟩) hw1 (.int .i64 (j:Int))) (a:=⟨w.heap.size + 1 + 1,1,none⟩) hw1 (.slice A5 (q + 1) c5)) (a:=⟨w.heap.size + 1 + 1,2,none⟩) hw1 (.bool true)
        obtain ⟨A7,c7,e7,_,hs7⟩:=ownInt h9 HRR.out.2.1 HRR.out.2.2
        cases e7
        rw [HRR.out.2.1]
        exact hs7
       ·exact below_set (below_set (below_set (below_set (below_step (below_step hBW hb1w (by omega)) hb5 (by omega)) (by show w.heap.size ≤ g;omega)) (by show w.heap.size ≤ w.heap.size + 1 + 1;omega)) (by show w.heap.size ≤ w.heap.size + 1 + 1;omega)) (by show w.heap.size ≤ w.heap.size + 1 + 1;omega)
  ·rw [nextR_done he hd]
   rw [hd] at h1
   clear hX hY hO he hql hpl hml hd h2 HLI
   go_enter Tryz.func27,Tryz.ntmps27
   go_wp2_with (go_at_call 19;refine (h1 _ (HX.out.1.now bel) (HX.out.2.now bel)).mono ?_;rintro e w1 ⟨rfl,hb1⟩;obtain ⟨hc1,hf1⟩:=bcell hb1;(try simp only [bqh,bqc,bqf] at hc1 hf1);have hz1:=hb1.size;(try simp at hz1);(try have hy1:=nl1 hz1);(try have hx1:=nl2 hy1);refine szz w1 w ?_;intros)
   refine bodyPost_ret (v:=.tuple #[.agg #[.int .i64 0,.slice none 0 0,.bool false],.int .i64 13]) (by first | (simp [results,Tryz.results27,go_sem];done) | (simp [results,Tryz.results27,go_sem, *];done)) rfl ?_
   exact ⟨none,0,rfl,Sl.nil,bel⟩
 ·rw [nextR_err he]
  have g1:(walkErr F P V x != 0) = true:=by simpa using he
  generalize walkErr F P V x = er at *
  clear hX hY hO he hql hpl hml h2 HLI
  go_enter Tryz.func27,Tryz.ntmps27
  go_wp2_with (go_at_call 19;refine (h1 _ (HX.out.1.now bel) (HX.out.2.now bel)).mono ?_;rintro e w1 ⟨rfl,hb1⟩;obtain ⟨hc1,hf1⟩:=bcell hb1;(try simp only [bqh,bqc,bqf] at hc1 hf1);have hz1:=hb1.size;(try simp at hz1);(try have hy1:=nl1 hz1);(try have hx1:=nl2 hy1);refine szz w1 w ?_;intros)
  refine bodyPost_ret (v:=.tuple #[.agg #[.int .i64 0,.slice none 0 0,.bool false],.int .i64 er]) (by first | (simp [results,Tryz.results27,go_sem];done) | (simp [results,Tryz.results27,go_sem, *];done)) rfl ?_
  exact ⟨none,0,rfl,Sl.nil,bel⟩
end Go.Proofs.YtbhkpepinogigaaGreat
