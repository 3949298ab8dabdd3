/- Texts merged: Nav1 Nav1r Nav2. -/
import Derived.Test.YtbhkpepinogigaaGreatNavP
import Derived.Test.YtbhkpepinogigaaGreatVal
/- nav.Check and the reference WalkFault. -/
namespace Go.Proofs.YtbhkpepinogigaaGreat
open Go.RowKit

theorem oneInt (l:List Int):∀ u ∈ l.flatMap intCs,u.oneCell' = true:=by
 intro u hu
 obtain ⟨x,_,hx⟩:=List.mem_flatMap.1 hu
 simp only [intCs,List.mem_cons,List.not_mem_nil,or_false] at hx
 rw [hx];rfl
theorem Sl.cellsInt {w:World} {S:Nat → Prop} {A:Option Addr} {n:Nat} {l:List Int} (h:Sl w S 1 RInt A n l):∀ p,A = some p → ∀ j u,(l.flatMap intCs)[j]? = some u → w.cell? (p.add j) = some u :=
 Sl.cells (by decide) (fun _ => rfl) (fun _ _ h => h.1) h
theorem Sl.wfInt {w:World} {S:Nat → Prop} {A:Option Addr} {n:Nat} {l:List Int} (h:Sl w S 1 RInt A n l):∀ a ∈ l,inI a:=Sl.all_wf h fun _ _ h => h.2
theorem news1 {W:World} {g:Nat} {x:Value} (h0:W.cell? ⟨g,0,none⟩ = some x):∀ p,some (⟨g,0,none⟩:Addr) = some p → ∀ j u,[x][j]? = some u → W.cell? (p.add j) = some u:=by
 intro p hp j u hj
 cases hp
 match j,hj with
 | 0,hj => simp only [List.getElem?_cons_zero,Option.some.injEq] at hj;subst hj;simpa [Addr.add] using h0
set_option maxHeartbeats 1000000 in
set_option maxRecDepth 100000 in
theorem clone_Int (A:Option Addr) (n c:Nat) (l:List Int) (w:World) (hn:inB 8 n) (h:Sl w (old w) 1 RInt A n l) :
  Calls Tryz.prog 68 #[.slice A n c] w (OwnRow intCs 3 1 w l):=by
 cases A with
 | none =>
  obtain ⟨rfl,rfl⟩:=h.of_none
  have hq:=fun w => Lib.run_eql_slice_nil (P:=Tryz.prog) w 23 _ none 0 c 0 0 Tryz.underlying23
  go_enter Tryz.func68,Tryz.ntmps68
  go_wp2_with fail
  go_ret
  exact ⟨_,rfl,World.ownsRow_nil _ _ _ _,Below.refl _ _⟩
 | some p =>
  obtain ⟨i0,hi,hz0,hz1,hz2⟩:=info_parts Tryz.infoIn9
  have hq:=fun w => Lib.run_eql_slice_nil (P:=Tryz.prog) w 23 _ (some p) n c 0 0 Tryz.underlying23
  have hc:=h.cellsInt p rfl
  have hl:=h.len
  unfold inB at hn
  have HC:=Lib.hid hc
  clear hc h
  go_enter Tryz.func68,Tryz.ntmps68
  go_wp2_with (at_builtin;refine wpList_append_sl rfl _ _ 23 rfl w.heap.size 3 i0 (.int .i64 0) 1 8 Tryz.underlying23 hi hz0 hz1 hz2 rfl (by decide) _ 0 [] rfl (World.ownsRow_made w #[] 0 (Nat.le_refl _) (Nat.zero_le _) (by simp)) (some p) n c (l.flatMap intCs) rfl (by rw [flat_len _ 1 (fun _ => rfl),hl]) (fun p' hp j u hj => by cases hp;exact Lib.cell?_alloc_some _ (HC.out j u hj)) (by simp) (oneInt l) (by unfold maxLen;omega) (by omega) (by simp) ?_;intro v1 w1 hown1 hb1 hz1)
  go_ret
  refine ⟨v1,rfl,by rw [hl];simpa using hown1,(Below.refl _ _).alloc (Nat.le_refl _) _ |>.trans hb1⟩
def RVp (w:World) (Vb:Option Addr) (nv cv:Nat) (V:List Val) (Q:Option Addr) (q cq:Nat) (p:List Int):Prop :=
 inB 32 nv ∧ nv ≤ cv ∧ inB 8 q ∧ q ≤ cq ∧ Sl w (old w) 3 RVal Vb nv V ∧ Sl w (old w) 1 RInt Q q p
theorem RVp.now {w w':World} {Vb Q:Option Addr} {nv cv q cq:Nat} {V:List Val} {p:List Int} (h:RVp w Vb nv cv V Q q cq p) (hb:Below w.heap.size w w'):RVp w' Vb nv cv V Q q cq p :=
 ⟨h.1,h.2.1,h.2.2.1,h.2.2.2.1,h.2.2.2.2.1.now hb,h.2.2.2.2.2.now hb⟩
set_option maxRecDepth 100000 in
set_option maxHeartbeats 4000000 in
theorem nav_Check (B:Option Addr) (m d:Nat) (F:List Fld) (A:Option Addr) (n c:Nat) (P:List Pag) (Vb:Option Addr) (nv cv:Nat) (V:List Val) (x:Wlk) (Q:Option Addr) (q cq:Nat) (w:World)
  (hX:RFo w B m d F A n c P) (hO:FldsOk F) (hY:RVp w Vb nv cv V Q q cq x.path) (hia:inI x.at_) :
  Calls Tryz.prog 19 #[.agg #[.slice B m d,.slice A n c],.slice Vb nv cv,.agg #[.int .i64 x.at_,.slice Q q cq,.bool x.done]] w (RetI w (walkErr F P V x)):=by
 have h1:=fun w h => sheet_Check B m d F A n c P w h hO
 have hml:=hX.2.2.2.2.1.len
 have hpl:=hX.2.2.2.2.2.len
 have hvl:=hY.2.2.2.2.1.len
 have hql:=hY.2.2.2.2.2.len
 have hcl:=fun w h => clone_Int Q q cq x.path w hY.2.2.1 h
 have hn1:=hX.2.2.1.l (by decide)
 have hn2:=hY.1.l (by decide)
 have hn3:=hX.1.l (by decide)
 have hn4:=hY.2.2.1
 unfold inL at hn1 hn2 hn3
 unfold inB at hn4
 have HX:=Lib.hid (And.intro hX hY)
 by_cases he:formErr F P = 0
 ·rw [he] at h1
  by_cases hl:V.length = F.length
  ·obtain rfl:nv = m:=by omega
   have g0:((nv:Int) != (nv:Int)) = false:=by simp
   obtain ⟨er,her⟩:∃ er,er = walkErr F P V x:=⟨_,rfl⟩
   rw [← her]
   have HE:=Lib.hid (And.intro he (And.intro hl (And.intro her (And.intro hpl (And.intro hvl hql)))))
   obtain ⟨i0,ei,ez0,ez1,ez2⟩:=info_parts Tryz.infoIn9
   clear hX hY he hl her hml hpl hvl hql hO
   go_enter Tryz.func19,Tryz.ntmps19
   go_wp2_with (go_at_call 66;refine (h1 _ (HX.out.1.now bel)).mono ?_;rintro e w1 ⟨rfl,hb1⟩;obtain ⟨hc1,hf1⟩:=bcell hb1;(try simp only [bqh,bqc,bqf] at hc1 hf1);have hz1:=hb1.size;(try simp at hz1);(try have hy1:=nl1 hz1);(try have hx1:=nl2 hy1);refine szz w1 w ?_;intros)
   have hB1:Below w.heap.size w w1:=bel
   have hlw:w.heap.size + 1 < w1.heap.size:=by have:=hb1.size;simp at this;omega
   have q0:w1.cell? ⟨w.heap.size,0,none⟩ = some (.slice B nv d):=(hb1.cell (p:=⟨w.heap.size,0,none⟩) (by simp;try omega)).trans (by go_simp)
   have q1:w1.cell? ⟨w.heap.size,1,none⟩ = some (.slice A n c):=(hb1.cell (p:=⟨w.heap.size,1,none⟩) (by simp;try omega)).trans (by go_simp)
   have p0:w1.cell? ⟨w.heap.size + 1,0,none⟩ = some (.int .i64 x.at_):=(hb1.cell (p:=⟨w.heap.size + 1,0,none⟩) (by simp;try omega)).trans (by go_simp)
   have p1:w1.cell? ⟨w.heap.size + 1,1,none⟩ = some (.slice Q q cq):=(hb1.cell (p:=⟨w.heap.size + 1,1,none⟩) (by simp;try omega)).trans (by go_simp)
   have p2:w1.cell? ⟨w.heap.size + 1,2,none⟩ = some (.bool x.done):=(hb1.cell (p:=⟨w.heap.size + 1,2,none⟩) (by simp;try omega)).trans (by go_simp)
   go_loopw [27] (fun i wr => ∃ k:Nat,k ≤ nv ∧ i = .int .i64 k ∧ Hid (firstErr (valErr V) k = 0) ∧ Below w1.heap.size w1 wr) (fun i _ => nv - (intOf i).toNat)
   case atStart => exact ⟨0,by omega,rfl,Lib.hid rfl,Below.refl _ _⟩
   case round =>
    obtain ⟨k,hk,rfl,hz,hbr⟩:=hrel
    have hBr:Below w.heap.size w wr:=below_step hB1 hbr (by omega)
    have hlr:w.heap.size + 1 < wr.heap.size:=Nat.lt_of_lt_of_le hlw hbr.size
    by_cases hlt:k < nv
    ·obtain ⟨b,o,v,hAe,hbl,hlv,hwf,x0,x1,x2⟩:=Val_at (HX.out.2.2.2.2.2.1.now hBr) hlt
     subst hAe
     have hbl':b < wr.heap.size:=hbl
     have hch:=fun w => value_Check v.k v.n v.s w (inS_max hwf.2.2)
     rw [show (⟨v.k,v.n,v.s⟩:Val) = v from rfl] at hch
     by_cases hv:valCheck v = 0
     ·rw [hv] at hch
      have HL:=Lib.hid (And.intro hlv hv)
      clear hlv hwf hbl hv
      go_wp2_with (go_at_call 67;refine (hch _).mono ?_;rintro e w2 ⟨rfl,hb2⟩;obtain ⟨hc2,hf2⟩:=bcell hb2;(try simp only [bqh,bqc,bqf] at hc2 hf2);have hz2:=hb2.size;(try simp at hz2);(try have hy2:=nl1 hz2);(try have hx2:=nl2 hy2);refine szz w2 wr ?_;intros)
      go_roundw
      case rel => exact ⟨k + 1,by omega,by go_num,Lib.hid (firstErr_next hz.out ((valErr_at HL.out.1).trans HL.out.2)),below_step hbr (show Below wr.heap.size wr w2 from bel) hbr.size⟩
      case measure => simp [intOf];omega
     ·have gv:(valCheck v != 0) = true:=by simpa using hv
      have HL:=Lib.hid (And.intro hlv hv)
      clear hlv hwf hbl hv
      obtain ⟨ve,hve⟩:∃ ve,ve = valCheck v:=⟨_,rfl⟩
      rw [← hve] at gv
      simp only [← hve] at hch
      have HV:=Lib.hid hve
      clear hve
      go_wp2_with (go_at_call 67;refine (hch _).mono ?_;rintro e w2 ⟨rfl,hb2⟩;obtain ⟨hc2,hf2⟩:=bcell hb2;(try simp only [bqh,bqc,bqf] at hc2 hf2);have hz2:=hb2.size;(try simp at hz2);(try have hy2:=nl1 hz2);(try have hx2:=nl2 hy2);refine szz w2 wr ?_;intros)
      go_ret
      refine ⟨ret_int ?_,below_step hBr (show Below wr.heap.size wr w2 from bel) hBr.size⟩
      have hh:=valsErr_hit hz.out HL.out.1 HL.out.2
      rw [HE.out.2.2.1,walkErr_val HE.out.1 HE.out.2.1 (by rw [hh];exact HL.out.2),hh,HV.out]
    ·have hke:k = nv:=by omega
     subst hke
     have hval:valsErr V = 0:=by unfold valsErr;rw [HE.out.2.2.2.2.1];exact hz.out
     have HVL:=Lib.hid hval
     have r0:=cell_keep q0 hbr
     have r1:=cell_keep q1 hbr
     have s0:=cell_keep p0 hbr
     have s1:=cell_keep p1 hbr
     have s2:=cell_keep p2 hbr
     clear hval q0 q1 p0 p1 p2
     go_upto_region 14 with fail
     go_cut [43,44,45] (fun s43 s44 s45 wx => s44 = .int .i64 ((q:Int) + 1) ∧ s45 = .int .i64 0 ∧ wx.ownsRow wr.heap.size 3 1 s43 (q + 1) ((x.path ++ [x.at_]).flatMap intCs) ∧ Below wr.heap.size wr wx)
     case first =>
      go_region_law (first
       | (go_simp;go_at_call 68;refine (hcl _ (HX.out.2.2.2.2.2.2.now bel)).mono ?_;rintro e w3 ⟨v3,rfl,ho3,hb3⟩;have hb3':=hb3;(try simp only [heap_drew] at hb3');obtain ⟨hc3,hf3⟩:=bcell hb3;(try simp only [bqh,bqc,bqf] at hc3 hf3);have hz3:=hb3.size;(try simp at hz3);(try have hy3:=nl1 hz3);(try have hx3:=nl2 hy3);refine szz w3 w ?_;intros;refine szz w3 wr ?_;intros;(try simp only [heap_drew,World.cell?_drew] at hc3 hz3))
       | (refine step_append_sl rfl (.tmp 39) (.tmp 42) 23 rfl wr.heap.size 3 i0 (.int .i64 0) 1 8 Tryz.underlying23 ei ez0 ez1 ez2 rfl (by decide) v3 _ _ rfl (by first | exact ownsRow_base ho3 (by first | (simp;done) | (simp;omega) | omega) | exact (ownsRow_base ho3 (by first | (simp;done) | (simp;omega) | omega)).alloc _) _ 1 1 [.int .i64 x.at_] rfl rfl (news1 (by go_simp)) (by simp) (by simp [Value.oneCell']) (by unfold maxLen;rw [HE.out.2.2.2.2.2];omega) (by rw [HE.out.2.2.2.2.2];omega) (by (try simp);omega) ?_;intro v4 w4 ho4 hb4 hz4;(try simp at hz4);rw [HE.out.2.2.2.2.2] at ho4;obtain ⟨g4,cap4,rfl,_,_⟩:=ho4.form (by omega)))
      all_goals
       go_wp2_with fail
       go_meet
       refine ⟨rfl,rfl,by rw [List.flatMap_append];simpa using ho4,Below.trans ?_ hb4⟩
       exact bel
     case rest =>
      obtain ⟨rfl,rfl,ho9,hb9⟩:=hcut
      generalize hwq:wr = wq at *
      clear hwq
      have hwf9:∀ a ∈ x.path ++ [x.at_],inI a:=by
       intro a ha
       rcases List.mem_append.1 ha with ha | ha
       ·exact HX.out.2.2.2.2.2.2.wfInt a ha
       ·rw [List.mem_singleton.1 ha];exact hia
      obtain ⟨A9,c9,rfl,hc9,hs9⟩:=ownInt ho9 (by rw [List.length_append,HE.out.2.2.2.2.2];rfl) hwf9
      have HS9:=Lib.hid hs9
      have hzc:=hb9.size
      have r0':=cell_keep r0 hb9
      have r1':=cell_keep r1 hb9
      have s0':=cell_keep s0 hb9
      have s2':=cell_keep s2 hb9
      have hBc:Below w.heap.size w wc:=below_step hBr hb9 (by omega)
      clear ho9 hwf9 hs9 r0 r1 s0 s1 s2 hbr hz hb1
      go_wp2_with fail
      go_loopw [11,45] (fun la i wz => ∃ j:Nat,j ≤ q + 1 ∧ i = .int .i64 j ∧ la = .int .i64 (prevAt (x.path ++ [x.at_]) j) ∧ Hid (firstErr (stepErr n (x.path ++ [x.at_])) j = 0) ∧ Below wc.heap.size wc wz) (fun _ i _ => q + 1 - (intOf i).toNat)
      case atStart => exact ⟨0,by omega,rfl,rfl,Lib.hid rfl,Below.refl _ _⟩
      case round =>
       obtain ⟨j,hj,rfl,rfl,hz,hbz⟩:=hrel
       have hBz:Below w.heap.size w wr:=below_step hBc hbz (by omega)
       have t1:=cell_keep r1' hbz
       obtain ⟨pv,hpv⟩:∃ pv,pv = prevAt (x.path ++ [x.at_]) j:=⟨_,rfl⟩
       rw [← hpv]
       by_cases hlt:j < q + 1
       ·obtain ⟨b,o,p,hAe,hbl,hlp,hpi,y0⟩:=Int_at (HS9.out.now hbz) hlt
        subst hAe
        have hbl':b < wr.heap.size:=hbl
        have hlj:(j:Int) < (q:Int) + 1:=by omega
        have HL:=Lib.hid (And.intro hlp hpv)
        clear hlp hpi hbl hpv
        by_cases hp1:p ≤ pv
        ·have g1:decide (p ≤ pv) = true:=by simpa using hp1
         have hno:walkOk n x = false:=walkOk_at hz.out HL.out.1 (.inl (by rw [← HL.out.2];exact hp1))
         have HNO:=Lib.hid hno
         clear hno
         go_wp2_with fail
         go_ret
         refine ⟨ret_int ?_,bel⟩
         rw [HE.out.2.2.1,walkErr_walk HE.out.1 HE.out.2.1 HVL.out,HE.out.2.2.2.1,HNO.out]
         rfl
        ·have g1:decide (p ≤ pv) = false:=by simpa using hp1
         by_cases hp2:(n:Int) < p
         ·have g2:decide ((n:Int) < p) = true:=by simpa using hp2
          have hno:walkOk n x = false:=walkOk_at hz.out HL.out.1 (.inr hp2)
          have HNO:=Lib.hid hno
          clear hno
          go_wp2_with fail
          go_ret
          refine ⟨ret_int ?_,bel⟩
          rw [HE.out.2.2.1,walkErr_walk HE.out.1 HE.out.2.1 HVL.out,HE.out.2.2.2.1,HNO.out]
          rfl
         ·have g2:decide ((n:Int) < p) = false:=by simpa using hp2
          have hst:stepErr n (x.path ++ [x.at_]) j = 0:=by rw [stepErr_at HL.out.1,if_neg];rw [← HL.out.2];omega
          have HNX:=Lib.hid (And.intro (firstErr_next hz.out hst) (show prevAt (x.path ++ [x.at_]) (j + 1) = p by simp only [prevAt,HL.out.1,Option.getD_some]))
          clear hst
          go_wp2_with fail
          go_roundw
          case rel => exact ⟨j + 1,by omega,by go_num,by rw [HNX.out.2],Lib.hid HNX.out.1,bel⟩
          case measure => simp [intOf];omega
       ·obtain rfl:j = q + 1:=by omega
        have hend:walkOk n x = (x.done == decide (x.at_ = n)):=walkOk_end (by rw [HE.out.2.2.2.2.2];exact hz.out)
        have hre:er = if walkOk n x then 0 else 15:=by rw [HE.out.2.2.1,walkErr_walk HE.out.1 HE.out.2.1 HVL.out,HE.out.2.2.2.1]
        rw [hend] at hre
        have t0:=cell_keep s0' hbz
        have t2:=cell_keep s2' hbz
        have t1:=cell_keep r1' hbz
        clear s0' s2' r0' r1' hend hz hpv
        cases hat:(x.at_ == (n:Int))
        ·have hat':decide (x.at_ = n) = false:=by simpa using hat
         rw [hat'] at hre
         have HAT:=Lib.hid (And.intro hat' hre)
         clear hat' hre
         cases hdn:x.done
         ·rw [hdn] at t2
          have HR:=Lib.hid (show er = 0 by rw [HAT.out.2,hdn];rfl)
          clear HAT hdn
          go_wp2_with fail
          go_ret
          exact ⟨ret_int HR.out.symm,bel⟩
         ·rw [hdn] at t2
          have HR:=Lib.hid (show er = 15 by rw [HAT.out.2,hdn];rfl)
          clear HAT hdn
          go_wp2_with fail
          go_ret
          exact ⟨ret_int HR.out.symm,bel⟩
        ·have hat':decide (x.at_ = n) = true:=by simpa using hat
         rw [hat'] at hre
         have HAT:=Lib.hid (And.intro hat' hre)
         clear hat' hre
         cases hdn:x.done
         ·rw [hdn] at t2
          have HR:=Lib.hid (show er = 15 by rw [HAT.out.2,hdn];rfl)
          clear HAT hdn
          go_wp2_with fail
          go_ret
          exact ⟨ret_int HR.out.symm,bel⟩
         ·rw [hdn] at t2
          have HR:=Lib.hid (show er = 0 by rw [HAT.out.2,hdn];rfl)
          clear HAT hdn
          go_wp2_with fail
          go_ret
          exact ⟨ret_int HR.out.symm,bel⟩
  ·obtain ⟨er,her⟩:∃ er,er = walkErr F P V x:=⟨_,rfl⟩
   rw [← her]
   rw [walkErr_len he hl] at her
   subst her
   have g0:((nv:Int) != (m:Int)) = true:=by simp;omega
   clear hX hY he hl hml hpl hvl hql hO
   go_enter Tryz.func19,Tryz.ntmps19
   go_wp2_with (go_at_call 66;refine (h1 _ (HX.out.1.now bel)).mono ?_;rintro e w1 ⟨rfl,hb1⟩;obtain ⟨hc1,hf1⟩:=bcell hb1;(try simp only [bqh,bqc,bqf] at hc1 hf1);have hz1:=hb1.size;(try simp at hz1);(try have hy1:=nl1 hz1);(try have hx1:=nl2 hy1);refine szz w1 w ?_;intros)
   go_ret
   exact ⟨rfl,bel⟩
 ·obtain ⟨er,her⟩:∃ er,er = walkErr F P V x:=⟨_,rfl⟩
  rw [← her]
  rw [walkErr_form he] at her
  have g0:(er != 0) = true:=by rw [her];simpa using he
  rw [← her] at h1
  clear hX hY he her hml hpl hvl hql hO
  go_enter Tryz.func19,Tryz.ntmps19
  go_wp2_with (go_at_call 66;refine (h1 _ (HX.out.1.now bel)).mono ?_;rintro e w1 ⟨rfl,hb1⟩;obtain ⟨hc1,hf1⟩:=bcell hb1;(try simp only [bqh,bqc,bqf] at hc1 hf1);have hz1:=hb1.size;(try simp at hz1);(try have hy1:=nl1 hz1);(try have hx1:=nl2 hy1);refine szz w1 w ?_;intros)
  go_ret
  exact ⟨rfl,bel⟩
end Go.Proofs.YtbhkpepinogigaaGreat
/- The reference WalkFault. -/
namespace Go.Proofs.YtbhkpepinogigaaGreat
open Go.RowKit

set_option maxRecDepth 100000 in
set_option maxHeartbeats 4000000 in
theorem ref_WalkFault (B:Option Addr) (m d:Nat) (F:List Fld) (A:Option Addr) (n c:Nat) (P:List Pag) (Vb:Option Addr) (nv cv:Nat) (V:List Val) (x:Wlk) (Q:Option Addr) (q cq:Nat) (w:World)
  (hX:RFo w B m d F A n c P) (hO:FldsOk F) (hY:RVp w Vb nv cv V Q q cq x.path) (_hia:inI x.at_) :
  Calls Tryz.prog 21 #[.agg #[.slice B m d,.slice A n c],.slice Vb nv cv,.agg #[.int .i64 x.at_,.slice Q q cq,.bool x.done]] w (RetI w (walkErr F P V x)):=by
 have h1:=fun w h => ref_FormFault B m d F A n c P w h hO
 have hml:=hX.2.2.2.2.1.len
 have hpl:=hX.2.2.2.2.2.len
 have hvl:=hY.2.2.2.2.1.len
 have hql:=hY.2.2.2.2.2.len
 have hn1:=hX.2.2.1.l (by decide)
 have hn2:=hY.1.l (by decide)
 have hn3:=hX.1.l (by decide)
 have hn4:=hY.2.2.1
 unfold inL at hn1 hn2 hn3
 unfold inB at hn4
 have HX:=Lib.hid (And.intro hX hY)
 by_cases he:formErr F P = 0
 ·rw [he] at h1
  by_cases hl:V.length = F.length
  ·obtain rfl:nv = m:=by omega
   have g0:((nv:Int) != (nv:Int)) = false:=by simp
   obtain ⟨er,her⟩:∃ er,er = walkErr F P V x:=⟨_,rfl⟩
   rw [← her]
   have HE:=Lib.hid (And.intro he (And.intro hl (And.intro her (And.intro hpl (And.intro hvl hql)))))
   clear hX hY he hl her hml hpl hvl hql hO
   go_enter Tryz.func21,Tryz.ntmps21
   go_wp2_with (go_at_call 70;refine (h1 _ (HX.out.1.now bel)).mono ?_;rintro e w1 ⟨rfl,hb1⟩;obtain ⟨hc1,hf1⟩:=bcell hb1;(try simp only [bqh,bqc,bqf] at hc1 hf1);have hz1:=hb1.size;(try simp at hz1);(try have hy1:=nl1 hz1);(try have hx1:=nl2 hy1);refine szz w1 w ?_;intros)
   have hB1:Below w.heap.size w w1:=bel
   have hlw:w.heap.size + 1 < w1.heap.size:=by have:=hb1.size;simp at this;omega
   have q0:w1.cell? ⟨w.heap.size,0,none⟩ = some (.slice B nv d):=(hb1.cell (p:=⟨w.heap.size,0,none⟩) (by simp;try omega)).trans (by go_simp)
   have q1:w1.cell? ⟨w.heap.size,1,none⟩ = some (.slice A n c):=(hb1.cell (p:=⟨w.heap.size,1,none⟩) (by simp;try omega)).trans (by go_simp)
   have p0:w1.cell? ⟨w.heap.size + 1,0,none⟩ = some (.int .i64 x.at_):=(hb1.cell (p:=⟨w.heap.size + 1,0,none⟩) (by simp;try omega)).trans (by go_simp)
   have p1:w1.cell? ⟨w.heap.size + 1,1,none⟩ = some (.slice Q q cq):=(hb1.cell (p:=⟨w.heap.size + 1,1,none⟩) (by simp;try omega)).trans (by go_simp)
   have p2:w1.cell? ⟨w.heap.size + 1,2,none⟩ = some (.bool x.done):=(hb1.cell (p:=⟨w.heap.size + 1,2,none⟩) (by simp;try omega)).trans (by go_simp)
   go_loopw [28] (fun i wr => ∃ k:Nat,k ≤ nv ∧ i = .int .i64 k ∧ Hid (firstErr (valErr V) k = 0) ∧ Below w1.heap.size w1 wr) (fun i _ => nv - (intOf i).toNat)
   case atStart => exact ⟨0,by omega,rfl,Lib.hid rfl,Below.refl _ _⟩
   case round =>
    obtain ⟨k,hk,rfl,hz,hbr⟩:=hrel
    have hBr:Below w.heap.size w wr:=below_step hB1 hbr (by omega)
    have hlr:w.heap.size + 1 < wr.heap.size:=Nat.lt_of_lt_of_le hlw hbr.size
    by_cases hlt:k < nv
    ·obtain ⟨b,o,v,hAe,hbl,hlv,hwf,x0,x1,x2⟩:=Val_at (HX.out.2.2.2.2.2.1.now hBr) hlt
     subst hAe
     have hbl':b < wr.heap.size:=hbl
     have hch:=fun w => ref_ValueFault v.k v.n v.s w (inS_max hwf.2.2)
     rw [show (⟨v.k,v.n,v.s⟩:Val) = v from rfl] at hch
     by_cases hv:valCheck v = 0
     ·rw [hv] at hch
      have HL:=Lib.hid (And.intro hlv hv)
      clear hlv hwf hbl hv
      go_wp2_with (go_at_call 71;refine (hch _).mono ?_;rintro e w2 ⟨rfl,hb2⟩;obtain ⟨hc2,hf2⟩:=bcell hb2;(try simp only [bqh,bqc,bqf] at hc2 hf2);have hz2:=hb2.size;(try simp at hz2);(try have hy2:=nl1 hz2);(try have hx2:=nl2 hy2);refine szz w2 wr ?_;intros)
      go_roundw
      case rel => exact ⟨k + 1,by omega,by go_num,Lib.hid (firstErr_next hz.out ((valErr_at HL.out.1).trans HL.out.2)),below_step hbr (show Below wr.heap.size wr w2 from bel) hbr.size⟩
      case measure => simp [intOf];omega
     ·have gv:(valCheck v != 0) = true:=by simpa using hv
      have HL:=Lib.hid (And.intro hlv hv)
      clear hlv hwf hbl hv
      obtain ⟨ve,hve⟩:∃ ve,ve = valCheck v:=⟨_,rfl⟩
      rw [← hve] at gv
      simp only [← hve] at hch
      have HV:=Lib.hid hve
      clear hve
      go_wp2_with (go_at_call 71;refine (hch _).mono ?_;rintro e w2 ⟨rfl,hb2⟩;obtain ⟨hc2,hf2⟩:=bcell hb2;(try simp only [bqh,bqc,bqf] at hc2 hf2);have hz2:=hb2.size;(try simp at hz2);(try have hy2:=nl1 hz2);(try have hx2:=nl2 hy2);refine szz w2 wr ?_;intros)
      go_ret
      refine ⟨ret_int ?_,below_step hBr (show Below wr.heap.size wr w2 from bel) hBr.size⟩
      have hh:=valsErr_hit hz.out HL.out.1 HL.out.2
      rw [HE.out.2.2.1,walkErr_val HE.out.1 HE.out.2.1 (by rw [hh];exact HL.out.2),hh,HV.out]
    ·have hke:k = nv:=by omega
     subst hke
     have hval:valsErr V = 0:=by unfold valsErr;rw [HE.out.2.2.2.2.1];exact hz.out
     have HVL:=Lib.hid hval
     have r0:=cell_keep q0 hbr
     have r1:=cell_keep q1 hbr
     have s0:=cell_keep p0 hbr
     have s1:=cell_keep p1 hbr
     have s2:=cell_keep p2 hbr
     clear hval q0 q1 p0 p1 p2
     clear r0 hbr hz hb1
     go_upto_region 14 with fail
     go_cut [12] (fun s12 wx => s12 = .bool (refGood n x 0) ∧ Below wr.heap.size wr wx)
     case first =>
      have hg:refGood n x 0 = (decide (0 ≤ x.at_) && decide (x.at_ ≤ n) && (x.done == decide (x.at_ = n))):=rfl
      by_cases ha:0 ≤ x.at_
      ·have g1:decide (0 ≤ x.at_) = true:=by simpa using ha
       by_cases hb:x.at_ ≤ n
       ·have g2:decide (x.at_ ≤ (n:Int)) = true:=by simpa using hb
        rw [g1,g2,Bool.true_and,Bool.true_and] at hg
        have HG:=Lib.hid hg
        clear hg
        cases hc:(x.at_ == (n:Int))
        ·have hd:decide (x.at_ = n) = false:=by simpa using hc
         have HD:=Lib.hid hd
         clear hd
         go_wp2_with fail
         go_meet
         refine ⟨by rw [HG.out,HD.out];cases x.done <;> rfl,Below.refl _ _⟩
        ·have hd:decide (x.at_ = n) = true:=by simpa using hc
         have HD:=Lib.hid hd
         clear hd
         go_wp2_with fail
         go_meet
         refine ⟨by rw [HG.out,HD.out];cases x.done <;> rfl,Below.refl _ _⟩
       ·have g2:decide (x.at_ ≤ (n:Int)) = false:=by simpa using hb
        rw [g1,g2,Bool.true_and,Bool.false_and] at hg
        have HG:=Lib.hid hg
        clear hg
        go_wp2_with fail
        go_meet
        refine ⟨by rw [HG.out],Below.refl _ _⟩
      ·have g1:decide (0 ≤ x.at_) = false:=by simpa using ha
       rw [g1,Bool.false_and,Bool.false_and] at hg
       have HG:=Lib.hid hg
       clear hg
       go_wp2_with fail
       go_meet
       refine ⟨by rw [HG.out],Below.refl _ _⟩
     case rest =>
      obtain ⟨rfl,hb9⟩:=hcut
      generalize hwq:wr = wq at *
      clear hwq
      have hzc:=hb9.size
      have s0':=cell_keep s0 hb9
      have s1':=cell_keep s1 hb9
      have hBc:Below w.heap.size w wc:=below_step hBr hb9 (by omega)
      clear r1 s0 s1 s2
      go_wp2_with fail
      go_loopw [12,62] (fun la i wz => ∃ j:Nat,j ≤ q ∧ i = .int .i64 j ∧ la = .bool (refGood n x j) ∧ Below wc.heap.size wc wz) (fun _ i _ => q - (intOf i).toNat)
      case atStart => exact ⟨0,by omega,rfl,rfl,Below.refl _ _⟩
      case round =>
       obtain ⟨j,hj,rfl,rfl,hbz⟩:=hrel
       have hBz:Below w.heap.size w wr:=below_step hBc hbz (by omega)
       have t0:=cell_keep s0' hbz
       have t1:=cell_keep s1' hbz
       obtain ⟨gd,hgd⟩:∃ gd,gd = refGood n x j:=⟨_,rfl⟩
       rw [← hgd]
       by_cases hlt:j < q
       ·obtain ⟨b,o,p,hAe,hbl,hlp,hpi,y0⟩:=Int_at (HX.out.2.2.2.2.2.2.now hBz) hlt
        have hbl':b < wr.heap.size:=hbl
        have hnx:refGood n x (j + 1) = (gd && (decide (0 ≤ p) && decide (p < x.at_) && (j == 0 || decide (prevAt x.path j < p)))):=by rw [hgd,refGood,hlp]
        have HAE:=Lib.hid hAe
        subst hAe
        clear hgd
        cases gd
        ·rw [Bool.false_and] at hnx
         have HL:=Lib.hid hnx
         clear hnx hlp hpi hbl
         go_wp2_with fail
         go_roundw
         case rel => exact ⟨j + 1,by omega,by go_num,by rw [HL.out],bel⟩
         case measure => simp [intOf];omega
        ·rw [Bool.true_and] at hnx
         by_cases hp1:0 ≤ p
         ·have g1:decide (0 ≤ p) = true:=by simpa using hp1
          by_cases hp2:p < x.at_
          ·have g2:decide (p < x.at_) = true:=by simpa using hp2
           rw [g1,g2,Bool.true_and,Bool.true_and] at hnx
           rcases j with _ | j
           ·have HL:=Lib.hid hnx
            clear hnx hlp hpi hbl
            have g3:(((0:Nat):Int) == 0) = true:=rfl
            rw [Nat.add_zero] at y0
            go_wp2_with fail
            go_roundw
            case rel => exact ⟨0 + 1,by omega,by go_num,by rw [HL.out];rfl,bel⟩
            case measure => simp [intOf];omega
           ·obtain ⟨b',o',p',hAe',hbl2,hlp',hpi',y1⟩:=Int_at (HX.out.2.2.2.2.2.2.now hBz) (show j < q by omega)
            cases hAe'
            have g3:((j:Int) + 1 == 0) = false:=by simp only [beq_eq_false_iff_ne,ne_eq];omega
            have hpv:prevAt x.path (j + 1) = p':=by simp only [prevAt,hlp',Option.getD_some]
            have hj0:(j + 1 == 0) = false:=rfl
            rw [hpv,hj0,Bool.false_or] at hnx
            have HL:=Lib.hid hnx
            clear hnx hlp hpi hbl hlp' hpi' hbl2 hpv hj0
            cases hp3:decide (p' < p)
            all_goals
             go_wp2_with fail
             go_roundw
             case rel => exact ⟨j + 1 + 1,by omega,by go_num,by rw [HL.out,hp3],bel⟩
             case measure => simp [intOf];omega
          ·have g2:decide (p < x.at_) = false:=by simpa using hp2
           rw [g1,g2,Bool.true_and,Bool.false_and] at hnx
           have HL:=Lib.hid hnx
           clear hnx hlp hpi hbl
           go_wp2_with fail
           go_roundw
           case rel => exact ⟨j + 1,by omega,by go_num,by rw [HL.out],bel⟩
           case measure => simp [intOf];omega
         ·have g1:decide (0 ≤ p) = false:=by simpa using hp1
          rw [g1,Bool.false_and,Bool.false_and] at hnx
          have HL:=Lib.hid hnx
          clear hnx hlp hpi hbl
          go_wp2_with fail
          go_roundw
          case rel => exact ⟨j + 1,by omega,by go_num,by rw [HL.out],bel⟩
          case measure => simp [intOf];omega
       ·obtain rfl:j = q:=by omega
        have hre:er = if gd then 0 else 15:=by
         rw [HE.out.2.2.1,walkErr_walk HE.out.1 HE.out.2.1 HVL.out,HE.out.2.2.2.1,hgd,← walkOk_ref,HE.out.2.2.2.2.2]
        clear hgd
        cases gd
        ·have HR:=Lib.hid (show er = 15 from hre)
         clear hre
         go_wp2_with fail
         go_ret
         exact ⟨ret_int HR.out.symm,bel⟩
        ·have HR:=Lib.hid (show er = 0 from hre)
         clear hre
         go_wp2_with fail
         go_ret
         exact ⟨ret_int HR.out.symm,bel⟩
  ·obtain ⟨er,her⟩:∃ er,er = walkErr F P V x:=⟨_,rfl⟩
   rw [← her]
   rw [walkErr_len he hl] at her
   subst her
   have g0:((nv:Int) != (m:Int)) = true:=by simp;omega
   clear hX hY he hl hml hpl hvl hql hO
   go_enter Tryz.func21,Tryz.ntmps21
   go_wp2_with (go_at_call 70;refine (h1 _ (HX.out.1.now bel)).mono ?_;rintro e w1 ⟨rfl,hb1⟩;obtain ⟨hc1,hf1⟩:=bcell hb1;(try simp only [bqh,bqc,bqf] at hc1 hf1);have hz1:=hb1.size;(try simp at hz1);(try have hy1:=nl1 hz1);(try have hx1:=nl2 hy1);refine szz w1 w ?_;intros)
   go_ret
   exact ⟨rfl,bel⟩
 ·obtain ⟨er,her⟩:∃ er,er = walkErr F P V x:=⟨_,rfl⟩
  rw [← her]
  rw [walkErr_form he] at her
  have g0:(er != 0) = true:=by rw [her];simpa using he
  rw [← her] at h1
  clear hX hY he her hml hpl hvl hql hO
  go_enter Tryz.func21,Tryz.ntmps21
  go_wp2_with (go_at_call 70;refine (h1 _ (HX.out.1.now bel)).mono ?_;rintro e w1 ⟨rfl,hb1⟩;obtain ⟨hc1,hf1⟩:=bcell hb1;(try simp only [bqh,bqc,bqf] at hc1 hf1);have hz1:=hb1.size;(try simp at hz1);(try have hy1:=nl1 hz1);(try have hx1:=nl2 hy1);refine szz w1 w ?_;intros)
  go_ret
  exact ⟨rfl,bel⟩
end Go.Proofs.YtbhkpepinogigaaGreat
/- nav.Lacks and the reference WalkLacks. -/
namespace Go.Proofs.YtbhkpepinogigaaGreat
open Go.RowKit

theorem inI0:inI 0:=by unfold inI;decide +kernel
set_option maxRecDepth 100000 in
set_option maxHeartbeats 4000000 in
theorem nav_Lacks (B:Option Addr) (m d:Nat) (F:List Fld) (A:Option Addr) (n c:Nat) (P:List Pag) (Vb:Option Addr) (nv cv:Nat) (V:List Val) (at_:Int) (w:World)
  (hX:RFo w B m d F A n c P) (hO:FldsOk F) (hY:RVp w Vb nv cv V none 0 0 []) :
  Calls Tryz.prog 20 #[.agg #[.slice B m d,.slice A n c],.slice Vb nv cv,.int .i64 at_] w (OwnRowC strCs 9 1 w (lackR F P V at_).1 (lackR F P V at_).2):=by
 have h1:=fun w h h' => nav_Check B m d F A n c P Vb nv cv V ⟨0,[],false⟩ none 0 0 w h hO h' inI0
 have hml:=hX.2.2.2.2.1.len
 have hpl:=hX.2.2.2.2.2.len
 have hvl:=hY.2.2.2.2.1.len
 have hn3:=hX.1.l (by decide)
 have HX:=Lib.hid (And.intro hX hY)
 dsimp only at h1
 by_cases he:walkErr F P V ⟨0,[],false⟩ = 0
 ·rw [he] at h1
  by_cases ha:at_ < 0 ∨ (P.length:Int) ≤ at_
  ·rw [lackR_out he ha]
   rw [hpl] at ha
   clear hX hY he hml hpl hvl hO
   by_cases ha0:at_ < 0
   ·have g1:decide (at_ < 0) = true:=by simpa using ha0
    go_enter Tryz.func20,Tryz.ntmps20
    go_wp2_with (go_at_call 19;refine (h1 _ (HX.out.1.now bel) (HX.out.2.now bel)).mono ?_;rintro e w1 ⟨rfl,hb1⟩;obtain ⟨hc1,hf1⟩:=bcell hb1;(try simp only [bqh,bqc,bqf] at hc1 hf1);have hz1:=hb1.size;(try simp at hz1);(try have hy1:=nl1 hz1);(try have hx1:=nl2 hy1);refine szz w1 w ?_;intros)
    go_ret2
    exact NilC.own _ _ _ ⟨rfl,bel⟩
   ·have ha1:(n:Int) ≤ at_:=by omega
    have g1:decide (at_ < 0) = false:=by simpa using ha0
    have g2:decide ((n:Int) ≤ at_) = true:=by simpa using ha1
    go_enter Tryz.func20,Tryz.ntmps20
    go_wp2_with (go_at_call 19;refine (h1 _ (HX.out.1.now bel) (HX.out.2.now bel)).mono ?_;rintro e w1 ⟨rfl,hb1⟩;obtain ⟨hc1,hf1⟩:=bcell hb1;(try simp only [bqh,bqc,bqf] at hc1 hf1);have hz1:=hb1.size;(try simp at hz1);(try have hy1:=nl1 hz1);(try have hx1:=nl2 hy1);refine szz w1 w ?_;intros)
    go_ret2
    exact NilC.own _ _ _ ⟨rfl,bel⟩
  ·obtain ⟨k0,hk0⟩:∃ k0:Nat,at_ = k0:=⟨at_.toNat,by omega⟩
   subst hk0
   have hk0n:k0 < n:=by omega
   have hpp:P[k0]? = some (P[k0]'(by omega)):=List.getElem?_eq_getElem _
   obtain ⟨p,hp⟩:∃ p,P[k0]? = some p:=⟨_,hpp⟩
   rw [lackR_in he hp]
   have hz:=walkErr_zero he
   have hfl:=page_fields_len (formErr_pages hz.1) hp
   have hf14:=(fieldsErr_all (formErr_flds hz.1)).1
   have hnm:=fun s => pages_names (s:=s) (formErr_pages hz.1) hp
   have g1:decide ((k0:Int) < 0) = false:=by simp
   have g2:decide (n ≤ k0) = false:=by simp;omega
   have hk0i:(k0:Int) < (n:Int):=by omega
   obtain ⟨i0,ei,ez0,ez1,ez2⟩:=info_parts Tryz.infoStr'
   have HE:=Lib.hid (And.intro hz (And.intro hp (And.intro hnm (And.intro hml (And.intro hpl hvl)))))
   have hfi:=fun s w h => field_Find B m d F s w hn3 h
   clear hX hY he hml hpl hvl hO ha hp hpp hz hnm
   go_enter Tryz.func20,Tryz.ntmps20
   go_upto_region 7 with (go_at_call 19;refine (h1 _ (HX.out.1.now bel) (HX.out.2.now bel)).mono ?_;rintro e w1 ⟨rfl,hb1⟩;obtain ⟨hc1,hf1⟩:=bcell hb1;(try simp only [bqh,bqc,bqf] at hc1 hf1);have hz1:=hb1.size;(try simp at hz1);(try have hy1:=nl1 hz1);(try have hx1:=nl2 hy1);refine szz w1 w ?_;intros)
   have hB1:Below w.heap.size w w1:=bel
   have hlw:w.heap.size < w1.heap.size:=by have:=hb1.size;simp at this;omega
   have q0:w1.cell? ⟨w.heap.size,0,none⟩ = some (.slice B m d):=(hb1.cell (p:=⟨w.heap.size,0,none⟩) (by simp)).trans (by go_simp)
   have q1:w1.cell? ⟨w.heap.size,1,none⟩ = some (.slice A n c):=(hb1.cell (p:=⟨w.heap.size,1,none⟩) (by simp)).trans (by go_simp)
   obtain ⟨b,o,p',Y,D,X,C,hAe,hbl,hlp,hrep,x0,x1,x2,x3,x4,x5,x6,x7⟩:=Pag_at (HX.out.1.2.2.2.2.2.nowN keeps_Pag hB1) hk0n
   obtain rfl:p = p':=Option.some.inj (HE.out.2.1.symm.trans hlp)
   subst hAe
   have hbl':b < w1.heap.size:=hbl
   obtain ⟨_,r2,r3,r4,_⟩:=hrep.open_
   have HR4:=Lib.hid r4
   have hfl14:p.fields.length ≤ 14:=by omega
   clear hbl hlp hrep r2 r3 r4
   go_wp2_with fail
   go_loopw [9,37] (fun v i wr => ∃ k:Nat,k ≤ p.fields.length ∧ i = .int .i64 k ∧ Hid (wr.ownsRow w1.heap.size 9 1 v (lackL F V (p.fields.take k)).length ((lackL F V (p.fields.take k)).flatMap strCs)) ∧ Below w1.heap.size w1 wr) (fun _ i _ => p.fields.length - (intOf i).toNat)
   case atStart => exact ⟨0,by omega,rfl,Lib.hid (by simpa [lackL] using World.ownsRow_nil _ _ _ _),Below.refl _ _⟩
   case round =>
    obtain ⟨k,hk,rfl,hown,hbr⟩:=hrel
    have hBr:Below w.heap.size w wr:=below_step hB1 hbr hB1.size
    have r0:=cell_keep q0 hbr
    have hlr:w.heap.size < wr.heap.size:=Nat.lt_of_lt_of_le hlw hbr.size
    by_cases hlt:k < p.fields.length
    ·obtain ⟨b2,o2,s,hYe,hbl,hls,hsi,y0⟩:=Str_at (HR4.out.now hbr) hlt
     subst hYe
     have hbl2:b2 < wr.heap.size:=hbl
     have hany:=HE.out.2.2.1 s (List.mem_of_getElem? hls)
     obtain ⟨hfa,v,hv,hvo⟩:=valOf_at hany HE.out.1.2.1
     have hfa':fieldAt F s < nv:=by rw [← HE.out.2.2.2.2.2];exact hfa
     obtain ⟨b3,o3,v',hVe,hbl3,hlv,hwf,z0,z1,z2⟩:=Val_at (HX.out.2.2.2.2.2.1.now hBr) hfa'
     obtain rfl:v = v':=Option.some.inj (hv.symm.trans hlv)
     have hvc:=valsErr_ok HE.out.1.2.2.1 v (List.mem_of_getElem? hv)
     have hkn:=fun w => value_Known v.k v.n v.s w (inS_max hwf.2.2)
     rw [show (⟨v.k,v.n,v.s⟩:Val) = v from rfl,lacks_known hvo hvc] at hkn
     have hVE:=Lib.hid hVe
     subst hVe
     have hbl3':b3 < wr.heap.size:=hbl3
     have hfr:findRes (hasName s) F = ((fieldAt F s:Int),0):=by unfold findRes;rw [hany];rfl
     have hfi':=fun w h => hfi s w h
     rw [hfr] at hfi'
     generalize fieldAt F s = fa at *
     have hfai:(fa:Int) < (nv:Int):=by omega
     have htl:(lackL F V (p.fields.take k)).length ≤ 14:=by
      have:=lackL_len F V (p.fields.take k)
      rw [List.length_take] at this
      omega
     dsimp only at hfi'
     cases hlk:lacks F V s
     ·rw [hlk] at hkn
      have HT:=Lib.hid (lackL_no hls hlk)
      clear hlk hls hv hvo hlv hwf hvc hbl hbl3 hany hfa hfa' hfr hsi
      go_wp2_with (first
       | (go_at_call 57;refine (hfi' _ (HX.out.1.2.2.2.2.1.nowN keeps_Fld (show Below w.heap.size w _ from bel))).mono ?_;rintro e w4 ⟨rfl,hb4⟩;obtain ⟨hc4,hf4⟩:=bcell hb4;(try simp only [bqh,bqc,bqf] at hc4 hf4);have hz4:=hb4.size;(try simp at hz4);(try have hy4:=nl1 hz4);(try have hx4:=nl2 hy4);refine szz w4 wr ?_;intros)
       | (go_at_call 69;refine (hkn _).mono ?_;rintro e w5 ⟨rfl,hb5⟩;obtain ⟨hc5,hf5⟩:=bcell hb5;(try simp only [bqh,bqc,bqf] at hc5 hf5);have hz5:=hb5.size;(try simp at hz5);(try have hy5:=nl1 hz5);(try have hx5:=nl2 hy5);refine szz w5 wr ?_;intros;refine szz w5 w4 ?_;intros))
      go_roundw
      case rel => exact ⟨k + 1,by omega,by go_num,Lib.hid (by rw [HT.out];exact ownsRow_keep hown.out (show Below wr.heap.size wr w5 from bel)),below_step hbr (show Below wr.heap.size wr w5 from bel) hbr.size⟩
      case measure => simp [intOf];omega
     ·rw [hlk] at hkn
      have HT:=Lib.hid (lackL_yes hls hlk)
      clear hlk hls hv hvo hlv hwf hvc hbl hbl3 hany hfa hfa' hfr hsi
      go_wp2_with (first
       | (go_at_call 57;refine (hfi' _ (HX.out.1.2.2.2.2.1.nowN keeps_Fld (show Below w.heap.size w _ from bel))).mono ?_;rintro e w4 ⟨rfl,hb4⟩;obtain ⟨hc4,hf4⟩:=bcell hb4;(try simp only [bqh,bqc,bqf] at hc4 hf4);have hz4:=hb4.size;(try simp at hz4);(try have hy4:=nl1 hz4);(try have hx4:=nl2 hy4);refine szz w4 wr ?_;intros)
       | (go_at_call 69;refine (hkn _).mono ?_;rintro e w5 ⟨rfl,hb5⟩;obtain ⟨hc5,hf5⟩:=bcell hb5;(try simp only [bqh,bqc,bqf] at hc5 hf5);have hz5:=hb5.size;(try simp at hz5);(try have hy5:=nl1 hz5);(try have hx5:=nl2 hy5);refine szz w5 wr ?_;intros;refine szz w5 w4 ?_;intros)
       | (at_builtin;refine wpList_append1 rfl _ _ 37 rfl w1.heap.size 9 i0 (.string ⟨#[]⟩) 1 16 Tryz.underlying37 ei ez0 ez1 ez2 rfl (by decide) _ (lackL F V (p.fields.take k)).length _ rfl (ownsRow_keep hown.out (show Below wr.heap.size wr w5 from bel)) [.string s] 9 rfl _ rfl (by first | rfl | simp) rfl (by simp [Value.oneCell']) (by omega) (by unfold maxLen;omega) (by have:=hbr.size;first | omega | (simp;omega)) ?_;intro v6 w6 hown6 hb6 hz6 _))
      go_roundw
      case rel => exact ⟨k + 1,by omega,by go_num,Lib.hid (by rw [HT.out];rw [List.flatMap_append,List.length_append];simpa using hown6),below_step (below_step hbr (show Below wr.heap.size wr w5 from bel) hbr.size) hb6 (Nat.le_refl _)⟩
      case measure => simp [intOf];omega
    ·have hke:k = p.fields.length:=by omega
     subst hke
     have ho:=hown.out
     rw [List.take_length] at ho
     have HO:=Lib.hid ho
     clear hown ho
     go_wp2_with fail
     go_ret2
     exact ⟨_,rfl,ownsRow_base HO.out hB1.size,hBr⟩
 ·have hr:lackR F P V at_ = ([],walkErr F P V ⟨0,[],false⟩):=lackR_err he
  rw [hr]
  have he':(walkErr F P V ⟨0,[],false⟩ != 0) = true:=by simpa using he
  generalize walkErr F P V ⟨0,[],false⟩ = er at *
  clear hX hY hO he hr hml hpl hvl
  go_enter Tryz.func20,Tryz.ntmps20
  go_wp2_with (go_at_call 19;refine (h1 _ (HX.out.1.now bel) (HX.out.2.now bel)).mono ?_;rintro e w1 ⟨rfl,hb1⟩;obtain ⟨hc1,hf1⟩:=bcell hb1;(try simp only [bqh,bqc,bqf] at hc1 hf1);have hz1:=hb1.size;(try simp at hz1);(try have hy1:=nl1 hz1);(try have hx1:=nl2 hy1);refine szz w1 w ?_;intros)
  go_ret2
  exact NilC.own _ _ _ ⟨rfl,bel⟩
set_option maxRecDepth 100000 in
set_option maxHeartbeats 4000000 in
theorem ref_WalkLacks (B:Option Addr) (m d:Nat) (F:List Fld) (A:Option Addr) (n c:Nat) (P:List Pag) (Vb:Option Addr) (nv cv:Nat) (V:List Val) (at_:Int) (w:World)
  (hX:RFo w B m d F A n c P) (hO:FldsOk F) (hY:RVp w Vb nv cv V none 0 0 []) :
  Calls Tryz.prog 22 #[.agg #[.slice B m d,.slice A n c],.slice Vb nv cv,.int .i64 at_] w (OwnRowC strCs 9 1 w (lackR F P V at_).1 (lackR F P V at_).2):=by
 have h1:=fun w h h' => ref_WalkFault B m d F A n c P Vb nv cv V ⟨0,[],false⟩ none 0 0 w h hO h' inI0
 have hml:=hX.2.2.2.2.1.len
 have hpl:=hX.2.2.2.2.2.len
 have hvl:=hY.2.2.2.2.1.len
 have hn3:=hX.1.l (by decide)
 have HX:=Lib.hid (And.intro hX hY)
 dsimp only at h1
 by_cases he:walkErr F P V ⟨0,[],false⟩ = 0
 ·rw [he] at h1
  by_cases ha:at_ < 0 ∨ (P.length:Int) ≤ at_
  ·rw [lackR_out he ha]
   rw [hpl] at ha
   clear hX hY he hml hpl hvl hO
   by_cases ha0:at_ < 0
   ·have g1:decide (at_ < 0) = true:=by simpa using ha0
    go_enter Tryz.func22,Tryz.ntmps22
    go_wp2_with (go_at_call 21;refine (h1 _ (HX.out.1.now bel) (HX.out.2.now bel)).mono ?_;rintro e w1 ⟨rfl,hb1⟩;obtain ⟨hc1,hf1⟩:=bcell hb1;(try simp only [bqh,bqc,bqf] at hc1 hf1);have hz1:=hb1.size;(try simp at hz1);(try have hy1:=nl1 hz1);(try have hx1:=nl2 hy1);refine szz w1 w ?_;intros)
    go_ret2
    exact NilC.own _ _ _ ⟨rfl,bel⟩
   ·have ha1:(n:Int) ≤ at_:=by omega
    have g1:decide (at_ < 0) = false:=by simpa using ha0
    have g2:decide ((n:Int) ≤ at_) = true:=by simpa using ha1
    go_enter Tryz.func22,Tryz.ntmps22
    go_wp2_with (go_at_call 21;refine (h1 _ (HX.out.1.now bel) (HX.out.2.now bel)).mono ?_;rintro e w1 ⟨rfl,hb1⟩;obtain ⟨hc1,hf1⟩:=bcell hb1;(try simp only [bqh,bqc,bqf] at hc1 hf1);have hz1:=hb1.size;(try simp at hz1);(try have hy1:=nl1 hz1);(try have hx1:=nl2 hy1);refine szz w1 w ?_;intros)
    go_ret2
    exact NilC.own _ _ _ ⟨rfl,bel⟩
  ·obtain ⟨k0,hk0⟩:∃ k0:Nat,at_ = k0:=⟨at_.toNat,by omega⟩
   subst hk0
   have hk0n:k0 < n:=by omega
   have hpp:P[k0]? = some (P[k0]'(by omega)):=List.getElem?_eq_getElem _
   obtain ⟨p,hp⟩:∃ p,P[k0]? = some p:=⟨_,hpp⟩
   rw [lackR_in he hp]
   have hz:=walkErr_zero he
   have hfl:=page_fields_len (formErr_pages hz.1) hp
   have hf14:=(fieldsErr_all (formErr_flds hz.1)).1
   have hnm:=fun s => pages_names (s:=s) (formErr_pages hz.1) hp
   have g1:decide ((k0:Int) < 0) = false:=by simp
   have g2:decide (n ≤ k0) = false:=by simp;omega
   have hk0i:(k0:Int) < (n:Int):=by omega
   obtain ⟨i0,ei,ez0,ez1,ez2⟩:=info_parts Tryz.infoStr'
   have HE:=Lib.hid (And.intro hz (And.intro hp (And.intro hnm (And.intro hml (And.intro hpl hvl)))))
   have hfi:=fun s w h => ref_FieldAt B m d F s w hn3 h
   clear hX hY he hml hpl hvl hO ha hp hpp hz hnm
   go_enter Tryz.func22,Tryz.ntmps22
   go_upto_region 7 with (go_at_call 21;refine (h1 _ (HX.out.1.now bel) (HX.out.2.now bel)).mono ?_;rintro e w1 ⟨rfl,hb1⟩;obtain ⟨hc1,hf1⟩:=bcell hb1;(try simp only [bqh,bqc,bqf] at hc1 hf1);have hz1:=hb1.size;(try simp at hz1);(try have hy1:=nl1 hz1);(try have hx1:=nl2 hy1);refine szz w1 w ?_;intros)
   have hB1:Below w.heap.size w w1:=bel
   have hlw:w.heap.size < w1.heap.size:=by have:=hb1.size;simp at this;omega
   have q0:w1.cell? ⟨w.heap.size,0,none⟩ = some (.slice B m d):=(hb1.cell (p:=⟨w.heap.size,0,none⟩) (by simp)).trans (by go_simp)
   have q1:w1.cell? ⟨w.heap.size,1,none⟩ = some (.slice A n c):=(hb1.cell (p:=⟨w.heap.size,1,none⟩) (by simp)).trans (by go_simp)
   obtain ⟨b,o,p',Y,D,X,C,hAe,hbl,hlp,hrep,x0,x1,x2,x3,x4,x5,x6,x7⟩:=Pag_at (HX.out.1.2.2.2.2.2.nowN keeps_Pag hB1) hk0n
   obtain rfl:p = p':=Option.some.inj (HE.out.2.1.symm.trans hlp)
   subst hAe
   have hbl':b < w1.heap.size:=hbl
   obtain ⟨_,r2,r3,r4,_⟩:=hrep.open_
   have HR4:=Lib.hid r4
   have hfl14:p.fields.length ≤ 14:=by omega
   clear hbl hlp hrep r2 r3 r4
   go_wp2_with fail
   go_loopw [9,35] (fun v i wr => ∃ k:Nat,k ≤ p.fields.length ∧ i = .int .i64 k ∧ Hid (wr.ownsRow w1.heap.size 9 1 v (lackL F V (p.fields.take k)).length ((lackL F V (p.fields.take k)).flatMap strCs)) ∧ Below w1.heap.size w1 wr) (fun _ i _ => p.fields.length - (intOf i).toNat)
   case atStart => exact ⟨0,by omega,rfl,Lib.hid (by simpa [lackL] using World.ownsRow_nil _ _ _ _),Below.refl _ _⟩
   case round =>
    obtain ⟨k,hk,rfl,hown,hbr⟩:=hrel
    have hBr:Below w.heap.size w wr:=below_step hB1 hbr hB1.size
    have r0:=cell_keep q0 hbr
    have hlr:w.heap.size < wr.heap.size:=Nat.lt_of_lt_of_le hlw hbr.size
    by_cases hlt:k < p.fields.length
    ·obtain ⟨b2,o2,s,hYe,hbl,hls,hsi,y0⟩:=Str_at (HR4.out.now hbr) hlt
     subst hYe
     have hbl2:b2 < wr.heap.size:=hbl
     have hany:=HE.out.2.2.1 s (List.mem_of_getElem? hls)
     obtain ⟨hfa,v,hv,hvo⟩:=valOf_at hany HE.out.1.2.1
     have hfa':fieldAt F s < nv:=by rw [← HE.out.2.2.2.2.2];exact hfa
     obtain ⟨b3,o3,v',hVe,hbl3,hlv,hwf,z0,z1,z2⟩:=Val_at (HX.out.2.2.2.2.2.1.now hBr) hfa'
     obtain rfl:v = v':=Option.some.inj (hv.symm.trans hlv)
     have hvc:=valsErr_ok HE.out.1.2.2.1 v (List.mem_of_getElem? hv)
     have hkn:decide (3 < v.k) = lacks F V s:=by unfold lacks;rw [hvo]
     have hVE:=Lib.hid hVe
     subst hVe
     have hbl3':b3 < wr.heap.size:=hbl3
     have hfi':=fun w h => hfi s w h
     rw [show firstAt (hasName s) F = fieldAt F s from rfl] at hfi'
     generalize fieldAt F s = fa at *
     have hfai:(fa:Int) < (nv:Int):=by omega
     have htl:(lackL F V (p.fields.take k)).length ≤ 14:=by
      have:=lackL_len F V (p.fields.take k)
      rw [List.length_take] at this
      omega
     cases hlk:lacks F V s
     ·rw [hlk] at hkn
      have HT:=Lib.hid (lackL_no hls hlk)
      clear hlk hls hv hvo hlv hwf hvc hbl hbl3 hany hfa hfa' hsi
      go_wp2_with (first
       | (go_at_call 62;refine (hfi' _ (HX.out.1.2.2.2.2.1.nowN keeps_Fld (show Below w.heap.size w _ from bel))).mono ?_;rintro e w4 ⟨rfl,hb4⟩;obtain ⟨hc4,hf4⟩:=bcell hb4;(try simp only [bqh,bqc,bqf] at hc4 hf4);have hz4:=hb4.size;(try simp at hz4);(try have hy4:=nl1 hz4);(try have hx4:=nl2 hy4);refine szz w4 wr ?_;intros)
       | fail)
      go_roundw
      case rel => exact ⟨k + 1,by omega,by go_num,Lib.hid (by rw [HT.out];exact ownsRow_keep hown.out (show Below wr.heap.size wr w4 from bel)),below_step hbr (show Below wr.heap.size wr w4 from bel) hbr.size⟩
      case measure => simp [intOf];omega
     ·rw [hlk] at hkn
      have HT:=Lib.hid (lackL_yes hls hlk)
      clear hlk hls hv hvo hlv hwf hvc hbl hbl3 hany hfa hfa' hsi
      go_wp2_with (first
       | (go_at_call 62;refine (hfi' _ (HX.out.1.2.2.2.2.1.nowN keeps_Fld (show Below w.heap.size w _ from bel))).mono ?_;rintro e w4 ⟨rfl,hb4⟩;obtain ⟨hc4,hf4⟩:=bcell hb4;(try simp only [bqh,bqc,bqf] at hc4 hf4);have hz4:=hb4.size;(try simp at hz4);(try have hy4:=nl1 hz4);(try have hx4:=nl2 hy4);refine szz w4 wr ?_;intros)
       | (at_builtin;refine wpList_append1 rfl _ _ 37 rfl w1.heap.size 9 i0 (.string ⟨#[]⟩) 1 16 Tryz.underlying37 ei ez0 ez1 ez2 rfl (by decide) _ (lackL F V (p.fields.take k)).length _ rfl (ownsRow_keep hown.out (show Below wr.heap.size wr w4 from bel)) [.string s] 9 rfl _ rfl (by first | rfl | simp) rfl (by simp [Value.oneCell']) (by omega) (by unfold maxLen;omega) (by have:=hbr.size;first | omega | (simp;omega)) ?_;intro v6 w6 hown6 hb6 hz6 _))
      go_roundw
      case rel => exact ⟨k + 1,by omega,by go_num,Lib.hid (by rw [HT.out];rw [List.flatMap_append,List.length_append];simpa using hown6),below_step (below_step hbr (show Below wr.heap.size wr w4 from bel) hbr.size) hb6 (Nat.le_refl _)⟩
      case measure => simp [intOf];omega
    ·have hke:k = p.fields.length:=by omega
     subst hke
     have ho:=hown.out
     rw [List.take_length] at ho
     have HO:=Lib.hid ho
     clear hown ho
     go_wp2_with fail
     go_ret2
     exact ⟨_,rfl,ownsRow_base HO.out hB1.size,hBr⟩
 ·have hr:lackR F P V at_ = ([],walkErr F P V ⟨0,[],false⟩):=lackR_err he
  rw [hr]
  have he':(walkErr F P V ⟨0,[],false⟩ != 0) = true:=by simpa using he
  generalize walkErr F P V ⟨0,[],false⟩ = er at *
  clear hX hY hO he hr hml hpl hvl
  go_enter Tryz.func22,Tryz.ntmps22
  go_wp2_with (go_at_call 21;refine (h1 _ (HX.out.1.now bel) (HX.out.2.now bel)).mono ?_;rintro e w1 ⟨rfl,hb1⟩;obtain ⟨hc1,hf1⟩:=bcell hb1;(try simp only [bqh,bqc,bqf] at hc1 hf1);have hz1:=hb1.size;(try simp at hz1);(try have hy1:=nl1 hz1);(try have hx1:=nl2 hy1);refine szz w1 w ?_;intros)
  go_ret2
  exact NilC.own _ _ _ ⟨rfl,bel⟩
end Go.Proofs.YtbhkpepinogigaaGreat
