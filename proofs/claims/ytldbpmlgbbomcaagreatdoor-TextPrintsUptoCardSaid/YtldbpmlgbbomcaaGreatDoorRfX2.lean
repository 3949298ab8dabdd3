/- The reference's FormText: the walk. (printed by mkrfx.py) -/
import Derived.Test.YtldbpmlgbbomcaaGreatDoorRfX
namespace Go.Proofs.YtldbpmlgbbomcaaGreatDoor
open Go.RowKit Go.Maps

set_option maxRecDepth 100000 in
set_option maxHeartbeats 16000000 in
theorem ref_FormText (B:Option Addr) (m d:Nat) (F:List Fld) (A:Option Addr) (n c:Nat) (P:List Pag) (w:World) (hX:RFo w B m d F A n c P) (hO:FldsOk F) (hB:FrmB F P) (hg:Gd w) :
  Calls Tryz.prog 10 #[.agg #[.slice B m d,.slice A n c]] w fun e w' => e = .returned (.tuple #[.string (formTR F P).1,.int .i64 (formTR F P).2]) ∧ Below w.heap.size w w':=by
 have h1:=fun w h => ref_FormFault B m d F A n c P w h hO
 have hml:=hX.2.2.2.2.1.len
 have hnl:=hX.2.2.2.2.2.len
 have HX:=Lib.hid hX
 have HG:=Lib.hid hg
 have hmm:=@run_makeMap Tryz.prog
 obtain ⟨r,hr⟩:∃ r,r = formTR F P:=⟨_,rfl⟩
 rw [← hr]
 by_cases he:formErr F P = 0
 ·obtain ⟨hl20,hls,hjz⟩:=linesT_len he hO hB
  have h14:m ≤ 14:=by rw [← hml];exact (fieldsErr_all (formErr_flds he)).1
  have h6:n ≤ 6:=by rw [← hnl];exact (pag_ok he).1
  have HR:=Lib.hid (show r = (jnT ⟨#[10]⟩ (linesT F P),0) by rw [hr,formTR,if_pos he])
  rw [he] at h1
  have HL:=Lib.hid (And.intro hml hnl)
  have HE:=Lib.hid (And.intro he (And.intro hO hB))
  have HJ:=Lib.hid hls
  clear hX hO he hr hml hnl hB hls hjz hl20
  go_enter Tryz.func10,Tryz.ntmps10
  go_wp2_with (go_at_call 28;refine (h1 _ (HX.out.now bel)).mono ?_;rintro e w1 ⟨rfl,hb1⟩;obtain ⟨hc1,hf1⟩:=bcell hb1;(try simp only [bqh,bqc,bqf] at hc1 hf1);have hz1:=hb1.size;(try simp at hz1);(try have hy1:=nl1 hz1);(try have hx1:=nl2 hy1);refine szz w1 w ?_;intros;have q0:w1.cell? ⟨w.heap.size,0,none⟩ = some (.slice B m d):=(hb1.cell (p:=⟨w.heap.size,0,none⟩) (by simp)).trans (by go_simp);have q1:w1.cell? ⟨w.heap.size,1,none⟩ = some (.slice A n c):=(hb1.cell (p:=⟨w.heap.size,1,none⟩) (by simp)).trans (by go_simp))
  have hB1:Below w.heap.size w w1:=bel
  have hlw:w.heap.size < w1.heap.size:=by have:=hb1.size;simp at this;omega
  go_loopw [5,20] (fun v i wr => ∃ (k:Nat) (sv:ByteArray),k ≤ m ∧ i = .int .i64 k ∧ v = .string sv ∧ Hid (sv = jnT ⟨#[10]⟩ ((F.take k).map lineF)) ∧ Below w1.heap.size w1 wr) (fun _ i _ => m - (intOf i).toNat)
  case atStart => exact ⟨0,⟨#[]⟩,by omega,rfl,rfl,Lib.hid rfl,Below.refl _ _⟩
  case round =>
   obtain ⟨k,sv,hk,rfl,rfl,hsv,hbr⟩:=hrel
   have hBr:Below w.heap.size w wr:=below_step hB1 hbr hB1.size
   have r1:=cell_keep q1 hbr
   have hlr:w.heap.size < wr.heap.size:=Nat.lt_of_lt_of_le hlw hbr.size
   by_cases hlt:k < m
   ·obtain ⟨b,o,f,X,C,hAe,hbl,hlf,hrep,x0,x1,x2,x3,x4,x5,x6,x7,x8⟩:=Fld_at (HX.out.2.2.2.2.1.nowN keeps_Fld hBr) hlt
    subst hAe
    have hbl':b < wr.heap.size:=hbl
    have hfo:=fld_ok HE.out.1 hlf
    have hfm:=List.mem_of_getElem? hlf
    have hnm:=HE.out.2.2.1 f hfm
    have hsz:sv.size ≤ 2300000000:=by
     rw [hsv.out]
     refine jnT_bound (by decide) (by rw [List.length_map,List.length_take];omega) fun s hs => HJ.out s ?_
     unfold linesT
     obtain ⟨g,hg,rfl⟩:=List.mem_map.1 hs
     exact List.mem_append_left _ (List.mem_map_of_mem (List.mem_of_mem_take hg))
    have HXR:=Lib.hid hrep.parts
    have HKW:=Lib.hid (And.intro (kt_wf hfo.1) (show (kMap (.int .i64 f.kind)).getD (.string ⟨#[]⟩) = .string (kW f.kind ++ ⟨#[32]⟩) from kMap_at hfo.1))
    have HTW:=Lib.hid (And.intro (kt_wf hfo.2.1) (show (tMap (.int .i64 f.type)).getD (.string ⟨#[]⟩) = .string (⟨#[32]⟩ ++ tW f.type) from tMap_at hfo.2.1))
    have hk7:=kW_len f.kind
    have ht4:=tW_len f.type
    have HLF:=Lib.hid (show jnT ⟨#[10]⟩ ((F.take (k + 1)).map lineF) = preL ((F.take k).map lineF) ++ lineF f by rw [List.take_add_one,hlf,List.map_append];exact preL_next _ _)
    have hpre:(k = 0 ∧ sv = ⟨#[]⟩ ∧ preL ((F.take k).map lineF) = ⟨#[]⟩) ∨ ((sv.toList == []) = false ∧ preL ((F.take k).map lineF) = sv ++ ⟨#[10]⟩):=by
     by_cases hk0:k = 0
     ·subst hk0
      exact .inl ⟨rfl,hsv.out,rfl⟩
     ·have hne:(F.take k).map lineF ≠ []:=by
       intro e
       have:=congrArg List.length e
       rw [List.length_map,List.length_take,HL.out.1] at this
       simp at this
       omega
      refine .inr ⟨ne_bytes ?_,by rw [preL,if_neg hne,hsv.out]⟩
      rw [hsv.out]
      exact jnT_pos hne fun s hs => by obtain ⟨g,_,rfl⟩:=List.mem_map.1 hs;exact lineF_pos g
    have hxt:(f.kind = 1 ∧ lineF f = hdF f) ∨ (1 < f.kind ∧ exprErr f.source = 0 ∧ lineF f = hdF f ++ (⟨#[32,61,32]⟩ ++ prX f.source)):=by
     by_cases hk1:f.kind = 1
     ·exact .inl ⟨hk1,by rw [lineF,if_pos hk1]⟩
     ·exact .inr ⟨by omega,hfo.2.2 hk1,by rw [lineF,if_neg hk1,ByteArray.append_assoc]⟩
    have htx:=fun w (h0:exprErr f.source = 0) h h' => text_N 1048576 f.source X C w (HE.out.2.1.1 f hfm) (HE.out.2.1.1 f hfm) (exprErr_prt h0) h h'
    have hpl:=fun (h0:exprErr f.source = 0) => prX_len f.source (exprErr_prt h0)
    have hnn:=HE.out.2.1.1 f hfm
    have HPQ:=Lib.hid (And.intro hpre (And.intro hxt (And.intro htx (And.intro hpl hnn))))
    clear hrep hbl hfo hfm hlf hpre hxt htx hpl hnn
    rcases HPQ.out.1 with ⟨hk0,hs0,hp0⟩ | ⟨hs1,hp0⟩
    ·have HPR:=Lib.hid hp0
     subst hs0
     clear hk0 hp0 hsv
     rcases HPQ.out.2.1 with ⟨hk1,hl1⟩ | ⟨hk1,he1,hl1⟩
     ·have hk1':¬ 1 < f.kind:=by omega
      have HLE:=Lib.hid hl1
      clear hk1 hl1
      go_wp2_with (first
       | (show wpList _ _ _ ({ dst:=none,op:=Op.insert 71 _ (.const (.int .i64 1)) (.const (.string ⟨#[105,110,112,117,116,32]⟩)),type:=_,pos:=_,after:=_,guard:=_ } :: _) _ _;refine wpList_insert3 _ rfl rfl rfl rfl rfl rfl _ 71 (.string ⟨#[105,110,112,117,116,32]⟩) (.string ⟨#[102,111,114,109,117,108,97,32]⟩) (.string ⟨#[108,111,111,107,117,112,32]⟩) rfl rfl rfl 3 9 (Maps.int_keyed Tryz.underlying3) Tryz.underlying71 Tryz.keyInt _ rfl (by simp) ?_;intro w4 hm4 hb4;obtain ⟨hc4,hf4⟩:=bcell hb4;(try simp only [bqh,bqc,bqf] at hc4 hf4);have hz4:=hb4.size;(try simp at hz4);(try have hy4:=nl1 hz4);(try have hx4:=nl2 hy4);refine szz w4 wr ?_;intros)
       | (show wpList _ _ _ ({ dst:=none,op:=Op.insert 71 _ (.const (.int .i64 1)) (.const (.string ⟨#[32,105,110,116]⟩)),type:=_,pos:=_,after:=_,guard:=_ } :: _) _ _;refine wpList_insert3 _ rfl rfl rfl rfl rfl rfl _ 71 (.string ⟨#[32,105,110,116]⟩) (.string ⟨#[32,98,111,111,108]⟩) (.string ⟨#[32,116,101,120,116]⟩) rfl rfl rfl 3 9 (Maps.int_keyed Tryz.underlying3) Tryz.underlying71 Tryz.keyInt _ rfl (by simp) ?_;intro w5 hm5 hb5;obtain ⟨hc5,hf5⟩:=bcell hb5;(try simp only [bqh,bqc,bqf] at hc5 hf5);have hz5:=hb5.size;(try simp at hz5);(try have hy5:=nl1 hz5);(try have hx5:=nl2 hy5);refine szz w5 wr ?_;intros;refine szz w5 w4 ?_;intros)
       | (at_lookup;refine wpList_lookup1_Is _ rfl _ _ 71 rfl 3 9 (Maps.int_keyed Tryz.underlying3) Tryz.underlying71 (Tryz.zeroStrX _) _ 3 kMap rfl hm4 _ _ rfl (Tryz.keyInt f.kind HKW.out.1) ?_;rw [HKW.out.2])
       | (at_lookup;refine wpList_lookup1_Is _ rfl _ _ 71 rfl 3 9 (Maps.int_keyed Tryz.underlying3) Tryz.underlying71 (Tryz.zeroStrX _) _ 3 tMap rfl hm5 _ _ rfl (Tryz.keyInt f.type HTW.out.1) ?_;rw [HTW.out.2]))
      go_roundw
      case rel => exact ⟨k + 1,_,by omega,by go_num,rfl,Lib.hid (by rw [HLF.out,HPR.out,HLE.out,← hdF_eq];try simp only [ByteArray.append_assoc]),below_step hbr (show Below wr.heap.size wr w5 from bel) hbr.size⟩
      case measure => simp [intOf];omega
     ·have hzl:=HPQ.out.2.2.2.1 he1
      have hnn:=HPQ.out.2.2.2.2
      have hcall:=fun w h h' => HPQ.out.2.2.1 w he1 h h'
      obtain ⟨tx,htx⟩:∃ tx,tx = prX f.source:=⟨_,rfl⟩
      rw [← htx] at hcall hzl hl1
      have htz:tx.size ≤ 104857600:=by omega
      have HLE:=Lib.hid hl1
      clear hl1 htx hzl hnn he1
      go_wp2_with (first
       | (show wpList _ _ _ ({ dst:=none,op:=Op.insert 71 _ (.const (.int .i64 1)) (.const (.string ⟨#[105,110,112,117,116,32]⟩)),type:=_,pos:=_,after:=_,guard:=_ } :: _) _ _;refine wpList_insert3 _ rfl rfl rfl rfl rfl rfl _ 71 (.string ⟨#[105,110,112,117,116,32]⟩) (.string ⟨#[102,111,114,109,117,108,97,32]⟩) (.string ⟨#[108,111,111,107,117,112,32]⟩) rfl rfl rfl 3 9 (Maps.int_keyed Tryz.underlying3) Tryz.underlying71 Tryz.keyInt _ rfl (by simp) ?_;intro w4 hm4 hb4;obtain ⟨hc4,hf4⟩:=bcell hb4;(try simp only [bqh,bqc,bqf] at hc4 hf4);have hz4:=hb4.size;(try simp at hz4);(try have hy4:=nl1 hz4);(try have hx4:=nl2 hy4);refine szz w4 wr ?_;intros)
       | (show wpList _ _ _ ({ dst:=none,op:=Op.insert 71 _ (.const (.int .i64 1)) (.const (.string ⟨#[32,105,110,116]⟩)),type:=_,pos:=_,after:=_,guard:=_ } :: _) _ _;refine wpList_insert3 _ rfl rfl rfl rfl rfl rfl _ 71 (.string ⟨#[32,105,110,116]⟩) (.string ⟨#[32,98,111,111,108]⟩) (.string ⟨#[32,116,101,120,116]⟩) rfl rfl rfl 3 9 (Maps.int_keyed Tryz.underlying3) Tryz.underlying71 Tryz.keyInt _ rfl (by simp) ?_;intro w5 hm5 hb5;obtain ⟨hc5,hf5⟩:=bcell hb5;(try simp only [bqh,bqc,bqf] at hc5 hf5);have hz5:=hb5.size;(try simp at hz5);(try have hy5:=nl1 hz5);(try have hx5:=nl2 hy5);refine szz w5 wr ?_;intros;refine szz w5 w4 ?_;intros)
       | (at_lookup;refine wpList_lookup1_Is _ rfl _ _ 71 rfl 3 9 (Maps.int_keyed Tryz.underlying3) Tryz.underlying71 (Tryz.zeroStrX _) _ 3 kMap rfl hm4 _ _ rfl (Tryz.keyInt f.kind HKW.out.1) ?_;rw [HKW.out.2])
       | (at_lookup;refine wpList_lookup1_Is _ rfl _ _ 71 rfl 3 9 (Maps.int_keyed Tryz.underlying3) Tryz.underlying71 (Tryz.zeroStrX _) _ 3 tMap rfl hm5 _ _ rfl (Tryz.keyInt f.type HTW.out.1) ?_;rw [HTW.out.2])
       | (go_at_call 29;refine (hcall _ (HG.out.keep (show Below w.heap.size w _ from bel)) (HXR.out.2.2.2.keep (old_keep bel))).mono ?_;rintro e w6 ⟨rfl,hb6⟩;obtain ⟨hc6,hf6⟩:=bcell hb6;(try simp only [bqh,bqc,bqf] at hc6 hf6);have hz6:=hb6.size;(try simp at hz6);(try have hy6:=nl1 hz6);(try have hx6:=nl2 hy6);refine szz w6 wr ?_;intros;refine szz w6 w4 ?_;intros;refine szz w6 w5 ?_;intros))
      go_roundw
      case rel => exact ⟨k + 1,_,by omega,by go_num,rfl,Lib.hid (by rw [HLF.out,HPR.out,HLE.out,← hdF_eq];try simp only [ByteArray.append_assoc]),below_step hbr (show Below wr.heap.size wr w6 from bel) hbr.size⟩
      case measure => simp [intOf];omega
    ·have HPR:=Lib.hid hp0
     clear hp0 hsv
     rcases HPQ.out.2.1 with ⟨hk1,hl1⟩ | ⟨hk1,he1,hl1⟩
     ·have hk1':¬ 1 < f.kind:=by omega
      have HLE:=Lib.hid hl1
      clear hk1 hl1
      go_wp2_with (first
       | (show wpList _ _ _ ({ dst:=none,op:=Op.insert 71 _ (.const (.int .i64 1)) (.const (.string ⟨#[105,110,112,117,116,32]⟩)),type:=_,pos:=_,after:=_,guard:=_ } :: _) _ _;refine wpList_insert3 _ rfl rfl rfl rfl rfl rfl _ 71 (.string ⟨#[105,110,112,117,116,32]⟩) (.string ⟨#[102,111,114,109,117,108,97,32]⟩) (.string ⟨#[108,111,111,107,117,112,32]⟩) rfl rfl rfl 3 9 (Maps.int_keyed Tryz.underlying3) Tryz.underlying71 Tryz.keyInt _ rfl (by simp) ?_;intro w4 hm4 hb4;obtain ⟨hc4,hf4⟩:=bcell hb4;(try simp only [bqh,bqc,bqf] at hc4 hf4);have hz4:=hb4.size;(try simp at hz4);(try have hy4:=nl1 hz4);(try have hx4:=nl2 hy4);refine szz w4 wr ?_;intros)
       | (show wpList _ _ _ ({ dst:=none,op:=Op.insert 71 _ (.const (.int .i64 1)) (.const (.string ⟨#[32,105,110,116]⟩)),type:=_,pos:=_,after:=_,guard:=_ } :: _) _ _;refine wpList_insert3 _ rfl rfl rfl rfl rfl rfl _ 71 (.string ⟨#[32,105,110,116]⟩) (.string ⟨#[32,98,111,111,108]⟩) (.string ⟨#[32,116,101,120,116]⟩) rfl rfl rfl 3 9 (Maps.int_keyed Tryz.underlying3) Tryz.underlying71 Tryz.keyInt _ rfl (by simp) ?_;intro w5 hm5 hb5;obtain ⟨hc5,hf5⟩:=bcell hb5;(try simp only [bqh,bqc,bqf] at hc5 hf5);have hz5:=hb5.size;(try simp at hz5);(try have hy5:=nl1 hz5);(try have hx5:=nl2 hy5);refine szz w5 wr ?_;intros;refine szz w5 w4 ?_;intros)
       | (at_lookup;refine wpList_lookup1_Is _ rfl _ _ 71 rfl 3 9 (Maps.int_keyed Tryz.underlying3) Tryz.underlying71 (Tryz.zeroStrX _) _ 3 kMap rfl hm4 _ _ rfl (Tryz.keyInt f.kind HKW.out.1) ?_;rw [HKW.out.2])
       | (at_lookup;refine wpList_lookup1_Is _ rfl _ _ 71 rfl 3 9 (Maps.int_keyed Tryz.underlying3) Tryz.underlying71 (Tryz.zeroStrX _) _ 3 tMap rfl hm5 _ _ rfl (Tryz.keyInt f.type HTW.out.1) ?_;rw [HTW.out.2]))
      go_roundw
      case rel => exact ⟨k + 1,_,by omega,by go_num,rfl,Lib.hid (by rw [HLF.out,HPR.out,HLE.out,← hdF_eq];try simp only [ByteArray.append_assoc]),below_step hbr (show Below wr.heap.size wr w5 from bel) hbr.size⟩
      case measure => simp [intOf];omega
     ·have hzl:=HPQ.out.2.2.2.1 he1
      have hnn:=HPQ.out.2.2.2.2
      have hcall:=fun w h h' => HPQ.out.2.2.1 w he1 h h'
      obtain ⟨tx,htx⟩:∃ tx,tx = prX f.source:=⟨_,rfl⟩
      rw [← htx] at hcall hzl hl1
      have htz:tx.size ≤ 104857600:=by omega
      have HLE:=Lib.hid hl1
      clear hl1 htx hzl hnn he1
      go_wp2_with (first
       | (show wpList _ _ _ ({ dst:=none,op:=Op.insert 71 _ (.const (.int .i64 1)) (.const (.string ⟨#[105,110,112,117,116,32]⟩)),type:=_,pos:=_,after:=_,guard:=_ } :: _) _ _;refine wpList_insert3 _ rfl rfl rfl rfl rfl rfl _ 71 (.string ⟨#[105,110,112,117,116,32]⟩) (.string ⟨#[102,111,114,109,117,108,97,32]⟩) (.string ⟨#[108,111,111,107,117,112,32]⟩) rfl rfl rfl 3 9 (Maps.int_keyed Tryz.underlying3) Tryz.underlying71 Tryz.keyInt _ rfl (by simp) ?_;intro w4 hm4 hb4;obtain ⟨hc4,hf4⟩:=bcell hb4;(try simp only [bqh,bqc,bqf] at hc4 hf4);have hz4:=hb4.size;(try simp at hz4);(try have hy4:=nl1 hz4);(try have hx4:=nl2 hy4);refine szz w4 wr ?_;intros)
       | (show wpList _ _ _ ({ dst:=none,op:=Op.insert 71 _ (.const (.int .i64 1)) (.const (.string ⟨#[32,105,110,116]⟩)),type:=_,pos:=_,after:=_,guard:=_ } :: _) _ _;refine wpList_insert3 _ rfl rfl rfl rfl rfl rfl _ 71 (.string ⟨#[32,105,110,116]⟩) (.string ⟨#[32,98,111,111,108]⟩) (.string ⟨#[32,116,101,120,116]⟩) rfl rfl rfl 3 9 (Maps.int_keyed Tryz.underlying3) Tryz.underlying71 Tryz.keyInt _ rfl (by simp) ?_;intro w5 hm5 hb5;obtain ⟨hc5,hf5⟩:=bcell hb5;(try simp only [bqh,bqc,bqf] at hc5 hf5);have hz5:=hb5.size;(try simp at hz5);(try have hy5:=nl1 hz5);(try have hx5:=nl2 hy5);refine szz w5 wr ?_;intros;refine szz w5 w4 ?_;intros)
       | (at_lookup;refine wpList_lookup1_Is _ rfl _ _ 71 rfl 3 9 (Maps.int_keyed Tryz.underlying3) Tryz.underlying71 (Tryz.zeroStrX _) _ 3 kMap rfl hm4 _ _ rfl (Tryz.keyInt f.kind HKW.out.1) ?_;rw [HKW.out.2])
       | (at_lookup;refine wpList_lookup1_Is _ rfl _ _ 71 rfl 3 9 (Maps.int_keyed Tryz.underlying3) Tryz.underlying71 (Tryz.zeroStrX _) _ 3 tMap rfl hm5 _ _ rfl (Tryz.keyInt f.type HTW.out.1) ?_;rw [HTW.out.2])
       | (go_at_call 29;refine (hcall _ (HG.out.keep (show Below w.heap.size w _ from bel)) (HXR.out.2.2.2.keep (old_keep bel))).mono ?_;rintro e w6 ⟨rfl,hb6⟩;obtain ⟨hc6,hf6⟩:=bcell hb6;(try simp only [bqh,bqc,bqf] at hc6 hf6);have hz6:=hb6.size;(try simp at hz6);(try have hy6:=nl1 hz6);(try have hx6:=nl2 hy6);refine szz w6 wr ?_;intros;refine szz w6 w4 ?_;intros;refine szz w6 w5 ?_;intros))
      go_roundw
      case rel => exact ⟨k + 1,_,by omega,by go_num,rfl,Lib.hid (by rw [HLF.out,HPR.out,HLE.out,← hdF_eq];try simp only [ByteArray.append_assoc]),below_step hbr (show Below wr.heap.size wr w6 from bel) hbr.size⟩
      case measure => simp [intOf];omega
   ·have hke:k = m:=by omega
    subst hke
    have ho:=hsv.out
    rw [List.take_of_length_le (by rw [HL.out.1];exact Nat.le_refl _)] at ho
    have HOW:=Lib.hid ho
    clear hsv ho hlt hk
    go_wp2_with fail
    generalize hwq:wr = wq at *
    clear hwq
    go_loopw [5,57] (fun v i wr => ∃ (j:Nat) (sv:ByteArray),j ≤ n ∧ i = .int .i64 j ∧ v = .string sv ∧ Hid (sv = jnT ⟨#[10]⟩ (F.map lineF ++ (P.take j).map lineP)) ∧ Below w1.heap.size w1 wr) (fun _ i _ => n - (intOf i).toNat)
    case atStart => exact ⟨0,sv,by omega,rfl,rfl,Lib.hid (by rw [HOW.out,List.take_zero,List.map_nil,List.append_nil]),hbr⟩
    case round =>
     clear hbr hBr r1 hlr HOW
     obtain ⟨j,sv,hj,rfl,rfl,hsv,hbr⟩:=hrel
     have hBr:Below w.heap.size w wr:=below_step hB1 hbr hB1.size
     have hlr:w.heap.size < wr.heap.size:=Nat.lt_of_lt_of_le hlw hbr.size
     by_cases hlt:j < n
     ·obtain ⟨b,o,p,Y,D,X,C,hAe,hbl,hlp,hrep,x0,x1,x2,x3,x4,x5,x6,x7⟩:=Pag_at (HX.out.2.2.2.2.2.nowN keeps_Pag hBr) hlt
      subst hAe
      have hbl':b < wr.heap.size:=hbl
      have hpm:=List.mem_of_getElem? hlp
      obtain ⟨u1,u2,u3,u4,u5⟩:=hrep.open_
      obtain ⟨hpb1,hpb2,hpb3⟩:=HE.out.2.2.2 p hpm
      have hpo:=(pag_ok HE.out.1).2 j p hlp
      have hsz:sv.size ≤ 2300000000:=by
       rw [hsv.out]
       have hmem:∀ s ∈ F.map lineF ++ (P.take j).map lineP,s ∈ linesT F P:=by
        intro s hs
        unfold linesT
        rcases List.mem_append.1 hs with hs | hs
        ·exact List.mem_append_left _ hs
        ·obtain ⟨g,hg,rfl⟩:=List.mem_map.1 hs
         exact List.mem_append_right _ (List.mem_map_of_mem (List.mem_of_mem_take hg))
       refine jnT_bound (by decide) ?_ fun s hs => HJ.out s (hmem s hs)
       rw [List.length_append,List.length_map,List.length_map,List.length_take,HL.out.1]
       omega
      have hlen:p.fields.length ≤ 1048576:=by have:=sizes_sum p.fields;omega
      have hlen2:p.fields.length ≤ 140737488351232:=by omega
      have hin:inL p.skip.args.length:=by
       obtain ⟨_,_,_,_,_,_,i5,_⟩:=u5.open_
       exact i5.l (by decide)
      have hba:=fun w => ref_bare p.skip.op p.skip.v.k p.skip.v.n p.skip.v.s p.skip.name X p.skip.args.length C w hin
      have HXR:=Lib.hid (And.intro u4 u5)
      have HBA:=Lib.hid hba
      have HLF:=Lib.hid (show jnT ⟨#[10]⟩ (F.map lineF ++ (P.take (j + 1)).map lineP) = preL (F.map lineF ++ (P.take j).map lineP) ++ lineP p by rw [List.take_add_one,hlp,List.map_append,← List.append_assoc];exact preL_next _ _)
      have hpre:(sv = ⟨#[]⟩ ∧ preL (F.map lineF ++ (P.take j).map lineP) = ⟨#[]⟩) ∨ ((sv.toList == []) = false ∧ preL (F.map lineF ++ (P.take j).map lineP) = sv ++ ⟨#[10]⟩):=by
       by_cases hne:F.map lineF ++ (P.take j).map lineP = []
       ·exact .inl ⟨by rw [hsv.out,hne];rfl,by rw [preL,if_pos hne]⟩
       ·refine .inr ⟨ne_bytes ?_,by rw [preL,if_neg hne,hsv.out]⟩
        rw [hsv.out]
        refine jnT_pos hne fun s hs => ?_
        rcases List.mem_append.1 hs with hs | hs
        ·obtain ⟨g,_,rfl⟩:=List.mem_map.1 hs;exact lineF_pos g
        ·obtain ⟨g,_,rfl⟩:=List.mem_map.1 hs;exact lineP_pos g
      have hjb:∀ i:Nat,(jnT ⟨#[44,32]⟩ (p.fields.take i)).size ≤ 3145728:=by
       intro i
       have h1:=jnT_len ⟨#[44,32]⟩ (p.fields.take i)
       have h2:=sizes_sum p.fields
       rw [show (⟨#[44,32]⟩:ByteArray).size = 2 from rfl] at h1
       have h3:((p.fields.take i).map ByteArray.size).sum ≤ (p.fields.map ByteArray.size).sum:=by
        conv => rhs;rw [← List.take_append_drop i p.fields,List.map_append,List.sum_append]
        exact Nat.le_add_right _ _
       have h4:(p.fields.take i).length ≤ p.fields.length:=by rw [List.length_take];omega
       omega
      have hxt:(neverP p = true ∧ lineP p = hdP p) ∨ (neverP p = false ∧ exprErr p.skip = 0 ∧ lineP p = hdP p ++ (⟨#[59,32]⟩ ++ prX p.skip)):=by
       cases hb:neverP p with
       | true => exact .inl ⟨rfl,by rw [lineP,if_pos hb]⟩
       | false => exact .inr ⟨rfl,hpo hb,by rw [lineP,if_neg (by rw [hb];decide),ByteArray.append_assoc]⟩
      have htx:=fun w (h0:exprErr p.skip = 0) h h' => text_N 1048576 p.skip X C w hpb3 hpb3 (exprErr_prt h0) h h'
      have hpl:=fun (h0:exprErr p.skip = 0) => prX_len p.skip (exprErr_prt h0)
      have HPQ:=Lib.hid (And.intro hpre (And.intro hxt (And.intro htx (And.intro hpl hpb3))))
      have HJB:=Lib.hid hjb
      clear hrep hbl hpm hlp u1 u2 u3 u4 u5 hpb2 hpb3 hpo hin hba hpre hxt htx hpl hjb
      rcases HPQ.out.1 with ⟨hs0,hp0⟩ | ⟨hs1,hp0⟩
      ·have HPR:=Lib.hid hp0
       subst hs0
       clear hp0 hsv
       go_wp2_with fail
       refine wp_world ?_;intro W0 hW0
       have z1:W0.cell? ⟨wr.heap.size,1,none⟩ = some (.slice Y p.fields.length D):=by rw [hW0];go_simp
       have z2:W0.cell? ⟨wr.heap.size,2,none⟩ = some (.int .i64 p.skip.op):=by rw [hW0];go_simp
       have z3:W0.cell? ⟨wr.heap.size,3,none⟩ = some (.int .i64 p.skip.v.k):=by rw [hW0];go_simp
       have z4:W0.cell? ⟨wr.heap.size,4,none⟩ = some (.int .i64 p.skip.v.n):=by rw [hW0];go_simp
       have z5:W0.cell? ⟨wr.heap.size,5,none⟩ = some (.string p.skip.v.s):=by rw [hW0];go_simp
       have z6:W0.cell? ⟨wr.heap.size,6,none⟩ = some (.string p.skip.name):=by rw [hW0];go_simp
       have z7:W0.cell? ⟨wr.heap.size,7,none⟩ = some (.slice X p.skip.args.length C):=by rw [hW0];go_simp
       have hB0:Below wr.heap.size wr W0:=by rw [hW0];exact bel
       have hl0:wr.heap.size < W0.heap.size:=by rw [hW0];simp
       clear hW0
       obtain ⟨bs,hbs⟩:∃ bs,bs = (⟨#[]⟩ ++ (⟨#[112,97,103,101,32]⟩ ++ p.name ++ ⟨#[58,32]⟩)):=⟨_,rfl⟩
       rw [← hbs]
       have hbz:bs.size ≤ 2302000000:=by
        rw [hbs]
        simp only [ByteArray.size_append,show (⟨#[112,97,103,101,32]⟩:ByteArray).size = 5 from rfl,show (⟨#[58,32]⟩:ByteArray).size = 2 from rfl,show (⟨#[10]⟩:ByteArray).size = 1 from rfl,show (⟨#[]⟩:ByteArray).size = 0 from rfl]
        omega
       have HBS:=Lib.hid hbs
       clear hbs
       have hSF:=HXR.out.1.now hB0
       have HSF:=Lib.hid hSF
       have hHB0:Below wr.heap.size wr W0:=hB0
       clear hSF
       generalize hwq:wr = wq at *
       clear hwq
       go_loopw [5,74] (fun v i wr => ∃ (q:Nat) (s3:ByteArray),q ≤ p.fields.length ∧ i = .int .i64 q ∧ v = .string s3 ∧ Hid (s3 = bs ++ jnT ⟨#[44,32]⟩ (p.fields.take q)) ∧ wr = W0) (fun _ i _ => p.fields.length - (intOf i).toNat)
       case atStart => exact ⟨0,bs,by omega,rfl,rfl,Lib.hid (by rw [List.take_zero,jnT_nil];exact (ByteArray.append_empty (b:=bs)).symm),rfl⟩
       case round =>
        obtain ⟨q,s3,hq,rfl,rfl,hs3,hwx⟩:=hrel
        have hwx':W0 = wr:=hwx.symm
        clear hwx
        subst hwx'
        have hsz3:s3.size ≤ 2306000000:=by rw [hs3.out,ByteArray.size_append];have:=HJB.out q;omega
        by_cases hlq:q < p.fields.length
        ·obtain ⟨g,o9,t,hYe,hgl,htl,hti,y0⟩:=Str_at HSF.out hlq
         subst hYe
         have hgl':g < W0.heap.size:=hgl
         have htz:t.size ≤ 140737488351232:=hti
         have hlq':(q:Int) < (p.fields.length:Int):=by omega
         have htk:p.fields.take (q + 1) = p.fields.take q ++ [t]:=by rw [List.take_add_one,htl];rfl
         by_cases hq0:q = 0
         ·have HN:Hid (s3 ++ t = bs ++ jnT ⟨#[44,32]⟩ (p.fields.take (q + 1))):=Lib.hid (by rw [htk,hs3.out,hq0,List.take_zero,jnT_nil,List.nil_append,jnT_one,show bs ++ (⟨#[]⟩:ByteArray) = bs from ByteArray.append_empty])
          have hq0':¬ (0:Int) < (q:Int):=by omega
          have hq0'':¬ 0 < q:=by omega
          clear htk htl hgl hti hq0 hs3
          go_wp2_with fail
          go_roundw
          case rel => exact ⟨q + 1,_,by omega,by go_num,rfl,HN,by first | trivial | rfl⟩
          case measure => simp [intOf];omega
         ·have hne:p.fields.take q ≠ []:=fun e => by have h2:(p.fields.take q).length = 0:=(by rw [e];rfl);rw [List.length_take] at h2;omega
          have HN:Hid (s3 ++ ⟨#[44,32]⟩ ++ t = bs ++ jnT ⟨#[44,32]⟩ (p.fields.take (q + 1))):=Lib.hid (by rw [htk,jnT_snoc hne,hs3.out];simp only [ByteArray.append_assoc])
          have hq0':(0:Int) < (q:Int):=by omega
          have hq0'':0 < q:=by omega
          clear htk htl hgl hti hq0 hs3 hne
          go_wp2_with fail
          go_roundw
          case rel => exact ⟨q + 1,_,by omega,by go_num,rfl,HN,by first | trivial | rfl⟩
          case measure => simp [intOf];omega
        ·have hqe:p.fields.take q = p.fields:=List.take_of_length_le (by omega)
         have hlq':¬ (q:Int) < (p.fields.length:Int):=by omega
         have HS3:Hid (s3 = bs ++ jnT ⟨#[44,32]⟩ p.fields):=Lib.hid (by rw [hs3.out,hqe])
         have hbb:=HBA.out
         clear hqe hs3
         rcases HPQ.out.2.1 with ⟨hnv,hl1⟩ | ⟨hnv,he1,hl1⟩
         ·rw [show bareB p.skip.op ⟨p.skip.v.k,p.skip.v.n,p.skip.v.s⟩ p.skip.name p.skip.args.length = true from hnv] at hbb
          have HLE:=Lib.hid hl1
          clear hnv hl1
          go_wp2_with (go_at_call 30;refine (hbb _).mono ?_;rintro e w4 ⟨rfl,hb4⟩;obtain ⟨hc4,hf4⟩:=bcell hb4;(try simp only [bqh,bqc,bqf] at hc4 hf4);have hz4:=hb4.size;(try simp at hz4);(try have hy4:=nl1 hz4);(try have hx4:=nl2 hy4);refine szz w4 W0 ?_;intros)
          go_roundw
          case rel => exact ⟨j + 1,_,by omega,by go_num,rfl,Lib.hid (by rw [HLF.out,HPR.out,HLE.out,hdP,HS3.out,HBS.out];simp only [ByteArray.append_assoc]),below_step hbr (show Below wq.heap.size wq w4 from bel) hbr.size⟩
          case measure => simp [intOf];omega
         ·rw [show bareB p.skip.op ⟨p.skip.v.k,p.skip.v.n,p.skip.v.s⟩ p.skip.name p.skip.args.length = false from hnv] at hbb
          have hzl:=HPQ.out.2.2.2.1 he1
          have hnn:=HPQ.out.2.2.2.2
          have hcall:=fun w h h' => HPQ.out.2.2.1 w he1 h h'
          obtain ⟨tx,htx⟩:∃ tx,tx = prX p.skip:=⟨_,rfl⟩
          rw [← htx] at hcall hzl hl1
          have htz:tx.size ≤ 104857600:=by omega
          have HLE:=Lib.hid hl1
          clear hl1 htx hzl hnn he1 hnv
          go_wp2_with (first
           | (go_at_call 30;refine (hbb _).mono ?_;rintro e w4 ⟨rfl,hb4⟩;obtain ⟨hc4,hf4⟩:=bcell hb4;(try simp only [bqh,bqc,bqf] at hc4 hf4);have hz4:=hb4.size;(try simp at hz4);(try have hy4:=nl1 hz4);(try have hx4:=nl2 hy4);refine szz w4 W0 ?_;intros)
           | (go_at_call 29;refine (hcall _ (HG.out.keep (show Below w.heap.size w _ from bel)) (HXR.out.2.keep (old_keep (show Below wq.heap.size wq _ from bel)))).mono ?_;rintro e w6 ⟨rfl,hb6⟩;obtain ⟨hc6,hf6⟩:=bcell hb6;(try simp only [bqh,bqc,bqf] at hc6 hf6);have hz6:=hb6.size;(try simp at hz6);(try have hy6:=nl1 hz6);(try have hx6:=nl2 hy6);refine szz w6 W0 ?_;intros;refine szz w6 w4 ?_;intros))
          go_roundw
          case rel => exact ⟨j + 1,_,by omega,by go_num,rfl,Lib.hid (by rw [HLF.out,HPR.out,HLE.out,hdP,HS3.out,HBS.out];simp only [ByteArray.append_assoc]),below_step hbr (show Below wq.heap.size wq w6 from bel) hbr.size⟩
          case measure => simp [intOf];omega
      ·have HPR:=Lib.hid hp0
       clear hp0 hsv
       go_wp2_with fail
       refine wp_world ?_;intro W0 hW0
       have z1:W0.cell? ⟨wr.heap.size,1,none⟩ = some (.slice Y p.fields.length D):=by rw [hW0];go_simp
       have z2:W0.cell? ⟨wr.heap.size,2,none⟩ = some (.int .i64 p.skip.op):=by rw [hW0];go_simp
       have z3:W0.cell? ⟨wr.heap.size,3,none⟩ = some (.int .i64 p.skip.v.k):=by rw [hW0];go_simp
       have z4:W0.cell? ⟨wr.heap.size,4,none⟩ = some (.int .i64 p.skip.v.n):=by rw [hW0];go_simp
       have z5:W0.cell? ⟨wr.heap.size,5,none⟩ = some (.string p.skip.v.s):=by rw [hW0];go_simp
       have z6:W0.cell? ⟨wr.heap.size,6,none⟩ = some (.string p.skip.name):=by rw [hW0];go_simp
       have z7:W0.cell? ⟨wr.heap.size,7,none⟩ = some (.slice X p.skip.args.length C):=by rw [hW0];go_simp
       have hB0:Below wr.heap.size wr W0:=by rw [hW0];exact bel
       have hl0:wr.heap.size < W0.heap.size:=by rw [hW0];simp
       clear hW0
       obtain ⟨bs,hbs⟩:∃ bs,bs = (sv ++ ⟨#[10]⟩ ++ (⟨#[112,97,103,101,32]⟩ ++ p.name ++ ⟨#[58,32]⟩)):=⟨_,rfl⟩
       rw [← hbs]
       have hbz:bs.size ≤ 2302000000:=by
        rw [hbs]
        simp only [ByteArray.size_append,show (⟨#[112,97,103,101,32]⟩:ByteArray).size = 5 from rfl,show (⟨#[58,32]⟩:ByteArray).size = 2 from rfl,show (⟨#[10]⟩:ByteArray).size = 1 from rfl,show (⟨#[]⟩:ByteArray).size = 0 from rfl]
        omega
       have HBS:=Lib.hid hbs
       clear hbs
       have hSF:=HXR.out.1.now hB0
       have HSF:=Lib.hid hSF
       have hHB0:Below wr.heap.size wr W0:=hB0
       clear hSF
       generalize hwq:wr = wq at *
       clear hwq
       go_loopw [5,74] (fun v i wr => ∃ (q:Nat) (s3:ByteArray),q ≤ p.fields.length ∧ i = .int .i64 q ∧ v = .string s3 ∧ Hid (s3 = bs ++ jnT ⟨#[44,32]⟩ (p.fields.take q)) ∧ wr = W0) (fun _ i _ => p.fields.length - (intOf i).toNat)
       case atStart => exact ⟨0,bs,by omega,rfl,rfl,Lib.hid (by rw [List.take_zero,jnT_nil];exact (ByteArray.append_empty (b:=bs)).symm),rfl⟩
       case round =>
        obtain ⟨q,s3,hq,rfl,rfl,hs3,hwx⟩:=hrel
        have hwx':W0 = wr:=hwx.symm
        clear hwx
        subst hwx'
        have hsz3:s3.size ≤ 2306000000:=by rw [hs3.out,ByteArray.size_append];have:=HJB.out q;omega
        by_cases hlq:q < p.fields.length
        ·obtain ⟨g,o9,t,hYe,hgl,htl,hti,y0⟩:=Str_at HSF.out hlq
         subst hYe
         have hgl':g < W0.heap.size:=hgl
         have htz:t.size ≤ 140737488351232:=hti
         have hlq':(q:Int) < (p.fields.length:Int):=by omega
         have htk:p.fields.take (q + 1) = p.fields.take q ++ [t]:=by rw [List.take_add_one,htl];rfl
         by_cases hq0:q = 0
         ·have HN:Hid (s3 ++ t = bs ++ jnT ⟨#[44,32]⟩ (p.fields.take (q + 1))):=Lib.hid (by rw [htk,hs3.out,hq0,List.take_zero,jnT_nil,List.nil_append,jnT_one,show bs ++ (⟨#[]⟩:ByteArray) = bs from ByteArray.append_empty])
          have hq0':¬ (0:Int) < (q:Int):=by omega
          have hq0'':¬ 0 < q:=by omega
          clear htk htl hgl hti hq0 hs3
          go_wp2_with fail
          go_roundw
          case rel => exact ⟨q + 1,_,by omega,by go_num,rfl,HN,by first | trivial | rfl⟩
          case measure => simp [intOf];omega
         ·have hne:p.fields.take q ≠ []:=fun e => by have h2:(p.fields.take q).length = 0:=(by rw [e];rfl);rw [List.length_take] at h2;omega
          have HN:Hid (s3 ++ ⟨#[44,32]⟩ ++ t = bs ++ jnT ⟨#[44,32]⟩ (p.fields.take (q + 1))):=Lib.hid (by rw [htk,jnT_snoc hne,hs3.out];simp only [ByteArray.append_assoc])
          have hq0':(0:Int) < (q:Int):=by omega
          have hq0'':0 < q:=by omega
          clear htk htl hgl hti hq0 hs3 hne
          go_wp2_with fail
          go_roundw
          case rel => exact ⟨q + 1,_,by omega,by go_num,rfl,HN,by first | trivial | rfl⟩
          case measure => simp [intOf];omega
        ·have hqe:p.fields.take q = p.fields:=List.take_of_length_le (by omega)
         have hlq':¬ (q:Int) < (p.fields.length:Int):=by omega
         have HS3:Hid (s3 = bs ++ jnT ⟨#[44,32]⟩ p.fields):=Lib.hid (by rw [hs3.out,hqe])
         have hbb:=HBA.out
         clear hqe hs3
         rcases HPQ.out.2.1 with ⟨hnv,hl1⟩ | ⟨hnv,he1,hl1⟩
         ·rw [show bareB p.skip.op ⟨p.skip.v.k,p.skip.v.n,p.skip.v.s⟩ p.skip.name p.skip.args.length = true from hnv] at hbb
          have HLE:=Lib.hid hl1
          clear hnv hl1
          go_wp2_with (go_at_call 30;refine (hbb _).mono ?_;rintro e w4 ⟨rfl,hb4⟩;obtain ⟨hc4,hf4⟩:=bcell hb4;(try simp only [bqh,bqc,bqf] at hc4 hf4);have hz4:=hb4.size;(try simp at hz4);(try have hy4:=nl1 hz4);(try have hx4:=nl2 hy4);refine szz w4 W0 ?_;intros)
          go_roundw
          case rel => exact ⟨j + 1,_,by omega,by go_num,rfl,Lib.hid (by rw [HLF.out,HPR.out,HLE.out,hdP,HS3.out,HBS.out];simp only [ByteArray.append_assoc]),below_step hbr (show Below wq.heap.size wq w4 from bel) hbr.size⟩
          case measure => simp [intOf];omega
         ·rw [show bareB p.skip.op ⟨p.skip.v.k,p.skip.v.n,p.skip.v.s⟩ p.skip.name p.skip.args.length = false from hnv] at hbb
          have hzl:=HPQ.out.2.2.2.1 he1
          have hnn:=HPQ.out.2.2.2.2
          have hcall:=fun w h h' => HPQ.out.2.2.1 w he1 h h'
          obtain ⟨tx,htx⟩:∃ tx,tx = prX p.skip:=⟨_,rfl⟩
          rw [← htx] at hcall hzl hl1
          have htz:tx.size ≤ 104857600:=by omega
          have HLE:=Lib.hid hl1
          clear hl1 htx hzl hnn he1 hnv
          go_wp2_with (first
           | (go_at_call 30;refine (hbb _).mono ?_;rintro e w4 ⟨rfl,hb4⟩;obtain ⟨hc4,hf4⟩:=bcell hb4;(try simp only [bqh,bqc,bqf] at hc4 hf4);have hz4:=hb4.size;(try simp at hz4);(try have hy4:=nl1 hz4);(try have hx4:=nl2 hy4);refine szz w4 W0 ?_;intros)
           | (go_at_call 29;refine (hcall _ (HG.out.keep (show Below w.heap.size w _ from bel)) (HXR.out.2.keep (old_keep (show Below wq.heap.size wq _ from bel)))).mono ?_;rintro e w6 ⟨rfl,hb6⟩;obtain ⟨hc6,hf6⟩:=bcell hb6;(try simp only [bqh,bqc,bqf] at hc6 hf6);have hz6:=hb6.size;(try simp at hz6);(try have hy6:=nl1 hz6);(try have hx6:=nl2 hy6);refine szz w6 W0 ?_;intros;refine szz w6 w4 ?_;intros))
          go_roundw
          case rel => exact ⟨j + 1,_,by omega,by go_num,rfl,Lib.hid (by rw [HLF.out,HPR.out,HLE.out,hdP,HS3.out,HBS.out];simp only [ByteArray.append_assoc]),below_step hbr (show Below wq.heap.size wq w6 from bel) hbr.size⟩
          case measure => simp [intOf];omega
     ·have hje:j = n:=by omega
      subst hje
      have ho:=hsv.out
      rw [List.take_of_length_le (by rw [HL.out.2];exact Nat.le_refl _)] at ho
      have HRJ:Hid (r = (sv,0)):=Lib.hid (by rw [HR.out,ho];rfl)
      clear hsv ho hlt
      go_wp2_with fail
      go_ret2
      rw [HRJ.out]
      exact ⟨rfl,bel⟩
 ·have HR:=Lib.hid (show r = (⟨#[]⟩,formErr F P) by rw [hr,formTR,if_neg he])
  have he':(formErr F P != 0) = true:=by simpa using he
  generalize formErr F P = er at *
  clear hX hO he hr hB
  go_enter Tryz.func10,Tryz.ntmps10
  go_wp2_with (go_at_call 28;refine (h1 _ (HX.out.now bel)).mono ?_;rintro e w1 ⟨rfl,hb1⟩;obtain ⟨hc1,hf1⟩:=bcell hb1;(try simp only [bqh,bqc,bqf] at hc1 hf1);have hz1:=hb1.size;(try simp at hz1);(try have hy1:=nl1 hz1);(try have hx1:=nl2 hy1);refine szz w1 w ?_;intros)
  go_ret2
  rw [HR.out]
  exact ⟨rfl,bel⟩
end Go.Proofs.YtldbpmlgbbomcaaGreatDoor
