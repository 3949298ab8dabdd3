/- text.Print. -/
import Derived.Test.YtldbpmlgbbomcaaGreatDoorTxt1
import Derived.Test.YtldbpmlgbbomcaaGreatDoorFrm
namespace Go.Proofs.YtldbpmlgbbomcaaGreatDoor
open Go.RowKit

def PagB (p:Pag):Prop:=p.name.size ≤ 1048576 ∧ (p.fields.map fun s => s.size + 1).sum ≤ 1048576 ∧ p.skip.nodes ≤ 1048576
def FrmB (F:List Fld) (P:List Pag):Prop:=(∀ f ∈ F,f.name.size ≤ 1048576) ∧ ∀ p ∈ P,PagB p
theorem join_len (sep:List UInt8) (l:List (List UInt8)):(Lib.join l sep).length ≤ (l.map List.length).sum + sep.length * l.length:=by
 cases l with
 | nil => exact Nat.zero_le _
 | cons a l =>
  rw [Lib.join_cons,List.length_append,Lib.joinTail_length]
  have e:Lib.lens l = (l.map List.length).sum:=rfl
  simp only [List.map_cons,List.sum_cons,List.length_cons,Nat.mul_add,Nat.mul_one]
  omega
theorem jnT_nil (sep:ByteArray):jnT sep [] = ⟨#[]⟩:=rfl
theorem jnT_snoc {sep:ByteArray} {l:List ByteArray} (h:l ≠ []) (y:ByteArray):jnT sep (l ++ [y]) = jnT sep l ++ sep ++ y:=by
 cases l with
 | nil => exact absurd rfl h
 | cons a l =>
  have e:∀ (p q r:ByteArray) (L:List UInt8),L = p.data.toList ++ q.data.toList ++ r.data.toList → (⟨L.toArray⟩:ByteArray) = p ++ q ++ r:=by
   intro p q r L hL
   subst hL
   apply ByteArray.ext
   simp
  refine e _ _ _ _ ?_
  simp only [List.map_append,List.map_cons,List.map_nil,List.cons_append]
  rw [Lib.join_cons]
  show a.data.toList ++ Lib.joinTail _ _ = (jnT sep (a :: l)).data.toList ++ _ ++ _
  have h2:(jnT sep (a :: l)).data.toList = a.data.toList ++ Lib.joinTail sep.data.toList (l.map (·.data.toList)):=by
   show (Lib.join (List.map _ (a :: l)) _).toArray.toList = _
   rw [List.map_cons,Lib.join_cons]
  rw [h2]
  unfold Lib.joinTail
  simp [List.append_assoc]
theorem jnT_one (sep s:ByteArray):jnT sep [s] = s:=by
 unfold jnT
 rw [List.map_cons,List.map_nil,Lib.join_one]
theorem jnT_len (sep:ByteArray) (l:List ByteArray):(jnT sep l).size ≤ (l.map ByteArray.size).sum + sep.size * l.length:=by
 have h:=join_len sep.data.toList (l.map (·.data.toList))
 have e:(l.map (·.data.toList)).map List.length = l.map ByteArray.size:=by rw [List.map_map];apply List.map_congr_left;intro s _;simp
 rw [e,List.length_map] at h
 have:(jnT sep l).size = (Lib.join (l.map (·.data.toList)) sep.data.toList).length:=by show (Array.size _) = _;simp
 rw [this]
 simpa using h
theorem sizes_sum:∀ l:List ByteArray,(l.map fun s => s.size + 1).sum = (l.map ByteArray.size).sum + l.length
 | [] => rfl
 | a :: l => by
  have:=sizes_sum l
  simp only [List.map_cons,List.sum_cons,List.length_cons] at *
  omega
theorem fld_ok {F:List Fld} {P:List Pag} (h:formErr F P = 0) {k:Nat} {f:Fld} (hf:(F)[k]? = some f):(1 ≤ f.kind ∧ f.kind ≤ 3) ∧ (1 ≤ f.type ∧ f.type ≤ 3) ∧ (f.kind ≠ 1 → exprErr f.source = 0):=by
 obtain ⟨h0,_,hk,hs,_⟩:=(fieldsErr_all (formErr_flds h)).2 k f hf
 refine ⟨hk,?_,hs⟩
 unfold fieldErr at h0
 split at h0
 ·rename_i hn;exact absurd h0 hn
 ·split at h0
  ·cases h0
  ·omega
theorem pag_ok {F:List Fld} {P:List Pag} (h:formErr F P = 0):P.length ≤ 6 ∧ ∀ (k:Nat) (p:Pag),(P)[k]? = some p → neverP p = false → exprErr p.skip = 0:=by
 have h2:pagesErr P F = 0:=by
  unfold formErr at h
  split at h
  ·rename_i hn;exact absurd h hn
  ·exact h
 unfold pagesErr at h2
 split at h2
 ·cases h2
 ·rename_i hl
  refine ⟨by omega,fun k p hp hb => ?_⟩
  have h3:=firstErr_all h2 k (List.getElem?_eq_some_iff.1 hp).1
  rw [pe_eq hp] at h3
  split at h3
  ·rename_i hn;exact absurd h3 hn
  split at h3
  ·cases h3
  split at h3
  ·rename_i hn;exact absurd h3 hn
  rw [show bareB p.skip.op p.skip.v p.skip.name p.skip.args.length = false from hb] at h3
  simp only [Bool.false_eq_true,if_false] at h3
  apply Classical.byContradiction
  intro hx
  have e1:tyRes F p.skip = (0,exprErr p.skip):=by rw [tyRes,if_pos hx]
  have e2:fitErr F p.skip 2 = exprErr p.skip:=by rw [fitErr,e1];exact if_pos hx
  rw [e2] at h3
  exact hx h3
theorem lineF_len {f:Fld} (h:f.kind ≠ 1 → exprErr f.source = 0) (hn:f.name.size ≤ 1048576) (hM:f.source.nodes ≤ 1048576):(lineF f).size ≤ 106000000:=by
 have h1:=kW_len f.kind
 have h2:=tW_len f.type
 have e1:(⟨#[32]⟩:ByteArray).size = 1:=rfl
 have e2:(⟨#[32,61,32]⟩:ByteArray).size = 3:=rfl
 have h3:(hdF f).size ≤ 1048600:=by unfold hdF;simp only [ByteArray.size_append];omega
 unfold lineF
 split
 ·omega
 ·rename_i hk
  have:=prX_len f.source (exprErr_prt (h hk))
  simp only [ByteArray.size_append]
  omega
theorem lineP_len {p:Pag} (h:neverP p = false → exprErr p.skip = 0) (hB:PagB p):(lineP p).size ≤ 110000000:=by
 have e1:(⟨#[112,97,103,101,32]⟩:ByteArray).size = 5:=rfl
 have e2:(⟨#[58,32]⟩:ByteArray).size = 2:=rfl
 have e3:(⟨#[44,32]⟩:ByteArray).size = 2:=rfl
 have e4:(⟨#[59,32]⟩:ByteArray).size = 2:=rfl
 have h1:=jnT_len ⟨#[44,32]⟩ p.fields
 rw [e3] at h1
 have h2:=sizes_sum p.fields
 obtain ⟨b1,b2,b3⟩:=hB
 have h3:(hdP p).size ≤ 4200000:=by unfold hdP;simp only [ByteArray.size_append];omega
 unfold lineP
 split
 ·omega
 ·rename_i hk
  have:=prX_len p.skip (exprErr_prt (h (by simpa using hk)))
  simp only [ByteArray.size_append]
  omega
def linesT (F:List Fld) (P:List Pag):List ByteArray:=F.map lineF ++ P.map lineP
def formTR (F:List Fld) (P:List Pag):ByteArray × Int:=if formErr F P = 0 then (jnT ⟨#[10]⟩ (linesT F P),0) else (⟨#[]⟩,formErr F P)
theorem sum_le {α:Type} (g:α → Nat) (b:Nat):∀ l:List α,(∀ a ∈ l,g a ≤ b) → (l.map g).sum ≤ b * l.length
 | [],_ => by simp
 | a :: l,h => by
  have h1:=sum_le g b l (fun a ha => h a (List.mem_cons_of_mem _ ha))
  have h2:=h a List.mem_cons_self
  simp only [List.map_cons,List.sum_cons,List.length_cons,Nat.mul_add,Nat.mul_one]
  omega
theorem linesT_len {F:List Fld} {P:List Pag} (h:formErr F P = 0) (hO:FldsOk F) (hB:FrmB F P):(linesT F P).length ≤ 20 ∧ (∀ s ∈ linesT F P,s.size ≤ 110000000) ∧ (jnT ⟨#[10]⟩ (linesT F P)).size ≤ 2300000000:=by
 have h1:=(fieldsErr_all (formErr_flds h)).1
 have h2:=pag_ok h
 have hl:(linesT F P).length ≤ 20:=by unfold linesT;rw [List.length_append,List.length_map,List.length_map];omega
 have hs:∀ s ∈ linesT F P,s.size ≤ 110000000:=by
  intro s hs
  unfold linesT at hs
  rcases List.mem_append.1 hs with hs | hs
  ·obtain ⟨f,hf,rfl⟩:=List.mem_map.1 hs
   obtain ⟨k,hk⟩:=List.getElem?_of_mem hf
   have:=lineF_len (fld_ok h hk).2.2 (hB.1 f hf) (hO.1 f hf)
   omega
  ·obtain ⟨p,hp,rfl⟩:=List.mem_map.1 hs
   obtain ⟨k,hk⟩:=List.getElem?_of_mem hp
   exact lineP_len (h2.2 k p hk) (hB.2 p hp)
 refine ⟨hl,hs,?_⟩
 have h3:=jnT_len ⟨#[10]⟩ (linesT F P)
 have h4:=sum_le ByteArray.size 110000000 (linesT F P) hs
 rw [show (⟨#[10]⟩:ByteArray).size = 1 from rfl] at h3
 have h5:110000000 * (linesT F P).length ≤ 110000000 * 20:=Nat.mul_le_mul_left _ hl
 omega
set_option maxRecDepth 100000 in
set_option maxHeartbeats 8000000 in
theorem text_Print (B:Option Addr) (m d:Nat) (F:List Fld) (A:Option Addr) (n c:Nat) (P:List Pag) (w:World) (hX:RFo w B m d F A n c P) (hO:FldsOk F) (hB:FrmB F P) (hg:Gd w) :
  Calls Tryz.prog 9 #[.agg #[.slice B m d,.slice A n c]] w fun e w' => e = .returned (.tuple #[.string (formTR F P).1,.int .i64 (formTR F P).2]) ∧ Below w.heap.size w w':=by
 have h1:=fun w h => sheet_Check B m d F A n c P w h hO
 have hml:=hX.2.2.2.2.1.len
 have hnl:=hX.2.2.2.2.2.len
 have HX:=Lib.hid hX
 have HG:=Lib.hid hg
 obtain ⟨r,hr⟩:∃ r,r = formTR F P:=⟨_,rfl⟩
 rw [← hr]
 by_cases he:formErr F P = 0
 ·obtain ⟨hl20,hls,hjz⟩:=linesT_len he hO hB
  have h14:m ≤ 14:=by rw [← hml];exact (fieldsErr_all (formErr_flds he)).1
  have h6:n ≤ 6:=by rw [← hnl];exact (pag_ok he).1
  have HR:=Lib.hid (show r = (jnT ⟨#[10]⟩ (linesT F P),0) by rw [hr,formTR,if_pos he])
  rw [he] at h1
  obtain ⟨i0,ei,ez0,ez1,ez2⟩:=info_parts Tryz.infoStr'
  have HL:=Lib.hid (And.intro hml hnl)
  have HE:=Lib.hid (And.intro he (And.intro hO hB))
  have HJ:=Lib.hid (And.intro hls hjz)
  clear hX hO he hr hml hnl hB hls hjz
  go_enter Tryz.func9,Tryz.ntmps9
  go_wp2_with (go_at_call 24;refine (h1 _ (HX.out.now bel)).mono ?_;rintro e w1 ⟨rfl,hb1⟩;obtain ⟨hc1,hf1⟩:=bcell hb1;(try simp only [bqh,bqc,bqf] at hc1 hf1);have hz1:=hb1.size;(try simp at hz1);(try have hy1:=nl1 hz1);(try have hx1:=nl2 hy1);refine szz w1 w ?_;intros;have q0:w1.cell? ⟨w.heap.size,0,none⟩ = some (.slice B m d):=(hb1.cell (p:=⟨w.heap.size,0,none⟩) (by simp)).trans (by go_simp);have q1:w1.cell? ⟨w.heap.size,1,none⟩ = some (.slice A n c):=(hb1.cell (p:=⟨w.heap.size,1,none⟩) (by simp)).trans (by go_simp))
  have hB1:Below w.heap.size w w1:=bel
  have hlw:w.heap.size < w1.heap.size:=by have:=hb1.size;simp at this;omega
  go_loopw [5,18] (fun v i wr => ∃ k:Nat,k ≤ m ∧ i = .int .i64 k ∧ Hid (wr.ownsRow w1.heap.size 9 1 v k (((F.take k).map lineF).flatMap strCs)) ∧ Below w1.heap.size w1 wr) (fun _ i _ => m - (intOf i).toNat)
  case atStart => exact ⟨0,by omega,rfl,Lib.hid (by simpa using World.ownsRow_nil _ _ _ _),Below.refl _ _⟩
  case round =>
   obtain ⟨k,hk,rfl,hown,hbr⟩:=hrel
   have hBr:Below w.heap.size w wr:=below_step hB1 hbr hB1.size
   have r1:=cell_keep q1 hbr
   have hlr:w.heap.size < wr.heap.size:=Nat.lt_of_lt_of_le hlw hbr.size
   by_cases hlt:k < m
   ·obtain ⟨b,o,f,X,C,hAe,hbl,hlf,hrep,x0,x1,x2,x3,x4,x5,x6,x7,x8⟩:=Fld_at (HX.out.2.2.2.2.1.nowN keeps_Fld hBr) hlt
    subst hAe
    have hbl':b < wr.heap.size:=hbl
    have hfo:=fld_ok HE.out.1 hlf
    have hfm:=List.mem_of_getElem? hlf
    have hfl:=fun w h h' => text_fieldLine f X C w hfo.1 hfo.2.1 hfo.2.2 (HE.out.2.2.1 f hfm) (HE.out.2.1.1 f hfm) h h'
    have HXR:=Lib.hid hrep.parts
    have HLF:=Lib.hid (show (F.take (k + 1)).map lineF = (F.take k).map lineF ++ [lineF f] by rw [List.take_add_one,hlf,List.map_append];rfl)
    generalize lineF f = tl at hfl HLF
    clear hrep hbl hfo hfm hlf
    go_wp2_with (first
     | (go_at_call 25;refine (hfl _ (HG.out.keep (show Below w.heap.size w _ from bel)) (HXR.out.2.2.2.keep (old_keep bel))).mono ?_;rintro e w4 ⟨rfl,hb4⟩;obtain ⟨hc4,hf4⟩:=bcell hb4;(try simp only [bqh,bqc,bqf] at hc4 hf4);have hz4:=hb4.size;(try simp at hz4);(try have hy4:=nl1 hz4);(try have hx4:=nl2 hy4);refine szz w4 wr ?_;intros)
     | (at_builtin;refine wpList_append1 rfl _ _ 63 rfl w1.heap.size 9 i0 (.string ⟨#[]⟩) 1 16 Tryz.underlying63 ei ez0 ez1 ez2 rfl (by decide) _ k _ rfl (ownsRow_keep hown.out (show Below wr.heap.size wr w4 from bel)) [.string tl] 9 rfl _ rfl (by first | rfl | simp) rfl (by simp [Value.oneCell']) (by omega) (by unfold maxLen;omega) (by have:=hbr.size;first | omega | (simp;omega)) ?_;intro v6 w6 hown6 hb6 hz6 _))
    go_roundw
    case rel => exact ⟨k + 1,by omega,by go_num,Lib.hid (by rw [HLF.out,List.flatMap_append];simpa using hown6),below_step (below_step hbr (show Below wr.heap.size wr w4 from bel) hbr.size) hb6 (Nat.le_refl _)⟩
    case measure => simp [intOf];omega
   ·have hke:k = m:=by omega
    subst hke
    have ho:=hown.out
    rw [List.take_of_length_le (by rw [HL.out.1];exact Nat.le_refl _)] at ho
    have HOW:=Lib.hid ho
    clear hown ho hlt hk
    go_wp2_with fail
    generalize hwq:wr = wq at *
    clear hwq
    go_loopw [5,31] (fun v i wr => ∃ j:Nat,j ≤ n ∧ i = .int .i64 j ∧ Hid (wr.ownsRow w1.heap.size 9 1 v (k + j) ((F.map lineF ++ (P.take j).map lineP).flatMap strCs)) ∧ Below w1.heap.size w1 wr) (fun _ i _ => n - (intOf i).toNat)
    case atStart => exact ⟨0,by omega,rfl,Lib.hid (by simpa using HOW.out),hbr⟩
    case round =>
     clear hbr hBr r1 hlr
     obtain ⟨j,hj,rfl,hown,hbr⟩:=hrel
     have hBr:Below w.heap.size w wr:=below_step hB1 hbr hB1.size
     have hlr:w.heap.size < wr.heap.size:=Nat.lt_of_lt_of_le hlw hbr.size
     by_cases hlt:j < n
     ·obtain ⟨b,o,p,Y,D,X,C,hAe,hbl,hlp,hrep,x0,x1,x2,x3,x4,x5,x6,x7⟩:=Pag_at (HX.out.2.2.2.2.2.nowN keeps_Pag hBr) hlt
      subst hAe
      have hbl':b < wr.heap.size:=hbl
      have hpm:=List.mem_of_getElem? hlp
      obtain ⟨u1,u2,u3,u4,u5⟩:=hrep.open_
      have hpb:=HE.out.2.2.2 p hpm
      have hss:=sizes_sum p.fields
      have hjl:=jnT_len ⟨#[44,32]⟩ p.fields
      rw [show (⟨#[44,32]⟩:ByteArray).size = 2 from rfl] at hjl
      have hin:inL p.skip.args.length:=by
       obtain ⟨_,_,_,_,_,_,i5,_⟩:=u5.open_
       exact i5.l (by decide)
      have hpl:=fun w h h1 h2 => text_pageLine p Y D X C w ((pag_ok HE.out.1).2 j p hlp) hpb.1 (by have:=hpb.2.1;omega) (by have:=hpb.2.1;omega) u3 hpb.2.2 h hin h1 h2
      have HXR:=Lib.hid (And.intro u4 u5)
      have HLF:=Lib.hid (show (P.take (j + 1)).map lineP = (P.take j).map lineP ++ [lineP p] by rw [List.take_add_one,hlp,List.map_append];rfl)
      generalize lineP p = tl at hpl HLF
      clear hrep hbl hpm hlp u1 u2 u3 u4 u5 hpb hss hjl hin
      go_wp2_with (first
       | (go_at_call 26;refine (hpl _ (HG.out.keep (show Below w.heap.size w _ from bel)) (HXR.out.1.now bel) (HXR.out.2.keep (old_keep bel))).mono ?_;rintro e w4 ⟨rfl,hb4⟩;obtain ⟨hc4,hf4⟩:=bcell hb4;(try simp only [bqh,bqc,bqf] at hc4 hf4);have hz4:=hb4.size;(try simp at hz4);(try have hy4:=nl1 hz4);(try have hx4:=nl2 hy4);refine szz w4 wr ?_;intros)
       | (at_builtin;refine wpList_append1 rfl _ _ 63 rfl w1.heap.size 9 i0 (.string ⟨#[]⟩) 1 16 Tryz.underlying63 ei ez0 ez1 ez2 rfl (by decide) _ (k + j) _ rfl (ownsRow_keep hown.out (show Below wr.heap.size wr w4 from bel)) [.string tl] 9 rfl _ rfl (by first | rfl | simp) rfl (by simp [Value.oneCell']) (by omega) (by unfold maxLen;omega) (by have:=hbr.size;first | omega | (simp;omega)) ?_;intro v6 w6 hown6 hb6 hz6 _))
      go_roundw
      case rel => exact ⟨j + 1,by omega,by go_num,Lib.hid (by rw [HLF.out,← List.append_assoc,List.flatMap_append,← Nat.add_assoc];simpa using hown6),below_step (below_step hbr (show Below wr.heap.size wr w4 from bel) hbr.size) hb6 (Nat.le_refl _)⟩
      case measure => simp [intOf];omega
     ·have hje:j = n:=by omega
      subst hje
      have ho:=hown.out
      rw [List.take_of_length_le (by rw [HL.out.2];exact Nat.le_refl _)] at ho
      have hlen:(linesT F P).length = k + j:=by unfold linesT;rw [List.length_append,List.length_map,List.length_map,HL.out.1,HL.out.2]
      obtain ⟨A9,c9,rfl,hc9,hs9⟩:=own_slw strCs inS (fun _ => rfl) (l:=linesT F P) ho hlen (fun s hs => by have:=HJ.out.1 s hs;unfold inS;omega)
      rw [← hlen] at hs9 hc9 ⊢
      have hjn:=fun w h => join_any (linesT F P) A9 c9 ⟨#[10]⟩ w h (by omega) hc9 (by have:=HJ.out.2;omega)
      have HS9:=Lib.hid hs9
      obtain ⟨J,hJ⟩:∃ J,J = jnT ⟨#[10]⟩ (linesT F P):=⟨_,rfl⟩
      rw [← hJ] at hjn
      have HRJ:=Lib.hid (HR.out.trans (by rw [← hJ]))
      clear hJ
      clear hown ho hs9 hc9 hlen
      go_wp2_with (go_at_call 27;refine (hjn _ (HS9.out.now bel)).mono ?_;rintro e w7 ⟨rfl,hb7⟩;obtain ⟨hc7,hf7⟩:=bcell hb7;(try simp only [bqh,bqc,bqf] at hc7 hf7);have hz7:=hb7.size;(try simp at hz7);(try have hy7:=nl1 hz7);(try have hx7:=nl2 hy7);refine szz w7 wr ?_;intros)
      go_ret2
      rw [HRJ.out]
      exact ⟨rfl,bel⟩
 ·have HR:=Lib.hid (show r = (⟨#[]⟩,formErr F P) by rw [hr,formTR,if_neg he])
  have he':(formErr F P != 0) = true:=by simpa using he
  generalize formErr F P = er at *
  clear hX hO he hr hB
  go_enter Tryz.func9,Tryz.ntmps9
  go_wp2_with (go_at_call 24;refine (h1 _ (HX.out.now bel)).mono ?_;rintro e w1 ⟨rfl,hb1⟩;obtain ⟨hc1,hf1⟩:=bcell hb1;(try simp only [bqh,bqc,bqf] at hc1 hf1);have hz1:=hb1.size;(try simp at hz1);(try have hy1:=nl1 hz1);(try have hx1:=nl2 hy1);refine szz w1 w ?_;intros)
  go_ret2
  rw [HR.out]
  exact ⟨rfl,bel⟩
end Go.Proofs.YtldbpmlgbbomcaaGreatDoor
