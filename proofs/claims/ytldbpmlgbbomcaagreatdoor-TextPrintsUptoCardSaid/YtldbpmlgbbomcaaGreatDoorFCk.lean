/- field.typed, field.Check and the reference FieldsFault. -/
import Derived.Test.YtldbpmlgbbomcaaGreatDoorTy2
import Derived.Test.YtldbpmlgbbomcaaGreatDoorRig
import Derived.Test.YtldbpmlgbbomcaaGreatDoorFld1
import Derived.Test.YtldbpmlgbbomcaaGreatDoorTypes
namespace Go.Proofs.YtldbpmlgbbomcaaGreatDoor
open Go.RowKit

def fe1 (l:List Fld) (k:Nat):Int:=match l[k]? with
 | some f => if fieldErr f ≠ 0 then fieldErr f else if (l.take k).any (hasName f.name) then 6 else 0
 | none => 0
def tyErr (l:List Fld) (f:Fld):Int:=if f.kind = 2 then fitErr l f.source f.type else if f.kind = 3 then (tyRes l f.source).2 else 0
def fe2 (l:List Fld) (k:Nat):Int:=match l[k]? with
 | some f => tyErr l f
 | none => 0
def fieldsErr (l:List Fld):Int:=if 14 < l.length then 1 else if firstErr (fe1 l) l.length ≠ 0 then firstErr (fe1 l) l.length else firstErr (fe2 l) l.length
theorem fieldsErr_1 {l:List Fld} {k:Nat} (h0:¬ 14 < l.length) (h:firstErr (fe1 l) k = 0) (hk:fe1 l k ≠ 0) (hl:k < l.length):fieldsErr l = fe1 l k:=by
 unfold fieldsErr
 rw [if_neg h0,firstErr_hit h hk _ hl,if_pos hk]
theorem fieldsErr_2 {l:List Fld} {k:Nat} (h0:¬ 14 < l.length) (h1:firstErr (fe1 l) l.length = 0) (h:firstErr (fe2 l) k = 0) (hk:fe2 l k ≠ 0) (hl:k < l.length):fieldsErr l = fe2 l k:=by
 unfold fieldsErr
 rw [if_neg h0,if_neg (by simpa using h1),firstErr_hit h hk _ hl]
theorem fieldsErr_3 {l:List Fld} (h0:¬ 14 < l.length) (h1:firstErr (fe1 l) l.length = 0) (h:firstErr (fe2 l) l.length = 0):fieldsErr l = 0:=by
 unfold fieldsErr
 rw [if_neg h0,if_neg (by simpa using h1),h]
theorem fieldErr_kind {f:Fld} (h:fieldErr f = 0):1 ≤ f.kind ∧ f.kind ≤ 3:=by
 rcases fieldErr_cases f with ⟨z,e⟩ | ⟨z,z1,e⟩ | ⟨z,z1,z2,e⟩ | ⟨z,z1,z2,z3,e⟩ | ⟨z,z1,z2,z3,z4,e⟩ | ⟨z,z1,z2,z3,z4,⟨z5,z6⟩,z7,e⟩ | ⟨z,z1,z2,z3,z4,⟨z5,z6⟩,z7,e⟩ | ⟨z,z1,z2,z3,z4,⟨z5,z6⟩,z7,e⟩
 ·rw [h] at e;simp [← e] at z
 all_goals first | (rw [h] at e;cases e;done) | omega
theorem fe1_kind {l:List Fld} {k:Nat} {f:Fld} (h:fe1 l k = 0) (hf:l[k]? = some f):1 ≤ f.kind ∧ f.kind ≤ 3:=by
 unfold fe1 at h
 rw [hf] at h
 have h':(if fieldErr f ≠ 0 then fieldErr f else if (l.take k).any (hasName f.name) = true then 6 else 0) = 0:=h
 by_cases h0:fieldErr f = 0
 ·exact fieldErr_kind h0
 ·rw [if_pos h0] at h';exact absurd h' h0
theorem fe1_some {l:List Fld} {k:Nat} {f:Fld} (hf:l[k]? = some f):(fieldErr f ≠ 0 ∧ fe1 l k = fieldErr f) ∨ (fieldErr f = 0 ∧ (l.take k).any (hasName f.name) = true ∧ fe1 l k = 6) ∨ (fieldErr f = 0 ∧ (l.take k).any (hasName f.name) = false ∧ fe1 l k = 0):=by
 have e:fe1 l k = if fieldErr f ≠ 0 then fieldErr f else if (l.take k).any (hasName f.name) = true then 6 else 0:=by unfold fe1;rw [hf]
 rw [e]
 by_cases h:fieldErr f = 0
 ·rw [if_neg (by simpa using h)]
  cases h2:(l.take k).any (hasName f.name)
  ·exact .inr (.inr ⟨h,rfl,rfl⟩)
  ·exact .inr (.inl ⟨h,rfl,rfl⟩)
 ·rw [if_pos h];exact .inl ⟨h,rfl⟩
theorem fe2_some {l:List Fld} {k:Nat} {f:Fld} (hf:l[k]? = some f):fe2 l k = tyErr l f:=by
 unfold fe2;rw [hf]

set_option maxRecDepth 100000 in
set_option maxHeartbeats 2000000 in
theorem field_typed (l:List Fld) (L:Option Addr) (n d:Nat) (f:Fld) (X:Option Addr) (C:Nat) (w:World) (hn:inB 112 n)
  (hf:RFld w (old w) [.string f.name,.int .i64 f.kind,.int .i64 f.type,.int .i64 f.source.op,.int .i64 f.source.v.k,.int .i64 f.source.v.n,.string f.source.v.s,.string f.source.name,.slice X f.source.args.length C] f) (hl:Sl w (old w) 9 (RFld w (old w)) L n l) :
  Calls Tryz.prog 135 #[.agg #[.string f.name,.int .i64 f.kind,.int .i64 f.type,.int .i64 f.source.op,.int .i64 f.source.v.k,.int .i64 f.source.v.n,.string f.source.v.s,.string f.source.name,.slice X f.source.args.length C],.slice L n d] w (RetI w (tyErr l f)):=by
 obtain ⟨r1,r2,r3,r4⟩:=hf.parts
 have hof:=fun w h h' => typing_Of l L n d f.source X C w hn h h'
 have hft:=fun w h h' => typing_Fits l L n d f.source X C f.type w hn h h'
 have HX:=Lib.hid (And.intro r4 hl)
 clear hf hl r1 r2 r3 r4
 unfold tyErr
 by_cases h2:f.kind = 2
 ·rw [if_pos h2]
  generalize fitErr l f.source f.type = ex at hft ⊢
  clear hof
  go_enter Tryz.func135,Tryz.ntmps135
  go_wp2_with (go_at_call 105;refine (hft _ (HX.out.1.keep (old_keep bel)) (HX.out.2.nowN keeps_Fld bel)).mono ?_;rintro e w1 ⟨rfl,hb1⟩;obtain ⟨hc1,hf1⟩:=bcell hb1;(try simp only [bqh,bqc,bqf] at hc1 hf1);have hz1:=hb1.size;(try simp at hz1);(try have hy1:=nl1 hz1);(try have hx1:=nl2 hy1);refine szz w1 w ?_;intros)
  go_ret
  exact ⟨rfl,bel⟩
 ·rw [if_neg h2]
  have h2':(f.kind == 2) = false:=by simpa using h2
  by_cases h3:f.kind = 3
  ·rw [if_pos h3]
   generalize tyRes l f.source = r at hof ⊢
   obtain ⟨t,e⟩:=r
   clear hft h2
   go_enter Tryz.func135,Tryz.ntmps135
   go_wp2_with (go_at_call 146;refine (hof _ (HX.out.1.keep (old_keep bel)) (HX.out.2.nowN keeps_Fld bel)).mono ?_;rintro e w1 ⟨rfl,hb1⟩;obtain ⟨hc1,hf1⟩:=bcell hb1;(try simp only [bqh,bqc,bqf] at hc1 hf1);have hz1:=hb1.size;(try simp at hz1);(try have hy1:=nl1 hz1);(try have hx1:=nl2 hy1);refine szz w1 w ?_;intros;dsimp only)
   go_ret
   exact ⟨rfl,bel⟩
  ·rw [if_neg h3]
   have h3':(f.kind == 3) = false:=by simpa using h3
   clear hft hof h2 h3
   go_enter Tryz.func135,Tryz.ntmps135
   go_wp2_with fail
   go_ret
   exact ⟨rfl,bel⟩

set_option maxRecDepth 100000 in
set_option maxHeartbeats 2000000 in
theorem field_Check (l:List Fld) (L:Option Addr) (n d:Nat) (w:World) (hn:inB 112 n) (hnd:n ≤ d) (hl:Sl w (old w) 9 (RFld w (old w)) L n l) :
  Calls Tryz.prog 96 #[.slice L n d] w (RetI w (fieldsErr l)):=by
 have hll:=hl.len
 have HH:=Lib.hid (And.intro hl hn)
 have hn':n ≤ 140737488351232:=hn.l (by decide)
 clear hl hn
 by_cases h14:14 < n
 ·have hr:fieldsErr l = 1:=by unfold fieldsErr;rw [if_pos (by omega)]
  rw [hr]
  have h14':(14:Int) < n:=by omega
  clear hr hll
  go_enter Tryz.func96,Tryz.ntmps96
  go_wp2_with fail
  go_ret
  exact ⟨rfl,bel⟩
 ·have HL:=Lib.hid (And.intro hll (show ¬ 14 < l.length by omega))
  have h14':¬ (14:Int) < n:=by omega
  clear hll
  go_enter Tryz.func96,Tryz.ntmps96
  go_wp2_with fail
  go_loopw [16] (fun i wr => ∃ k:Nat,k ≤ n ∧ i = .int .i64 k ∧ Hid (firstErr (fe1 l) k = 0) ∧ Below w.heap.size w wr) (fun i _ => n - (intOf i).toNat)
  case atStart => exact ⟨0,by omega,rfl,Lib.hid rfl,Below.refl _ _⟩
  case round =>
   obtain ⟨k,hk,rfl,hz,hbr⟩:=hrel
   by_cases hlt:k < n
   ·obtain ⟨b,o,f,X,C,hAe,hbl,hl,hrep,x0,x1,x2,x3,x4,x5,x6,x7,x8⟩:=Fld_at (HH.out.1.nowN keeps_Fld hbr) hlt
    subst hAe
    have hbl':b < wr.heap.size:=hbl
    have hri:=fun w h => field_Right f X C w h
    have hfi:=fun w h => field_Find (some ⟨b,o,none⟩) k d (l.take k) f.name w (by unfold inL;omega) h
    have HO:=Lib.hid (And.intro hrep hl)
    have HT:=Lib.hid ((HH.out.1.nowN keeps_Fld hbr).take' (Nat.le_of_lt hlt))
    have hkd:k ≤ d:=by omega
    have hkn:k ≤ n:=hk
    clear hrep hbl
    rcases fe1_some hl with ⟨q1,qe⟩ | ⟨q1,q2,qe⟩ | ⟨q1,q2,qe⟩
    ·have HR:=Lib.hid ((fieldsErr_1 HL.out.2 hz.out (by rw [qe];exact q1) (by rw [HL.out.1];exact hlt)).trans qe)
     have q1':(fieldErr f != 0) = true:=by simpa using q1
     clear q1 qe hl hfi
     generalize fieldErr f = ex at hri q1' HR
     go_wp2_with (go_at_call 71;refine (hri _ (RFld.keep HO.out.1 (old_keep bel))).mono ?_;rintro e w1 ⟨rfl,hb1⟩;obtain ⟨hc1,hf1⟩:=bcell hb1;(try simp only [bqh,bqc,bqf] at hc1 hf1);have hz1:=hb1.size;(try simp at hz1);(try have hy1:=nl1 hz1);(try have hx1:=nl2 hy1);refine szz w1 w ?_;intros;refine szz w1 wr ?_;intros)
     go_ret
     rw [HR.out]
     exact ⟨rfl,bel⟩
    ·have HR:=Lib.hid ((fieldsErr_1 HL.out.2 hz.out (by rw [qe];decide) (by rw [HL.out.1];exact hlt)).trans qe)
     simp only [q1] at hri
     simp only [findRes,q2,if_true] at hfi
     clear q1 qe hl q2
     go_wp2_with (go_at_call 71;refine (hri _ (RFld.keep HO.out.1 (old_keep bel))).mono ?_;rintro e w1 ⟨rfl,hb1⟩;obtain ⟨hc1,hf1⟩:=bcell hb1;(try simp only [bqh,bqc,bqf] at hc1 hf1);have hz1:=hb1.size;(try simp at hz1);(try have hy1:=nl1 hz1);(try have hx1:=nl2 hy1);refine szz w1 w ?_;intros;refine szz w1 wr ?_;intros)
     have hB1:Below wr.heap.size wr w1:=bel
     have hB1d:Below wr.heap.size wr w1.drew:=bel
     have nn1:wr.heap.size < w1.heap.size:=by have:=hb1.size;simp at this;omega
     go_region_law (go_simp;go_at_call 103;refine (hfi _ (HT.out.nowN keeps_Fld hB1d)).mono ?_;rintro e w2 ⟨rfl,hb2⟩;dsimp only)
     all_goals
      have hB2:Below w.heap.size w w2:=below_step (below_step hbr hB1d hbr.size) hb2 (Nat.le_trans hbr.size hB1.size)
      go_wp2_with fail
      go_ret
      rw [HR.out]
      exact ⟨rfl,hB2⟩
    ·have HZ:=Lib.hid (firstErr_next hz.out qe)
     simp only [q1] at hri
     simp only [findRes,q2,Bool.false_eq_true,if_false] at hfi
     clear q1 qe hl q2
     go_wp2_with (go_at_call 71;refine (hri _ (RFld.keep HO.out.1 (old_keep bel))).mono ?_;rintro e w1 ⟨rfl,hb1⟩;obtain ⟨hc1,hf1⟩:=bcell hb1;(try simp only [bqh,bqc,bqf] at hc1 hf1);have hz1:=hb1.size;(try simp at hz1);(try have hy1:=nl1 hz1);(try have hx1:=nl2 hy1);refine szz w1 w ?_;intros;refine szz w1 wr ?_;intros)
     have hB1:Below wr.heap.size wr w1:=bel
     have hB1d:Below wr.heap.size wr w1.drew:=bel
     have nn1:wr.heap.size < w1.heap.size:=by have:=hb1.size;simp at this;omega
     go_region_law (go_simp;go_at_call 103;refine (hfi _ (HT.out.nowN keeps_Fld hB1d)).mono ?_;rintro e w2 ⟨rfl,hb2⟩;dsimp only)
     all_goals
      have hB2:Below w.heap.size w w2:=below_step (below_step hbr hB1d hbr.size) hb2 (Nat.le_trans hbr.size hB1.size)
      go_wp2_with fail
      go_roundw
      case rel => exact ⟨k + 1,by omega,by go_num,HZ,hB2⟩
      case measure => simp [intOf];omega
   ·have hkn:k = n:=by omega
    subst hkn
    have HZ1:=Lib.hid (show firstErr (fe1 l) l.length = 0 by rw [HL.out.1];exact hz.out)
    clear hz
    go_wp2_with fail
    generalize hwq:wr = wq at *
    clear hwq
    go_loopw [40] (fun i wr => ∃ j:Nat,j ≤ k ∧ i = .int .i64 j ∧ Hid (firstErr (fe2 l) j = 0) ∧ Below w.heap.size w wr) (fun i _ => k - (intOf i).toNat)
    case atStart => exact ⟨0,by omega,rfl,Lib.hid rfl,hbr⟩
    case round =>
     obtain ⟨j,hj,rfl,hz,hbr⟩:=hrel
     by_cases hlt:j < k
     ·obtain ⟨b,o,f,X,C,hAe,hbl,hl,hrep,x0,x1,x2,x3,x4,x5,x6,x7,x8⟩:=Fld_at (HH.out.1.nowN keeps_Fld hbr) hlt
      subst hAe
      have hbl':b < wr.heap.size:=hbl
      have hti:=fun w h h' => field_typed l (some ⟨b,o,none⟩) k d f X C w HH.out.2 h h'
      have HO:=Lib.hid (And.intro hrep hl)
      have HS:=Lib.hid (HH.out.1.nowN keeps_Fld hbr)
      clear hrep hbl
      have he2:=fe2_some hl
      by_cases hq:tyErr l f = 0
      ·have HZ:=Lib.hid (firstErr_next hz.out (he2.trans hq))
       simp only [hq] at hti
       clear hq he2 hl
       go_wp2_with (go_at_call 135;refine (hti _ (RFld.keep HO.out.1 (old_keep bel)) (HS.out.nowN keeps_Fld bel)).mono ?_;rintro e w1 ⟨rfl,hb1⟩)
       go_roundw
       case rel => exact ⟨j + 1,by omega,by go_num,HZ,bel⟩
       case measure => simp [intOf];omega
      ·have HR:=Lib.hid ((fieldsErr_2 HL.out.2 HZ1.out hz.out (by rw [he2];exact hq) (by rw [HL.out.1];exact hlt)).trans he2)
       have hq':(tyErr l f != 0) = true:=by simpa using hq
       clear hq he2 hl
       generalize tyErr l f = ex at hti hq' HR
       go_wp2_with (go_at_call 135;refine (hti _ (RFld.keep HO.out.1 (old_keep bel)) (HS.out.nowN keeps_Fld bel)).mono ?_;rintro e w1 ⟨rfl,hb1⟩)
       go_ret
       rw [HR.out]
       exact ⟨rfl,bel⟩
     ·have hjk:j = k:=by omega
      subst hjk
      have HR:=Lib.hid (fieldsErr_3 HL.out.2 HZ1.out (by rw [HL.out.1];exact hz.out))
      go_wp2_with fail
      go_ret
      rw [HR.out]
      exact ⟨rfl,hbr⟩

theorem firstAt_take {α:Type} (p:α → Bool):∀ (l:List α) (k:Nat),firstAt p l < k ∨ (l.take k).any p = false
 | [],k => .inr (by simp)
 | a :: l,0 => .inr (by simp)
 | a :: l,k + 1 => by
  unfold firstAt
  cases hp:p a
  ·rcases firstAt_take p l k with h | h
   ·left;simp;omega
   ·right;simp only [List.take_succ_cons,List.any_cons,hp,h];rfl
  ·left;simp
theorem firstAt_take' {α:Type} (p:α → Bool):∀ (l:List α) (k:Nat),(l.take k).any p = false → k ≤ l.length → k ≤ firstAt p l
 | [],k,_,h => by simp at h;omega
 | a :: l,0,_,_ => Nat.zero_le _
 | a :: l,k + 1,h,hl => by
  simp only [List.take_succ_cons,List.any_cons,Bool.or_eq_false_iff] at h
  unfold firstAt
  rw [h.1]
  have:=firstAt_take' p l k h.2 (by simpa using hl)
  simp
  omega
set_option maxRecDepth 100000 in
set_option maxHeartbeats 2000000 in
theorem ref_FieldsFault (l:List Fld) (L:Option Addr) (n d:Nat) (w:World) (hn:inB 112 n) (hl:Sl w (old w) 9 (RFld w (old w)) L n l) :
  Calls Tryz.prog 109 #[.slice L n d] w (RetI w (fieldsErr l)):=by
 have hll:=hl.len
 have HH:=Lib.hid (And.intro hl hn)
 have hn':n ≤ 140737488351232:=hn.l (by decide)
 clear hl hn
 by_cases h14:14 < n
 ·have hr:fieldsErr l = 1:=by unfold fieldsErr;rw [if_pos (by omega)]
  rw [hr]
  have h14':(14:Int) < n:=by omega
  clear hr hll
  go_enter Tryz.func109,Tryz.ntmps109
  go_wp2_with fail
  go_ret
  exact ⟨rfl,bel⟩
 ·have HL:=Lib.hid (And.intro hll (show ¬ 14 < l.length by omega))
  have h14':¬ (14:Int) < n:=by omega
  clear hll
  go_enter Tryz.func109,Tryz.ntmps109
  go_wp2_with fail
  go_loopw [15] (fun i wr => ∃ k:Nat,k ≤ n ∧ i = .int .i64 k ∧ Hid (firstErr (fe1 l) k = 0) ∧ Below w.heap.size w wr) (fun i _ => n - (intOf i).toNat)
  case atStart => exact ⟨0,by omega,rfl,Lib.hid rfl,Below.refl _ _⟩
  case round =>
   obtain ⟨k,hk,rfl,hz,hbr⟩:=hrel
   by_cases hlt:k < n
   ·obtain ⟨b,o,f,X,C,hAe,hbl,hl,hrep,x0,x1,x2,x3,x4,x5,x6,x7,x8⟩:=Fld_at (HH.out.1.nowN keeps_Fld hbr) hlt
    subst hAe
    have hbl':b < wr.heap.size:=hbl
    have hri:=fun w h => ref_FieldFault f X C w h
    have hfi:=fun w h => ref_FieldAt (some ⟨b,o,none⟩) n d l f.name w hn' h
    have HO:=Lib.hid (And.intro hrep hl)
    have HT:=Lib.hid (HH.out.1.nowN keeps_Fld hbr)
    have ht1:=firstAt_take (hasName f.name) l k
    have ht2:=firstAt_take' (hasName f.name) l k
    clear hrep hbl
    rcases fe1_some hl with ⟨q1,qe⟩ | ⟨q1,q2,qe⟩ | ⟨q1,q2,qe⟩
    ·have HR:=Lib.hid ((fieldsErr_1 HL.out.2 hz.out (by rw [qe];exact q1) (by rw [HL.out.1];exact hlt)).trans qe)
     have q1':(fieldErr f != 0) = true:=by simpa using q1
     clear q1 qe hl hfi ht1 ht2
     generalize fieldErr f = ex at hri q1' HR
     go_wp2_with (go_at_call 150;refine (hri _ (RFld.keep HO.out.1 (old_keep bel))).mono ?_;rintro e w1 ⟨rfl,hb1⟩;obtain ⟨hc1,hf1⟩:=bcell hb1;(try simp only [bqh,bqc,bqf] at hc1 hf1);have hz1:=hb1.size;(try simp at hz1);(try have hy1:=nl1 hz1);(try have hx1:=nl2 hy1);refine szz w1 w ?_;intros;refine szz w1 wr ?_;intros)
     go_ret
     rw [HR.out]
     exact ⟨rfl,bel⟩
    ·have HR:=Lib.hid ((fieldsErr_1 HL.out.2 hz.out (by rw [qe];decide) (by rw [HL.out.1];exact hlt)).trans qe)
     simp only [q1] at hri
     have hlt':(firstAt (hasName f.name) l:Int) < (k:Int):=by rcases ht1 with h | h;omega;rw [q2] at h;cases h
     generalize firstAt (hasName f.name) l = fa at hfi hlt'
     clear q1 qe hl q2 ht1 ht2
     have nn0:wr.heap.size < wr.heap.size + 1:=by omega
     go_wp2_with (first | (go_at_call 150;refine (hri _ (RFld.keep HO.out.1 (old_keep bel))).mono ?_;rintro e w1 ⟨rfl,hb1⟩;obtain ⟨hc1,hf1⟩:=bcell hb1;(try simp only [bqh,bqc,bqf] at hc1 hf1);have hz1:=hb1.size;(try simp at hz1);(try have hy1:=nl1 hz1);(try have hx1:=nl2 hy1);refine szz w1 w ?_;intros;refine szz w1 wr ?_;intros) | (go_at_call 112;refine (hfi _ (HT.out.nowN keeps_Fld bel)).mono ?_;rintro e w2 ⟨rfl,hb2⟩;obtain ⟨hc2,hf2⟩:=bcell hb2;(try simp only [bqh,bqc,bqf] at hc2 hf2);have hz2:=hb2.size;(try simp at hz2);(try have hy2:=nl1 hz2);(try have hx2:=nl2 hy2);refine szz w2 w ?_;intros;refine szz w2 wr ?_;intros;refine szz w2 w1 ?_;intros))
     go_ret
     rw [HR.out]
     exact ⟨rfl,bel⟩
    ·have HZ:=Lib.hid (firstErr_next hz.out qe)
     simp only [q1] at hri
     have hlt':¬ (firstAt (hasName f.name) l:Int) < (k:Int):=by have:=ht2 q2 (by rw [HL.out.1];omega);omega
     generalize firstAt (hasName f.name) l = fa at hfi hlt'
     clear q1 qe hl q2 ht1 ht2
     go_wp2_with (first | (go_at_call 150;refine (hri _ (RFld.keep HO.out.1 (old_keep bel))).mono ?_;rintro e w1 ⟨rfl,hb1⟩;obtain ⟨hc1,hf1⟩:=bcell hb1;(try simp only [bqh,bqc,bqf] at hc1 hf1);have hz1:=hb1.size;(try simp at hz1);(try have hy1:=nl1 hz1);(try have hx1:=nl2 hy1);refine szz w1 w ?_;intros;refine szz w1 wr ?_;intros) | (go_at_call 112;refine (hfi _ (HT.out.nowN keeps_Fld bel)).mono ?_;rintro e w2 ⟨rfl,hb2⟩;obtain ⟨hc2,hf2⟩:=bcell hb2;(try simp only [bqh,bqc,bqf] at hc2 hf2);have hz2:=hb2.size;(try simp at hz2);(try have hy2:=nl1 hz2);(try have hx2:=nl2 hy2);refine szz w2 w ?_;intros;refine szz w2 wr ?_;intros;refine szz w2 w1 ?_;intros))
     go_roundw
     case rel => exact ⟨k + 1,by omega,by go_num,HZ,bel⟩
     case measure => simp [intOf];omega
   ·have hkn:k = n:=by omega
    subst hkn
    have HZ1:=Lib.hid (show firstErr (fe1 l) l.length = 0 by rw [HL.out.1];exact hz.out)
    clear hz
    go_wp2_with fail
    generalize hwq:wr = wq at *
    clear hwq
    go_loopw [34] (fun i wr => ∃ j:Nat,j ≤ k ∧ i = .int .i64 j ∧ Hid (firstErr (fe2 l) j = 0) ∧ Below w.heap.size w wr) (fun i _ => k - (intOf i).toNat)
    case atStart => exact ⟨0,by omega,rfl,Lib.hid rfl,hbr⟩
    case round =>
     obtain ⟨j,hj,rfl,hz,hbr⟩:=hrel
     by_cases hlt:j < k
     ·obtain ⟨b,o,f,X,C,hAe,hbl,hl,hrep,x0,x1,x2,x3,x4,x5,x6,x7,x8⟩:=Fld_at (HH.out.1.nowN keeps_Fld hbr) hlt
      subst hAe
      have hbl':b < wr.heap.size:=hbl
      have hti:=fun w h h' => ref_TypeOf l (some ⟨b,o,none⟩) k d f.source X C w HH.out.2 h h'
      have HO:=Lib.hid (And.intro hrep.parts.2.2.2 hl)
      have HS:=Lib.hid (HH.out.1.nowN keeps_Fld hbr)
      have hkd:=fe1_kind (firstErr_all HZ1.out j (by rw [HL.out.1];exact hlt)) hl
      clear hrep hbl
      have he2:=fe2_some hl
      have hzz:=fun h => firstErr_next hz.out (he2.trans h)
      have hrr:=fun h => (fieldsErr_2 HL.out.2 HZ1.out hz.out (k:=j) (by rw [he2];exact h) (by rw [HL.out.1];exact hlt)).trans he2
      rcases (by omega:f.kind = 1 ∨ f.kind = 2 ∨ f.kind = 3) with hk1 | hk1 | hk1
      ·have ht:tyErr l f = 0:=by unfold tyErr;rw [if_neg (by omega),if_neg (by omega)]
       have HZ:=Lib.hid (hzz ht)
       clear hti hl he2 hzz hrr ht hkd
       go_wp2_with fail
       go_roundw
       case rel => exact ⟨j + 1,by omega,by go_num,HZ,bel⟩
       case measure => simp [intOf];omega
      ·have ht:tyErr l f = fitErr l f.source f.type:=by unfold tyErr;rw [if_pos hk1]
       obtain ⟨⟨t,e⟩,hr⟩:∃ r,tyRes l f.source = r:=⟨_,rfl⟩
       rw [hr] at hti
       have hc:=fitErr_cases l f.source f.type t e hr
       rw [← ht] at hc
       clear hr hl he2 hkd ht
       rcases hc with ⟨z1,z2,ze⟩ | ⟨rfl,z2,ze⟩ | ⟨rfl,z2,ze⟩
       ·have HR:=Lib.hid ((hrr (by rw [ze];simpa using z1)).trans ze)
        clear hrr hzz ze
        go_wp2_with (go_at_call 151;refine (hti _ (HO.out.1.keep (old_keep bel)) (HS.out.nowN keeps_Fld bel)).mono ?_;rintro e w1 ⟨rfl,hb1⟩;obtain ⟨hc1,hf1⟩:=bcell hb1;(try simp only [bqh,bqc,bqf] at hc1 hf1);have hz1:=hb1.size;(try simp at hz1);(try have hy1:=nl1 hz1);(try have hx1:=nl2 hy1);refine szz w1 w ?_;intros;refine szz w1 wr ?_;intros;dsimp only)
        go_ret
        rw [HR.out]
        exact ⟨rfl,bel⟩
       ·have HR:=Lib.hid ((hrr (by rw [ze];decide)).trans ze)
        clear hrr hzz ze
        go_wp2_with (go_at_call 151;refine (hti _ (HO.out.1.keep (old_keep bel)) (HS.out.nowN keeps_Fld bel)).mono ?_;rintro e w1 ⟨rfl,hb1⟩;obtain ⟨hc1,hf1⟩:=bcell hb1;(try simp only [bqh,bqc,bqf] at hc1 hf1);have hz1:=hb1.size;(try simp at hz1);(try have hy1:=nl1 hz1);(try have hx1:=nl2 hy1);refine szz w1 w ?_;intros;refine szz w1 wr ?_;intros;dsimp only)
        go_ret
        rw [HR.out]
        exact ⟨rfl,bel⟩
       ·have HZ:=Lib.hid (hzz ze)
        clear hrr hzz ze
        go_wp2_with (go_at_call 151;refine (hti _ (HO.out.1.keep (old_keep bel)) (HS.out.nowN keeps_Fld bel)).mono ?_;rintro e w1 ⟨rfl,hb1⟩;obtain ⟨hc1,hf1⟩:=bcell hb1;(try simp only [bqh,bqc,bqf] at hc1 hf1);have hz1:=hb1.size;(try simp at hz1);(try have hy1:=nl1 hz1);(try have hx1:=nl2 hy1);refine szz w1 w ?_;intros;refine szz w1 wr ?_;intros;dsimp only)
        go_roundw
        case rel => exact ⟨j + 1,by omega,by go_num,HZ,bel⟩
        case measure => simp [intOf];omega
      ·obtain ⟨⟨t,e⟩,hr⟩:∃ r,tyRes l f.source = r:=⟨_,rfl⟩
       have ht:tyErr l f = e:=by unfold tyErr;rw [if_neg (by omega),if_pos hk1,hr]
       rw [hr] at hti
       clear hr hl he2 hkd
       by_cases h0:e = 0
       ·have HZ:=Lib.hid (hzz (ht.trans h0))
        subst h0
        clear hrr hzz ht
        go_wp2_with (go_at_call 151;refine (hti _ (HO.out.1.keep (old_keep bel)) (HS.out.nowN keeps_Fld bel)).mono ?_;rintro e w1 ⟨rfl,hb1⟩;obtain ⟨hc1,hf1⟩:=bcell hb1;(try simp only [bqh,bqc,bqf] at hc1 hf1);have hz1:=hb1.size;(try simp at hz1);(try have hy1:=nl1 hz1);(try have hx1:=nl2 hy1);refine szz w1 w ?_;intros;refine szz w1 wr ?_;intros;dsimp only)
        go_roundw
        case rel => exact ⟨j + 1,by omega,by go_num,HZ,bel⟩
        case measure => simp [intOf];omega
       ·have HR:=Lib.hid ((hrr (by rw [ht];exact h0)).trans ht)
        have z1:(e != 0) = true:=by simpa using h0
        have z2:(e == 0) = false:=by simpa using h0
        clear hrr hzz ht h0
        go_wp2_with (go_at_call 151;refine (hti _ (HO.out.1.keep (old_keep bel)) (HS.out.nowN keeps_Fld bel)).mono ?_;rintro e w1 ⟨rfl,hb1⟩;obtain ⟨hc1,hf1⟩:=bcell hb1;(try simp only [bqh,bqc,bqf] at hc1 hf1);have hz1:=hb1.size;(try simp at hz1);(try have hy1:=nl1 hz1);(try have hx1:=nl2 hy1);refine szz w1 w ?_;intros;refine szz w1 wr ?_;intros;dsimp only)
        go_ret
        rw [HR.out]
        exact ⟨rfl,bel⟩
     ·have hjk:j = k:=by omega
      subst hjk
      have HR:=Lib.hid (fieldsErr_3 HL.out.2 HZ1.out (by rw [HL.out.1];exact hz.out))
      go_wp2_with fail
      go_ret
      rw [HR.out]
      exact ⟨rfl,hbr⟩
end Go.Proofs.YtldbpmlgbbomcaaGreatDoor
