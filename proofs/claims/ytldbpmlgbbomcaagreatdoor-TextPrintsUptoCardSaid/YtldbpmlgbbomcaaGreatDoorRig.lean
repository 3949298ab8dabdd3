/- One field by itself: field.none and bare, field.Right and FieldFault. -/
import Derived.Test.YtldbpmlgbbomcaaGreatDoorPrt3
import Derived.Test.YtldbpmlgbbomcaaGreatDoorPrt4
import Derived.Test.YtldbpmlgbbomcaaGreatDoorTypes
namespace Go.Proofs.YtldbpmlgbbomcaaGreatDoor
open Go.RowKit

def bareB (op:Int) (v:Val) (name:ByteArray) (n:Nat):Bool:=op == 0 && (name.toList.isEmpty && (valEq v ⟨0,0,⟨#[]⟩⟩ && (n:Int) == 0))
theorem bareB_cases (op:Int) (v:Val) (name:ByteArray) (n:Nat) :
  ((op == 0) = false ∧ bareB op v name n = false) ∨ ((op == 0) = true ∧ name.toList.isEmpty = false ∧ bareB op v name n = false) ∨
  ((op == 0) = true ∧ name.toList.isEmpty = true ∧ valEq v ⟨0,0,⟨#[]⟩⟩ = false ∧ bareB op v name n = false) ∨
  ((op == 0) = true ∧ name.toList.isEmpty = true ∧ valEq v ⟨0,0,⟨#[]⟩⟩ = true ∧ ((n:Int) == 0) = false ∧ bareB op v name n = false) ∨
  ((op == 0) = true ∧ name.toList.isEmpty = true ∧ valEq v ⟨0,0,⟨#[]⟩⟩ = true ∧ ((n:Int) == 0) = true ∧ bareB op v name n = true):=by
 unfold bareB
 cases (op == 0) <;> cases name.toList.isEmpty <;> cases valEq v ⟨0,0,⟨#[]⟩⟩ <;> cases ((n:Int) == 0) <;> simp

set_option maxRecDepth 100000 in
set_option maxHeartbeats 1000000 in
theorem field_none (op vk vn:Int) (vs name:ByteArray) (A:Option Addr) (n c:Nat) (w:World) (hn0:inL n) :
  Calls Tryz.prog 123 #[.agg #[.int .i64 op,.int .i64 vk,.int .i64 vn,.string vs,.string name,.slice A n c]] w (RetB w (bareB op ⟨vk,vn,vs⟩ name n)):=by
 have hn:n ≤ 140737488351232:=hn0
 have hne:=fun w => run_eql_Val w vk vn 0 0 vs ⟨#[]⟩
 rcases bareB_cases op ⟨vk,vn,vs⟩ name n with ⟨z1,e⟩ | ⟨z1,z2,e⟩ | ⟨z1,z2,z3,e⟩ | ⟨z1,z2,z3,z4,e⟩ | ⟨z1,z2,z3,z4,e⟩
 all_goals
  rw [e]
  clear e
  try simp only [z3] at hne
  go_enter Tryz.func123,Tryz.ntmps123
  go_wp2_with fail
  go_ret
  exact ⟨rfl,bel⟩
set_option maxRecDepth 100000 in
set_option maxHeartbeats 1000000 in
theorem ref_bare (op vk vn:Int) (vs name:ByteArray) (A:Option Addr) (n c:Nat) (w:World) (hn0:inL n) :
  Calls Tryz.prog 30 #[.agg #[.int .i64 op,.int .i64 vk,.int .i64 vn,.string vs,.string name,.slice A n c]] w (RetB w (bareB op ⟨vk,vn,vs⟩ name n)):=by
 have hn:n ≤ 140737488351232:=hn0
 have hne:=fun w => run_eql_Val w vk vn 0 0 vs ⟨#[]⟩
 rcases bareB_cases op ⟨vk,vn,vs⟩ name n with ⟨z1,e⟩ | ⟨z1,z2,e⟩ | ⟨z1,z2,z3,e⟩ | ⟨z1,z2,z3,z4,e⟩ | ⟨z1,z2,z3,z4,e⟩
 all_goals
  rw [e]
  clear e
  try simp only [z3] at hne
  go_enter Tryz.func30,Tryz.ntmps30
  go_wp2_with fail
  go_ret
  exact ⟨rfl,bel⟩
def fieldErr (f:Fld):Int:=if nameCheck f.name ≠ 0 then nameCheck f.name else if f.kind < 1 ∨ 3 < f.kind ∨ f.type < 1 ∨ 3 < f.type then 2
 else if f.kind = 1 then (if bareB f.source.op f.source.v f.source.name f.source.args.length then 0 else 3) else exprErr f.source
theorem fieldErr_cases (f:Fld):((nameCheck f.name != 0) = true ∧ fieldErr f = nameCheck f.name) ∨ (nameCheck f.name = 0 ∧ f.kind < 1 ∧ fieldErr f = 2) ∨ (nameCheck f.name = 0 ∧ ¬ f.kind < 1 ∧ 3 < f.kind ∧ fieldErr f = 2) ∨
  (nameCheck f.name = 0 ∧ ¬ f.kind < 1 ∧ ¬ 3 < f.kind ∧ f.type < 1 ∧ fieldErr f = 2) ∨ (nameCheck f.name = 0 ∧ ¬ f.kind < 1 ∧ ¬ 3 < f.kind ∧ ¬ f.type < 1 ∧ 3 < f.type ∧ fieldErr f = 2) ∨
  (nameCheck f.name = 0 ∧ ¬ f.kind < 1 ∧ ¬ 3 < f.kind ∧ ¬ f.type < 1 ∧ ¬ 3 < f.type ∧ ((f.kind == 1) = true ∧ ¬ 1 < f.kind) ∧ bareB f.source.op f.source.v f.source.name f.source.args.length = true ∧ fieldErr f = 0) ∨
  (nameCheck f.name = 0 ∧ ¬ f.kind < 1 ∧ ¬ 3 < f.kind ∧ ¬ f.type < 1 ∧ ¬ 3 < f.type ∧ ((f.kind == 1) = true ∧ ¬ 1 < f.kind) ∧ bareB f.source.op f.source.v f.source.name f.source.args.length = false ∧ fieldErr f = 3) ∨
  (nameCheck f.name = 0 ∧ ¬ f.kind < 1 ∧ ¬ 3 < f.kind ∧ ¬ f.type < 1 ∧ ¬ 3 < f.type ∧ ((f.kind == 1) = false ∧ 1 < f.kind) ∧ True ∧ fieldErr f = exprErr f.source):=by
 unfold fieldErr
 by_cases h0:nameCheck f.name = 0
 ·rw [if_neg (by simpa using h0)]
  by_cases h1:f.kind < 1
  ·rw [if_pos (.inl h1)];simp [h0,h1]
  ·by_cases h2:3 < f.kind
   ·rw [if_pos (.inr (.inl h2))];simp [h0,h1,h2]
   ·by_cases h3:f.type < 1
    ·rw [if_pos (.inr (.inr (.inl h3)))];simp [h0,h1,h2,h3]
    ·by_cases h4:3 < f.type
     ·rw [if_pos (.inr (.inr (.inr h4)))];simp [h0,h1,h2,h3,h4]
     ·rw [if_neg (by omega)]
      by_cases h5:f.kind = 1
      ·rw [if_pos h5]
       cases bareB f.source.op f.source.v f.source.name f.source.args.length <;> simp [h0,h3,h4,h5]
      ·rw [if_neg h5]
       have:1 < f.kind:=by omega
       simp [h0,h1,h2,h3,h4,h5,this]
 ·rw [if_pos h0];simp [h0]
theorem RFld.parts {w:World} {S:Nat → Prop} {f:Fld} {X:Option Addr} {C:Nat}
  (h:RFld w S [.string f.name,.int .i64 f.kind,.int .i64 f.type,.int .i64 f.source.op,.int .i64 f.source.v.k,.int .i64 f.source.v.n,.string f.source.v.s,.string f.source.name,.slice X f.source.args.length C] f) :
  inS f.name ∧ inI f.kind ∧ inI f.type ∧ XRep w S [.int .i64 f.source.op,.int .i64 f.source.v.k,.int .i64 f.source.v.n,.string f.source.v.s,.string f.source.name,.slice X f.source.args.length C] f.source:=by
 obtain ⟨h1,h2,h3,xs,e,hx⟩:=h
 simp only [List.cons.injEq,true_and] at e
 rw [← e] at hx
 exact ⟨h1,h2,h3,hx⟩

set_option maxRecDepth 100000 in
set_option maxHeartbeats 2000000 in
theorem field_Right (f:Fld) (X:Option Addr) (C:Nat) (w:World) (hf:RFld w (old w) [.string f.name,.int .i64 f.kind,.int .i64 f.type,.int .i64 f.source.op,.int .i64 f.source.v.k,.int .i64 f.source.v.n,.string f.source.v.s,.string f.source.name,.slice X f.source.args.length C] f) :
  Calls Tryz.prog 71 #[.agg #[.string f.name,.int .i64 f.kind,.int .i64 f.type,.int .i64 f.source.op,.int .i64 f.source.v.k,.int .i64 f.source.v.n,.string f.source.v.s,.string f.source.name,.slice X f.source.args.length C]] w (RetI w (fieldErr f)):=by
 obtain ⟨r1,r2,r3,r4⟩:=hf.parts
 have hlx:=fun w => lex_Name f.name w (inS_max r1)
 have hal:=r4.kids.2.2.2.1.l (by decide)
 have hbr:=fun w => field_none f.source.op f.source.v.k f.source.v.n f.source.v.s f.source.name X f.source.args.length C w hal
 rw [show (⟨f.source.v.k,f.source.v.n,f.source.v.s⟩:Val) = f.source.v from rfl] at hbr
 have hck:=fun w h => expr_Check f.source X C w h
 have HX:=Lib.hid r4
 clear hf r1 r2 r3 r4 hal
 rcases fieldErr_cases f with ⟨z,e⟩ | ⟨z,z1,e⟩ | ⟨z,z1,z2,e⟩ | ⟨z,z1,z2,z3,e⟩ | ⟨z,z1,z2,z3,z4,e⟩ | ⟨z,z1,z2,z3,z4,⟨z5,z6⟩,z7,e⟩ | ⟨z,z1,z2,z3,z4,⟨z5,z6⟩,z7,e⟩ | ⟨z,z1,z2,z3,z4,⟨z5,z6⟩,z7,e⟩
 all_goals
  rw [e]
  clear e
  try (simp only [z] at hlx;clear z)
  try simp only [z7] at hbr
  try generalize nameCheck f.name = nc at hlx z ⊢
  try generalize exprErr f.source = ec at hck ⊢
  try clear z7
 all_goals
  go_enter Tryz.func71,Tryz.ntmps71
  go_wp2_with (first | (go_at_call 68;refine (hlx _).mono ?_;rintro e w1 ⟨rfl,rfl⟩) | (go_at_call 123;refine (hbr _).mono ?_;rintro e w2 ⟨rfl,hb2⟩) | (go_at_call 19;refine (hck _ (HX.out.keep (old_keep bel))).mono ?_;rintro e w2 ⟨rfl,hb2⟩))
  go_ret
  exact ⟨rfl,bel⟩
set_option maxRecDepth 100000 in
set_option maxHeartbeats 2000000 in
theorem ref_FieldFault (f:Fld) (X:Option Addr) (C:Nat) (w:World) (hf:RFld w (old w) [.string f.name,.int .i64 f.kind,.int .i64 f.type,.int .i64 f.source.op,.int .i64 f.source.v.k,.int .i64 f.source.v.n,.string f.source.v.s,.string f.source.name,.slice X f.source.args.length C] f) :
  Calls Tryz.prog 150 #[.agg #[.string f.name,.int .i64 f.kind,.int .i64 f.type,.int .i64 f.source.op,.int .i64 f.source.v.k,.int .i64 f.source.v.n,.string f.source.v.s,.string f.source.name,.slice X f.source.args.length C]] w (RetI w (fieldErr f)):=by
 obtain ⟨r1,r2,r3,r4⟩:=hf.parts
 have hlx:=fun w => ref_LexName f.name w (inS_max r1)
 have hal:=r4.kids.2.2.2.1.l (by decide)
 have hbr:=fun w => ref_bare f.source.op f.source.v.k f.source.v.n f.source.v.s f.source.name X f.source.args.length C w hal
 rw [show (⟨f.source.v.k,f.source.v.n,f.source.v.s⟩:Val) = f.source.v from rfl] at hbr
 have hck:=fun w h => ref_ExprFault f.source X C w h
 have HX:=Lib.hid r4
 clear hf r1 r2 r3 r4 hal
 rcases fieldErr_cases f with ⟨z,e⟩ | ⟨z,z1,e⟩ | ⟨z,z1,z2,e⟩ | ⟨z,z1,z2,z3,e⟩ | ⟨z,z1,z2,z3,z4,e⟩ | ⟨z,z1,z2,z3,z4,⟨z5,z6⟩,z7,e⟩ | ⟨z,z1,z2,z3,z4,⟨z5,z6⟩,z7,e⟩ | ⟨z,z1,z2,z3,z4,⟨z5,z6⟩,z7,e⟩
 all_goals
  rw [e]
  clear e
  try (simp only [z] at hlx;clear z)
  try simp only [z7] at hbr
  try generalize nameCheck f.name = nc at hlx z ⊢
  try generalize exprErr f.source = ec at hck ⊢
  try clear z7
 all_goals
  go_enter Tryz.func150,Tryz.ntmps150
  go_wp2_with (first | (go_at_call 74;refine (hlx _).mono ?_;rintro e w1 ⟨rfl,hb1⟩;obtain ⟨hc1,hf1⟩:=bcell hb1;(try simp only [bqh,bqc,bqf] at hc1 hf1);have hz1:=hb1.size;(try simp at hz1);(try have hy1:=nl1 hz1);(try have hx1:=nl2 hy1);refine szz w1 w ?_;intros;) | (go_at_call 30;refine (hbr _).mono ?_;rintro e w2 ⟨rfl,hb2⟩) | (go_at_call 22;refine (hck _ (HX.out.keep (old_keep bel))).mono ?_;rintro e w2 ⟨rfl,hb2⟩))
  go_ret
  exact ⟨rfl,bel⟩
end Go.Proofs.YtldbpmlgbbomcaaGreatDoor
