/- One field by itself: field.none and bare, field.Right and FieldFault. -/
import Derived.Test.YtldhlpjjcnlbcaaDoorPrt3
import Derived.Test.YtldhlpjjcnlbcaaDoorPrt4
import Derived.Test.YtldhlpjjcnlbcaaDoorTypes
namespace Go.Proofs.YtldhlpjjcnlbcaaDoor
open Go.RowKit

def bareB (op:Int) (v:Val) (name:ByteArray) (n:Nat):Bool:=op == 0 && (name.toList.isEmpty && (valEq v ⟨0,0,⟨#[]⟩⟩ && (n:Int) == 0))
theorem bareB_cases (op:Int) (v:Val) (name:ByteArray) (n:Nat) :
  ((op == 0) = false ∧ bareB op v name n = false) ∨ ((op == 0) = true ∧ name.toList.isEmpty = false ∧ bareB op v name n = false) ∨
  ((op == 0) = true ∧ name.toList.isEmpty = true ∧ valEq v ⟨0,0,⟨#[]⟩⟩ = false ∧ bareB op v name n = false) ∨
  ((op == 0) = true ∧ name.toList.isEmpty = true ∧ valEq v ⟨0,0,⟨#[]⟩⟩ = true ∧ ((n:Int) == 0) = false ∧ bareB op v name n = false) ∨
  ((op == 0) = true ∧ name.toList.isEmpty = true ∧ valEq v ⟨0,0,⟨#[]⟩⟩ = true ∧ ((n:Int) == 0) = true ∧ bareB op v name n = true):=by
 unfold bareB
 cases (op == 0) <;> cases name.toList.isEmpty <;> cases valEq v ⟨0,0,⟨#[]⟩⟩ <;> cases ((n:Int) == 0) <;> simp

def fieldErr (f:Fld):Int:=if nameCheck f.name ≠ 0 then nameCheck f.name else if f.kind < 1 ∨ 3 < f.kind ∨ f.type < 1 ∨ 3 < f.type then 2
 else if f.kind = 1 then (if bareB f.source.op f.source.v f.source.name f.source.args.length then 0 else 3) else exprErr f.source
theorem fieldErr_cases (f:Fld):((nameCheck f.name != 0) = true ∧ fieldErr f = nameCheck f.name) ∨ (nameCheck f.name = 0 ∧ f.kind < 1 ∧ fieldErr f = 2) ∨ (nameCheck f.name = 0 ∧ ¬ f.kind < 1 ∧ 3 < f.kind ∧ fieldErr f = 2) ∨
  (nameCheck f.name = 0 ∧ ¬ f.kind < 1 ∧ ¬ 3 < f.kind ∧ f.type < 1 ∧ fieldErr f = 2) ∨ (nameCheck f.name = 0 ∧ ¬ f.kind < 1 ∧ ¬ 3 < f.kind ∧ ¬ f.type < 1 ∧ 3 < f.type ∧ fieldErr f = 2) ∨
  (nameCheck f.name = 0 ∧ ¬ f.kind < 1 ∧ ¬ 3 < f.kind ∧ ¬ f.type < 1 ∧ ¬ 3 < f.type ∧ ((f.kind == 1) = true ∧ ¬ 1 < f.kind) ∧ bareB f.source.op f.source.v f.source.name f.source.args.length = true ∧ fieldErr f = 0) ∨
  (nameCheck f.name = 0 ∧ ¬ f.kind < 1 ∧ ¬ 3 < f.kind ∧ ¬ f.type < 1 ∧ ¬ 3 < f.type ∧ ((f.kind == 1) = true ∧ ¬ 1 < f.kind) ∧ bareB f.source.op f.source.v f.source.name f.source.args.length = false ∧ fieldErr f = 3) ∨
  (nameCheck f.name = 0 ∧ ¬ f.kind < 1 ∧ ¬ 3 < f.kind ∧ ¬ f.type < 1 ∧ ¬ 3 < f.type ∧ ((f.kind == 1) = false ∧ 1 < f.kind) ∧ True ∧ fieldErr f = exprErr f.source):=by
 unfold fieldErr
 by_cases h0:nameCheck f.name = 0
 ·rw [if_neg (by simpa using h0)]
  by_cases h1:f.kind < 1
  ·rw [if_pos (.inl h1)];simp [h0,h1]
  ·by_cases h2:3 < f.kind
   ·rw [if_pos (.inr (.inl h2))];simp [h0,h1,h2]
   ·by_cases h3:f.type < 1
    ·rw [if_pos (.inr (.inr (.inl h3)))];simp [h0,h1,h2,h3]
    ·by_cases h4:3 < f.type
     ·rw [if_pos (.inr (.inr (.inr h4)))];simp [h0,h1,h2,h3,h4]
     ·rw [if_neg (by omega)]
      by_cases h5:f.kind = 1
      ·rw [if_pos h5]
       cases bareB f.source.op f.source.v f.source.name f.source.args.length <;> simp [h0,h3,h4,h5]
      ·rw [if_neg h5]
       have:1 < f.kind:=by omega
       simp [h0,h1,h2,h3,h4,h5,this]
 ·rw [if_pos h0];simp [h0]
theorem RFld.parts {w:World} {S:Nat → Prop} {f:Fld} {X:Option Addr} {C:Nat}
  (h:RFld w S [.string f.name,.int .i64 f.kind,.int .i64 f.type,.int .i64 f.source.op,.int .i64 f.source.v.k,.int .i64 f.source.v.n,.string f.source.v.s,.string f.source.name,.slice X f.source.args.length C] f) :
  inS f.name ∧ inI f.kind ∧ inI f.type ∧ XRep w S [.int .i64 f.source.op,.int .i64 f.source.v.k,.int .i64 f.source.v.n,.string f.source.v.s,.string f.source.name,.slice X f.source.args.length C] f.source:=by
 obtain ⟨h1,h2,h3,xs,e,hx⟩:=h
 simp only [List.cons.injEq,true_and] at e
 rw [← e] at hx
 exact ⟨h1,h2,h3,hx⟩

end Go.Proofs.YtldhlpjjcnlbcaaDoor
