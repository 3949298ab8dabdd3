/- Of which type a formula is: the plain function. -/
import Derived.Test.YtldbpmlgbbomcaaGreatDoorRul
import Derived.Test.YtldbpmlgbbomcaaGreatDoorBkw
import Derived.Test.YtldbpmlgbbomcaaGreatDoorPrt3
import Derived.Test.YtldbpmlgbbomcaaGreatDoorFld1
namespace Go.Proofs.YtldbpmlgbbomcaaGreatDoor
open Go.RowKit

def RetP (w:World) (r:Int × Int) (e:Ending) (w':World):Prop:=e = .returned (.tuple #[.int .i64 r.1,.int .i64 r.2]) ∧ Below w.heap.size w w'
def fieldTy (l:List Fld) (name:ByteArray):Option Int:=(l.find? (hasName name)).map (·.type)
def tyApp (op:Int) (ts:List Int):Int × Int :=
 match wantOf op with
 | some q => if ts.all (· == q.1) then (q.2.2,0) else (0,9)
 | none => if op = 17 then (if (ts[0]?.getD 0 == 2 && ts[1]?.getD 0 == ts[2]?.getD 0) then (ts[1]?.getD 0,0) else (0,9))
  else if ts[0]?.getD 0 == ts[1]?.getD 0 then (2,0) else (0,9)
mutual
def tyX (l:List Fld):Exp → Int × Int
 | .mk op v name args => if op = 1 then (v.k,0) else if op = 2 then (match fieldTy l name with | some t => (t,0) | none => (0,5))
  else match (tyL l args).find? (fun r => r.2 != 0) with | some r => (0,r.2) | none => tyApp op ((tyL l args).map (·.1))
def tyL (l:List Fld):List Exp → List (Int × Int)
 | [] => []
 | a :: r => tyX l a :: tyL l r
end
theorem tyL_map (l:List Fld):∀ xs,tyL l xs = xs.map (tyX l)
 | [] => by simp [tyL]
 | a :: r => by simp [tyL,tyL_map l r]
theorem tyX_const (l:List Fld) {x:Exp} (h:x.op = 1):tyX l x = (x.v.k,0):=by
 obtain ⟨op,v,nm,args⟩:=x
 have h':op = 1:=h
 simp [tyX,h',Exp.v]
theorem tyX_ref (l:List Fld) {x:Exp} (h:x.op = 2):tyX l x = (match fieldTy l x.name with | some t => (t,0) | none => (0,5)):=by
 obtain ⟨op,v,nm,args⟩:=x
 have h':op = 2:=h
 simp [tyX,h',Exp.name]
theorem tyX_app (l:List Fld) {x:Exp} (h1:x.op ≠ 1) (h2:x.op ≠ 2):tyX l x = (match (x.args.map (tyX l)).find? (fun r => r.2 != 0) with | some r => (0,r.2) | none => tyApp x.op ((x.args.map (tyX l)).map (·.1))):=by
 obtain ⟨op,v,nm,args⟩:=x
 have h1':op ≠ 1:=h1
 have h2':op ≠ 2:=h2
 simp only [tyX,h1',h2',if_false,tyL_map]
 rfl
theorem tyX_err (l:List Fld) {x a:Exp} {k:Nat} (h1:x.op ≠ 1) (h2:x.op ≠ 2) (hz:∀ a ∈ x.args.take k,(tyX l a).2 = 0) (ha:x.args[k]? = some a) (he:(tyX l a).2 ≠ 0):tyX l x = (0,(tyX l a).2):=by
 rw [tyX_app l h1 h2]
 have hk:k < x.args.length:=(List.getElem?_eq_some_iff.1 ha).1
 have hka:x.args[k] = a:=by rw [List.getElem?_eq_getElem hk] at ha;exact Option.some.inj ha
 have e1:x.args = x.args.take k ++ a :: x.args.drop (k + 1):=by rw [← hka,← List.drop_eq_getElem_cons hk,List.take_append_drop]
 have e2:(x.args.map (tyX l)).find? (fun r => r.2 != 0) = some (tyX l a):=by
  rw [e1,List.map_append,List.find?_append,List.find?_eq_none.2 (fun r hr => by
   obtain ⟨b,hb,rfl⟩:=List.mem_map.1 hr
   simp [hz b hb])]
  simp [he]
 rw [e2]
theorem tyX_all (l:List Fld) {x:Exp} (h1:x.op ≠ 1) (h2:x.op ≠ 2) (hz:∀ a ∈ x.args,(tyX l a).2 = 0):tyX l x = tyApp x.op (x.args.map fun a => (tyX l a).1):=by
 rw [tyX_app l h1 h2]
 have e2:(x.args.map (tyX l)).find? (fun r => r.2 != 0) = none:=List.find?_eq_none.2 (fun r hr => by
  obtain ⟨b,hb,rfl⟩:=List.mem_map.1 hr
  simp [hz b hb])
 rw [e2,List.map_map]
 rfl
theorem prt_ok {x:Exp} (h:prtN x = 0):1 ≤ x.op ∧ x.op ≤ 18 ∧ (x.args.length:Int) = argsN x.op ∧ ∀ a ∈ x.args,prtN a = 0:=by
 rw [prtN_eq] at h
 by_cases hp:partErr x.op x.v x.name x.args.length = 0
 ·rw [if_pos hp] at h
  unfold partErr at hp
  by_cases ho:x.op < 1 ∨ 18 < x.op
  ·rw [if_pos ho] at hp;cases hp
  ·rw [if_neg ho] at hp
   have hk:partOk x.op x.v x.name x.args.length = true:=by
    cases hq:partOk x.op x.v x.name x.args.length
    ·rw [hq] at hp;simp at hp
    ·rfl
   unfold partOk at hk
   simp only [Bool.and_eq_true,decide_eq_true_eq] at hk
   refine ⟨by omega,by omega,hk.1,?_⟩
   have hall:∀ l:List Exp,prtL l = 0 → ∀ a ∈ l,prtN a = 0:=by
    intro l
    induction l with
    | nil => intro _ a ha;cases ha
    | cons b r ih =>
     intro hl a ha
     rw [prtL] at hl
     by_cases hb:prtN b = 0
     ·rw [if_pos hb] at hl
      rcases List.mem_cons.1 ha with rfl | ha
      ·exact hb
      ·exact ih hl a ha
     ·rw [if_neg hb] at hl;exact absurd hl hb
   exact hall _ h
 ·rw [if_neg hp] at h;exact absurd h hp
theorem typeMap_at (name:ByteArray):∀ l:List Fld,typeMap l.reverse (.string name.data.toList) = (fieldTy l name).map (fun t => Value.int .i64 t)
 | [] => rfl
 | a :: r => by
  rw [List.reverse_cons,typeMap_snoc]
  unfold fieldTy
  cases hn:hasName name a
  ·have hne:(Lit.string name.data.toList) ≠ .string a.name.data.toList:=by
    unfold hasName at hn
    rw [ByteArray.toList_eq,ByteArray.toList_eq] at hn
    intro e
    injection e with e
    simp [e] at hn
   rw [putAt_other hne,typeMap_at name r,List.find?_cons_of_neg (by simp [hn])]
   rfl
  ·have he:(Lit.string name.data.toList) = .string a.name.data.toList:=by
    unfold hasName at hn
    rw [ByteArray.toList_eq,ByteArray.toList_eq] at hn
    rw [show name.data.toList = a.name.data.toList from (by simpa using hn:_ = _).symm]
   rw [he,putAt_same (by simp [WideAt.IsKeyLit]),List.find?_cons_of_pos (by simp [hn])]
   rfl
theorem wantOf_some {op wt own:Int} {m:Nat} (h:wantOf op = some (wt,m,own)):(m:Int) = argsN op ∧ (wt = 1 ∨ wt = 2 ∨ wt = 3) ∧ (m = 1 ∨ m = 2):=by
 unfold wantOf at h
 unfold argsN
 split at h
 ·cases h;subst op;simp
 split at h
 ·cases h;subst op;simp
 split at h
 ·cases h;subst op;simp
 split at h
 ·rename_i h4;cases h;rcases h4 with h4 | h4 | h4 | h4 | h4 <;> subst h4 <;> simp
 split at h
 ·cases h;subst op;simp
 split at h
 ·rename_i h6;cases h;rcases h6 with h6 | h6 <;> subst h6 <;> simp
 ·cases h
theorem wantOf_none {op:Int} (h:wantOf op = none) (h1:3 ≤ op) (h2:op ≤ 18):op = 17 ∨ (11 ≤ op ∧ op ≤ 14):=by
 rcases (by omega:op = 3 ∨ op = 4 ∨ op = 5 ∨ op = 6 ∨ op = 7 ∨ op = 8 ∨ op = 9 ∨ op = 10 ∨ op = 15 ∨ op = 16 ∨ op = 18 ∨ op = 17 ∨ (11 ≤ op ∧ op ≤ 14)) with e | e | e | e | e | e | e | e | e | e | e | e | e
 all_goals first | exact .inl e | exact .inr e | (subst e;exact absurd h (by decide))
theorem tyApp_known {op wt own:Int} {m:Nat} {ts:List Int} (h:wantOf op = some (wt,m,own)) (hl:ts.length = m):tyApp op ts = if (ts.take m == [wt,wt].take m) then (own,0) else (0,9):=by
 have hm:=(wantOf_some h).2.2
 unfold tyApp
 rw [h]
 have e:ts.all (· == wt) = (ts.take m == [wt,wt].take m):=by
  rcases hm with rfl | rfl
  ·match ts,hl with
   | [a],_ => simp
  ·match ts,hl with
   | [a,b],_ => simp
 show (if ts.all (· == wt) = true then _ else _) = _
 rw [e]
theorem tyApp_if {op a b c:Int} (h:op = 17):tyApp op [a,b,c] = if (a == 2 && b == c) then (b,0) else (0,9):=by
 subst h;rfl
theorem tyApp_cmp {op a b:Int} (h:11 ≤ op ∧ op ≤ 14):tyApp op [a,b] = if a == b then (2,0) else (0,9):=by
 have h1:wantOf op = none:=by
  rcases (by omega:op = 11 ∨ op = 12 ∨ op = 13 ∨ op = 14) with rfl | rfl | rfl | rfl <;> rfl
 unfold tyApp
 rw [h1]
 have h2:op ≠ 17:=by omega
 simp [h2]
theorem Rules.row {w:World} {b g:Nat} (h:Rules w b g) {wt:Int} (hw:wt = 1 ∨ wt = 2 ∨ wt = 3):Row3 w (g + (wt.toNat - 1)) wt:=by
 rcases hw with rfl | rfl | rfl
 ·exact h.2.1
 ·exact h.2.2.1
 ·exact h.2.2.2.1
end Go.Proofs.YtldbpmlgbbomcaaGreatDoor
