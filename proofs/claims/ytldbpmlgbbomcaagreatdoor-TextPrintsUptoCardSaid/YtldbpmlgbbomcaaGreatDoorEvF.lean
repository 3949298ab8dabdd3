/- What fields are, by their names, as a map: eval.facts; and the small functions of eval. -/
import Derived.Test.YtldbpmlgbbomcaaGreatDoorEv
import Derived.Test.YtldbpmlgbbomcaaGreatDoorAsk
import Derived.Test.YtldbpmlgbbomcaaGreatDoorTypes
import Derived.Test.YtldbpmlgbbomcaaGreatDoorRul
namespace Go.Proofs.YtldbpmlgbbomcaaGreatDoor
open Go.RowKit Go.Maps

abbrev Val.ag (v:Val):Value:=.agg #[.int .i64 v.k,.int .i64 v.n,.string v.s]
abbrev keyL (s:ByteArray):Lit:=.string s.data.toList
def stepMap (f:Lit → Option Value) (x:Fct):Lit → Option Value:=if (f (keyL x.name)).isSome then f else putAt f (keyL x.name) x.has.ag
def factMap (l:List Fct):Lit → Option Value:=l.foldl stepMap (fun _ => none)
theorem factMap_next {l:List Fct} {k:Nat} {x:Fct} (h:l[k]? = some x):factMap (l.take (k + 1)) = stepMap (factMap (l.take k)) x:=by
 unfold factMap;rw [List.take_add_one,h,List.foldl_append];rfl
theorem stepMap_none {f:Lit → Option Value} {x:Fct} (h:f (keyL x.name) = none):stepMap f x = putAt f (keyL x.name) x.has.ag:=by unfold stepMap;rw [h];rfl
theorem stepMap_some {f:Lit → Option Value} {x:Fct} {v:Value} (h:f (keyL x.name) = some v):stepMap f x = f:=by unfold stepMap;rw [h];rfl
theorem factMap_from (nm:ByteArray):∀ (l:List Fct) (f:Lit → Option Value),(l.foldl stepMap f) (keyL nm) = match f (keyL nm) with | some v => some v | none => (factV l nm).map Val.ag
 | [],f => by
  show f (keyL nm) = _
  cases f (keyL nm) <;> rfl
 | a :: r,f => by
  rw [List.foldl_cons,factMap_from nm r]
  cases hs:sameName nm a
  ·have hne:keyL nm ≠ keyL a.name:=by
    unfold sameName at hs
    rw [ByteArray.toList_eq,ByteArray.toList_eq] at hs
    intro e
    injection e with e
    simp [e] at hs
   have e1:stepMap f a (keyL nm) = f (keyL nm):=by
    unfold stepMap;split
    ·rfl
    ·exact putAt_other hne
   have e2:factV (a :: r) nm = factV r nm:=by unfold factV;rw [List.find?_cons_of_neg (by simp [hs])]
   rw [e1,e2]
  ·have he:keyL nm = keyL a.name:=by
    unfold sameName at hs
    rw [ByteArray.toList_eq,ByteArray.toList_eq] at hs
    show Lit.string _ = Lit.string _
    rw [show nm.data.toList = a.name.data.toList from (by simpa using hs:_ = _).symm]
   have e2:factV (a :: r) nm = some a.has:=by unfold factV;rw [List.find?_cons_of_pos (by simp [hs])];rfl
   rw [e2,he]
   cases hf:f (keyL a.name) with
   | some v => rw [stepMap_some hf,hf]
   | none => rw [stepMap_none hf,putAt_same (by simp [WideAt.IsKeyLit])];rfl
theorem factMap_at (nm:ByteArray) (l:List Fct):factMap l (keyL nm) = (factV l nm).map Val.ag:=factMap_from nm l _
def hasErr (l:List Fct) (i:Nat):Int:=match l[i]? with
 | some x => valCheck x.has
 | none => 0
def factsErr (l:List Fct):Int:=firstErr (hasErr l) l.length
theorem hasErr_at {l:List Fct} {k:Nat} {x:Fct} (h:l[k]? = some x):hasErr l k = valCheck x.has:=by unfold hasErr;rw [h]
theorem factsErr_hit {l:List Fct} {k:Nat} {x:Fct} (h:firstErr (hasErr l) k = 0) (hx:l[k]? = some x) (he:valCheck x.has ≠ 0):factsErr l = valCheck x.has:=by
 unfold factsErr
 rw [firstErr_hit h (by rw [hasErr_at hx];exact he) _ (List.getElem?_eq_some_iff.1 hx).1,hasErr_at hx]
theorem factsErr_ok {l:List Fct} (h:factsErr l = 0):factsOk l:=by
 intro f hf
 obtain ⟨i,hi⟩:=List.mem_iff_getElem?.1 hf
 rw [← hasErr_at hi]
 exact firstErr_all h i (List.getElem?_eq_some_iff.1 hi).1
section
variable {P:Program} (w:World) {ops:Array Oper} {rest:List Oper} {o:Oper} {a:Act} {Q:Exit → Act → World → Prop}
theorem wpList_insert_Is (hg:o.guard = none) (m x v:Operand) (t:TypeId) (hop:o.op = Op.insert t m x v) (k e:TypeId) (K:Keyed P k) (ht:P.underlying t = some (.map k e))
  (b n:Nat) (f:Lit → Option Value) (hm:a.eval m = .map (some b)) (hown:MapIs w P k b n f) (hn:n < maxLen) (key val:Value) (kl:Lit) (hx:a.eval x = key) (hv:a.eval v = val) (hkey:keyOf P k key = some kl)
  (hK:∀ w',MapIs w' P k b (n + 1) (putAt f kl val) → w.grownBy w' (some b) → wpList P ops Q rest (a.put o.dst undef) w'):wpList P ops Q (o :: rest) a w :=
 wpList_plain hg fun _ hK' => wp_insert_Is m x v t hop k e K ht b n f hm hown hn key val kl hx hv hkey fun w' h1 h2 => hK' _ _ (hK w' h1 h2)
end
theorem Tryz.zeroVal (w:World):(zeroValue 23).run Tryz.prog w = .ok (.agg #[.int .i64 0,.int .i64 0,.string ⟨#[]⟩]) w:=by kernel_rfl
theorem Tryz.keyStr' (s:ByteArray) (h:inS s):keyOf Tryz.prog 9 (.string s) = some (keyL s):=Tryz.keyStr s h
theorem val_wf {v:Val} (h:valCheck v = 0):v.wf:=by
 have hs:=val_size h
 have hb:∀ n:Int,-1099511627776 ≤ n → n ≤ 1099511627776 → inI n:=by
  intro n h1 h2
  unfold inI
  rw [Lit.wf]
  have e:IntKind.i64.min = -9223372036854775808:=by decide
  have e':IntKind.i64.max = 9223372036854775807:=by decide
  simp only [e,e',Bool.and_eq_true,decide_eq_true_eq]
  omega
 have hk:=valCheck_kind h
 refine ⟨hb _ (by omega) (by omega),?_,by unfold inS;omega⟩
 rcases (by omega:v.k = 1 ∨ v.k = 2 ∨ v.k = 3 ∨ v.k = 4 ∨ v.k = 5) with e | e | e | e | e
 ·have:=numCheck_lo (val_int h e).1;exact hb _ (by omega) (by omega)
 ·have:=(val_bool h e).1;exact hb _ (by omega) (by omega)
 ·have:=(val_text h e).1;exact hb _ (by omega) (by omega)
 ·rw [val_pend h e];exact hb _ (by decide) (by decide)
 ·unfold valCheck at h
  rw [if_neg (by omega),if_neg (by omega),if_neg (by omega),if_neg (by omega),if_pos e] at h
  split at h
  ·cases h
  ·exact hb _ (by omega) (by omega)

def RetF (w:World) (l:List Fct) (n:Nat) (e:Ending) (w':World):Prop :=
 (if factsErr l = 0 then e = .returned (.tuple #[.map (some w.heap.size),.int .i64 0]) ∧ MapIs w' Tryz.prog 9 w.heap.size n (factMap l) else e = .returned (.tuple #[.map none,.int .i64 (factsErr l)])) ∧ Below w.heap.size w w'
def RetTB (w:World) (b:Bool) (e:Ending) (w':World):Prop:=e = .returned (.bool b) ∧ Below w.heap.size w w'
end Go.Proofs.YtldbpmlgbbomcaaGreatDoor
