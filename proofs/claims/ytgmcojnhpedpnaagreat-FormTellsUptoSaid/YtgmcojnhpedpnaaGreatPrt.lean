/- One part of a formula: what expr.part and the reference partFault ask of it. -/
import Derived.Test.YtgmcojnhpedpnaaGreatSiz
import Derived.Test.YtgmcojnhpedpnaaGreatVal
import Derived.Test.YtgmcojnhpedpnaaGreatIdx
import Derived.Test.YtgmcojnhpedpnaaGreatLexName
namespace Go.Proofs.YtgmcojnhpedpnaaGreat
open Go.RowKit

def argsN (op : Int) : Int := if op = 1 ∨ op = 2 then 0 else if op = 3 ∨ op = 4 ∨ op = 18 then 1 else if op = 17 then 3 else 2
set_option maxHeartbeats 1000000 in
theorem ref_argsOf (op : Int) (w : World) : Calls Tryz.prog 104 #[.int .i64 op] w (RetI w (argsN op)) := by
  rcases (by omega : op = 1 ∨ op = 2 ∨ op = 3 ∨ op = 4 ∨ op = 18 ∨ op = 17 ∨ (op ≠ 1 ∧ op ≠ 2 ∧ op ≠ 3 ∧ op ≠ 4 ∧ op ≠ 18 ∧ op ≠ 17)) with rfl | rfl | rfl | rfl | rfl | rfl | ⟨h1, h2, h3, h4, h5, h6⟩
  case inr.inr.inr.inr.inr.inr =>
    have e : argsN op = 2 := by rw [argsN, if_neg (by omega), if_neg (by omega), if_neg (by omega)]
    have h1' : (op == 1) = false := by simpa using h1
    have h2' : (op == 2) = false := by simpa using h2
    have h3' : (op == 3) = false := by simpa using h3
    have h4' : (op == 4) = false := by simpa using h4
    have h5' : (op == 18) = false := by simpa using h5
    have h6' : (op == 17) = false := by simpa using h6
    rw [e]
    clear e h1 h2 h3 h4 h5 h6
    go_enter Tryz.func104, Tryz.ntmps104
    go_wp2
    go_ret
    exact ⟨rfl, Below.refl _ _⟩
  all_goals
    go_enter Tryz.func104, Tryz.ntmps104
    go_wp2
    go_ret
    exact ⟨rfl, Below.refl _ _⟩
/-- The table of shapes, as its cells. -/
def shapesC : List Value := [.string ⟨#[]⟩, .int .i64 0, .int .i64 0, .string ⟨#[]⟩, .int .i64 7, .int .i64 0, .string ⟨#[]⟩, .int .i64 7, .int .i64 0, .string ⟨#[45]⟩, .int .i64 6, .int .i64 1, .string ⟨#[110, 111, 116]⟩, .int .i64 6, .int .i64 1, .string ⟨#[42]⟩, .int .i64 5, .int .i64 2, .string ⟨#[47]⟩, .int .i64 5, .int .i64 2, .string ⟨#[37]⟩, .int .i64 5, .int .i64 2, .string ⟨#[43]⟩, .int .i64 4, .int .i64 2, .string ⟨#[45]⟩, .int .i64 4, .int .i64 2, .string ⟨#[38]⟩, .int .i64 4, .int .i64 2, .string ⟨#[60]⟩, .int .i64 3, .int .i64 2, .string ⟨#[60, 61]⟩, .int .i64 3, .int .i64 2, .string ⟨#[61]⟩, .int .i64 3, .int .i64 2, .string ⟨#[33, 61]⟩, .int .i64 3, .int .i64 2, .string ⟨#[97, 110, 100]⟩, .int .i64 2, .int .i64 2, .string ⟨#[111, 114]⟩, .int .i64 1, .int .i64 2, .string ⟨#[105, 102]⟩, .int .i64 7, .int .i64 3, .string ⟨#[108, 101, 110]⟩, .int .i64 7, .int .i64 1]
theorem Tryz.shape1 (w : World) : (Instr.index 145 (.agg shapesC.toArray) (.int .i64 1)).run Tryz.prog w = .ok (.agg #[.string ⟨#[]⟩, .int .i64 7, .int .i64 0]) w := by kernel_rfl
theorem Tryz.shape2 (w : World) : (Instr.index 145 (.agg shapesC.toArray) (.int .i64 2)).run Tryz.prog w = .ok (.agg #[.string ⟨#[]⟩, .int .i64 7, .int .i64 0]) w := by kernel_rfl
theorem Tryz.shape3 (w : World) : (Instr.index 145 (.agg shapesC.toArray) (.int .i64 3)).run Tryz.prog w = .ok (.agg #[.string ⟨#[45]⟩, .int .i64 6, .int .i64 1]) w := by kernel_rfl
theorem Tryz.shape4 (w : World) : (Instr.index 145 (.agg shapesC.toArray) (.int .i64 4)).run Tryz.prog w = .ok (.agg #[.string ⟨#[110, 111, 116]⟩, .int .i64 6, .int .i64 1]) w := by kernel_rfl
theorem Tryz.shape5 (w : World) : (Instr.index 145 (.agg shapesC.toArray) (.int .i64 5)).run Tryz.prog w = .ok (.agg #[.string ⟨#[42]⟩, .int .i64 5, .int .i64 2]) w := by kernel_rfl
theorem Tryz.shape6 (w : World) : (Instr.index 145 (.agg shapesC.toArray) (.int .i64 6)).run Tryz.prog w = .ok (.agg #[.string ⟨#[47]⟩, .int .i64 5, .int .i64 2]) w := by kernel_rfl
theorem Tryz.shape7 (w : World) : (Instr.index 145 (.agg shapesC.toArray) (.int .i64 7)).run Tryz.prog w = .ok (.agg #[.string ⟨#[37]⟩, .int .i64 5, .int .i64 2]) w := by kernel_rfl
theorem Tryz.shape8 (w : World) : (Instr.index 145 (.agg shapesC.toArray) (.int .i64 8)).run Tryz.prog w = .ok (.agg #[.string ⟨#[43]⟩, .int .i64 4, .int .i64 2]) w := by kernel_rfl
theorem Tryz.shape9 (w : World) : (Instr.index 145 (.agg shapesC.toArray) (.int .i64 9)).run Tryz.prog w = .ok (.agg #[.string ⟨#[45]⟩, .int .i64 4, .int .i64 2]) w := by kernel_rfl
theorem Tryz.shape10 (w : World) : (Instr.index 145 (.agg shapesC.toArray) (.int .i64 10)).run Tryz.prog w = .ok (.agg #[.string ⟨#[38]⟩, .int .i64 4, .int .i64 2]) w := by kernel_rfl
theorem Tryz.shape11 (w : World) : (Instr.index 145 (.agg shapesC.toArray) (.int .i64 11)).run Tryz.prog w = .ok (.agg #[.string ⟨#[60]⟩, .int .i64 3, .int .i64 2]) w := by kernel_rfl
theorem Tryz.shape12 (w : World) : (Instr.index 145 (.agg shapesC.toArray) (.int .i64 12)).run Tryz.prog w = .ok (.agg #[.string ⟨#[60, 61]⟩, .int .i64 3, .int .i64 2]) w := by kernel_rfl
theorem Tryz.shape13 (w : World) : (Instr.index 145 (.agg shapesC.toArray) (.int .i64 13)).run Tryz.prog w = .ok (.agg #[.string ⟨#[61]⟩, .int .i64 3, .int .i64 2]) w := by kernel_rfl
theorem Tryz.shape14 (w : World) : (Instr.index 145 (.agg shapesC.toArray) (.int .i64 14)).run Tryz.prog w = .ok (.agg #[.string ⟨#[33, 61]⟩, .int .i64 3, .int .i64 2]) w := by kernel_rfl
theorem Tryz.shape15 (w : World) : (Instr.index 145 (.agg shapesC.toArray) (.int .i64 15)).run Tryz.prog w = .ok (.agg #[.string ⟨#[97, 110, 100]⟩, .int .i64 2, .int .i64 2]) w := by kernel_rfl
theorem Tryz.shape16 (w : World) : (Instr.index 145 (.agg shapesC.toArray) (.int .i64 16)).run Tryz.prog w = .ok (.agg #[.string ⟨#[111, 114]⟩, .int .i64 1, .int .i64 2]) w := by kernel_rfl
theorem Tryz.shape17 (w : World) : (Instr.index 145 (.agg shapesC.toArray) (.int .i64 17)).run Tryz.prog w = .ok (.agg #[.string ⟨#[105, 102]⟩, .int .i64 7, .int .i64 3]) w := by kernel_rfl
theorem Tryz.shape18 (w : World) : (Instr.index 145 (.agg shapesC.toArray) (.int .i64 18)).run Tryz.prog w = .ok (.agg #[.string ⟨#[108, 101, 110]⟩, .int .i64 7, .int .i64 1]) w := by kernel_rfl
theorem shape_ix (op : Int) (h1 : 1 ≤ op) (h2 : op ≤ 18) : ∃ s k, ∀ w : World, (Instr.index 145 (.agg shapesC.toArray) (.int .i64 op)).run Tryz.prog w = .ok (.agg #[.string s, .int .i64 k, .int .i64 (argsN op)]) w := by
  rcases (by omega : op = 1 ∨ op = 2 ∨ op = 3 ∨ op = 4 ∨ op = 5 ∨ op = 6 ∨ op = 7 ∨ op = 8 ∨ op = 9 ∨ op = 10 ∨ op = 11 ∨ op = 12 ∨ op = 13 ∨ op = 14 ∨ op = 15 ∨ op = 16 ∨ op = 17 ∨ op = 18) with rfl | rfl | rfl | rfl | rfl | rfl | rfl | rfl | rfl | rfl | rfl | rfl | rfl | rfl | rfl | rfl | rfl | rfl
  · exact ⟨_, _, Tryz.shape1⟩
  · exact ⟨_, _, Tryz.shape2⟩
  · exact ⟨_, _, Tryz.shape3⟩
  · exact ⟨_, _, Tryz.shape4⟩
  · exact ⟨_, _, Tryz.shape5⟩
  · exact ⟨_, _, Tryz.shape6⟩
  · exact ⟨_, _, Tryz.shape7⟩
  · exact ⟨_, _, Tryz.shape8⟩
  · exact ⟨_, _, Tryz.shape9⟩
  · exact ⟨_, _, Tryz.shape10⟩
  · exact ⟨_, _, Tryz.shape11⟩
  · exact ⟨_, _, Tryz.shape12⟩
  · exact ⟨_, _, Tryz.shape13⟩
  · exact ⟨_, _, Tryz.shape14⟩
  · exact ⟨_, _, Tryz.shape15⟩
  · exact ⟨_, _, Tryz.shape16⟩
  · exact ⟨_, _, Tryz.shape17⟩
  · exact ⟨_, _, Tryz.shape18⟩
/-- What is wrong with one part: 2 no such op, 3 not of its form. -/
def partOk (op : Int) (v : Val) (name : ByteArray) (n : Nat) : Bool :=
  decide ((n : Int) = argsN op) &&
    (if op = 1 then name.toList.isEmpty && (valKnown v && (decide (v.k ≠ 1) || decide (0 ≤ v.n)))
     else valEq v ⟨0, 0, ⟨#[]⟩⟩ && (if op = 2 then decide (nameCheck name = 0) else name.toList.isEmpty))
def partErr (op : Int) (v : Val) (name : ByteArray) (n : Nat) : Int := if op < 1 ∨ 18 < op then 2 else if partOk op v name n then 0 else 3
theorem partErr_out {op : Int} {v : Val} {name : ByteArray} {n : Nat} (h : op < 1 ∨ 18 < op) : partErr op v name n = 2 := if_pos h
theorem partErr_in {op : Int} {v : Val} {name : ByteArray} {n : Nat} (h : ¬ (op < 1 ∨ 18 < op)) : partErr op v name n = if partOk op v name n then 0 else 3 := if_neg h
/-- The ways through a part of its number of arguments: a constant; a field; another. -/
theorem part_const {v : Val} {name : ByteArray} {n : Nat} (hn : (n : Int) = argsN 1) :
    ((!name.toList.isEmpty) = true ∧ partOk 1 v name n = false) ∨ ((!name.toList.isEmpty) = false ∧ valKnown v = false ∧ partOk 1 v name n = false) ∨
    ((!name.toList.isEmpty) = false ∧ valKnown v = true ∧ v.k = 1 ∧ v.n < 0 ∧ partOk 1 v name n = false) ∨ ((!name.toList.isEmpty) = false ∧ valKnown v = true ∧ v.k = 1 ∧ 0 ≤ v.n ∧ partOk 1 v name n = true) ∨
    ((!name.toList.isEmpty) = false ∧ valKnown v = true ∧ v.k ≠ 1 ∧ partOk 1 v name n = true) := by
  unfold partOk
  rw [if_pos rfl, decide_eq_true hn]
  cases h1 : name.toList.isEmpty <;> cases h2 : valKnown v <;> by_cases h3 : v.k = 1 <;> by_cases h4 : 0 ≤ v.n <;> simp [h3, h4] <;> omega
theorem part_ref {v : Val} {name : ByteArray} {n : Nat} (hn : (n : Int) = argsN 2) :
    (nameCheck name ≠ 0 ∧ partOk 2 v name n = false) ∨ (nameCheck name = 0 ∧ valEq v ⟨0, 0, ⟨#[]⟩⟩ = false ∧ partOk 2 v name n = false) ∨ (nameCheck name = 0 ∧ valEq v ⟨0, 0, ⟨#[]⟩⟩ = true ∧ partOk 2 v name n = true) := by
  unfold partOk
  rw [if_neg (by decide), if_pos rfl, decide_eq_true hn]
  by_cases h1 : nameCheck name = 0 <;> cases h2 : valEq v ⟨0, 0, ⟨#[]⟩⟩ <;> simp [h1]
theorem part_other {op : Int} {v : Val} {name : ByteArray} {n : Nat} (h1 : op ≠ 1) (h2 : op ≠ 2) (hn : (n : Int) = argsN op) :
    ((!name.toList.isEmpty) = true ∧ partOk op v name n = false) ∨ ((!name.toList.isEmpty) = false ∧ valEq v ⟨0, 0, ⟨#[]⟩⟩ = false ∧ partOk op v name n = false) ∨ ((!name.toList.isEmpty) = false ∧ valEq v ⟨0, 0, ⟨#[]⟩⟩ = true ∧ partOk op v name n = true) := by
  unfold partOk
  rw [if_neg h1, if_neg h2, decide_eq_true hn]
  cases h1 : name.toList.isEmpty <;> cases h2 : valEq v ⟨0, 0, ⟨#[]⟩⟩ <;> simp
mutual
/-- What is wrong with a formula's parts, the first one in the order in which they stand. -/
def prtN : Exp → Int
  | .mk op v name args => if partErr op v name args.length = 0 then prtL args else partErr op v name args.length
def prtL : List Exp → Int
  | [] => 0
  | a :: l => if prtN a = 0 then prtL l else prtN a
end
theorem prtN_eq (x : Exp) : prtN x = if partErr x.op x.v x.name x.args.length = 0 then prtL x.args else partErr x.op x.v x.name x.args.length := by
  cases x; rw [prtN]; rfl
theorem prtL_next : ∀ {l : List Exp} {k : Nat} {a : Exp}, prtL (l.take k) = 0 → l[k]? = some a → prtN a = 0 → prtL (l.take (k + 1)) = 0
  | [], k, a, _, h, _ => by simp at h
  | b :: l, 0, a, _, h, ha => by simp at h; subst h; simp [prtL, ha]
  | b :: l, k + 1, a, h0, h, ha => by
    simp only [List.take_succ_cons, prtL] at h0 ⊢
    by_cases hb : prtN b = 0
    · rw [if_pos hb] at h0 ⊢; exact prtL_next h0 (by simpa using h) ha
    · rw [if_neg hb] at h0; exact absurd h0 hb
theorem prtL_hit : ∀ {l : List Exp} {k : Nat} {a : Exp}, prtL (l.take k) = 0 → l[k]? = some a → prtN a ≠ 0 → prtL l = prtN a
  | [], k, a, _, h, _ => by simp at h
  | b :: l, 0, a, _, h, ha => by simp at h; subst h; simp [prtL, ha]
  | b :: l, k + 1, a, h0, h, ha => by
    simp only [List.take_succ_cons, prtL] at h0 ⊢
    by_cases hb : prtN b = 0
    · rw [if_pos hb] at h0 ⊢; exact prtL_hit h0 (by simpa using h) ha
    · rw [if_neg hb] at h0; exact absurd h0 hb
/-- What a formula in memory gives: its parts' bounds, its arguments, and that they are smaller. -/
theorem XRep.kids {w : World} {S : Nat → Prop} {x : Exp} {A : Option Addr} {c : Nat} (hx : XRep w S [.int .i64 x.op, .int .i64 x.v.k, .int .i64 x.v.n, .string x.v.s, .string x.name, .slice A x.args.length c] x) :
    inI x.op ∧ x.v.wf ∧ inS x.name ∧ inB 80 x.args.length ∧ x.args.length ≤ c ∧ Sl w S 6 (XRep w S) A x.args.length x.args ∧ ∀ (i : Nat) (a : Exp), x.args[i]? = some a → a.nodes + 1 ≤ x.nodes := by
  obtain ⟨A0, c0, e0, i1, i2, i3, i4, i5, hsl⟩ := hx.open_
  simp only [List.cons.injEq, Value.slice.injEq, and_true, true_and] at e0
  obtain ⟨rfl, rfl⟩ := e0
  refine ⟨i1, i2, i3, i4, i5, hsl, ?_⟩
  obtain ⟨op, v, nm, args⟩ := x
  intro i a h
  have := nodes_at args i a h
  simp only [Exp.nodes]
  omega
end Go.Proofs.YtgmcojnhpedpnaaGreat
