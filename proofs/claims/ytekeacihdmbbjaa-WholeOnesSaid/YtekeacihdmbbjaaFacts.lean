/- sheet.Facts and the reference FactsFault. -/
import Derived.Test.YtekeacihdmbbjaaFld1
namespace Go.Proofs.Ytekeacihdmbbjaa
open Go.RowKit

set_option maxHeartbeats 1000000 in
theorem facts_IndexFunc (p : Fct → Bool) (f : FuncId) (cp : Value) (A : Option Addr) (n c : Nat) (l : List Fct) (w : World) (hn : inL n) (h : Sl w (old w) 7 RFct A n l) (hcf : ∀ args w, (callFunc f args).run Try.prog w = .ok (.enter f args) w)
    (hcall : ∀ (wr : World) (k : Nat) (x : Fct), Below w.heap.size w wr → l[k]? = some x → x.wf → Calls Try.prog f #[.agg #[.string x.name, .int .i64 x.key.k, .int .i64 x.key.n, .string x.key.s, .int .i64 x.has.k, .int .i64 x.has.n, .string x.has.s], cp] wr fun e w' => e = .returned (.bool (p x)) ∧ Below wr.heap.size wr w') :
    Calls Try.prog 125 #[.slice A n c, .func (.func f) #[] #[cp]] w fun e w' => e = .returned (.int .i64 (idxOf p l)) ∧ Below w.heap.size w w' := by
  unfold inL at hn
  have HH := Lib.hid h
  have HC := Lib.hid hcall
  clear h hcall
  go_enter Try.func125, Try.ntmps125
  go_wp2_with fail
  go_loopw [8] (fun i wr => ∃ k : Nat, k ≤ n ∧ i = .int .i64 k ∧ (l.take k).any p = false ∧ Below w.heap.size w wr) (fun i _ => n - (intOf i).toNat)
  case atStart => exact ⟨0, by omega, rfl, by simp, Below.refl _ _⟩
  case round =>
    obtain ⟨k, hk, rfl, hv, hb⟩ := hrel
    by_cases hlt : k < n
    · obtain ⟨b, o, x, rfl, _, hl, hrep, h0, h1, h2, h3, h4, h5, h6⟩ := Fct_at (HH.out.now hb) hlt
      have HL := Lib.hid (And.intro hl (And.intro hv hrep))
      clear hl hv hrep
      cases hp : p x
      · have HP := Lib.hid hp
        have hcl := HC.out wr k x hb HL.out.1 HL.out.2.2
        rw [HP.out] at hcl
        clear hp
        go_wp2_with (refine hcl.mono ?_; rintro e w1 ⟨rfl, hb1⟩)
        clear hcl
        go_roundw
        case rel =>
          refine ⟨k + 1, by omega, by go_num, ?_, bel⟩
          rw [List.take_add_one, HL.out.1, List.any_append, HL.out.2.1]
          simp [HP.out]
        case measure => simp [intOf]; omega
      · have HP := Lib.hid hp
        have hcl := HC.out wr k x hb HL.out.1 HL.out.2.2
        rw [HP.out] at hcl
        clear hp
        go_wp2_with (refine hcl.mono ?_; rintro e w1 ⟨rfl, hb1⟩)
        clear hcl
        go_ret
        refine ⟨ret_int ?_, bel⟩
        have e1 := firstAt_hit p l k x HL.out.1 HP.out HL.out.2.1
        have e2 : l.any p = true := by
          rw [List.any_eq_true]
          exact ⟨x, List.mem_of_getElem? HL.out.1, HP.out⟩
        rw [idxOf, if_pos e2, e1]
    · have hke : k = n := by omega
      subst hke
      have hl : l.take k = l := by rw [List.take_of_length_le (by rw [HH.out.len]; exact Nat.le_refl _)]
      rw [hl] at hv
      have HV := Lib.hid hv
      clear hl hv
      go_wp2_with fail
      go_ret
      exact ⟨ret_int (by rw [idxOf, HV.out]; rfl), hb⟩
theorem Sl.take {α : Type} {w : World} {S : Nat → Prop} {size : Nat} {R : List Value → α → Prop} {A : Option Addr} {n k : Nat} {l : List α} (h : Sl w S size R A n l) (hk : k ≤ n) : Sl w S size R A k (l.take k) := by
  refine ⟨by rw [List.length_take, h.1]; omega, fun h0 => ?_⟩
  obtain ⟨b, o, e, hs, hc⟩ := h.2 (by omega)
  refine ⟨b, o, e, hs, fun i v hv => ?_⟩
  have hi : i < k := by
    have := (List.getElem?_eq_some_iff.1 hv).1
    rw [List.length_take] at this
    omega
  rw [List.getElem?_take_of_lt hi] at hv
  exact hc i v hv
def sameName (name : ByteArray) (y : Fct) : Bool := y.name.toList == name.toList
def factStep (F : List Fld) (l : List Fct) (i : Nat) : Int := match l[i]? with
  | none => 0
  | some x => if fieldTold F x.name x.has = 0 then if valEq x.key ⟨0, 0, ⟨#[]⟩⟩ then (if (l.take i).any (sameName x.name) then 6 else 0) else 3 else fieldTold F x.name x.has
def factsCheck (F : List Fld) (l : List Fct) : Int := firstErr (factStep F l) l.length

theorem factStep_cases {F : List Fld} {l : List Fct} {k : Nat} {x : Fct} (h : l[k]? = some x) :
    ((fieldTold F x.name x.has != 0) = true ∧ factStep F l k = fieldTold F x.name x.has ∧ factStep F l k ≠ 0) ∨
    ((fieldTold F x.name x.has != 0) = false ∧ valEq ⟨x.key.k, x.key.n, x.key.s⟩ ⟨0, 0, ⟨#[]⟩⟩ = false ∧ factStep F l k = 3) ∨
    ((fieldTold F x.name x.has != 0) = false ∧ valEq ⟨x.key.k, x.key.n, x.key.s⟩ ⟨0, 0, ⟨#[]⟩⟩ = true ∧ (l.take k).any (sameName x.name) = true ∧ factStep F l k = 6) ∨
    ((fieldTold F x.name x.has != 0) = false ∧ valEq ⟨x.key.k, x.key.n, x.key.s⟩ ⟨0, 0, ⟨#[]⟩⟩ = true ∧ (l.take k).any (sameName x.name) = false ∧ factStep F l k = 0) := by
  unfold factStep
  rw [h]
  by_cases h1 : fieldTold F x.name x.has = 0
  · cases h2 : valEq ⟨x.key.k, x.key.n, x.key.s⟩ ⟨0, 0, ⟨#[]⟩⟩ <;> cases h3 : (l.take k).any (sameName x.name) <;> simp_all
  · left; simp [h1]
theorem key_cases (v : Val) : (valEq ⟨v.k, v.n, v.s⟩ ⟨0, 0, ⟨#[]⟩⟩ = true ∧ (v.k != 0) = false ∧ (v.n != 0) = false ∧ (!v.s.toList.isEmpty) = false) ∨ (valEq ⟨v.k, v.n, v.s⟩ ⟨0, 0, ⟨#[]⟩⟩ = false ∧ ((v.k != 0) = true ∨ ((v.k != 0) = false ∧ (v.n != 0) = true) ∨ ((v.k != 0) = false ∧ (v.n != 0) = false ∧ (!v.s.toList.isEmpty) = true))) := by
  unfold valEq
  have e : (⟨#[]⟩ : ByteArray).toList = [] := by rw [ByteArray.toList_eq]
  by_cases h1 : v.k = 0 <;> by_cases h2 : v.n = 0 <;> by_cases h3 : v.s.toList = [] <;> simp [h1, h2, h3, e]
end Go.Proofs.Ytekeacihdmbbjaa
