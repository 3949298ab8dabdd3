/- Pages by their names: page.Find, PageAt; page.Never. -/
import Derived.Test.YtgmcojnhpedpnaaGreatPag1
import Derived.Test.YtgmcojnhpedpnaaGreatRig
namespace Go.Proofs.YtgmcojnhpedpnaaGreat
open Go.RowKit

def hasPage (name : ByteArray) (p : Pag) : Bool := p.name.toList == name.toList
set_option maxHeartbeats 400000 in
theorem page_Find1 (name : ByteArray) (g : Nat) (f : Pag) (Y : Option Addr) (D : Nat) (X : Option Addr) (C : Nat) (w : World) (h : w.cell? ⟨g, 0, none⟩ = some (.string name)) :
    Calls Tryz.prog 125 #[.agg #[.string f.name, .slice Y f.fields.length D, .int .i64 f.skip.op, .int .i64 f.skip.v.k, .int .i64 f.skip.v.n, .string f.skip.v.s, .string f.skip.name, .slice X f.skip.args.length C], .pointer (some ⟨g, 0, none⟩)] w
      fun e w' => e = .returned (.bool (hasPage name f)) ∧ Below w.heap.size w w' := by
  have hg := block_lt_of_cell h
  simp only at hg
  unfold hasPage
  go_enter Tryz.func125, Tryz.ntmps125
  go_wp2
  go_ret
  exact ⟨rfl, bel⟩
theorem cf_PFind1 (args : Array Value) (w : World) : (callFunc 125 args).run Tryz.prog w = .ok (.enter 125 args) w :=
  cf _ _ Tryz.func125 (by kernel_rfl) (by kernel_rfl) args w
set_option maxRecDepth 100000 in
set_option maxHeartbeats 1000000 in
theorem page_Find (A : Option Addr) (n c : Nat) (l : List Pag) (name : ByteArray) (w : World) (hn : inL n) (h : Sl w (old w) 8 (RPag w (old w)) A n l) :
    Calls Tryz.prog 83 #[.slice A n c, .string name] w (RetII2 w (if l.any (hasPage name) then (firstAt (hasPage name) l : Int) else 0) (if l.any (hasPage name) then 0 else 5)) := by
  have hcl := fun (w1 : World) (g : Nat) (hg : w1.cell? ⟨g, 0, none⟩ = some (.string name)) (hs : Sl w1 (old w1) 8 (RPag w1 (old w1)) A n l) => pages_IndexFunc (hasPage name) 125 (.pointer (some ⟨g, 0, none⟩)) A n c l w1 hn hs cf_PFind1 (fun wr k x Y D X C hb _ hx => page_Find1 name g x Y D X C wr (cell_keep hg hb))
  have hlt := firstAt_le (hasPage name) l
  rw [h.len] at hlt
  have HH := Lib.hid h
  unfold inL at hn
  clear h
  cases hany : l.any (hasPage name)
  · have h1 : idxOf (hasPage name) l = -1 := by rw [idxOf, hany]; rfl
    rw [h1] at hcl
    rw [if_neg (by decide), if_neg (by decide)]
    go_enter Tryz.func83, Tryz.ntmps83
    go_wp2_with (go_at_call 70; refine (hcl _ _ (by go_simp) (HH.out.nowN keeps_Pag bel)).mono ?_; rintro e w1 ⟨rfl, hb1⟩)
    go_ret2
    exact ⟨rfl, bel⟩
  · have h1 : idxOf (hasPage name) l = (firstAt (hasPage name) l : Int) := by rw [idxOf, hany]; rfl
    rw [h1] at hcl
    rw [if_pos rfl, if_pos rfl]
    go_enter Tryz.func83, Tryz.ntmps83
    go_wp2_with (go_at_call 70; refine (hcl _ _ (by go_simp) (HH.out.nowN keeps_Pag bel)).mono ?_; rintro e w1 ⟨rfl, hb1⟩)
    go_ret2
    exact ⟨rfl, bel⟩
set_option maxRecDepth 100000 in
set_option maxHeartbeats 1000000 in
theorem ref_PageAt (A : Option Addr) (n c : Nat) (l : List Pag) (name : ByteArray) (w : World) (hn : inL n) (h : Sl w (old w) 8 (RPag w (old w)) A n l) :
    Calls Tryz.prog 74 #[.slice A n c, .string name] w (RetI w (firstAt (hasPage name) l : Int)) := by
  have HH := Lib.hid h
  unfold inL at hn
  clear h
  go_enter Tryz.func74, Tryz.ntmps74
  go_wp2_with fail
  go_loopw [9] (fun i wr => ∃ k : Nat, k ≤ n ∧ i = .int .i64 k ∧ Hid ((l.take k).any (hasPage name) = false) ∧ Below w.heap.size w wr) (fun i _ => n - (intOf i).toNat)
  case atStart => exact ⟨0, by omega, rfl, Lib.hid (by simp), Below.refl _ _⟩
  case round =>
    obtain ⟨k, hk, rfl, hv, hb⟩ := hrel
    by_cases hlt : k < n
    · obtain ⟨b, o, x, Y, D, X, C, rfl, hbl, hl, hrep, h0, h1, h2, h3, h4, h5, h6, h7⟩ := Pag_at (HH.out.nowN keeps_Pag hb) hlt
      have hbl' : b < wr.heap.size := hbl
      have HL := Lib.hid hl
      clear hl hrep hbl
      cases hp : hasPage name x
      · have hp' : (x.name.toList == name.toList) = false := hp
        have HP := Lib.hid hp
        clear hp
        go_wp2_with fail
        go_roundw
        case rel =>
          refine ⟨k + 1, by omega, by go_num, Lib.hid ?_, bel⟩
          rw [List.take_add_one, HL.out, List.any_append, hv.out]
          simp [HP.out]
        case measure => simp [intOf]; omega
      · have hp' : (x.name.toList == name.toList) = true := hp
        have HP := Lib.hid hp
        clear hp
        go_wp2_with fail
        go_ret
        refine ⟨ret_int ?_, bel⟩
        rw [firstAt_hit (hasPage name) l k x HL.out HP.out hv.out]
    · have hke : k = n := by omega
      subst hke
      have hl : l.take k = l := by rw [List.take_of_length_le (by rw [HH.out.len]; exact Nat.le_refl _)]
      have hv' := hv.out
      rw [hl] at hv'
      have HV := Lib.hid (firstAt_none _ _ hv')
      clear hv' hl
      go_wp2_with fail
      go_ret
      exact ⟨ret_int (by rw [HV.out, HH.out.len]), hb⟩
set_option maxRecDepth 100000 in
set_option maxHeartbeats 1000000 in
theorem page_Never (f : Pag) (Y : Option Addr) (D : Nat) (X : Option Addr) (C : Nat) (w : World) (hn0 : inL f.skip.args.length) :
    Calls Tryz.prog 84 #[.agg #[.string f.name, .slice Y f.fields.length D, .int .i64 f.skip.op, .int .i64 f.skip.v.k, .int .i64 f.skip.v.n, .string f.skip.v.s, .string f.skip.name, .slice X f.skip.args.length C]] w (RetB w (bareB f.skip.op f.skip.v f.skip.name f.skip.args.length)) := by
  have hn : f.skip.args.length ≤ 140737488351232 := hn0
  have hne := fun w => run_eql_Val w f.skip.v.k f.skip.v.n 0 0 f.skip.v.s ⟨#[]⟩
  rw [show (⟨f.skip.v.k, f.skip.v.n, f.skip.v.s⟩ : Val) = f.skip.v from rfl] at hne
  rcases bareB_cases f.skip.op f.skip.v f.skip.name f.skip.args.length with ⟨z1, e⟩ | ⟨z1, z2, e⟩ | ⟨z1, z2, z3, e⟩ | ⟨z1, z2, z3, z4, e⟩ | ⟨z1, z2, z3, z4, e⟩
  all_goals
    rw [e]
    clear e
    try simp only [z3] at hne
    go_enter Tryz.func84, Tryz.ntmps84
    go_wp2_with fail
    go_ret
    exact ⟨rfl, bel⟩
end Go.Proofs.YtgmcojnhpedpnaaGreat
