/- The walks of the machine's parts: first, bool, all. Each by what 'of' makes of formulas that are smaller. -/
import Derived.Test.YtgmcojnhpedpnaaGreatMacB
import Derived.Test.YtgmcojnhpedpnaaGreatOwn
import Derived.Test.YtgmcojnhpedpnaaGreatCop
namespace Go.Proofs.YtgmcojnhpedpnaaGreat
open Go.RowKit Go.Maps

abbrev Exp.cs (x : Exp) (A : Option Addr) (c : Nat) : List Value := [.int .i64 x.op, .int .i64 x.v.k, .int .i64 x.v.n, .string x.v.s, .string x.name, .slice A x.args.length c]
/-- What 'of' makes of formulas of at most N nodes. -/
def OfN (l : List Fct) (fb n N : Nat) : Prop := ∀ (x : Exp) (A : Option Addr) (c : Nat) (w : World), x.nodes ≤ N → prtN x = 0 → XRep w (old w) (x.cs A c) x → MapIs w Tryz.prog 9 fb n (factMap l) →
  Calls Tryz.prog 99 #[.map (some fb), .agg (x.cs A c).toArray] w (RetV w (evX l x))
def Val.isBool (v : Val) : Bool := v.k == 2
/-- The ending with a value and a truth. -/
def RetVB (w : World) (v : Val) (b : Bool) (e : Ending) (w' : World) : Prop := e = .returned (.tuple #[v.ag, .bool b]) ∧ Below w.heap.size w w'
theorem val_five {v : Val} (h : valCheck v = 0) : ∃ n s, v = ⟨1, n, s⟩ ∨ (v = ⟨2, n, s⟩ ∧ (n = 0 ∨ n = 1)) ∨ v = ⟨3, n, s⟩ ∨ v = ⟨4, n, s⟩ ∨ v = ⟨5, n, s⟩ := by
  have hk := valCheck_kind h
  obtain ⟨k, n, s⟩ := v
  refine ⟨n, s, ?_⟩
  simp only at hk
  rcases (by omega : k = 1 ∨ k = 2 ∨ k = 3 ∨ k = 4 ∨ k = 5) with rfl | rfl | rfl | rfl | rfl
  · exact .inl rfl
  · exact .inr (.inl ⟨rfl, (val_bool h rfl).1⟩)
  · exact .inr (.inr (.inl rfl))
  · exact .inr (.inr (.inr (.inl rfl)))
  · exact .inr (.inr (.inr (.inr rfl)))
theorem kid0 {w : World} {A : Option Addr} {n : Nat} {xs : List Exp} (h : Sl w (old w) 6 (XRep w (old w)) A n xs) (hn : 0 < n) :
    ∃ b o a X C, A = some ⟨b, o, none⟩ ∧ b < w.heap.size ∧ xs[0]? = some a ∧ XRep w (old w) (a.cs X C) a ∧ (w.cell? ⟨b, o, none⟩ = some (.int .i64 a.op) ∧ w.cell? ⟨b, o + 1, none⟩ = some (.int .i64 a.v.k) ∧ w.cell? ⟨b, o + 2, none⟩ = some (.int .i64 a.v.n) ∧
      w.cell? ⟨b, o + 3, none⟩ = some (.string a.v.s) ∧ w.cell? ⟨b, o + 4, none⟩ = some (.string a.name) ∧ w.cell? ⟨b, o + 5, none⟩ = some (.slice X a.args.length C)) := by
  obtain ⟨b, o, a, X, C, rfl, hb, hl, hx, x0, x1, x2, x3, x4, x5⟩ := Exp_at h hn
  simp only [Nat.zero_mul, Nat.add_zero] at x0 x1 x2 x3 x4 x5
  exact ⟨b, o, a, X, C, rfl, hb, hl, hx, x0, x1, x2, x3, x4, x5⟩
theorem kid1 {w : World} {b o n : Nat} {xs : List Exp} (h : Sl w (old w) 6 (XRep w (old w)) (some ⟨b, o, none⟩) n xs) (hn : 1 < n) :
    ∃ a X C, xs[1]? = some a ∧ XRep w (old w) (a.cs X C) a ∧ (w.cell? ⟨b, o + 6, none⟩ = some (.int .i64 a.op) ∧ w.cell? ⟨b, o + 6 + 1, none⟩ = some (.int .i64 a.v.k) ∧ w.cell? ⟨b, o + 6 + 2, none⟩ = some (.int .i64 a.v.n) ∧
      w.cell? ⟨b, o + 6 + 3, none⟩ = some (.string a.v.s) ∧ w.cell? ⟨b, o + 6 + 4, none⟩ = some (.string a.name) ∧ w.cell? ⟨b, o + 6 + 5, none⟩ = some (.slice X a.args.length C)) := by
  obtain ⟨b', o', a, X, C, e, hb, hl, hx, x0, x1, x2, x3, x4, x5⟩ := Exp_at h hn
  cases e
  simp only [Nat.one_mul] at x0 x1 x2 x3 x4 x5
  exact ⟨a, X, C, hl, hx, x0, x1, x2, x3, x4, x5⟩
theorem kid2 {w : World} {b o n : Nat} {xs : List Exp} (h : Sl w (old w) 6 (XRep w (old w)) (some ⟨b, o, none⟩) n xs) (hn : 2 < n) :
    ∃ a X C, xs[2]? = some a ∧ XRep w (old w) (a.cs X C) a ∧ (w.cell? ⟨b, o + 12, none⟩ = some (.int .i64 a.op) ∧ w.cell? ⟨b, o + 12 + 1, none⟩ = some (.int .i64 a.v.k) ∧ w.cell? ⟨b, o + 12 + 2, none⟩ = some (.int .i64 a.v.n) ∧
      w.cell? ⟨b, o + 12 + 3, none⟩ = some (.string a.v.s) ∧ w.cell? ⟨b, o + 12 + 4, none⟩ = some (.string a.name) ∧ w.cell? ⟨b, o + 12 + 5, none⟩ = some (.slice X a.args.length C)) := by
  obtain ⟨b', o', a, X, C, e, hb, hl, hx, x0, x1, x2, x3, x4, x5⟩ := Exp_at h hn
  cases e
  simp only [show 2 * 6 = 12 from rfl] at x0 x1 x2 x3 x4 x5
  exact ⟨a, X, C, hl, hx, x0, x1, x2, x3, x4, x5⟩
section
variable (l : List Fct) (hl : factsOk l) (fb n N : Nat) (IH : OfN l fb n N)
include hl IH
set_option maxRecDepth 100000 in
set_option maxHeartbeats 4000000 in
theorem machine_bool (x : Exp) (A : Option Addr) (c : Nat) (w : World) (hN : x.nodes ≤ N) (hp : prtN x = 0) (hx : XRep w (old w) (x.cs A c) x) (hm : MapIs w Tryz.prog 9 fb n (factMap l)) :
    Calls Tryz.prog 132 #[.map (some fb), .agg (x.cs A c).toArray] w (RetV w (boolV (evX l x))) := by
  have ho := fun w h h' => IH x A c w hN hp h h'
  have HH := Lib.hid (And.intro hx hm)
  obtain ⟨m, s, hv⟩ := val_five (evX_ok hl x.nodes x (Nat.le_refl _) hp)
  clear hx hm IH hl hp
  rcases hv with hv | ⟨hv, _⟩ | hv | hv | hv
  all_goals
    rw [hv] at ho ⊢
    simp only [boolV, reduceIte, Int.reduceEq, or_true, true_or, or_self]
    clear hv
    go_enter Tryz.func132, Tryz.ntmps132
    go_wp2_with (first
      | (go_at_call 99; refine (ho _ (HH.out.1.keep (old_keep bel)) (HH.out.2.below (show Below w.heap.size w _ from bel) HH.out.2.lt)).mono ?_; rintro e w1 ⟨rfl, hb1⟩; obtain ⟨hc1, hf1⟩ := bcell hb1; (try simp only [World.heap_drewN, World.cell?_drewN, World.frozen?_drewN] at hc1 hf1); have hz1 := hb1.size; (try simp at hz1); (try (have hy1 := Nat.lt_of_succ_le hz1)); (try (have hx1 := Nat.lt_of_succ_lt hy1)); (first | refine szz6 w1 w (by omega) ?_ | refine szz5 w1 w (by omega) ?_ | refine szz4 w1 w (by omega) ?_ | refine szz3 w1 w (by omega) ?_ | refine szz2 w1 w (by omega) ?_ | refine szz1 w1 w (by omega) ?_ | refine szz0 w1 w (by omega) ?_ | refine szzn w1 w (by omega) ?_ | skip); intros; dsimp only)
      | (go_at_call 130; refine (eval_fault _ _).mono ?_; rintro e w2 ⟨rfl, hb2⟩; obtain ⟨hc2, hf2⟩ := bcell hb2; (try simp only [World.heap_drewN, World.cell?_drewN, World.frozen?_drewN] at hc2 hf2); have hz2 := hb2.size; (try simp at hz2); (try (have hy2 := Nat.lt_of_succ_le hz2)); (try (have hx2 := Nat.lt_of_succ_lt hy2)); (first | refine szz6 w2 w (by omega) ?_ | refine szz5 w2 w (by omega) ?_ | refine szz4 w2 w (by omega) ?_ | refine szz3 w2 w (by omega) ?_ | refine szz2 w2 w (by omega) ?_ | refine szz1 w2 w (by omega) ?_ | refine szz0 w2 w (by omega) ?_ | refine szzn w2 w (by omega) ?_ | skip); intros; (first | refine szz6 w2 w1 (by omega) ?_ | refine szz5 w2 w1 (by omega) ?_ | refine szz4 w2 w1 (by omega) ?_ | refine szz3 w2 w1 (by omega) ?_ | refine szz2 w2 w1 (by omega) ?_ | refine szz1 w2 w1 (by omega) ?_ | refine szz0 w2 w1 (by omega) ?_ | refine szzn w2 w1 (by omega) ?_ | skip); intros; dsimp only))
  · exact bodyPost_ret (v := .agg #[.int .i64 5, .int .i64 9, .string ⟨#[]⟩]) (by first | (simp [results, Tryz.results132, go_sem]; done) | (simp [results, Tryz.results132, go_sem, *]; done)) rfl ⟨rfl, bel⟩
  · exact bodyPost_ret (v := .agg #[.int .i64 2, .int .i64 m, .string s]) (by first | (simp [results, Tryz.results132, go_sem]; done) | (simp [results, Tryz.results132, go_sem, *]; done)) rfl ⟨rfl, bel⟩
  · exact bodyPost_ret (v := .agg #[.int .i64 5, .int .i64 9, .string ⟨#[]⟩]) (by first | (simp [results, Tryz.results132, go_sem]; done) | (simp [results, Tryz.results132, go_sem, *]; done)) rfl ⟨rfl, bel⟩
  · exact bodyPost_ret (v := .agg #[.int .i64 4, .int .i64 m, .string s]) (by first | (simp [results, Tryz.results132, go_sem]; done) | (simp [results, Tryz.results132, go_sem, *]; done)) rfl ⟨rfl, bel⟩
  · exact bodyPost_ret (v := .agg #[.int .i64 5, .int .i64 m, .string s]) (by first | (simp [results, Tryz.results132, go_sem]; done) | (simp [results, Tryz.results132, go_sem, *]; done)) rfl ⟨rfl, bel⟩
set_option maxRecDepth 100000 in
set_option maxHeartbeats 4000000 in
theorem machine_first (x a : Exp) (A : Option Addr) (c : Nat) (w : World) (ha : x.args[0]? = some a) (hN : a.nodes ≤ N) (hp : prtN a = 0) (hx : XRep w (old w) (x.cs A c) x) (hm : MapIs w Tryz.prog 9 fb n (factMap l)) :
    Calls Tryz.prog 131 #[.map (some fb), .agg (x.cs A c).toArray] w (RetVB w (boolV (evX l a)) (evX l a).isBool) := by
  obtain ⟨i1, i2, i3, i4, i5, hsl, hch⟩ := hx.kids
  have h0 : 0 < x.args.length := (List.getElem?_eq_some_iff.1 ha).1
  have hlen : x.args.length ≤ 1759218604416 := by unfold inB at i4; omega
  obtain ⟨b, o, a', X, C, rfl, hbl, ha', hxa, x0, x1, x2, x3, x4, x5⟩ := kid0 hsl h0
  rw [ha] at ha'
  cases ha'
  have ho := fun w h h' => IH a X C w hN hp h h'
  have HH := Lib.hid (And.intro hxa hm)
  obtain ⟨m, s, hv⟩ := val_five (evX_ok hl a.nodes a (Nat.le_refl _) hp)
  clear hx hm IH hl hp hsl hch i1 i2 i3 i4 i5 hxa ha
  rcases hv with hv | ⟨hv, _⟩ | hv | hv | hv
  all_goals
    rw [hv] at ho ⊢
    simp only [boolV, Val.isBool, reduceIte, Int.reduceEq, or_true, true_or, or_self]
    clear hv
    go_enter Tryz.func131, Tryz.ntmps131
    go_wp2_with (first
      | (go_at_call 99; refine (ho _ (HH.out.1.keep (old_keep bel)) (HH.out.2.below (show Below w.heap.size w _ from bel) HH.out.2.lt)).mono ?_; rintro e w1 ⟨rfl, hb1⟩; obtain ⟨hc1, hf1⟩ := bcell hb1; (try simp only [World.heap_drewN, World.cell?_drewN, World.frozen?_drewN] at hc1 hf1); have hz1 := hb1.size; (try simp at hz1); (try (have hy1 := Nat.lt_of_succ_le hz1)); (try (have hx1 := Nat.lt_of_succ_lt hy1)); (first | refine szz6 w1 w (by omega) ?_ | refine szz5 w1 w (by omega) ?_ | refine szz4 w1 w (by omega) ?_ | refine szz3 w1 w (by omega) ?_ | refine szz2 w1 w (by omega) ?_ | refine szz1 w1 w (by omega) ?_ | refine szz0 w1 w (by omega) ?_ | refine szzn w1 w (by omega) ?_ | skip); intros; dsimp only)
      | (go_at_call 130; refine (eval_fault _ _).mono ?_; rintro e w2 ⟨rfl, hb2⟩; obtain ⟨hc2, hf2⟩ := bcell hb2; (try simp only [World.heap_drewN, World.cell?_drewN, World.frozen?_drewN] at hc2 hf2); have hz2 := hb2.size; (try simp at hz2); (try (have hy2 := Nat.lt_of_succ_le hz2)); (try (have hx2 := Nat.lt_of_succ_lt hy2)); (first | refine szz6 w2 w (by omega) ?_ | refine szz5 w2 w (by omega) ?_ | refine szz4 w2 w (by omega) ?_ | refine szz3 w2 w (by omega) ?_ | refine szz2 w2 w (by omega) ?_ | refine szz1 w2 w (by omega) ?_ | refine szz0 w2 w (by omega) ?_ | refine szzn w2 w (by omega) ?_ | skip); intros; (first | refine szz6 w2 w1 (by omega) ?_ | refine szz5 w2 w1 (by omega) ?_ | refine szz4 w2 w1 (by omega) ?_ | refine szz3 w2 w1 (by omega) ?_ | refine szz2 w2 w1 (by omega) ?_ | refine szz1 w2 w1 (by omega) ?_ | refine szz0 w2 w1 (by omega) ?_ | refine szzn w2 w1 (by omega) ?_ | skip); intros; dsimp only))
  · exact bodyPost_ret (v := .tuple #[.agg #[.int .i64 5, .int .i64 9, .string ⟨#[]⟩], .bool false]) (by first | (simp [results, Tryz.results131, go_sem]; done) | (simp [results, Tryz.results131, go_sem, *]; done)) rfl ⟨rfl, bel⟩
  · go_region
    all_goals
      go_wp2_with fail
      exact bodyPost_ret (v := .tuple #[.agg #[.int .i64 2, .int .i64 m, .string s], .bool true]) (by first | (simp [results, Tryz.results131, go_sem]; done) | (simp [results, Tryz.results131, go_sem, *]; done)) rfl ⟨rfl, bel⟩
  · exact bodyPost_ret (v := .tuple #[.agg #[.int .i64 5, .int .i64 9, .string ⟨#[]⟩], .bool false]) (by first | (simp [results, Tryz.results131, go_sem]; done) | (simp [results, Tryz.results131, go_sem, *]; done)) rfl ⟨rfl, bel⟩
  · go_region
    all_goals
      go_wp2_with fail
      exact bodyPost_ret (v := .tuple #[.agg #[.int .i64 4, .int .i64 m, .string s], .bool false]) (by first | (simp [results, Tryz.results131, go_sem]; done) | (simp [results, Tryz.results131, go_sem, *]; done)) rfl ⟨rfl, bel⟩
  · go_region
    all_goals
      go_wp2_with fail
      exact bodyPost_ret (v := .tuple #[.agg #[.int .i64 5, .int .i64 m, .string s], .bool false]) (by first | (simp [results, Tryz.results131, go_sem]; done) | (simp [results, Tryz.results131, go_sem, *]; done)) rfl ⟨rfl, bel⟩
end
end Go.Proofs.YtgmcojnhpedpnaaGreat
