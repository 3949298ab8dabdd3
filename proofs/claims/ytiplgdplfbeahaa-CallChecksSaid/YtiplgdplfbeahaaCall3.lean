/- call.Value and the reference CallValue. -/
import Derived.Test.YtiplgdplfbeahaaCall1
namespace Go.Proofs.Ytiplgdplfbeahaa
open Go.RowKit

def callValue (c : Cll) : Val := if c.state = 2 then c.has else if c.state = 3 then ⟨5, 14, ⟨#[]⟩⟩ else ⟨4, 0, ⟨#[]⟩⟩
def RetVal (w : World) (v : Val) (e : Ending) (w' : World) : Prop := e = .returned (.agg #[.int .i64 v.k, .int .i64 v.n, .string v.s]) ∧ Below w.heap.size w w'
theorem callValue_cases (st id tr kk kn : Int) (ks : ByteArray) (hk hn : Int) (hs : ByteArray) (nx : Int) :
    let v := callValue ⟨st, id, tr, ⟨kk, kn, ks⟩, ⟨hk, hn, hs⟩, nx⟩
    (st = 2 ∧ v = ⟨hk, hn, hs⟩) ∨ (st = 3 ∧ v = ⟨5, 14, ⟨#[]⟩⟩) ∨ ((st == 2) = false ∧ (st == 3) = false ∧ v = ⟨4, 0, ⟨#[]⟩⟩) := by
  intro v
  have hv : v = callValue ⟨st, id, tr, ⟨kk, kn, ks⟩, ⟨hk, hn, hs⟩, nx⟩ := rfl
  clear_value v
  unfold callValue at hv
  subst hv
  by_cases h2 : st = 2
  · left; simp [h2]
  · by_cases h3 : st = 3
    · right; left; simp [h3]
    · right; right; simp [h2, h3]
set_option maxHeartbeats 1000000 in
theorem call_Value (st id tr kk kn : Int) (ks : ByteArray) (hk hn : Int) (hs : ByteArray) (nx : Int) (w : World) :
    Calls Try.prog 21 #[.agg #[.int .i64 st, .int .i64 id, .int .i64 tr, .int .i64 kk, .int .i64 kn, .string ks, .int .i64 hk, .int .i64 hn, .string hs, .int .i64 nx]] w
      (RetVal w (callValue ⟨st, id, tr, ⟨kk, kn, ks⟩, ⟨hk, hn, hs⟩, nx⟩)) := by
  rcases callValue_cases st id tr kk kn ks hk hn hs nx with ⟨rfl, e⟩ | ⟨rfl, e⟩ | ⟨h2, h3, e⟩
  · rw [e]; clear e
    go_enter Try.func21, Try.ntmps21
    go_wp2_with fail
    exact bodyPost_ret (v := .agg #[.int .i64 hk, .int .i64 hn, .string hs]) (by simp [results, Try.results21, go_sem]) rfl ⟨rfl, (by repeat (first | with_reducible exact Below.refl _ _ | with_reducible assumption | with_reducible refine below_drewN ?_ _ | with_reducible refine Below.drew ?_ | with_reducible refine below_alloc0 ?_ | with_reducible refine below_alloc ?_ (by simp; try omega) | with_reducible refine below_set ?_ (by simp; try omega) | with_reducible refine below_chain ?_ (by assumption) | (with_reducible refine below_step ?_ (by assumption) (by simp; try omega))))⟩
  · rw [e]; clear e
    go_enter Try.func21, Try.ntmps21
    go_wp2_with fail
    exact bodyPost_ret (v := .agg #[.int .i64 5, .int .i64 14, .string ⟨#[]⟩]) (by simp [results, Try.results21, go_sem]) rfl ⟨rfl, (by repeat (first | with_reducible exact Below.refl _ _ | with_reducible assumption | with_reducible refine below_drewN ?_ _ | with_reducible refine Below.drew ?_ | with_reducible refine below_alloc0 ?_ | with_reducible refine below_alloc ?_ (by simp; try omega) | with_reducible refine below_set ?_ (by simp; try omega) | with_reducible refine below_chain ?_ (by assumption) | (with_reducible refine below_step ?_ (by assumption) (by simp; try omega))))⟩
  · rw [e]; clear e
    go_enter Try.func21, Try.ntmps21
    go_wp2_with fail
    exact bodyPost_ret (v := .agg #[.int .i64 4, .int .i64 0, .string ⟨#[]⟩]) (by simp [results, Try.results21, go_sem]) rfl ⟨rfl, (by repeat (first | with_reducible exact Below.refl _ _ | with_reducible assumption | with_reducible refine below_drewN ?_ _ | with_reducible refine Below.drew ?_ | with_reducible refine below_alloc0 ?_ | with_reducible refine below_alloc ?_ (by simp; try omega) | with_reducible refine below_set ?_ (by simp; try omega) | with_reducible refine below_chain ?_ (by assumption) | (with_reducible refine below_step ?_ (by assumption) (by simp; try omega))))⟩
set_option maxHeartbeats 1000000 in
theorem ref_no (e : Int) (w : World) : Calls Try.prog 68 #[.int .i64 e] w (RetVal w ⟨5, e, ⟨#[]⟩⟩) := by
  go_enter Try.func68, Try.ntmps68
  go_wp2_with fail
  exact bodyPost_ret (v := .agg #[.int .i64 5, .int .i64 e, .string ⟨#[]⟩]) (by simp [results, Try.results68, go_sem]) rfl ⟨rfl, (by repeat (first | with_reducible exact Below.refl _ _ | with_reducible assumption | with_reducible refine below_drewN ?_ _ | with_reducible refine Below.drew ?_ | with_reducible refine below_alloc0 ?_ | with_reducible refine below_alloc ?_ (by simp; try omega) | with_reducible refine below_set ?_ (by simp; try omega) | with_reducible refine below_chain ?_ (by assumption) | (with_reducible refine below_step ?_ (by assumption) (by simp; try omega))))⟩
set_option maxHeartbeats 1000000 in
theorem ref_CallValue (st id tr kk kn : Int) (ks : ByteArray) (hk hn : Int) (hs : ByteArray) (nx : Int) (w : World) :
    Calls Try.prog 23 #[.agg #[.int .i64 st, .int .i64 id, .int .i64 tr, .int .i64 kk, .int .i64 kn, .string ks, .int .i64 hk, .int .i64 hn, .string hs, .int .i64 nx]] w
      (RetVal w (callValue ⟨st, id, tr, ⟨kk, kn, ks⟩, ⟨hk, hn, hs⟩, nx⟩)) := by
  rcases callValue_cases st id tr kk kn ks hk hn hs nx with ⟨rfl, e⟩ | ⟨rfl, e⟩ | ⟨h2, h3, e⟩
  · rw [e]; clear e
    go_enter Try.func23, Try.ntmps23
    go_wp2_with fail
    exact bodyPost_ret (v := .agg #[.int .i64 hk, .int .i64 hn, .string hs]) (by simp [results, Try.results23, go_sem]) rfl ⟨rfl, (by repeat (first | with_reducible exact Below.refl _ _ | with_reducible assumption | with_reducible refine below_drewN ?_ _ | with_reducible refine Below.drew ?_ | with_reducible refine below_alloc0 ?_ | with_reducible refine below_alloc ?_ (by simp; try omega) | with_reducible refine below_set ?_ (by simp; try omega) | with_reducible refine below_chain ?_ (by assumption) | (with_reducible refine below_step ?_ (by assumption) (by simp; try omega))))⟩
  · rw [e]; clear e
    go_enter Try.func23, Try.ntmps23
    go_wp2_with fail
    refine (ref_no _ _).mono ?_; rintro e w1 ⟨rfl, hb1⟩; obtain ⟨hc1, hf1⟩ := bcell hb1; (try simp only [World.heap_drewN, World.cell?_drewN, World.frozen?_drewN] at hc1 hf1); have hz1 := hb1.size; (try simp at hz1); (try (have hy1 := Nat.lt_of_succ_le hz1)); (try (have hx1 := Nat.lt_of_succ_lt hy1)); (try (have hl1_w_0 : w.heap.size < w1.heap.size := by omega)); (try (have hm1_w_0 : w.heap.size ≤ w1.heap.size := by omega)); (try (have hl1_w_1 : w.heap.size + 1 < w1.heap.size := by omega)); (try (have hm1_w_1 : w.heap.size + 1 ≤ w1.heap.size := by omega)); (try (have hl1_w_2 : w.heap.size + 2 < w1.heap.size := by omega)); (try (have hm1_w_2 : w.heap.size + 2 ≤ w1.heap.size := by omega)); (try (have hl1_w_3 : w.heap.size + 3 < w1.heap.size := by omega)); (try (have hm1_w_3 : w.heap.size + 3 ≤ w1.heap.size := by omega)); (try (have hl1_w_4 : w.heap.size + 4 < w1.heap.size := by omega)); (try (have hm1_w_4 : w.heap.size + 4 ≤ w1.heap.size := by omega)); (try (have hl1_w_5 : w.heap.size + 5 < w1.heap.size := by omega)); (try (have hm1_w_5 : w.heap.size + 5 ≤ w1.heap.size := by omega)); (try (have hl1_w_6 : w.heap.size + 6 < w1.heap.size := by omega)); (try (have hm1_w_6 : w.heap.size + 6 ≤ w1.heap.size := by omega))
    go_wp2_with fail
    exact bodyPost_ret (v := .agg #[.int .i64 5, .int .i64 14, .string ⟨#[]⟩]) (by simp [results, Try.results23, go_sem, hc1]) rfl ⟨rfl, (by repeat (first | with_reducible exact Below.refl _ _ | with_reducible assumption | with_reducible refine below_drewN ?_ _ | with_reducible refine Below.drew ?_ | with_reducible refine below_alloc0 ?_ | with_reducible refine below_alloc ?_ (by simp; try omega) | with_reducible refine below_set ?_ (by simp; try omega) | with_reducible refine below_chain ?_ (by assumption) | (with_reducible refine below_step ?_ (by assumption) (by simp; try omega))))⟩
  · rw [e]; clear e
    go_enter Try.func23, Try.ntmps23
    go_wp2_with fail
    exact bodyPost_ret (v := .agg #[.int .i64 4, .int .i64 0, .string ⟨#[]⟩]) (by simp [results, Try.results23, go_sem]) rfl ⟨rfl, (by repeat (first | with_reducible exact Below.refl _ _ | with_reducible assumption | with_reducible refine below_drewN ?_ _ | with_reducible refine Below.drew ?_ | with_reducible refine below_alloc0 ?_ | with_reducible refine below_alloc ?_ (by simp; try omega) | with_reducible refine below_set ?_ (by simp; try omega) | with_reducible refine below_chain ?_ (by assumption) | (with_reducible refine below_step ?_ (by assumption) (by simp; try omega))))⟩
end Go.Proofs.Ytiplgdplfbeahaa
