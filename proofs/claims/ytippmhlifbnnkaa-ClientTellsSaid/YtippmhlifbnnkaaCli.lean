/- client.Letter, client.Next and the reference of the latter. -/
import Derived.Test.YtippmhlifbnnkaaTypes
import Derived.Deep.QuietTactic
import Derived.BigQuiet
namespace Go.Proofs.Ytippmhlifbnnkaa
open Go.RowKit

def nextStep (o : Option Int) (c : Cll) : Option Int :=
  match o with
  | none => if c.state = 1 then some c.next else none
  | some n => if c.state = 1 ∧ c.next < n then some c.next else some n
def clientNext (l : List Cll) : Option Int := l.foldl nextStep none
def nextRes : Option Int → Int × Int
  | none => (0, 5)
  | some n => (n, 0)
theorem take_snoc' {α : Type} {l : List α} {k : Nat} {a : α} (h : l[k]? = some a) : l.take (k + 1) = l.take k ++ [a] := by
  rw [List.take_add_one, h]; rfl
theorem next_snoc {l : List Cll} {k : Nat} {c : Cll} (h : l[k]? = some c) : clientNext (l.take (k + 1)) = nextStep (clientNext (l.take k)) c := by
  rw [take_snoc' h]; simp [clientNext]

/-- What the two variables hold. -/
def nextVars (o : Option Int) (m : Int) (s : Bool) : Prop := (o = none ∧ s = false ∧ m = 0) ∨ (o = some m ∧ s = true)

theorem nextVars_step {o : Option Int} {m : Int} {s : Bool} (h : nextVars o m s) (x : Cll) (m' : Int) (s' : Bool)
    (h' : (x.state = 1 ∧ (¬ s = true ∨ x.next < m) ∧ m' = x.next ∧ s' = true) ∨ (x.state = 1 ∧ s = true ∧ m ≤ x.next ∧ m' = m ∧ s' = true) ∨ (¬ x.state = 1 ∧ m' = m ∧ s' = s)) : nextVars (nextStep o x) m' s' := by
  unfold nextVars at h ⊢
  rcases h with ⟨rfl, rfl, rfl⟩ | ⟨rfl, rfl⟩
  · rcases h' with ⟨a, b, rfl, rfl⟩ | ⟨a, b, _⟩ | ⟨a, rfl, rfl⟩
    · exact .inr ⟨by simp [nextStep, a], rfl⟩
    · simp at b
    · exact .inl ⟨by simp [nextStep, a], rfl, rfl⟩
  · refine .inr ?_
    rcases h' with ⟨a, b, rfl, rfl⟩ | ⟨a, b, c, rfl, rfl⟩ | ⟨a, rfl, rfl⟩
    · have hb : x.next < m := by rcases b with b | b; exact absurd rfl b; exact b
      exact ⟨by simp [nextStep, a, hb], rfl⟩
    · exact ⟨by simp only [nextStep]; rw [if_neg (by omega)], rfl⟩
    · exact ⟨by simp [nextStep, a], rfl⟩

set_option maxHeartbeats 400000 in
theorem client_Next (A : Option Addr) (n c : Nat) (l : List Cll) (w : World) (hn : inL n) (h : Sl w (old w) 10 RCll A n l) :
    Calls Try.prog 20 #[.slice A n c] w fun e w' => e = .returned (.tuple #[.int .i64 (nextRes (clientNext l)).1, .int .i64 (nextRes (clientNext l)).2]) ∧ Below w.heap.size w w' := by
  unfold inL at hn
  have HH := Lib.hid h
  clear h
  go_enter Try.func20, Try.ntmps20
  go_wp2_with fail
  go_loopw [4, 5, 10] (fun at_ some_ i wr => ∃ k : Nat, ∃ m : Int, ∃ s : Bool, k ≤ n ∧ i = .int .i64 k ∧ at_ = .int .i64 m ∧ some_ = .bool s ∧ nextVars (clientNext (l.take k)) m s ∧ Below w.heap.size w wr) (fun _ _ i _ => n - (intOf i).toNat)
  case atStart => exact ⟨0, 0, false, by omega, rfl, rfl, rfl, .inl ⟨rfl, rfl, rfl⟩, Below.refl _ _⟩
  case round =>
    obtain ⟨k, m, s, hk, rfl, rfl, rfl, hv, hb⟩ := hrel
    by_cases hlt : k < n
    · obtain ⟨b, o, x, rfl, _, hl, hw, h0, h1, h2, h3, h4, h5, h6, h7, h8, h9⟩ := Cll_at (HH.out.below hb (fun _ h => h)) hlt
      have hs := next_snoc hl
      have HS := Lib.hid (And.intro hs hv)
      clear hs hv hl hw
      go_wp2_with fail
      all_goals
        go_roundw
        case rel =>
          refine ⟨k + 1, _, _, by omega, by go_num, rfl, rfl, ?_, (by repeat (first | exact Below.refl _ _ | assumption | refine below_drewN ?_ _ | refine Below.drew ?_ | refine below_alloc0 ?_ | refine below_alloc ?_ (by simp; try omega) | refine below_set ?_ (by simp; try omega) | refine below_chain ?_ (by assumption) | (refine below_step ?_ (by assumption) (by simp; try omega))))⟩
          rw [HS.out.1]
          refine nextVars_step HS.out.2 x _ _ ?_
          first
            | exact .inl ⟨by assumption, .inr (by assumption), rfl, rfl⟩
            | exact .inl ⟨by assumption, .inl (by assumption), rfl, rfl⟩
            | exact .inr (.inl ⟨by assumption, by assumption, by assumption, rfl, rfl⟩)
            | exact .inr (.inr ⟨by assumption, rfl, rfl⟩)
        case measure => simp [intOf]; omega
    · have hke : k = n := by omega
      subst hke
      have hl : clientNext (l.take k) = clientNext l := by rw [List.take_of_length_le (by rw [HH.out.len]; exact Nat.le_refl _)]
      rw [hl] at hv
      have HV := Lib.hid hv
      clear hl hv
      go_wp2_with fail
      all_goals
        go_ret2
        refine ⟨?_, hb⟩
        rcases HV.out with ⟨h1, h2, h3⟩ | ⟨h1, h2⟩
        · first
            | (rw [h1]; rfl)
            | (exfalso; simp_all; done)
        · first
            | (rw [h1]; rfl)
            | (exfalso; simp_all; done)

def refVars (o : Option Int) (v : Value) (w : World) : Prop :=
  (o = none ∧ v = .slice none 0 0) ∨ ∃ g m, o = some m ∧ v = .slice (some ⟨g, 0, none⟩) 1 1 ∧ w.cell? ⟨g, 0, none⟩ = some (.int .i64 m)

set_option maxRecDepth 100000 in
set_option maxHeartbeats 1000000 in
theorem ref_ClientNext (A : Option Addr) (n c : Nat) (l : List Cll) (w : World) (hn : inL n) (h : Sl w (old w) 10 RCll A n l) :
    Calls Try.prog 21 #[.slice A n c] w fun e w' => e = .returned (.tuple #[.int .i64 (nextRes (clientNext l)).1, .int .i64 (nextRes (clientNext l)).2]) ∧ Below w.heap.size w w' := by
  unfold inL at hn
  have HH := Lib.hid h
  clear h
  have hnil := fun (w : World) (a : Option Addr) (l c : Nat) => Lib.run_eql_slice_nil (P := Try.prog) w 76 3 a l c 0 0 Try.underlying76
  go_enter Try.func21, Try.ntmps21
  go_wp2_with fail
  go_loopw [4, 9] (fun out i wr => ∃ k : Nat, k ≤ n ∧ i = .int .i64 k ∧ refVars (clientNext (l.take k)) out wr ∧ Below w.heap.size w wr) (fun _ i _ => n - (intOf i).toNat)
  case atStart => exact ⟨0, by omega, rfl, .inl ⟨rfl, rfl⟩, Below.refl _ _⟩
  case round =>
    obtain ⟨k, hk, rfl, hv, hb⟩ := hrel
    by_cases hlt : k < n
    · obtain ⟨b, o, x, rfl, _, hl, hw, h0, h1, h2, h3, h4, h5, h6, h7, h8, h9⟩ := Cll_at (HH.out.below hb (fun _ h => h)) hlt
      have hs := next_snoc hl
      clear hl hw
      have hbz := hb.size
      rcases hv with ⟨hv1, rfl⟩ | ⟨g, m, hv1, rfl, hg⟩
      · rw [hv1] at hs
        by_cases hst : x.state = 1
        · have hst' : (x.state == 1) = true := by simpa using hst
          have HS := Lib.hid (And.intro hs hst)
          clear hs hv1 hst
          go_wp2_with fail
          go_quiet (fail)
          go_wp2_with fail
          go_roundw
          case rel =>
            refine ⟨k + 1, by omega, by go_num, .inr ⟨_, x.next, ?_, rfl, ?_⟩, (by repeat (first | exact Below.refl _ _ | assumption | refine below_drewN ?_ _ | refine Below.drew ?_ | refine below_alloc0 ?_ | refine below_alloc ?_ (by simp; try omega) | refine below_set ?_ (by simp; try omega) | refine below_chain ?_ (by assumption) | (refine below_step ?_ (by assumption) (by simp; try omega))))⟩
            · rw [HS.out.1]; simp [nextStep, HS.out.2]
            · go_simp
          case measure => simp [intOf]; omega
        · have hst' : (x.state == 1) = false := by simpa using hst
          have HS := Lib.hid (And.intro hs hst)
          clear hs hv1 hst
          go_wp2_with fail
          go_quiet (fail)
          go_wp2_with fail
          go_roundw
          case rel =>
            refine ⟨k + 1, by omega, by go_num, .inl ⟨?_, rfl⟩, (by repeat (first | exact Below.refl _ _ | assumption | refine below_drewN ?_ _ | refine Below.drew ?_ | refine below_alloc0 ?_ | refine below_alloc ?_ (by simp; try omega) | refine below_set ?_ (by simp; try omega) | refine below_chain ?_ (by assumption) | (refine below_step ?_ (by assumption) (by simp; try omega))))⟩
            rw [HS.out.1]; simp [nextStep, HS.out.2]
          case measure => simp [intOf]; omega
      · have hgl := block_lt_of_cell hg
        simp only at hgl
        rw [hv1] at hs
        by_cases hst : x.state = 1
        · have hst' : (x.state == 1) = true := by simpa using hst
          by_cases hlt2 : x.next < m
          · have HS := Lib.hid (And.intro hs (And.intro hst hlt2))
            clear hs hv1 hst
            go_wp2_with fail
            go_quiet (fail)
            go_wp2_with fail
            go_roundw
            case rel =>
              refine ⟨k + 1, by omega, by go_num, .inr ⟨_, x.next, ?_, rfl, ?_⟩, (by repeat (first | exact Below.refl _ _ | assumption | refine below_drewN ?_ _ | refine Below.drew ?_ | refine below_alloc0 ?_ | refine below_alloc ?_ (by simp; try omega) | refine below_set ?_ (by simp; try omega) | refine below_chain ?_ (by assumption) | (refine below_step ?_ (by assumption) (by simp; try omega))))⟩
              · rw [HS.out.1]; simp [nextStep, HS.out.2]
              · go_simp
            case measure => simp [intOf]; omega
          · have hd : decide (x.next < m) = false := by simpa using hlt2
            have HS := Lib.hid (And.intro hs (And.intro hst hlt2))
            clear hs hv1 hst
            go_wp2_with fail
            go_quiet (fail)
            go_wp2_with fail
            go_roundw
            case rel =>
              refine ⟨k + 1, by omega, by go_num, .inr ⟨g, m, ?_, rfl, ?_⟩, (by repeat (first | exact Below.refl _ _ | assumption | refine below_drewN ?_ _ | refine Below.drew ?_ | refine below_alloc0 ?_ | refine below_alloc ?_ (by simp; try omega) | refine below_set ?_ (by simp; try omega) | refine below_chain ?_ (by assumption) | (refine below_step ?_ (by assumption) (by simp; try omega))))⟩
              · rw [HS.out.1]; simp only [nextStep]; rw [if_neg (by omega)]
              · go_simp
            case measure => simp [intOf]; omega
        · have hst' : (x.state == 1) = false := by simpa using hst
          have HS := Lib.hid (And.intro hs hst)
          clear hs hv1 hst
          go_wp2_with fail
          go_quiet (fail)
          go_wp2_with fail
          go_roundw
          case rel =>
            refine ⟨k + 1, by omega, by go_num, .inr ⟨g, m, ?_, rfl, ?_⟩, (by repeat (first | exact Below.refl _ _ | assumption | refine below_drewN ?_ _ | refine Below.drew ?_ | refine below_alloc0 ?_ | refine below_alloc ?_ (by simp; try omega) | refine below_set ?_ (by simp; try omega) | refine below_chain ?_ (by assumption) | (refine below_step ?_ (by assumption) (by simp; try omega))))⟩
            · rw [HS.out.1]; simp [nextStep, HS.out.2]
            · go_simp
          case measure => simp [intOf]; omega
    · have hke : k = n := by omega
      subst hke
      have hl : clientNext (l.take k) = clientNext l := by rw [List.take_of_length_le (by rw [HH.out.len]; exact Nat.le_refl _)]
      rw [hl] at hv
      rcases hv with ⟨hv1, rfl⟩ | ⟨g, m, hv1, rfl, hg⟩
      · have HV := Lib.hid hv1
        clear hl hv1
        go_wp2_with fail
        go_ret2
        exact ⟨by rw [HV.out]; rfl, hb⟩
      · have HV := Lib.hid hv1
        clear hl hv1
        go_wp2_with fail
        go_ret2
        exact ⟨by rw [HV.out]; rfl, hb⟩

def letterOf (name : ByteArray) (c : Cll) : Ltr × Int :=
  if c.state = 1 then (⟨name, c.id, c.key, ⟨0, 0, ⟨#[]⟩⟩⟩, 0) else (⟨⟨#[]⟩, 0, ⟨0, 0, ⟨#[]⟩⟩, ⟨0, 0, ⟨#[]⟩⟩⟩, 2)

set_option maxHeartbeats 400000 in
theorem client_Letter_ask (name : ByteArray) (st id tr kk kn : Int) (ks : ByteArray) (hk hn : Int) (hs : ByteArray) (nx : Int) (w : World) (h : st = 1) :
    Calls Try.prog 19 #[.string name, .agg #[.int .i64 st, .int .i64 id, .int .i64 tr, .int .i64 kk, .int .i64 kn, .string ks, .int .i64 hk, .int .i64 hn, .string hs, .int .i64 nx]] w
      fun e w' => e = .returned (.tuple #[.agg #[.string name, .int .i64 id, .int .i64 kk, .int .i64 kn, .string ks, .int .i64 0, .int .i64 0, .string ⟨#[]⟩], .int .i64 0]) ∧ Below w.heap.size w w' := by
  subst h
  go_enter Try.func19, Try.ntmps19
  go_wp2
  exact bodyPost_ret (v := .tuple #[.agg #[.string name, .int .i64 id, .int .i64 kk, .int .i64 kn, .string ks, .int .i64 0, .int .i64 0, .string ⟨#[]⟩], .int .i64 0]) (by simp [results, Try.results19, go_sem]) rfl ⟨rfl, (by repeat (first | exact Below.refl _ _ | assumption | refine below_drewN ?_ _ | refine Below.drew ?_ | refine below_alloc0 ?_ | refine below_alloc ?_ (by simp; try omega) | refine below_set ?_ (by simp; try omega) | refine below_chain ?_ (by assumption) | (refine below_step ?_ (by assumption) (by simp; try omega))))⟩
set_option maxHeartbeats 400000 in
theorem client_Letter_not (name : ByteArray) (st id tr kk kn : Int) (ks : ByteArray) (hk hn : Int) (hs : ByteArray) (nx : Int) (w : World) (h : ¬ st = 1) :
    Calls Try.prog 19 #[.string name, .agg #[.int .i64 st, .int .i64 id, .int .i64 tr, .int .i64 kk, .int .i64 kn, .string ks, .int .i64 hk, .int .i64 hn, .string hs, .int .i64 nx]] w
      fun e w' => e = .returned (.tuple #[.agg #[.string ⟨#[]⟩, .int .i64 0, .int .i64 0, .int .i64 0, .string ⟨#[]⟩, .int .i64 0, .int .i64 0, .string ⟨#[]⟩], .int .i64 2]) ∧ Below w.heap.size w w' := by
  have h' : (st == 1) = false := by simpa using h
  go_enter Try.func19, Try.ntmps19
  go_wp2
  exact bodyPost_ret (v := .tuple #[.agg #[.string ⟨#[]⟩, .int .i64 0, .int .i64 0, .int .i64 0, .string ⟨#[]⟩, .int .i64 0, .int .i64 0, .string ⟨#[]⟩], .int .i64 2]) (by simp [results, Try.results19, go_sem]) rfl ⟨rfl, (by repeat (first | exact Below.refl _ _ | assumption | refine below_drewN ?_ _ | refine Below.drew ?_ | refine below_alloc0 ?_ | refine below_alloc ?_ (by simp; try omega) | refine below_set ?_ (by simp; try omega) | refine below_chain ?_ (by assumption) | (refine below_step ?_ (by assumption) (by simp; try omega))))⟩
end Go.Proofs.Ytippmhlifbnnkaa
