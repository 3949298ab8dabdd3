/- whole.Asked and the reference AskedOf. -/
import Derived.Test.YtekeacihdmbbjaaFacts
namespace Go.Proofs.Ytekeacihdmbbjaa
open Go.RowKit

/-- The ending with a value. -/
def RetV (w : World) (v : Val) (e : Ending) (w' : World) : Prop := e = .returned (.agg #[.int .i64 v.k, .int .i64 v.n, .string v.s]) ∧ Below w.heap.size w w'
def askHit (nm : ByteArray) (key : Val) (x : Fct) : Bool := x.name.toList == nm.toList && valEq x.key key
def pendV : Val := ⟨4, 0, ⟨#[]⟩⟩
def askL (l : List Fct) (nm : ByteArray) (key : Val) : Val := ((l.find? (askHit nm key)).map (·.has)).getD pendV
def askV (l : List Fct) (nm : ByteArray) (key : Val) : Val := bif valKnown key then askL l nm key else key
theorem find_take {α : Type} {p : α → Bool} {l : List α} {k : Nat} {x : α} (h0 : (l.take k).any p = false) (h1 : l[k]? = some x) (h2 : p x = true) : l.find? p = some x := by
  have hk : k < l.length := (List.getElem?_eq_some_iff.1 h1).1
  have hf : l[k] = x := by rw [List.getElem?_eq_getElem hk] at h1; exact Option.some.inj h1
  have e1 : l = l.take k ++ x :: l.drop (k + 1) := by rw [← hf, ← List.drop_eq_getElem_cons hk, List.take_append_drop]
  rw [e1, List.find?_append, find_none _ _ h0]
  simp [h2]
theorem any_next {α : Type} {p : α → Bool} {l : List α} {k : Nat} {x : α} (h0 : (l.take k).any p = false) (h1 : l[k]? = some x) (h2 : p x = false) : (l.take (k + 1)).any p = false := by
  rw [List.take_add_one, h1, List.any_append, h0]; simp [h2]
theorem drop_at {α : Type} {l : List α} {k : Nat} {x : α} (h : l[k]? = some x) : l.drop k = x :: l.drop (k + 1) := by
  have hk : k < l.length := (List.getElem?_eq_some_iff.1 h).1
  have hf : l[k] = x := by rw [List.getElem?_eq_getElem hk] at h; exact Option.some.inj h
  rw [← hf, ← List.drop_eq_getElem_cons hk]

set_option maxRecDepth 100000 in
set_option maxHeartbeats 2000000 in
theorem whole_Asked (A : Option Addr) (n c : Nat) (l : List Fct) (nm : ByteArray) (key : Val) (w : World) (hn : inL n) (hk : key.s.size ≤ maxLen) (h : Sl w (old w) 7 RFct A n l) :
    Calls Try.prog 38 #[.slice A n c, .string nm, .agg #[.int .i64 key.k, .int .i64 key.n, .string key.s]] w (RetV w (askV l nm key)) := by
  have hkn := fun w => value_Known key.k key.n key.s w hk
  rw [show (⟨key.k, key.n, key.s⟩ : Val) = key from rfl] at hkn
  unfold askV
  unfold inL at hn
  cases hkk : valKnown key
  · rw [hkk] at hkn
    simp only [cond_false]
    go_enter Try.func38, Try.ntmps38
    go_wp2_with (go_at_call 85; refine (hkn _).mono ?_; rintro e w1 ⟨rfl, hb1⟩; obtain ⟨hc1, hf1⟩ := bcell hb1; (try simp only [World.heap_drewN, World.cell?_drewN, World.frozen?_drewN] at hc1 hf1); have hz1 := hb1.size; (try simp at hz1); (try (have hy1 := Nat.lt_of_succ_le hz1)); (try (have hx1 := Nat.lt_of_succ_lt hy1)))
    exact bodyPost_ret (v := .agg #[.int .i64 key.k, .int .i64 key.n, .string key.s]) (by first | (simp [results, Try.results38, go_sem]; done) | (simp [results, Try.results38, go_sem, *]; done)) rfl ⟨rfl, bel⟩
  · rw [hkk] at hkn
    simp only [cond_true]
    have HH := Lib.hid (And.intro h h.len)
    obtain ⟨out, hout⟩ : ∃ v, askL l nm key = v := ⟨_, rfl⟩
    have HO := Lib.hid hout
    rw [hout]
    clear h hout hkk
    go_enter Try.func38, Try.ntmps38
    go_wp2_with (go_at_call 85; refine (hkn _).mono ?_; rintro e w1 ⟨rfl, hb1⟩; obtain ⟨hc1, hf1⟩ := bcell hb1; (try simp only [World.heap_drewN, World.cell?_drewN, World.frozen?_drewN] at hc1 hf1); have hz1 := hb1.size; (try simp at hz1); (try (have hy1 := Nat.lt_of_succ_le hz1)); (try (have hx1 := Nat.lt_of_succ_lt hy1)))
    have HB1 := Lib.hid (show Below w.heap.size w w1 from bel)
    go_loopw [15] (fun i wr => ∃ k : Nat, k ≤ n ∧ i = .int .i64 k ∧ Hid ((l.take k).any (askHit nm key) = false) ∧ Below w1.heap.size w1 wr) (fun i _ => n - (intOf i).toNat)
    case atStart => exact ⟨0, by omega, rfl, Lib.hid (by simp), Below.refl _ _⟩
    case round =>
      obtain ⟨k, hk', rfl, hz, hbr⟩ := hrel
      have HBO := Lib.hid (show Below w.heap.size w wr from below_chain HB1.out hbr)
      obtain ⟨hcr, hfr⟩ := bcell hbr; (try simp only [World.heap_drewN, World.cell?_drewN, World.frozen?_drewN] at hcr hfr); have hzr := hbr.size; (try simp at hzr); (try (have hyr := Nat.lt_of_succ_le hzr)); (try (have hxr := Nat.lt_of_succ_lt hyr)); (try (have hlr_w_0 : w.heap.size < wr.heap.size := by omega)); (try (have hmr_w_0 : w.heap.size ≤ wr.heap.size := by omega)); (try (have hlr_w_1 : w.heap.size + 1 < wr.heap.size := by omega)); (try (have hmr_w_1 : w.heap.size + 1 ≤ wr.heap.size := by omega)); (try (have hlr_w_2 : w.heap.size + 2 < wr.heap.size := by omega)); (try (have hmr_w_2 : w.heap.size + 2 ≤ wr.heap.size := by omega)); (try (have hlr_w_3 : w.heap.size + 3 < wr.heap.size := by omega)); (try (have hmr_w_3 : w.heap.size + 3 ≤ wr.heap.size := by omega)); (try (have hlr_w_4 : w.heap.size + 4 < wr.heap.size := by omega)); (try (have hmr_w_4 : w.heap.size + 4 ≤ wr.heap.size := by omega)); (try (have hlr_w_5 : w.heap.size + 5 < wr.heap.size := by omega)); (try (have hmr_w_5 : w.heap.size + 5 ≤ wr.heap.size := by omega)); (try (have hlr_w_6 : w.heap.size + 6 < wr.heap.size := by omega)); (try (have hmr_w_6 : w.heap.size + 6 ≤ wr.heap.size := by omega)); (try (have hlr_w1_0 : w1.heap.size < wr.heap.size := by omega)); (try (have hmr_w1_0 : w1.heap.size ≤ wr.heap.size := by omega)); (try (have hlr_w1_1 : w1.heap.size + 1 < wr.heap.size := by omega)); (try (have hmr_w1_1 : w1.heap.size + 1 ≤ wr.heap.size := by omega)); (try (have hlr_w1_2 : w1.heap.size + 2 < wr.heap.size := by omega)); (try (have hmr_w1_2 : w1.heap.size + 2 ≤ wr.heap.size := by omega)); (try (have hlr_w1_3 : w1.heap.size + 3 < wr.heap.size := by omega)); (try (have hmr_w1_3 : w1.heap.size + 3 ≤ wr.heap.size := by omega)); (try (have hlr_w1_4 : w1.heap.size + 4 < wr.heap.size := by omega)); (try (have hmr_w1_4 : w1.heap.size + 4 ≤ wr.heap.size := by omega)); (try (have hlr_w1_5 : w1.heap.size + 5 < wr.heap.size := by omega)); (try (have hmr_w1_5 : w1.heap.size + 5 ≤ wr.heap.size := by omega)); (try (have hlr_w1_6 : w1.heap.size + 6 < wr.heap.size := by omega)); (try (have hmr_w1_6 : w1.heap.size + 6 ≤ wr.heap.size := by omega))
      by_cases hlt : k < n
      · obtain ⟨b, o, x, rfl, hbl, hl, hwf, x0, x1, x2, x3, x4, x5, x6⟩ := Fct_at (HH.out.1.now HBO.out) hlt
        have hbl' : b < wr.heap.size := hbl
        have hq := fun w => run_eql_Val w x.key.k x.key.n key.k key.n x.key.s key.s
        rw [show (⟨x.key.k, x.key.n, x.key.s⟩ : Val) = x.key from rfl, show (⟨key.k, key.n, key.s⟩ : Val) = key from rfl] at hq
        have HL := Lib.hid hl
        have hsk : askHit nm key x = (x.name.toList == nm.toList && valEq x.key key) := rfl
        clear hl hwf hbl
        cases hp : (x.name.toList == nm.toList)
        · have HP := Lib.hid (show askHit nm key x = false by rw [hsk, hp]; rfl)
          clear hsk hq
          go_wp2_with fail
          go_roundw
          case rel => exact ⟨k + 1, by omega, by go_num, Lib.hid (any_next hz.out HL.out HP.out), bel⟩
          case measure => simp [intOf]; omega
        · cases hp2 : valEq x.key key
          · have HP := Lib.hid (show askHit nm key x = false by rw [hsk, hp2]; simp)
            rw [hp2] at hq
            clear hsk hp2
            go_wp2_with fail
            go_roundw
            case rel => exact ⟨k + 1, by omega, by go_num, Lib.hid (any_next hz.out HL.out HP.out), bel⟩
            case measure => simp [intOf]; omega
          · have hP : askHit nm key x = true := by rw [hsk, hp, hp2]; rfl
            have hfd : x.has = out := by rw [← HO.out]; unfold askL; rw [find_take hz.out HL.out hP]; rfl
            rw [hp2] at hq
            rw [hfd] at x4 x5 x6
            clear hsk hp2 hP hfd
            go_wp2_with fail
            exact bodyPost_ret (v := .agg #[.int .i64 out.k, .int .i64 out.n, .string out.s]) (by first | (simp [results, Try.results38, go_sem]; done) | (simp [results, Try.results38, go_sem, *]; done)) rfl ⟨rfl, bel⟩
      · have hke : k = n := by omega
        subst hke
        have ho : out = pendV := by
          rw [← HO.out]; unfold askL
          rw [find_none _ _ (by have := hz.out; rwa [List.take_of_length_le (by rw [HH.out.2]; exact Nat.le_refl _)] at this)]; rfl
        have HE := Lib.hid ho
        clear HO ho
        go_wp2_with fail
        exact bodyPost_ret (v := .agg #[.int .i64 4, .int .i64 0, .string ⟨#[]⟩]) (by first | (simp [results, Try.results38, go_sem]; done) | (simp [results, Try.results38, go_sem, *]; done)) rfl ⟨by rw [HE.out]; rfl, bel⟩
def askD (l : List Fct) (nm : ByteArray) (key : Val) (k : Nat) : Val := askL (l.drop k) nm key
theorem askD_hit {l : List Fct} {nm : ByteArray} {key : Val} {k : Nat} {x : Fct} (h : l[k]? = some x) (hx : askHit nm key x = true) : askD l nm key k = x.has := by
  unfold askD askL; rw [drop_at h, List.find?_cons_of_pos hx]; rfl
theorem askD_miss {l : List Fct} {nm : ByteArray} {key : Val} {k : Nat} {x : Fct} (h : l[k]? = some x) (hx : askHit nm key x = false) : askD l nm key k = askD l nm key (k + 1) := by
  unfold askD askL; rw [drop_at h, List.find?_cons_of_neg (by simp [hx])]
set_option maxRecDepth 100000 in
set_option maxHeartbeats 2000000 in
theorem ref_AskedOf (A : Option Addr) (n c : Nat) (l : List Fct) (nm : ByteArray) (key : Val) (w : World) (hn : inL n) (hk : key.s.size ≤ maxLen) (h : Sl w (old w) 7 RFct A n l) :
    Calls Try.prog 40 #[.slice A n c, .string nm, .agg #[.int .i64 key.k, .int .i64 key.n, .string key.s]] w (RetV w (askV l nm key)) := by
  have hkn := fun w => ref_Known key.k key.n key.s w hk
  rw [show (⟨key.k, key.n, key.s⟩ : Val) = key from rfl] at hkn
  unfold askV
  unfold inL at hn
  cases hkk : valKnown key
  · rw [hkk] at hkn
    simp only [cond_false]
    go_enter Try.func40, Try.ntmps40
    go_wp2_with (go_at_call 89; refine (hkn _).mono ?_; rintro e w1 ⟨rfl, hb1⟩; obtain ⟨hc1, hf1⟩ := bcell hb1; (try simp only [World.heap_drewN, World.cell?_drewN, World.frozen?_drewN] at hc1 hf1); have hz1 := hb1.size; (try simp at hz1); (try (have hy1 := Nat.lt_of_succ_le hz1)); (try (have hx1 := Nat.lt_of_succ_lt hy1)))
    exact bodyPost_ret (v := .agg #[.int .i64 key.k, .int .i64 key.n, .string key.s]) (by first | (simp [results, Try.results40, go_sem]; done) | (simp [results, Try.results40, go_sem, *]; done)) rfl ⟨rfl, bel⟩
  · rw [hkk] at hkn
    simp only [cond_true]
    have HH := Lib.hid (And.intro h h.len)
    obtain ⟨out, hout⟩ : ∃ v, askL l nm key = v := ⟨_, rfl⟩
    have HO := Lib.hid hout
    rw [hout]
    clear h hout hkk
    go_enter Try.func40, Try.ntmps40
    go_wp2_with (go_at_call 89; refine (hkn _).mono ?_; rintro e w1 ⟨rfl, hb1⟩; obtain ⟨hc1, hf1⟩ := bcell hb1; (try simp only [World.heap_drewN, World.cell?_drewN, World.frozen?_drewN] at hc1 hf1); have hz1 := hb1.size; (try simp at hz1); (try (have hy1 := Nat.lt_of_succ_le hz1)); (try (have hx1 := Nat.lt_of_succ_lt hy1)))
    have HB1 := Lib.hid (show Below w.heap.size w w1 from bel)
    go_loopw [8] (fun i wr => ∃ (k : Nat) (v : Val), k ≤ n ∧ i = .int .i64 ((k : Int) - 1) ∧ Hid (askD l nm key k = v) ∧ wr.cell? ⟨w1.heap.size, 0, none⟩ = some (.int .i64 v.k) ∧ wr.cell? ⟨w1.heap.size, 1, none⟩ = some (.int .i64 v.n) ∧ wr.cell? ⟨w1.heap.size, 2, none⟩ = some (.string v.s) ∧ (wr.frozen? ⟨w1.heap.size, 0, none⟩ = false ∧ wr.frozen? ⟨w1.heap.size, 1, none⟩ = false ∧ wr.frozen? ⟨w1.heap.size, 2, none⟩ = false) ∧ Below w1.heap.size w1 wr ∧ w1.heap.size < wr.heap.size) (fun i _ => (intOf i + 1).toNat)
    case atStart => exact ⟨n, pendV, Nat.le_refl _, rfl, Lib.hid (by unfold askD askL; rw [List.drop_of_length_le (by rw [HH.out.2]; exact Nat.le_refl _)]; rfl), by go_simp; rfl, by go_simp; rfl, by go_simp; rfl, by go_simp, bel, by simp⟩
    case round =>
      obtain ⟨k, v, hk', hi, hz, v0, v1, v2, ⟨u0, u1, u2⟩, hbr, hsz⟩ := hrel
      have HBO := Lib.hid (show Below w.heap.size w wr from below_chain HB1.out hbr)
      obtain ⟨hcr, hfr⟩ := bcell hbr; (try simp only [World.heap_drewN, World.cell?_drewN, World.frozen?_drewN] at hcr hfr); have hzr := hbr.size; (try simp at hzr); (try (have hyr := Nat.lt_of_succ_le hzr)); (try (have hxr := Nat.lt_of_succ_lt hyr)); (try (have hlr_w_0 : w.heap.size < wr.heap.size := by omega)); (try (have hmr_w_0 : w.heap.size ≤ wr.heap.size := by omega)); (try (have hlr_w_1 : w.heap.size + 1 < wr.heap.size := by omega)); (try (have hmr_w_1 : w.heap.size + 1 ≤ wr.heap.size := by omega)); (try (have hlr_w_2 : w.heap.size + 2 < wr.heap.size := by omega)); (try (have hmr_w_2 : w.heap.size + 2 ≤ wr.heap.size := by omega)); (try (have hlr_w_3 : w.heap.size + 3 < wr.heap.size := by omega)); (try (have hmr_w_3 : w.heap.size + 3 ≤ wr.heap.size := by omega)); (try (have hlr_w_4 : w.heap.size + 4 < wr.heap.size := by omega)); (try (have hmr_w_4 : w.heap.size + 4 ≤ wr.heap.size := by omega)); (try (have hlr_w_5 : w.heap.size + 5 < wr.heap.size := by omega)); (try (have hmr_w_5 : w.heap.size + 5 ≤ wr.heap.size := by omega)); (try (have hlr_w_6 : w.heap.size + 6 < wr.heap.size := by omega)); (try (have hmr_w_6 : w.heap.size + 6 ≤ wr.heap.size := by omega)); (try (have hlr_w1_0 : w1.heap.size < wr.heap.size := by omega)); (try (have hmr_w1_0 : w1.heap.size ≤ wr.heap.size := by omega)); (try (have hlr_w1_1 : w1.heap.size + 1 < wr.heap.size := by omega)); (try (have hmr_w1_1 : w1.heap.size + 1 ≤ wr.heap.size := by omega)); (try (have hlr_w1_2 : w1.heap.size + 2 < wr.heap.size := by omega)); (try (have hmr_w1_2 : w1.heap.size + 2 ≤ wr.heap.size := by omega)); (try (have hlr_w1_3 : w1.heap.size + 3 < wr.heap.size := by omega)); (try (have hmr_w1_3 : w1.heap.size + 3 ≤ wr.heap.size := by omega)); (try (have hlr_w1_4 : w1.heap.size + 4 < wr.heap.size := by omega)); (try (have hmr_w1_4 : w1.heap.size + 4 ≤ wr.heap.size := by omega)); (try (have hlr_w1_5 : w1.heap.size + 5 < wr.heap.size := by omega)); (try (have hmr_w1_5 : w1.heap.size + 5 ≤ wr.heap.size := by omega)); (try (have hlr_w1_6 : w1.heap.size + 6 < wr.heap.size := by omega)); (try (have hmr_w1_6 : w1.heap.size + 6 ≤ wr.heap.size := by omega))
      rcases k with _ | m
      · have hi' := hi.trans (congrArg (Value.int .i64) (by omega : ((0 : Nat) : Int) - 1 = -1))
        clear hi
        subst hi'
        have HE := Lib.hid (show v = out by rw [← hz.out, ← HO.out]; rfl)
        go_wp2_with fail
        exact bodyPost_ret (v := .agg #[.int .i64 v.k, .int .i64 v.n, .string v.s]) (by first | (simp [results, Try.results40, go_sem]; done) | (simp [results, Try.results40, go_sem, *]; done)) rfl ⟨by rw [HE.out], bel⟩
      · have hi' := hi.trans (congrArg (Value.int .i64) (by omega : ((m + 1 : Nat) : Int) - 1 = (m : Int)))
        clear hi
        subst hi'
        obtain ⟨b, o, x, rfl, hbl, hl, hwf, x0, x1, x2, x3, x4, x5, x6⟩ := Fct_at (HH.out.1.now HBO.out) (show m < n by omega)
        have hbl' : b < wr.heap.size := hbl
        have hq := fun w => run_eql_Val w x.key.k x.key.n key.k key.n x.key.s key.s
        rw [show (⟨x.key.k, x.key.n, x.key.s⟩ : Val) = x.key from rfl, show (⟨key.k, key.n, key.s⟩ : Val) = key from rfl] at hq
        have HL := Lib.hid hl
        have hsk : askHit nm key x = (x.name.toList == nm.toList && valEq x.key key) := rfl
        clear hl hwf hbl
        cases hp : (x.name.toList == nm.toList)
        · have HP := Lib.hid (show askD l nm key m = v by rw [askD_miss HL.out (by rw [hsk, hp]; rfl)]; exact hz.out)
          clear hsk hq
          go_wp2_with fail
          go_quiet (fail)
          go_wp2_with fail
          go_roundw
          case rel => exact ⟨m, v, by omega, by go_num, HP, by go_simp, by go_simp, by go_simp, by go_simp, bel, by go_simp⟩
          case measure => first | (simp [intOf]; done) | (simp [intOf]; omega)
        · cases hp2 : valEq x.key key
          · have HP := Lib.hid (show askD l nm key m = v by rw [askD_miss HL.out (by rw [hsk, hp2]; simp)]; exact hz.out)
            rw [hp2] at hq
            clear hsk hp2
            go_wp2_with fail
            go_quiet (fail)
            go_wp2_with fail
            go_roundw
            case rel => exact ⟨m, v, by omega, by go_num, HP, by go_simp, by go_simp, by go_simp, by go_simp, bel, by go_simp⟩
            case measure => first | (simp [intOf]; done) | (simp [intOf]; omega)
          · have HP := Lib.hid (show askD l nm key m = x.has by rw [askD_hit HL.out (by rw [hsk, hp, hp2]; rfl)])
            rw [hp2] at hq
            clear hsk hp2
            go_wp2_with fail
            go_quiet (fail)
            go_wp2_with fail
            go_roundw
            case rel => exact ⟨m, x.has, by omega, by go_num, HP, by go_simp, by go_simp, by go_simp, by go_simp, bel, by go_simp⟩
            case measure => first | (simp [intOf]; done) | (simp [intOf]; omega)
end Go.Proofs.Ytekeacihdmbbjaa
