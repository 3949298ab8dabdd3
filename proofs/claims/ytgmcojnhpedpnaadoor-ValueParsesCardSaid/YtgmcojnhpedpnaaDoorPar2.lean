/- The reference ValueOf: of all that it might be the one that is shown so. -/
import Derived.Test.YtgmcojnhpedpnaaDoorPar
namespace Go.Proofs.YtgmcojnhpedpnaaDoor
open Go.RowKit

theorem candsV_wf {s : ByteArray} (hs : inS s) : ∀ v ∈ candsV s, v.wf := by
  intro v hv
  have ha : inI (if s.data.toList = [] then 0 else atoiV s.data.toList.tail) := by
    split
    · exact inI_c 0 (by omega)
    · exact atoiV_in _
  simp only [candsV, List.mem_cons, List.not_mem_nil, or_false] at hv
  rcases hv with rfl | rfl | rfl | rfl | rfl | rfl
  · exact ⟨inI_c 4 (by omega), inI_c 0 (by omega), str_nil_in⟩
  · exact ⟨inI_c 2 (by omega), inI_c 0 (by omega), str_nil_in⟩
  · exact ⟨inI_c 2 (by omega), inI_c 1 (by omega), str_nil_in⟩
  · exact ⟨inI_c 1 (by omega), atoiV_in _, str_nil_in⟩
  · exact ⟨inI_c 5 (by omega), ha, str_nil_in⟩
  · exact ⟨inI_c 3 (by omega), inI_c 0 (by omega), unq_in hs 1⟩
/-- The search, place by place. -/
def noneV (s : ByteArray) (k : Nat) : Prop := ∀ v ∈ (candsV s).take k, shows s v = false
theorem noneV_next {s : ByteArray} {k : Nat} {v : Val} (h : noneV s k) (hl : (candsV s)[k]? = some v) (hv : shows s v = false) : noneV s (k + 1) := by
  intro u hu
  rw [List.take_add_one, hl, List.mem_append] at hu
  rcases hu with hu | hu
  · exact h u hu
  · simp at hu; subst hu; exact hv
theorem refV_hit {s : ByteArray} {k : Nat} {v : Val} (h : noneV s k) (hl : (candsV s)[k]? = some v) (hv : shows s v = true) : refV s = (v, 0) := by
  have hk : k < (candsV s).length := (List.getElem?_eq_some_iff.1 hl).1
  have e : candsV s = (candsV s).take k ++ v :: (candsV s).drop (k + 1) := by
    have h1 : (candsV s).drop k = v :: (candsV s).drop (k + 1) := by
      rw [List.drop_eq_getElem_cons hk]
      congr 1
      exact Option.some.inj ((List.getElem?_eq_getElem hk).symm.trans hl)
    rw [← h1, List.take_append_drop]
  unfold refV
  rw [e, List.find?_append, List.find?_eq_none.2 (fun u hu => by rw [h u hu]; simp), Option.none_or, List.find?_cons_of_pos hv]
theorem refV_none {s : ByteArray} (h : noneV s 6) : refV s = (noVal, 3) := by
  unfold refV
  rw [List.find?_eq_none.2 (fun u hu => by rw [h u (by rw [List.take_of_length_le (by show 6 ≤ 6; omega)]; exact hu)]; simp)]
/-- A literal of values, as a slice. -/
theorem slLit {w : World} {b : Nat} {e : TypeId} {fr : Nat × Nat} {S : Nat → Prop} (l : List Val) (hw : ∀ v ∈ l, v.wf) (hS : S b) (h : w.heap[b]? = some (.cells (l.flatMap Val.cs).toArray e fr)) : Sl w S 3 RVal (some ⟨b, 0, none⟩) l.length l := by
  refine ⟨rfl, fun _ => ⟨b, 0, rfl, hS, fun i v hv => ⟨v.cs, ⟨rfl, hw v (List.mem_of_getElem? hv)⟩, rfl, fun j hj => ?_⟩⟩⟩
  rw [cell_of_row w b _ _ e fr h, Nat.zero_add, List.getElem?_toArray]
  exact flat_at Val.cs 3 (fun _ => rfl) l i j v hv hj

set_option maxRecDepth 100000 in
set_option maxHeartbeats 2000000 in
theorem ref_ValueOf (s : ByteArray) (w : World) (hs : inS s) (hg : GdA w) : Calls Tryd.prog 19 #[.string s] w (RetVC w (refV s).1 (refV s).2) := by
  have hs2 : s.size ≤ 140737488351232 := hs
  have hsl : s.data.toList.length = s.size := by simp
  have hsh := fun v w h h2 => ref_ValueText v w h h2
  have hat : ∀ w, GdA w → Calls Tryd.prog 28 #[.string s] w (RetNE w (atoiV s.data.toList)) := fun w h => atoi_at s w hs h
  have hlf := unq_end (s := s.data.toList) (i := s.size) (by omega)
  obtain ⟨R, hR⟩ : ∃ R, R = refV s := ⟨_, rfl⟩
  rw [← hR]
  have HG := Lib.hid hg
  have HS := Lib.hid hs
  have HR := Lib.hid hR
  have HSL := Lib.hid hsl
  clear hg hs hR hsl hlf
  go_enter Tryd.func19, Tryd.ntmps19
  go_wp2_with fail
  go_loop [4, 5] (fun t i => ∃ (k : Nat) (l : List UInt8), 1 ≤ k ∧ k ≤ s.size + 1 ∧ i = .int .i64 k ∧ t = .string (ofL l) ∧ l ++ unq s.data.toList k = unq s.data.toList 1 ∧ l.length ≤ k) (fun _ i => s.size + 1 - (intOf i).toNat)
  case atStart => exact ⟨1, [], by omega, by omega, rfl, rfl, rfl, by simp⟩
  case round =>
    obtain ⟨k, l, hk1, hk2, rfl, rfl, hun, hlk⟩ := hrel
    have hls : (ofL l).size = l.length := by show l.toArray.size = _; simp
    by_cases hlt : k + 1 < s.size
    · have hget : s.data.toList[k]? = some s[k] := by rw [List.getElem?_eq_getElem (by rw [HSL.out]; omega)]; rfl
      have hkk : (k : Int) + 1 < (s.size : Int) := by omega
      have hsx : ∀ j, (s.extract j (j + 1)).size ≤ 1 := fun j => by rw [ByteArray.size_extract]; omega
      by_cases hesc : s[k] = 92
      · have g1 : ((s[k].toNat : Int) == 92) = true := by rw [hesc]; rfl
        by_cases h2 : k + 2 < s.size
        · have hk3 : (k : Int) + 2 < (s.size : Int) := by omega
          have hget2 : s.data.toList[k + 1]? = some s[k + 1] := by rw [List.getElem?_eq_getElem (by rw [HSL.out]; omega)]; rfl
          have hun2 := unq_esc (s := s.data.toList) (i := k) (by rw [HSL.out]; omega) (by rw [hget, hesc]) hget2
          rw [hun2] at hun
          have hx := hsx (k + 1)
          have hex := extract_one s (k + 1) (by omega)
          obtain ⟨t, ht⟩ : ∃ t, t = ofL l := ⟨_, rfl⟩
          have hlt2 : t.size ≤ k := by rw [ht, hls]; exact hlk
          rw [← ht]
          have HO := Lib.hid (And.intro hun (And.intro hlk (And.intro ht hex)))
          clear hun hun2 hget hget2 hesc hlk hsx ht hls hex
          go_wp2_with fail
          go_round
          case rel => exact ⟨k + 2, l ++ [s[k + 1]], by omega, by omega, by go_num, by rw [HO.out.2.2.1, HO.out.2.2.2, app_ofL], by rw [List.append_assoc]; exact HO.out.1, by have := HO.out.2.1; simp; omega⟩
          case measure => simp [intOf]; omega
        · have hk3 : ¬ (k : Int) + 2 < (s.size : Int) := by omega
          have hun2 := unq_one (s := s.data.toList) (i := k) (c := s[k]) (by rw [HSL.out]; omega) (by rw [HSL.out]; exact fun h => h2 h.2) hget
          rw [hun2] at hun
          have hx := hsx k
          have hex := extract_one s k (by omega)
          obtain ⟨t, ht⟩ : ∃ t, t = ofL l := ⟨_, rfl⟩
          have hlt2 : t.size ≤ k := by rw [ht, hls]; exact hlk
          rw [← ht]
          have HO := Lib.hid (And.intro hun (And.intro hlk (And.intro ht hex)))
          clear hun hun2 hget hesc hlk hsx ht hls hex
          go_wp2_with fail
          go_round
          case rel => exact ⟨k + 1, l ++ [s[k]], by omega, by omega, by go_num, by rw [HO.out.2.2.1, HO.out.2.2.2, app_ofL], by rw [List.append_assoc]; exact HO.out.1, by have := HO.out.2.1; simp; omega⟩
          case measure => simp [intOf]; omega
      · have g1 : ((s[k].toNat : Int) == 92) = false := byte_ne hesc
        have hun2 := unq_one (s := s.data.toList) (i := k) (c := s[k]) (by rw [HSL.out]; omega) (by rw [hget]; exact fun h => hesc (Option.some.inj h.1)) hget
        rw [hun2] at hun
        have hx := hsx k
        have hex := extract_one s k (by omega)
        obtain ⟨t, ht⟩ : ∃ t, t = ofL l := ⟨_, rfl⟩
        have hlt2 : t.size ≤ k := by rw [ht, hls]; exact hlk
        rw [← ht]
        have HO := Lib.hid (And.intro hun (And.intro hlk (And.intro ht hex)))
        clear hun hun2 hget hesc hlk hsx ht hls hex
        go_wp2_with fail
        go_round
        case rel => exact ⟨k + 1, l ++ [s[k]], by omega, by omega, by go_num, by rw [HO.out.2.2.1, HO.out.2.2.2, app_ofL], by rw [List.append_assoc]; exact HO.out.1, by have := HO.out.2.1; simp; omega⟩
        case measure => simp [intOf]; omega
    · have hkk : ¬ (k : Int) + 1 < (s.size : Int) := by omega
      rw [unq_end (by rw [HSL.out]; exact hlt), List.append_nil] at hun
      have hm0 : ∃ m : Int, m = (if s.data.toList = [] then 0 else atoiV s.data.toList.tail) := ⟨_, rfl⟩
      obtain ⟨m, hm⟩ := hm0
      obtain ⟨n, hn⟩ : ∃ n : Int, n = atoiV s.data.toList := ⟨_, rfl⟩
      rw [← hn] at hat
      have hcs : candsV s = [⟨4, 0, ⟨#[]⟩⟩, ⟨2, 0, ⟨#[]⟩⟩, ⟨2, 1, ⟨#[]⟩⟩, ⟨1, n, ⟨#[]⟩⟩, ⟨5, m, ⟨#[]⟩⟩, ⟨3, 0, ofL l⟩] := by rw [hn, hm, hun]; rfl
      have HCS := Lib.hid hcs
      generalize ofL l = t at *
      clear hun hcs hn
      by_cases h0 : s.size = 0
      · have hnil : s.data.toList = [] := List.eq_nil_of_length_eq_zero (by rw [HSL.out]; exact h0)
        have hb0 : (s.toList == []) = true := by rw [toList_data, hnil]; rfl
        rw [if_pos hnil] at hm
        subst hm
        clear hnil h0
        go_wp2_with fail
        refine (hat _ (HG.out.keep bel)).mono ?_; clear hat; rintro e w1 ⟨er1, rfl, hb1⟩; obtain ⟨hc1, hf1⟩ := bcell hb1; (try simp only [World.heap_drewN, World.cell?_drewN, World.frozen?_drewN] at hc1 hf1); have hz1 := hb1.size; (try simp at hz1); (try (have hy1 := Nat.lt_of_succ_le hz1)); (try (have hx1 := Nat.lt_of_succ_lt hy1)); (try (have hl1_w_0 : w.heap.size < w1.heap.size := by omega)); (try (have hm1_w_0 : w.heap.size ≤ w1.heap.size := by omega)); (try (have hl1_w_1 : w.heap.size + 1 < w1.heap.size := by omega)); (try (have hm1_w_1 : w.heap.size + 1 ≤ w1.heap.size := by omega)); (try (have hl1_w_2 : w.heap.size + 2 < w1.heap.size := by omega)); (try (have hm1_w_2 : w.heap.size + 2 ≤ w1.heap.size := by omega)); (try (have hl1_w_3 : w.heap.size + 3 < w1.heap.size := by omega)); (try (have hm1_w_3 : w.heap.size + 3 ≤ w1.heap.size := by omega)); (try (have hl1_w_4 : w.heap.size + 4 < w1.heap.size := by omega)); (try (have hm1_w_4 : w.heap.size + 4 ≤ w1.heap.size := by omega)); (try (have hl1_w_5 : w.heap.size + 5 < w1.heap.size := by omega)); (try (have hm1_w_5 : w.heap.size + 5 ≤ w1.heap.size := by omega)); (try (have hl1_w_6 : w.heap.size + 6 < w1.heap.size := by omega)); (try (have hm1_w_6 : w.heap.size + 6 ≤ w1.heap.size := by omega))
        go_wp2_with fail
        obtain ⟨W, hW⟩ : ∃ W, W = w1.alloc (.cells #[.int .i64 4, .int .i64 0, .string ⟨#[]⟩, .int .i64 2, .int .i64 0, .string ⟨#[]⟩, .int .i64 2, .int .i64 1, .string ⟨#[]⟩, .int .i64 1, .int .i64 n, .string ⟨#[]⟩, .int .i64 5, .int .i64 0, .string ⟨#[]⟩, .int .i64 3, .int .i64 0, .string t] 23) := ⟨_, rfl⟩
        have hsW : Sl W (old W) 3 RVal (some ⟨w1.heap.size, 0, none⟩) 6 (candsV s) := slLit (e := 23) (fr := (0, 0)) (candsV s) (candsV_wf HS.out) (by rw [hW]; show w1.heap.size < _; simp) (by rw [hW, HCS.out]; exact heap_alloc_new w1 _)
        have qc0 : W.cell? ⟨w.heap.size, 0, none⟩ = some (.int .i64 0) := by rw [hW]; go_simp
        have qc1 : W.cell? ⟨w.heap.size, 1, none⟩ = some (.int .i64 0) := by rw [hW]; go_simp
        have qc2 : W.cell? ⟨w.heap.size, 2, none⟩ = some (.string ⟨#[]⟩) := by rw [hW]; go_simp
        have qf0 : W.frozen? ⟨w.heap.size, 0, none⟩ = false := by rw [hW]; go_simp
        have qf1 : W.frozen? ⟨w.heap.size, 1, none⟩ = false := by rw [hW]; go_simp
        have qf2 : W.frozen? ⟨w.heap.size, 2, none⟩ = false := by rw [hW]; go_simp
        have hszW : w1.heap.size < W.heap.size := by rw [hW]; simp
        have hbW : Below w.heap.size w W := by rw [hW]; exact bel
        have HW := Lib.hid hW
        rw [← hW]
        clear hW
        have HSl := Lib.hid hsW
        have hwW : w.heap.size < W.heap.size := by omega
        clear hsW hb1
        have HBW := Lib.hid hbW
        clear hbW
        go_loopw [64] (fun i wr => ∃ k : Nat, k ≤ 6 ∧ i = .int .i64 k ∧ noneV s k ∧ Below W.heap.size W wr) (fun i _ => 6 - (intOf i).toNat)
        case atStart => exact ⟨0, by omega, rfl, fun v hv => by simp at hv, Below.refl _ _⟩
        case round =>
          obtain ⟨k, hk, rfl, hno, hb9⟩ := hrel
          by_cases hlt : k < 6
          · obtain ⟨b, o, v, hA, hbl, hl, hvw, v0, v1, v2⟩ := Val_at HSl.out hlt
            cases hA
            have hcl := fun w h => hsh v w hvw h
            have hsv : shows s v = (decide (valCheck v = 0) && ((showV v).toList == s.toList)) := rfl
            obtain ⟨hc9, hf9⟩ := bcell hb9; (try simp only [World.heap_drewN, World.cell?_drewN, World.frozen?_drewN] at hc9 hf9); have hz9 := hb9.size; (try simp at hz9); (try (have hy9 := Nat.lt_of_succ_le hz9)); (try (have hx9 := Nat.lt_of_succ_lt hy9)); (try (have hl9_w_0 : w.heap.size < w9.heap.size := by omega)); (try (have hm9_w_0 : w.heap.size ≤ w9.heap.size := by omega)); (try (have hl9_w_1 : w.heap.size + 1 < w9.heap.size := by omega)); (try (have hm9_w_1 : w.heap.size + 1 ≤ w9.heap.size := by omega)); (try (have hl9_w_2 : w.heap.size + 2 < w9.heap.size := by omega)); (try (have hm9_w_2 : w.heap.size + 2 ≤ w9.heap.size := by omega)); (try (have hl9_w_3 : w.heap.size + 3 < w9.heap.size := by omega)); (try (have hm9_w_3 : w.heap.size + 3 ≤ w9.heap.size := by omega)); (try (have hl9_w_4 : w.heap.size + 4 < w9.heap.size := by omega)); (try (have hm9_w_4 : w.heap.size + 4 ≤ w9.heap.size := by omega)); (try (have hl9_w_5 : w.heap.size + 5 < w9.heap.size := by omega)); (try (have hm9_w_5 : w.heap.size + 5 ≤ w9.heap.size := by omega)); (try (have hl9_w_6 : w.heap.size + 6 < w9.heap.size := by omega)); (try (have hm9_w_6 : w.heap.size + 6 ≤ w9.heap.size := by omega)); (try (have hl9_W_0 : W.heap.size < w9.heap.size := by omega)); (try (have hm9_W_0 : W.heap.size ≤ w9.heap.size := by omega)); (try (have hl9_W_1 : W.heap.size + 1 < w9.heap.size := by omega)); (try (have hm9_W_1 : W.heap.size + 1 ≤ w9.heap.size := by omega)); (try (have hl9_W_2 : W.heap.size + 2 < w9.heap.size := by omega)); (try (have hm9_W_2 : W.heap.size + 2 ≤ w9.heap.size := by omega)); (try (have hl9_W_3 : W.heap.size + 3 < w9.heap.size := by omega)); (try (have hm9_W_3 : W.heap.size + 3 ≤ w9.heap.size := by omega)); (try (have hl9_W_4 : W.heap.size + 4 < w9.heap.size := by omega)); (try (have hm9_W_4 : W.heap.size + 4 ≤ w9.heap.size := by omega)); (try (have hl9_W_5 : W.heap.size + 5 < w9.heap.size := by omega)); (try (have hm9_W_5 : W.heap.size + 5 ≤ w9.heap.size := by omega)); (try (have hl9_W_6 : W.heap.size + 6 < w9.heap.size := by omega)); (try (have hm9_W_6 : W.heap.size + 6 ≤ w9.heap.size := by omega))
            have HL := Lib.hid (And.intro hno (And.intro hl (And.intro hb9 hvw)))
            have hy9 : w.heap.size < wr.heap.size := by omega
            have hyA : w.heap.size < wr.heap.size + 1 := by omega
            have hB0 : Below w.heap.size w wr := below_chain HBW.out hb9
            clear hno hl hvw hbl hsh
            obtain ⟨vk, vn, vs⟩ := v
            obtain ⟨er, her⟩ : ∃ er, er = valCheck ⟨vk, vn, vs⟩ := ⟨_, rfl⟩
            obtain ⟨tx, htx⟩ : ∃ tx, tx = showV ⟨vk, vn, vs⟩ := ⟨_, rfl⟩
            rw [← her, ← htx] at hsv
            simp only [← her, ← htx] at hcl
            clear her htx
            dsimp only at v0 v1 v2
            rw [Nat.zero_add] at v0 v1 v2
            by_cases he : er = 0
            · by_cases ht : tx.toList = s.toList
              · have hs1 : shows s ⟨vk, vn, vs⟩ = true := by rw [hsv, he, ht]; simp
                have hr2 : R = (⟨vk, vn, vs⟩, 0) := by rw [HR.out, refV_hit HL.out.1 HL.out.2.1 hs1]
                have g1 : (er == 0) = true := by rw [he]; rfl
                have g2 : (tx.toList == s.toList) = true := by rw [ht]; simp
                have HR2 := Lib.hid hr2
                clear hsv he ht hs1 hr2
                go_wp2_with (go_at_call 9; refine (hcl _ (HG.out.keep bel).1).mono ?_; clear hcl; rintro e w2 ⟨rfl, hb2⟩; obtain ⟨hc2, hf2⟩ := bcell hb2; (try simp only [World.heap_drewN, World.cell?_drewN, World.frozen?_drewN] at hc2 hf2); have hz2 := hb2.size; (try simp at hz2); (try (have hy2 := Nat.lt_of_succ_le hz2)); (try (have hx2 := Nat.lt_of_succ_lt hy2)); (try (have hl2_w_0 : w.heap.size < w2.heap.size := by omega)); (try (have hm2_w_0 : w.heap.size ≤ w2.heap.size := by omega)); (try (have hl2_w_1 : w.heap.size + 1 < w2.heap.size := by omega)); (try (have hm2_w_1 : w.heap.size + 1 ≤ w2.heap.size := by omega)); (try (have hl2_w_2 : w.heap.size + 2 < w2.heap.size := by omega)); (try (have hm2_w_2 : w.heap.size + 2 ≤ w2.heap.size := by omega)); (try (have hl2_w_3 : w.heap.size + 3 < w2.heap.size := by omega)); (try (have hm2_w_3 : w.heap.size + 3 ≤ w2.heap.size := by omega)); (try (have hl2_w_4 : w.heap.size + 4 < w2.heap.size := by omega)); (try (have hm2_w_4 : w.heap.size + 4 ≤ w2.heap.size := by omega)); (try (have hl2_w_5 : w.heap.size + 5 < w2.heap.size := by omega)); (try (have hm2_w_5 : w.heap.size + 5 ≤ w2.heap.size := by omega)); (try (have hl2_w_6 : w.heap.size + 6 < w2.heap.size := by omega)); (try (have hm2_w_6 : w.heap.size + 6 ≤ w2.heap.size := by omega)); (try (have hl2_wr_0 : wr.heap.size < w2.heap.size := by omega)); (try (have hm2_wr_0 : wr.heap.size ≤ w2.heap.size := by omega)); (try (have hl2_wr_1 : wr.heap.size + 1 < w2.heap.size := by omega)); (try (have hm2_wr_1 : wr.heap.size + 1 ≤ w2.heap.size := by omega)); (try (have hl2_wr_2 : wr.heap.size + 2 < w2.heap.size := by omega)); (try (have hm2_wr_2 : wr.heap.size + 2 ≤ w2.heap.size := by omega)); (try (have hl2_wr_3 : wr.heap.size + 3 < w2.heap.size := by omega)); (try (have hm2_wr_3 : wr.heap.size + 3 ≤ w2.heap.size := by omega)); (try (have hl2_wr_4 : wr.heap.size + 4 < w2.heap.size := by omega)); (try (have hm2_wr_4 : wr.heap.size + 4 ≤ w2.heap.size := by omega)); (try (have hl2_wr_5 : wr.heap.size + 5 < w2.heap.size := by omega)); (try (have hm2_wr_5 : wr.heap.size + 5 ≤ w2.heap.size := by omega)); (try (have hl2_wr_6 : wr.heap.size + 6 < w2.heap.size := by omega)); (try (have hm2_wr_6 : wr.heap.size + 6 ≤ w2.heap.size := by omega)); (try (have hl2_W_0 : W.heap.size < w2.heap.size := by omega)); (try (have hm2_W_0 : W.heap.size ≤ w2.heap.size := by omega)); (try (have hl2_W_1 : W.heap.size + 1 < w2.heap.size := by omega)); (try (have hm2_W_1 : W.heap.size + 1 ≤ w2.heap.size := by omega)); (try (have hl2_W_2 : W.heap.size + 2 < w2.heap.size := by omega)); (try (have hm2_W_2 : W.heap.size + 2 ≤ w2.heap.size := by omega)); (try (have hl2_W_3 : W.heap.size + 3 < w2.heap.size := by omega)); (try (have hm2_W_3 : W.heap.size + 3 ≤ w2.heap.size := by omega)); (try (have hl2_W_4 : W.heap.size + 4 < w2.heap.size := by omega)); (try (have hm2_W_4 : W.heap.size + 4 ≤ w2.heap.size := by omega)); (try (have hl2_W_5 : W.heap.size + 5 < w2.heap.size := by omega)); (try (have hm2_W_5 : W.heap.size + 5 ≤ w2.heap.size := by omega)); (try (have hl2_W_6 : W.heap.size + 6 < w2.heap.size := by omega)); (try (have hm2_W_6 : W.heap.size + 6 ≤ w2.heap.size := by omega)))
                exact bodyPost_ret (v := .tuple #[.agg #[.int .i64 vk, .int .i64 vn, .string vs], .int .i64 0]) (by first | (simp [results, Tryd.results19, go_sem]; done) | (simp [results, Tryd.results19, go_sem, *]; done)) rfl ⟨by rw [HR2.out], bel⟩
              · have hs1 : shows s ⟨vk, vn, vs⟩ = false := by rw [hsv]; simp [ht]
                have g1 : (er == 0) = true := by rw [he]; rfl
                have g2 : (tx.toList == s.toList) = false := by simpa using ht
                have HN := Lib.hid (noneV_next HL.out.1 HL.out.2.1 hs1)
                clear hsv he ht hs1
                go_wp2_with (go_at_call 9; refine (hcl _ (HG.out.keep bel).1).mono ?_; clear hcl; rintro e w2 ⟨rfl, hb2⟩; obtain ⟨hc2, hf2⟩ := bcell hb2; (try simp only [World.heap_drewN, World.cell?_drewN, World.frozen?_drewN] at hc2 hf2); have hz2 := hb2.size; (try simp at hz2); (try (have hy2 := Nat.lt_of_succ_le hz2)); (try (have hx2 := Nat.lt_of_succ_lt hy2)); (try (have hl2_w_0 : w.heap.size < w2.heap.size := by omega)); (try (have hm2_w_0 : w.heap.size ≤ w2.heap.size := by omega)); (try (have hl2_w_1 : w.heap.size + 1 < w2.heap.size := by omega)); (try (have hm2_w_1 : w.heap.size + 1 ≤ w2.heap.size := by omega)); (try (have hl2_w_2 : w.heap.size + 2 < w2.heap.size := by omega)); (try (have hm2_w_2 : w.heap.size + 2 ≤ w2.heap.size := by omega)); (try (have hl2_w_3 : w.heap.size + 3 < w2.heap.size := by omega)); (try (have hm2_w_3 : w.heap.size + 3 ≤ w2.heap.size := by omega)); (try (have hl2_w_4 : w.heap.size + 4 < w2.heap.size := by omega)); (try (have hm2_w_4 : w.heap.size + 4 ≤ w2.heap.size := by omega)); (try (have hl2_w_5 : w.heap.size + 5 < w2.heap.size := by omega)); (try (have hm2_w_5 : w.heap.size + 5 ≤ w2.heap.size := by omega)); (try (have hl2_w_6 : w.heap.size + 6 < w2.heap.size := by omega)); (try (have hm2_w_6 : w.heap.size + 6 ≤ w2.heap.size := by omega)); (try (have hl2_wr_0 : wr.heap.size < w2.heap.size := by omega)); (try (have hm2_wr_0 : wr.heap.size ≤ w2.heap.size := by omega)); (try (have hl2_wr_1 : wr.heap.size + 1 < w2.heap.size := by omega)); (try (have hm2_wr_1 : wr.heap.size + 1 ≤ w2.heap.size := by omega)); (try (have hl2_wr_2 : wr.heap.size + 2 < w2.heap.size := by omega)); (try (have hm2_wr_2 : wr.heap.size + 2 ≤ w2.heap.size := by omega)); (try (have hl2_wr_3 : wr.heap.size + 3 < w2.heap.size := by omega)); (try (have hm2_wr_3 : wr.heap.size + 3 ≤ w2.heap.size := by omega)); (try (have hl2_wr_4 : wr.heap.size + 4 < w2.heap.size := by omega)); (try (have hm2_wr_4 : wr.heap.size + 4 ≤ w2.heap.size := by omega)); (try (have hl2_wr_5 : wr.heap.size + 5 < w2.heap.size := by omega)); (try (have hm2_wr_5 : wr.heap.size + 5 ≤ w2.heap.size := by omega)); (try (have hl2_wr_6 : wr.heap.size + 6 < w2.heap.size := by omega)); (try (have hm2_wr_6 : wr.heap.size + 6 ≤ w2.heap.size := by omega)); (try (have hl2_W_0 : W.heap.size < w2.heap.size := by omega)); (try (have hm2_W_0 : W.heap.size ≤ w2.heap.size := by omega)); (try (have hl2_W_1 : W.heap.size + 1 < w2.heap.size := by omega)); (try (have hm2_W_1 : W.heap.size + 1 ≤ w2.heap.size := by omega)); (try (have hl2_W_2 : W.heap.size + 2 < w2.heap.size := by omega)); (try (have hm2_W_2 : W.heap.size + 2 ≤ w2.heap.size := by omega)); (try (have hl2_W_3 : W.heap.size + 3 < w2.heap.size := by omega)); (try (have hm2_W_3 : W.heap.size + 3 ≤ w2.heap.size := by omega)); (try (have hl2_W_4 : W.heap.size + 4 < w2.heap.size := by omega)); (try (have hm2_W_4 : W.heap.size + 4 ≤ w2.heap.size := by omega)); (try (have hl2_W_5 : W.heap.size + 5 < w2.heap.size := by omega)); (try (have hm2_W_5 : W.heap.size + 5 ≤ w2.heap.size := by omega)); (try (have hl2_W_6 : W.heap.size + 6 < w2.heap.size := by omega)); (try (have hm2_W_6 : W.heap.size + 6 ≤ w2.heap.size := by omega)))
                go_roundw
                case rel => exact ⟨k + 1, by omega, by go_num, HN.out, bel⟩
                case measure => simp [intOf]; omega
            · have hs1 : shows s ⟨vk, vn, vs⟩ = false := by rw [hsv]; simp [he]
              have g1 : (er == 0) = false := by simpa using he
              have HN := Lib.hid (noneV_next HL.out.1 HL.out.2.1 hs1)
              clear hsv he hs1
              go_wp2_with (go_at_call 9; refine (hcl _ (HG.out.keep bel).1).mono ?_; clear hcl; rintro e w2 ⟨rfl, hb2⟩; obtain ⟨hc2, hf2⟩ := bcell hb2; (try simp only [World.heap_drewN, World.cell?_drewN, World.frozen?_drewN] at hc2 hf2); have hz2 := hb2.size; (try simp at hz2); (try (have hy2 := Nat.lt_of_succ_le hz2)); (try (have hx2 := Nat.lt_of_succ_lt hy2)); (try (have hl2_w_0 : w.heap.size < w2.heap.size := by omega)); (try (have hm2_w_0 : w.heap.size ≤ w2.heap.size := by omega)); (try (have hl2_w_1 : w.heap.size + 1 < w2.heap.size := by omega)); (try (have hm2_w_1 : w.heap.size + 1 ≤ w2.heap.size := by omega)); (try (have hl2_w_2 : w.heap.size + 2 < w2.heap.size := by omega)); (try (have hm2_w_2 : w.heap.size + 2 ≤ w2.heap.size := by omega)); (try (have hl2_w_3 : w.heap.size + 3 < w2.heap.size := by omega)); (try (have hm2_w_3 : w.heap.size + 3 ≤ w2.heap.size := by omega)); (try (have hl2_w_4 : w.heap.size + 4 < w2.heap.size := by omega)); (try (have hm2_w_4 : w.heap.size + 4 ≤ w2.heap.size := by omega)); (try (have hl2_w_5 : w.heap.size + 5 < w2.heap.size := by omega)); (try (have hm2_w_5 : w.heap.size + 5 ≤ w2.heap.size := by omega)); (try (have hl2_w_6 : w.heap.size + 6 < w2.heap.size := by omega)); (try (have hm2_w_6 : w.heap.size + 6 ≤ w2.heap.size := by omega)); (try (have hl2_wr_0 : wr.heap.size < w2.heap.size := by omega)); (try (have hm2_wr_0 : wr.heap.size ≤ w2.heap.size := by omega)); (try (have hl2_wr_1 : wr.heap.size + 1 < w2.heap.size := by omega)); (try (have hm2_wr_1 : wr.heap.size + 1 ≤ w2.heap.size := by omega)); (try (have hl2_wr_2 : wr.heap.size + 2 < w2.heap.size := by omega)); (try (have hm2_wr_2 : wr.heap.size + 2 ≤ w2.heap.size := by omega)); (try (have hl2_wr_3 : wr.heap.size + 3 < w2.heap.size := by omega)); (try (have hm2_wr_3 : wr.heap.size + 3 ≤ w2.heap.size := by omega)); (try (have hl2_wr_4 : wr.heap.size + 4 < w2.heap.size := by omega)); (try (have hm2_wr_4 : wr.heap.size + 4 ≤ w2.heap.size := by omega)); (try (have hl2_wr_5 : wr.heap.size + 5 < w2.heap.size := by omega)); (try (have hm2_wr_5 : wr.heap.size + 5 ≤ w2.heap.size := by omega)); (try (have hl2_wr_6 : wr.heap.size + 6 < w2.heap.size := by omega)); (try (have hm2_wr_6 : wr.heap.size + 6 ≤ w2.heap.size := by omega)); (try (have hl2_W_0 : W.heap.size < w2.heap.size := by omega)); (try (have hm2_W_0 : W.heap.size ≤ w2.heap.size := by omega)); (try (have hl2_W_1 : W.heap.size + 1 < w2.heap.size := by omega)); (try (have hm2_W_1 : W.heap.size + 1 ≤ w2.heap.size := by omega)); (try (have hl2_W_2 : W.heap.size + 2 < w2.heap.size := by omega)); (try (have hm2_W_2 : W.heap.size + 2 ≤ w2.heap.size := by omega)); (try (have hl2_W_3 : W.heap.size + 3 < w2.heap.size := by omega)); (try (have hm2_W_3 : W.heap.size + 3 ≤ w2.heap.size := by omega)); (try (have hl2_W_4 : W.heap.size + 4 < w2.heap.size := by omega)); (try (have hm2_W_4 : W.heap.size + 4 ≤ w2.heap.size := by omega)); (try (have hl2_W_5 : W.heap.size + 5 < w2.heap.size := by omega)); (try (have hm2_W_5 : W.heap.size + 5 ≤ w2.heap.size := by omega)); (try (have hl2_W_6 : W.heap.size + 6 < w2.heap.size := by omega)); (try (have hm2_W_6 : W.heap.size + 6 ≤ w2.heap.size := by omega)))
              go_roundw
              case rel => exact ⟨k + 1, by omega, by go_num, HN.out, bel⟩
              case measure => simp [intOf]; omega
          · have hk6 : k = 6 := by omega
            subst hk6
            have hr2 : R = (noVal, 3) := by rw [HR.out, refV_none hno]
            obtain ⟨hc9, hf9⟩ := bcell hb9; (try simp only [World.heap_drewN, World.cell?_drewN, World.frozen?_drewN] at hc9 hf9); have hz9 := hb9.size; (try simp at hz9); (try (have hy9 := Nat.lt_of_succ_le hz9)); (try (have hx9 := Nat.lt_of_succ_lt hy9)); (try (have hl9_w_0 : w.heap.size < w9.heap.size := by omega)); (try (have hm9_w_0 : w.heap.size ≤ w9.heap.size := by omega)); (try (have hl9_w_1 : w.heap.size + 1 < w9.heap.size := by omega)); (try (have hm9_w_1 : w.heap.size + 1 ≤ w9.heap.size := by omega)); (try (have hl9_w_2 : w.heap.size + 2 < w9.heap.size := by omega)); (try (have hm9_w_2 : w.heap.size + 2 ≤ w9.heap.size := by omega)); (try (have hl9_w_3 : w.heap.size + 3 < w9.heap.size := by omega)); (try (have hm9_w_3 : w.heap.size + 3 ≤ w9.heap.size := by omega)); (try (have hl9_w_4 : w.heap.size + 4 < w9.heap.size := by omega)); (try (have hm9_w_4 : w.heap.size + 4 ≤ w9.heap.size := by omega)); (try (have hl9_w_5 : w.heap.size + 5 < w9.heap.size := by omega)); (try (have hm9_w_5 : w.heap.size + 5 ≤ w9.heap.size := by omega)); (try (have hl9_w_6 : w.heap.size + 6 < w9.heap.size := by omega)); (try (have hm9_w_6 : w.heap.size + 6 ≤ w9.heap.size := by omega)); (try (have hl9_W_0 : W.heap.size < w9.heap.size := by omega)); (try (have hm9_W_0 : W.heap.size ≤ w9.heap.size := by omega)); (try (have hl9_W_1 : W.heap.size + 1 < w9.heap.size := by omega)); (try (have hm9_W_1 : W.heap.size + 1 ≤ w9.heap.size := by omega)); (try (have hl9_W_2 : W.heap.size + 2 < w9.heap.size := by omega)); (try (have hm9_W_2 : W.heap.size + 2 ≤ w9.heap.size := by omega)); (try (have hl9_W_3 : W.heap.size + 3 < w9.heap.size := by omega)); (try (have hm9_W_3 : W.heap.size + 3 ≤ w9.heap.size := by omega)); (try (have hl9_W_4 : W.heap.size + 4 < w9.heap.size := by omega)); (try (have hm9_W_4 : W.heap.size + 4 ≤ w9.heap.size := by omega)); (try (have hl9_W_5 : W.heap.size + 5 < w9.heap.size := by omega)); (try (have hm9_W_5 : W.heap.size + 5 ≤ w9.heap.size := by omega)); (try (have hl9_W_6 : W.heap.size + 6 < w9.heap.size := by omega)); (try (have hm9_W_6 : W.heap.size + 6 ≤ w9.heap.size := by omega))
            have hy9 : w.heap.size < wr.heap.size := by omega
            have hyA : w.heap.size < wr.heap.size + 1 := by omega
            have hB0 : Below w.heap.size w wr := below_chain HBW.out hb9
            have HR2 := Lib.hid hr2
            clear hno hr2
            go_wp2_with fail
            exact bodyPost_ret (v := .tuple #[.agg #[.int .i64 0, .int .i64 0, .string ⟨#[]⟩], .int .i64 3]) (by first | (simp [results, Tryd.results19, go_sem]; done) | (simp [results, Tryd.results19, go_sem, *]; done)) rfl ⟨by rw [HR2.out]; rfl, bel⟩
      · have hne : s.data.toList ≠ [] := by
          intro e
          exact h0 (by rw [← HSL.out, e]; rfl)
        have hb0 : (s.toList == []) = false := by rw [toList_data]; simpa using hne
        rw [if_neg hne] at hm
        have htl : (s.extract 1 s.size).data.toList = s.data.toList.tail := by
          rw [Lib.extract_data, List.take_of_length_le (by rw [List.length_drop, HSL.out]; exact Nat.le_refl _), List.drop_one]
        have hat2 : ∀ w, GdA w → Calls Tryd.prog 28 #[.string (s.extract 1 s.size)] w (RetNE w m) := fun w h => by
          rw [hm, ← htl]
          exact atoi_at _ w (by show (s.extract 1 s.size).size ≤ 140737488351232; rw [ByteArray.size_extract]; omega) h
        have hz1 : 1 ≤ s.size := by omega
        clear htl hne h0 hm
        go_wp2_with fail
        refine (hat _ (HG.out.keep bel)).mono ?_; clear hat; rintro e w1 ⟨er1, rfl, hb1⟩; obtain ⟨hc1, hf1⟩ := bcell hb1; (try simp only [World.heap_drewN, World.cell?_drewN, World.frozen?_drewN] at hc1 hf1); have hz1 := hb1.size; (try simp at hz1); (try (have hy1 := Nat.lt_of_succ_le hz1)); (try (have hx1 := Nat.lt_of_succ_lt hy1)); (try (have hl1_w_0 : w.heap.size < w1.heap.size := by omega)); (try (have hm1_w_0 : w.heap.size ≤ w1.heap.size := by omega)); (try (have hl1_w_1 : w.heap.size + 1 < w1.heap.size := by omega)); (try (have hm1_w_1 : w.heap.size + 1 ≤ w1.heap.size := by omega)); (try (have hl1_w_2 : w.heap.size + 2 < w1.heap.size := by omega)); (try (have hm1_w_2 : w.heap.size + 2 ≤ w1.heap.size := by omega)); (try (have hl1_w_3 : w.heap.size + 3 < w1.heap.size := by omega)); (try (have hm1_w_3 : w.heap.size + 3 ≤ w1.heap.size := by omega)); (try (have hl1_w_4 : w.heap.size + 4 < w1.heap.size := by omega)); (try (have hm1_w_4 : w.heap.size + 4 ≤ w1.heap.size := by omega)); (try (have hl1_w_5 : w.heap.size + 5 < w1.heap.size := by omega)); (try (have hm1_w_5 : w.heap.size + 5 ≤ w1.heap.size := by omega)); (try (have hl1_w_6 : w.heap.size + 6 < w1.heap.size := by omega)); (try (have hm1_w_6 : w.heap.size + 6 ≤ w1.heap.size := by omega))
        go_wp2_with fail
        refine (hat2 _ (HG.out.keep bel)).mono ?_; clear hat2; rintro e w3 ⟨er3, rfl, hb3⟩; obtain ⟨hc3, hf3⟩ := bcell hb3; (try simp only [World.heap_drewN, World.cell?_drewN, World.frozen?_drewN] at hc3 hf3); have hz3 := hb3.size; (try simp at hz3); (try (have hy3 := Nat.lt_of_succ_le hz3)); (try (have hx3 := Nat.lt_of_succ_lt hy3)); (try (have hl3_w_0 : w.heap.size < w3.heap.size := by omega)); (try (have hm3_w_0 : w.heap.size ≤ w3.heap.size := by omega)); (try (have hl3_w_1 : w.heap.size + 1 < w3.heap.size := by omega)); (try (have hm3_w_1 : w.heap.size + 1 ≤ w3.heap.size := by omega)); (try (have hl3_w_2 : w.heap.size + 2 < w3.heap.size := by omega)); (try (have hm3_w_2 : w.heap.size + 2 ≤ w3.heap.size := by omega)); (try (have hl3_w_3 : w.heap.size + 3 < w3.heap.size := by omega)); (try (have hm3_w_3 : w.heap.size + 3 ≤ w3.heap.size := by omega)); (try (have hl3_w_4 : w.heap.size + 4 < w3.heap.size := by omega)); (try (have hm3_w_4 : w.heap.size + 4 ≤ w3.heap.size := by omega)); (try (have hl3_w_5 : w.heap.size + 5 < w3.heap.size := by omega)); (try (have hm3_w_5 : w.heap.size + 5 ≤ w3.heap.size := by omega)); (try (have hl3_w_6 : w.heap.size + 6 < w3.heap.size := by omega)); (try (have hm3_w_6 : w.heap.size + 6 ≤ w3.heap.size := by omega)); (try (have hl3_w1_0 : w1.heap.size < w3.heap.size := by omega)); (try (have hm3_w1_0 : w1.heap.size ≤ w3.heap.size := by omega)); (try (have hl3_w1_1 : w1.heap.size + 1 < w3.heap.size := by omega)); (try (have hm3_w1_1 : w1.heap.size + 1 ≤ w3.heap.size := by omega)); (try (have hl3_w1_2 : w1.heap.size + 2 < w3.heap.size := by omega)); (try (have hm3_w1_2 : w1.heap.size + 2 ≤ w3.heap.size := by omega)); (try (have hl3_w1_3 : w1.heap.size + 3 < w3.heap.size := by omega)); (try (have hm3_w1_3 : w1.heap.size + 3 ≤ w3.heap.size := by omega)); (try (have hl3_w1_4 : w1.heap.size + 4 < w3.heap.size := by omega)); (try (have hm3_w1_4 : w1.heap.size + 4 ≤ w3.heap.size := by omega)); (try (have hl3_w1_5 : w1.heap.size + 5 < w3.heap.size := by omega)); (try (have hm3_w1_5 : w1.heap.size + 5 ≤ w3.heap.size := by omega)); (try (have hl3_w1_6 : w1.heap.size + 6 < w3.heap.size := by omega)); (try (have hm3_w1_6 : w1.heap.size + 6 ≤ w3.heap.size := by omega))
        go_wp2_with fail
        obtain ⟨W, hW⟩ : ∃ W, W = w3.alloc (.cells #[.int .i64 4, .int .i64 0, .string ⟨#[]⟩, .int .i64 2, .int .i64 0, .string ⟨#[]⟩, .int .i64 2, .int .i64 1, .string ⟨#[]⟩, .int .i64 1, .int .i64 n, .string ⟨#[]⟩, .int .i64 5, .int .i64 m, .string ⟨#[]⟩, .int .i64 3, .int .i64 0, .string t] 23) := ⟨_, rfl⟩
        have hsW : Sl W (old W) 3 RVal (some ⟨w3.heap.size, 0, none⟩) 6 (candsV s) := slLit (e := 23) (fr := (0, 0)) (candsV s) (candsV_wf HS.out) (by rw [hW]; show w3.heap.size < _; simp) (by rw [hW, HCS.out]; exact heap_alloc_new w3 _)
        have qc0 : W.cell? ⟨w.heap.size, 0, none⟩ = some (.int .i64 0) := by rw [hW]; go_simp
        have qc1 : W.cell? ⟨w.heap.size, 1, none⟩ = some (.int .i64 0) := by rw [hW]; go_simp
        have qc2 : W.cell? ⟨w.heap.size, 2, none⟩ = some (.string ⟨#[]⟩) := by rw [hW]; go_simp
        have qf0 : W.frozen? ⟨w.heap.size, 0, none⟩ = false := by rw [hW]; go_simp
        have qf1 : W.frozen? ⟨w.heap.size, 1, none⟩ = false := by rw [hW]; go_simp
        have qf2 : W.frozen? ⟨w.heap.size, 2, none⟩ = false := by rw [hW]; go_simp
        have hszW : w3.heap.size < W.heap.size := by rw [hW]; simp
        have hbW : Below w.heap.size w W := by rw [hW]; exact bel
        have HW := Lib.hid hW
        rw [← hW]
        clear hW
        have HSl := Lib.hid hsW
        have hwW : w.heap.size < W.heap.size := by omega
        clear hsW hb1 hb3
        have HBW := Lib.hid hbW
        clear hbW
        go_loopw [64] (fun i wr => ∃ k : Nat, k ≤ 6 ∧ i = .int .i64 k ∧ noneV s k ∧ Below W.heap.size W wr) (fun i _ => 6 - (intOf i).toNat)
        case atStart => exact ⟨0, by omega, rfl, fun v hv => by simp at hv, Below.refl _ _⟩
        case round =>
          obtain ⟨k, hk, rfl, hno, hb9⟩ := hrel
          by_cases hlt : k < 6
          · obtain ⟨b, o, v, hA, hbl, hl, hvw, v0, v1, v2⟩ := Val_at HSl.out hlt
            cases hA
            have hcl := fun w h => hsh v w hvw h
            have hsv : shows s v = (decide (valCheck v = 0) && ((showV v).toList == s.toList)) := rfl
            obtain ⟨hc9, hf9⟩ := bcell hb9; (try simp only [World.heap_drewN, World.cell?_drewN, World.frozen?_drewN] at hc9 hf9); have hz9 := hb9.size; (try simp at hz9); (try (have hy9 := Nat.lt_of_succ_le hz9)); (try (have hx9 := Nat.lt_of_succ_lt hy9)); (try (have hl9_w_0 : w.heap.size < w9.heap.size := by omega)); (try (have hm9_w_0 : w.heap.size ≤ w9.heap.size := by omega)); (try (have hl9_w_1 : w.heap.size + 1 < w9.heap.size := by omega)); (try (have hm9_w_1 : w.heap.size + 1 ≤ w9.heap.size := by omega)); (try (have hl9_w_2 : w.heap.size + 2 < w9.heap.size := by omega)); (try (have hm9_w_2 : w.heap.size + 2 ≤ w9.heap.size := by omega)); (try (have hl9_w_3 : w.heap.size + 3 < w9.heap.size := by omega)); (try (have hm9_w_3 : w.heap.size + 3 ≤ w9.heap.size := by omega)); (try (have hl9_w_4 : w.heap.size + 4 < w9.heap.size := by omega)); (try (have hm9_w_4 : w.heap.size + 4 ≤ w9.heap.size := by omega)); (try (have hl9_w_5 : w.heap.size + 5 < w9.heap.size := by omega)); (try (have hm9_w_5 : w.heap.size + 5 ≤ w9.heap.size := by omega)); (try (have hl9_w_6 : w.heap.size + 6 < w9.heap.size := by omega)); (try (have hm9_w_6 : w.heap.size + 6 ≤ w9.heap.size := by omega)); (try (have hl9_W_0 : W.heap.size < w9.heap.size := by omega)); (try (have hm9_W_0 : W.heap.size ≤ w9.heap.size := by omega)); (try (have hl9_W_1 : W.heap.size + 1 < w9.heap.size := by omega)); (try (have hm9_W_1 : W.heap.size + 1 ≤ w9.heap.size := by omega)); (try (have hl9_W_2 : W.heap.size + 2 < w9.heap.size := by omega)); (try (have hm9_W_2 : W.heap.size + 2 ≤ w9.heap.size := by omega)); (try (have hl9_W_3 : W.heap.size + 3 < w9.heap.size := by omega)); (try (have hm9_W_3 : W.heap.size + 3 ≤ w9.heap.size := by omega)); (try (have hl9_W_4 : W.heap.size + 4 < w9.heap.size := by omega)); (try (have hm9_W_4 : W.heap.size + 4 ≤ w9.heap.size := by omega)); (try (have hl9_W_5 : W.heap.size + 5 < w9.heap.size := by omega)); (try (have hm9_W_5 : W.heap.size + 5 ≤ w9.heap.size := by omega)); (try (have hl9_W_6 : W.heap.size + 6 < w9.heap.size := by omega)); (try (have hm9_W_6 : W.heap.size + 6 ≤ w9.heap.size := by omega))
            have HL := Lib.hid (And.intro hno (And.intro hl (And.intro hb9 hvw)))
            have hy9 : w.heap.size < wr.heap.size := by omega
            have hyA : w.heap.size < wr.heap.size + 1 := by omega
            have hB0 : Below w.heap.size w wr := below_chain HBW.out hb9
            clear hno hl hvw hbl hsh
            obtain ⟨vk, vn, vs⟩ := v
            obtain ⟨er, her⟩ : ∃ er, er = valCheck ⟨vk, vn, vs⟩ := ⟨_, rfl⟩
            obtain ⟨tx, htx⟩ : ∃ tx, tx = showV ⟨vk, vn, vs⟩ := ⟨_, rfl⟩
            rw [← her, ← htx] at hsv
            simp only [← her, ← htx] at hcl
            clear her htx
            dsimp only at v0 v1 v2
            rw [Nat.zero_add] at v0 v1 v2
            by_cases he : er = 0
            · by_cases ht : tx.toList = s.toList
              · have hs1 : shows s ⟨vk, vn, vs⟩ = true := by rw [hsv, he, ht]; simp
                have hr2 : R = (⟨vk, vn, vs⟩, 0) := by rw [HR.out, refV_hit HL.out.1 HL.out.2.1 hs1]
                have g1 : (er == 0) = true := by rw [he]; rfl
                have g2 : (tx.toList == s.toList) = true := by rw [ht]; simp
                have HR2 := Lib.hid hr2
                clear hsv he ht hs1 hr2
                go_wp2_with (go_at_call 9; refine (hcl _ (HG.out.keep bel).1).mono ?_; clear hcl; rintro e w2 ⟨rfl, hb2⟩; obtain ⟨hc2, hf2⟩ := bcell hb2; (try simp only [World.heap_drewN, World.cell?_drewN, World.frozen?_drewN] at hc2 hf2); have hz2 := hb2.size; (try simp at hz2); (try (have hy2 := Nat.lt_of_succ_le hz2)); (try (have hx2 := Nat.lt_of_succ_lt hy2)); (try (have hl2_w_0 : w.heap.size < w2.heap.size := by omega)); (try (have hm2_w_0 : w.heap.size ≤ w2.heap.size := by omega)); (try (have hl2_w_1 : w.heap.size + 1 < w2.heap.size := by omega)); (try (have hm2_w_1 : w.heap.size + 1 ≤ w2.heap.size := by omega)); (try (have hl2_w_2 : w.heap.size + 2 < w2.heap.size := by omega)); (try (have hm2_w_2 : w.heap.size + 2 ≤ w2.heap.size := by omega)); (try (have hl2_w_3 : w.heap.size + 3 < w2.heap.size := by omega)); (try (have hm2_w_3 : w.heap.size + 3 ≤ w2.heap.size := by omega)); (try (have hl2_w_4 : w.heap.size + 4 < w2.heap.size := by omega)); (try (have hm2_w_4 : w.heap.size + 4 ≤ w2.heap.size := by omega)); (try (have hl2_w_5 : w.heap.size + 5 < w2.heap.size := by omega)); (try (have hm2_w_5 : w.heap.size + 5 ≤ w2.heap.size := by omega)); (try (have hl2_w_6 : w.heap.size + 6 < w2.heap.size := by omega)); (try (have hm2_w_6 : w.heap.size + 6 ≤ w2.heap.size := by omega)); (try (have hl2_wr_0 : wr.heap.size < w2.heap.size := by omega)); (try (have hm2_wr_0 : wr.heap.size ≤ w2.heap.size := by omega)); (try (have hl2_wr_1 : wr.heap.size + 1 < w2.heap.size := by omega)); (try (have hm2_wr_1 : wr.heap.size + 1 ≤ w2.heap.size := by omega)); (try (have hl2_wr_2 : wr.heap.size + 2 < w2.heap.size := by omega)); (try (have hm2_wr_2 : wr.heap.size + 2 ≤ w2.heap.size := by omega)); (try (have hl2_wr_3 : wr.heap.size + 3 < w2.heap.size := by omega)); (try (have hm2_wr_3 : wr.heap.size + 3 ≤ w2.heap.size := by omega)); (try (have hl2_wr_4 : wr.heap.size + 4 < w2.heap.size := by omega)); (try (have hm2_wr_4 : wr.heap.size + 4 ≤ w2.heap.size := by omega)); (try (have hl2_wr_5 : wr.heap.size + 5 < w2.heap.size := by omega)); (try (have hm2_wr_5 : wr.heap.size + 5 ≤ w2.heap.size := by omega)); (try (have hl2_wr_6 : wr.heap.size + 6 < w2.heap.size := by omega)); (try (have hm2_wr_6 : wr.heap.size + 6 ≤ w2.heap.size := by omega)); (try (have hl2_W_0 : W.heap.size < w2.heap.size := by omega)); (try (have hm2_W_0 : W.heap.size ≤ w2.heap.size := by omega)); (try (have hl2_W_1 : W.heap.size + 1 < w2.heap.size := by omega)); (try (have hm2_W_1 : W.heap.size + 1 ≤ w2.heap.size := by omega)); (try (have hl2_W_2 : W.heap.size + 2 < w2.heap.size := by omega)); (try (have hm2_W_2 : W.heap.size + 2 ≤ w2.heap.size := by omega)); (try (have hl2_W_3 : W.heap.size + 3 < w2.heap.size := by omega)); (try (have hm2_W_3 : W.heap.size + 3 ≤ w2.heap.size := by omega)); (try (have hl2_W_4 : W.heap.size + 4 < w2.heap.size := by omega)); (try (have hm2_W_4 : W.heap.size + 4 ≤ w2.heap.size := by omega)); (try (have hl2_W_5 : W.heap.size + 5 < w2.heap.size := by omega)); (try (have hm2_W_5 : W.heap.size + 5 ≤ w2.heap.size := by omega)); (try (have hl2_W_6 : W.heap.size + 6 < w2.heap.size := by omega)); (try (have hm2_W_6 : W.heap.size + 6 ≤ w2.heap.size := by omega)))
                exact bodyPost_ret (v := .tuple #[.agg #[.int .i64 vk, .int .i64 vn, .string vs], .int .i64 0]) (by first | (simp [results, Tryd.results19, go_sem]; done) | (simp [results, Tryd.results19, go_sem, *]; done)) rfl ⟨by rw [HR2.out], bel⟩
              · have hs1 : shows s ⟨vk, vn, vs⟩ = false := by rw [hsv]; simp [ht]
                have g1 : (er == 0) = true := by rw [he]; rfl
                have g2 : (tx.toList == s.toList) = false := by simpa using ht
                have HN := Lib.hid (noneV_next HL.out.1 HL.out.2.1 hs1)
                clear hsv he ht hs1
                go_wp2_with (go_at_call 9; refine (hcl _ (HG.out.keep bel).1).mono ?_; clear hcl; rintro e w2 ⟨rfl, hb2⟩; obtain ⟨hc2, hf2⟩ := bcell hb2; (try simp only [World.heap_drewN, World.cell?_drewN, World.frozen?_drewN] at hc2 hf2); have hz2 := hb2.size; (try simp at hz2); (try (have hy2 := Nat.lt_of_succ_le hz2)); (try (have hx2 := Nat.lt_of_succ_lt hy2)); (try (have hl2_w_0 : w.heap.size < w2.heap.size := by omega)); (try (have hm2_w_0 : w.heap.size ≤ w2.heap.size := by omega)); (try (have hl2_w_1 : w.heap.size + 1 < w2.heap.size := by omega)); (try (have hm2_w_1 : w.heap.size + 1 ≤ w2.heap.size := by omega)); (try (have hl2_w_2 : w.heap.size + 2 < w2.heap.size := by omega)); (try (have hm2_w_2 : w.heap.size + 2 ≤ w2.heap.size := by omega)); (try (have hl2_w_3 : w.heap.size + 3 < w2.heap.size := by omega)); (try (have hm2_w_3 : w.heap.size + 3 ≤ w2.heap.size := by omega)); (try (have hl2_w_4 : w.heap.size + 4 < w2.heap.size := by omega)); (try (have hm2_w_4 : w.heap.size + 4 ≤ w2.heap.size := by omega)); (try (have hl2_w_5 : w.heap.size + 5 < w2.heap.size := by omega)); (try (have hm2_w_5 : w.heap.size + 5 ≤ w2.heap.size := by omega)); (try (have hl2_w_6 : w.heap.size + 6 < w2.heap.size := by omega)); (try (have hm2_w_6 : w.heap.size + 6 ≤ w2.heap.size := by omega)); (try (have hl2_wr_0 : wr.heap.size < w2.heap.size := by omega)); (try (have hm2_wr_0 : wr.heap.size ≤ w2.heap.size := by omega)); (try (have hl2_wr_1 : wr.heap.size + 1 < w2.heap.size := by omega)); (try (have hm2_wr_1 : wr.heap.size + 1 ≤ w2.heap.size := by omega)); (try (have hl2_wr_2 : wr.heap.size + 2 < w2.heap.size := by omega)); (try (have hm2_wr_2 : wr.heap.size + 2 ≤ w2.heap.size := by omega)); (try (have hl2_wr_3 : wr.heap.size + 3 < w2.heap.size := by omega)); (try (have hm2_wr_3 : wr.heap.size + 3 ≤ w2.heap.size := by omega)); (try (have hl2_wr_4 : wr.heap.size + 4 < w2.heap.size := by omega)); (try (have hm2_wr_4 : wr.heap.size + 4 ≤ w2.heap.size := by omega)); (try (have hl2_wr_5 : wr.heap.size + 5 < w2.heap.size := by omega)); (try (have hm2_wr_5 : wr.heap.size + 5 ≤ w2.heap.size := by omega)); (try (have hl2_wr_6 : wr.heap.size + 6 < w2.heap.size := by omega)); (try (have hm2_wr_6 : wr.heap.size + 6 ≤ w2.heap.size := by omega)); (try (have hl2_W_0 : W.heap.size < w2.heap.size := by omega)); (try (have hm2_W_0 : W.heap.size ≤ w2.heap.size := by omega)); (try (have hl2_W_1 : W.heap.size + 1 < w2.heap.size := by omega)); (try (have hm2_W_1 : W.heap.size + 1 ≤ w2.heap.size := by omega)); (try (have hl2_W_2 : W.heap.size + 2 < w2.heap.size := by omega)); (try (have hm2_W_2 : W.heap.size + 2 ≤ w2.heap.size := by omega)); (try (have hl2_W_3 : W.heap.size + 3 < w2.heap.size := by omega)); (try (have hm2_W_3 : W.heap.size + 3 ≤ w2.heap.size := by omega)); (try (have hl2_W_4 : W.heap.size + 4 < w2.heap.size := by omega)); (try (have hm2_W_4 : W.heap.size + 4 ≤ w2.heap.size := by omega)); (try (have hl2_W_5 : W.heap.size + 5 < w2.heap.size := by omega)); (try (have hm2_W_5 : W.heap.size + 5 ≤ w2.heap.size := by omega)); (try (have hl2_W_6 : W.heap.size + 6 < w2.heap.size := by omega)); (try (have hm2_W_6 : W.heap.size + 6 ≤ w2.heap.size := by omega)))
                go_roundw
                case rel => exact ⟨k + 1, by omega, by go_num, HN.out, bel⟩
                case measure => simp [intOf]; omega
            · have hs1 : shows s ⟨vk, vn, vs⟩ = false := by rw [hsv]; simp [he]
              have g1 : (er == 0) = false := by simpa using he
              have HN := Lib.hid (noneV_next HL.out.1 HL.out.2.1 hs1)
              clear hsv he hs1
              go_wp2_with (go_at_call 9; refine (hcl _ (HG.out.keep bel).1).mono ?_; clear hcl; rintro e w2 ⟨rfl, hb2⟩; obtain ⟨hc2, hf2⟩ := bcell hb2; (try simp only [World.heap_drewN, World.cell?_drewN, World.frozen?_drewN] at hc2 hf2); have hz2 := hb2.size; (try simp at hz2); (try (have hy2 := Nat.lt_of_succ_le hz2)); (try (have hx2 := Nat.lt_of_succ_lt hy2)); (try (have hl2_w_0 : w.heap.size < w2.heap.size := by omega)); (try (have hm2_w_0 : w.heap.size ≤ w2.heap.size := by omega)); (try (have hl2_w_1 : w.heap.size + 1 < w2.heap.size := by omega)); (try (have hm2_w_1 : w.heap.size + 1 ≤ w2.heap.size := by omega)); (try (have hl2_w_2 : w.heap.size + 2 < w2.heap.size := by omega)); (try (have hm2_w_2 : w.heap.size + 2 ≤ w2.heap.size := by omega)); (try (have hl2_w_3 : w.heap.size + 3 < w2.heap.size := by omega)); (try (have hm2_w_3 : w.heap.size + 3 ≤ w2.heap.size := by omega)); (try (have hl2_w_4 : w.heap.size + 4 < w2.heap.size := by omega)); (try (have hm2_w_4 : w.heap.size + 4 ≤ w2.heap.size := by omega)); (try (have hl2_w_5 : w.heap.size + 5 < w2.heap.size := by omega)); (try (have hm2_w_5 : w.heap.size + 5 ≤ w2.heap.size := by omega)); (try (have hl2_w_6 : w.heap.size + 6 < w2.heap.size := by omega)); (try (have hm2_w_6 : w.heap.size + 6 ≤ w2.heap.size := by omega)); (try (have hl2_wr_0 : wr.heap.size < w2.heap.size := by omega)); (try (have hm2_wr_0 : wr.heap.size ≤ w2.heap.size := by omega)); (try (have hl2_wr_1 : wr.heap.size + 1 < w2.heap.size := by omega)); (try (have hm2_wr_1 : wr.heap.size + 1 ≤ w2.heap.size := by omega)); (try (have hl2_wr_2 : wr.heap.size + 2 < w2.heap.size := by omega)); (try (have hm2_wr_2 : wr.heap.size + 2 ≤ w2.heap.size := by omega)); (try (have hl2_wr_3 : wr.heap.size + 3 < w2.heap.size := by omega)); (try (have hm2_wr_3 : wr.heap.size + 3 ≤ w2.heap.size := by omega)); (try (have hl2_wr_4 : wr.heap.size + 4 < w2.heap.size := by omega)); (try (have hm2_wr_4 : wr.heap.size + 4 ≤ w2.heap.size := by omega)); (try (have hl2_wr_5 : wr.heap.size + 5 < w2.heap.size := by omega)); (try (have hm2_wr_5 : wr.heap.size + 5 ≤ w2.heap.size := by omega)); (try (have hl2_wr_6 : wr.heap.size + 6 < w2.heap.size := by omega)); (try (have hm2_wr_6 : wr.heap.size + 6 ≤ w2.heap.size := by omega)); (try (have hl2_W_0 : W.heap.size < w2.heap.size := by omega)); (try (have hm2_W_0 : W.heap.size ≤ w2.heap.size := by omega)); (try (have hl2_W_1 : W.heap.size + 1 < w2.heap.size := by omega)); (try (have hm2_W_1 : W.heap.size + 1 ≤ w2.heap.size := by omega)); (try (have hl2_W_2 : W.heap.size + 2 < w2.heap.size := by omega)); (try (have hm2_W_2 : W.heap.size + 2 ≤ w2.heap.size := by omega)); (try (have hl2_W_3 : W.heap.size + 3 < w2.heap.size := by omega)); (try (have hm2_W_3 : W.heap.size + 3 ≤ w2.heap.size := by omega)); (try (have hl2_W_4 : W.heap.size + 4 < w2.heap.size := by omega)); (try (have hm2_W_4 : W.heap.size + 4 ≤ w2.heap.size := by omega)); (try (have hl2_W_5 : W.heap.size + 5 < w2.heap.size := by omega)); (try (have hm2_W_5 : W.heap.size + 5 ≤ w2.heap.size := by omega)); (try (have hl2_W_6 : W.heap.size + 6 < w2.heap.size := by omega)); (try (have hm2_W_6 : W.heap.size + 6 ≤ w2.heap.size := by omega)))
              go_roundw
              case rel => exact ⟨k + 1, by omega, by go_num, HN.out, bel⟩
              case measure => simp [intOf]; omega
          · have hk6 : k = 6 := by omega
            subst hk6
            have hr2 : R = (noVal, 3) := by rw [HR.out, refV_none hno]
            obtain ⟨hc9, hf9⟩ := bcell hb9; (try simp only [World.heap_drewN, World.cell?_drewN, World.frozen?_drewN] at hc9 hf9); have hz9 := hb9.size; (try simp at hz9); (try (have hy9 := Nat.lt_of_succ_le hz9)); (try (have hx9 := Nat.lt_of_succ_lt hy9)); (try (have hl9_w_0 : w.heap.size < w9.heap.size := by omega)); (try (have hm9_w_0 : w.heap.size ≤ w9.heap.size := by omega)); (try (have hl9_w_1 : w.heap.size + 1 < w9.heap.size := by omega)); (try (have hm9_w_1 : w.heap.size + 1 ≤ w9.heap.size := by omega)); (try (have hl9_w_2 : w.heap.size + 2 < w9.heap.size := by omega)); (try (have hm9_w_2 : w.heap.size + 2 ≤ w9.heap.size := by omega)); (try (have hl9_w_3 : w.heap.size + 3 < w9.heap.size := by omega)); (try (have hm9_w_3 : w.heap.size + 3 ≤ w9.heap.size := by omega)); (try (have hl9_w_4 : w.heap.size + 4 < w9.heap.size := by omega)); (try (have hm9_w_4 : w.heap.size + 4 ≤ w9.heap.size := by omega)); (try (have hl9_w_5 : w.heap.size + 5 < w9.heap.size := by omega)); (try (have hm9_w_5 : w.heap.size + 5 ≤ w9.heap.size := by omega)); (try (have hl9_w_6 : w.heap.size + 6 < w9.heap.size := by omega)); (try (have hm9_w_6 : w.heap.size + 6 ≤ w9.heap.size := by omega)); (try (have hl9_W_0 : W.heap.size < w9.heap.size := by omega)); (try (have hm9_W_0 : W.heap.size ≤ w9.heap.size := by omega)); (try (have hl9_W_1 : W.heap.size + 1 < w9.heap.size := by omega)); (try (have hm9_W_1 : W.heap.size + 1 ≤ w9.heap.size := by omega)); (try (have hl9_W_2 : W.heap.size + 2 < w9.heap.size := by omega)); (try (have hm9_W_2 : W.heap.size + 2 ≤ w9.heap.size := by omega)); (try (have hl9_W_3 : W.heap.size + 3 < w9.heap.size := by omega)); (try (have hm9_W_3 : W.heap.size + 3 ≤ w9.heap.size := by omega)); (try (have hl9_W_4 : W.heap.size + 4 < w9.heap.size := by omega)); (try (have hm9_W_4 : W.heap.size + 4 ≤ w9.heap.size := by omega)); (try (have hl9_W_5 : W.heap.size + 5 < w9.heap.size := by omega)); (try (have hm9_W_5 : W.heap.size + 5 ≤ w9.heap.size := by omega)); (try (have hl9_W_6 : W.heap.size + 6 < w9.heap.size := by omega)); (try (have hm9_W_6 : W.heap.size + 6 ≤ w9.heap.size := by omega))
            have hy9 : w.heap.size < wr.heap.size := by omega
            have hyA : w.heap.size < wr.heap.size + 1 := by omega
            have hB0 : Below w.heap.size w wr := below_chain HBW.out hb9
            have HR2 := Lib.hid hr2
            clear hno hr2
            go_wp2_with fail
            exact bodyPost_ret (v := .tuple #[.agg #[.int .i64 0, .int .i64 0, .string ⟨#[]⟩], .int .i64 3]) (by first | (simp [results, Tryd.results19, go_sem]; done) | (simp [results, Tryd.results19, go_sem, *]; done)) rfl ⟨by rw [HR2.out]; rfl, bel⟩
end Go.Proofs.YtgmcojnhpedpnaaDoor
