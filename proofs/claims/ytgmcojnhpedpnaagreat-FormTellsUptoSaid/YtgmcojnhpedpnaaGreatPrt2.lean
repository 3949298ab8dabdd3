/- The walks of expr.part and of expr.parts. -/
import Derived.Test.YtgmcojnhpedpnaaGreatPrtS
namespace Go.Proofs.YtgmcojnhpedpnaaGreat
open Go.RowKit

set_option maxRecDepth 100000 in
set_option maxHeartbeats 2000000 in
theorem expr_part (op vk vn : Int) (vs name : ByteArray) (A : Option Addr) (n c : Nat) (w : World) (hvs : vs.size ≤ maxLen) (hnm : name.size ≤ maxLen) (hn0 : inL n) :
    Calls Tryz.prog 97 #[.agg #[.int .i64 op, .int .i64 vk, .int .i64 vn, .string vs, .string name, .slice A n c]] w (RetI w (partErr op ⟨vk, vn, vs⟩ name n)) := by
  have hn : n ≤ 140737488351232 := hn0
  by_cases ho : op < 1 ∨ 18 < op
  · rw [partErr_out ho]
    rcases ho with ho | ho
    · go_enter Tryz.func97, Tryz.ntmps97
      go_wp2_with fail
      go_ret
      exact ⟨rfl, bel⟩
    · have ho' : ¬ op < 1 := by omega
      go_enter Tryz.func97, Tryz.ntmps97
      go_wp2_with fail
      go_ret
      exact ⟨rfl, bel⟩
  · obtain ⟨s, k, hix⟩ := shape_ix op (by omega) (by omega)
    rw [partErr_in ho]
    have h1 : ¬ op < 1 := by omega
    have h2 : ¬ 18 < op := by omega
    by_cases hl : (n : Int) = argsN op
    · have hl' : ((n : Int) != argsN op) = false := by simpa using hl
      by_cases e1 : op = 1
      · subst e1
        rcases part_const (v := ⟨vk, vn, vs⟩) (name := name) hl with ⟨z, e⟩ | ⟨z, z2, e⟩ | ⟨z, z2, z3, z4, e⟩ | ⟨z, z2, z3, z4, e⟩ | ⟨z, z2, z3, e⟩
        all_goals
          simp only [e, Bool.false_eq_true, if_false, if_true]
          try dsimp only at z3
          try dsimp only at z4
          try (have z3' : (vk == 1) = true := by simpa using z3)
          try (have z3' : (vk == 1) = false := by simpa using z3)
          try (have z4' : ¬ vn < 0 := by omega)
          try (have hkn := fun w => value_Known vk vn vs w hvs; simp only [z2] at hkn)
          try clear z3
          clear e hl
          generalize argsN 1 = q at hix hl'
          go_enter Tryz.func97, Tryz.ntmps97
          go_wp2_with fail
          refine wp_world ?_; intro W0 hW0
          have hS0 : W0.cell? ⟨w.heap.size, 5, none⟩ = some (.slice A n c) ∧ W0.cell? ⟨w.heap.size, 0, none⟩ = some (.int .i64 1) ∧ Below W0.heap.size W0 W0 ∧ W0.heap.size ≤ W0.heap.size := ⟨by rw [hW0]; go_simp, by rw [hW0]; go_simp, Below.refl _ _, Nat.le_refl _⟩
          have HW0 := Lib.hid hW0; clear hW0
          refine wp_quietC (C := fun w' => w'.cell? ⟨w.heap.size, 5, none⟩ = some (.slice A n c) ∧ w'.cell? ⟨w.heap.size, 0, none⟩ = some (.int .i64 1) ∧ Below W0.heap.size W0 w' ∧ W0.heap.size ≤ w'.heap.size) (by kernel_rfl) (by kernel_rfl) (held2d hS0) ?_
          clear hS0
          repeat (first
            | go_big_quiet_skip
            | (go_big_quiet_want; go_big_quiet_op; go_big_quiet_on)
            | (go_big_quiet_want
               apply Exists.intro
               refine ⟨fun w' hw' => ?_, ?_⟩
               · unfold Oper.quietAt
                 have hqs := hw'
                 obtain ⟨hq0, hq1, hqb, hql⟩ := hw'
                 try go_simp
                 first
                   | with_reducible rfl
                   | exact ⟨rfl, rfl⟩
                   | (go_at_call 129; refine Calls.mono (expr_shapes _) ?_; rintro e w' ⟨rfl, hb⟩; exact ⟨rfl, held2 hqs hb⟩)
               go_big_quiet_on
               try go_simp))
          refine wpQuiet_nil ?_; intro wq9; (try simp only [and_imp]); intro hq0 hq1 hb9 hql; clear hq0 hq1 hql
          have hW0 := HW0.out; clear HW0; subst hW0
          obtain ⟨hc9, hf9⟩ := bcell hb9; (try simp only [World.heap_drewN, World.cell?_drewN, World.frozen?_drewN] at hc9 hf9); have hz9 := hb9.size; (try simp at hz9); (try (have hy9 := Nat.lt_of_succ_le hz9)); (try (have hx9 := Nat.lt_of_succ_lt hy9))
          first
            | (go_wp2_with fail; go_ret; exact ⟨rfl, bel⟩)
            | (go_wp2_with (go_at_call 64; refine (hkn _).mono ?_; rintro e w2 ⟨rfl, hb2⟩; obtain ⟨hc2, hf2⟩ := bcell hb2; (try simp only [World.heap_drewN, World.cell?_drewN, World.frozen?_drewN] at hc2 hf2); have hz2 := hb2.size; (try simp at hz2); (try (have hy2 := Nat.lt_of_succ_le hz2)); (try (have hx2 := Nat.lt_of_succ_lt hy2)); (first | refine szz6 w2 w (by omega) ?_ | refine szz5 w2 w (by omega) ?_ | refine szz4 w2 w (by omega) ?_ | refine szz3 w2 w (by omega) ?_ | refine szz2 w2 w (by omega) ?_ | refine szz1 w2 w (by omega) ?_ | refine szz0 w2 w (by omega) ?_ | refine szzn w2 w (by omega) ?_ | skip); intros; (first | refine szz6 w2 wq9 (by omega) ?_ | refine szz5 w2 wq9 (by omega) ?_ | refine szz4 w2 wq9 (by omega) ?_ | refine szz3 w2 wq9 (by omega) ?_ | refine szz2 w2 wq9 (by omega) ?_ | refine szz1 w2 wq9 (by omega) ?_ | refine szz0 w2 wq9 (by omega) ?_ | refine szzn w2 wq9 (by omega) ?_ | skip); intros;); go_ret; exact ⟨rfl, bel⟩)
      · by_cases e2 : op = 2
        · subst e2
          rcases part_ref (v := ⟨vk, vn, vs⟩) (name := name) hl with ⟨z, e⟩ | ⟨z, z2, e⟩ | ⟨z, z2, e⟩
          all_goals
            simp only [e, Bool.false_eq_true, if_false, if_true]
            have hlx := fun w => lex_Name name w hnm
            try (have z' : (nameCheck name != 0) = true := by simpa using z)
            try simp only [z] at hlx
            have hne := fun w => run_neq_Val w vk vn 0 0 vs ⟨#[]⟩
            try simp only [z2, Bool.not_true, Bool.not_false] at hne
            clear z e hl
            generalize argsN 2 = q at hix hl'
            go_enter Tryz.func97, Tryz.ntmps97
            go_wp2_with fail
            refine wp_world ?_; intro W0 hW0
            have hS0 : W0.cell? ⟨w.heap.size, 5, none⟩ = some (.slice A n c) ∧ W0.cell? ⟨w.heap.size, 0, none⟩ = some (.int .i64 2) ∧ Below W0.heap.size W0 W0 ∧ W0.heap.size ≤ W0.heap.size := ⟨by rw [hW0]; go_simp, by rw [hW0]; go_simp, Below.refl _ _, Nat.le_refl _⟩
            have HW0 := Lib.hid hW0; clear hW0
            refine wp_quietC (C := fun w' => w'.cell? ⟨w.heap.size, 5, none⟩ = some (.slice A n c) ∧ w'.cell? ⟨w.heap.size, 0, none⟩ = some (.int .i64 2) ∧ Below W0.heap.size W0 w' ∧ W0.heap.size ≤ w'.heap.size) (by kernel_rfl) (by kernel_rfl) (held2d hS0) ?_
            clear hS0
            repeat (first
              | go_big_quiet_skip
              | (go_big_quiet_want; go_big_quiet_op; go_big_quiet_on)
              | (go_big_quiet_want
                 apply Exists.intro
                 refine ⟨fun w' hw' => ?_, ?_⟩
                 · unfold Oper.quietAt
                   have hqs := hw'
                   obtain ⟨hq0, hq1, hqb, hql⟩ := hw'
                   try go_simp
                   first
                     | with_reducible rfl
                     | exact ⟨rfl, rfl⟩
                     | (go_at_call 129; refine Calls.mono (expr_shapes _) ?_; rintro e w' ⟨rfl, hb⟩; exact ⟨rfl, held2 hqs hb⟩)
                 go_big_quiet_on
                 try go_simp))
            refine wpQuiet_nil ?_; intro wq9; (try simp only [and_imp]); intro hq0 hq1 hb9 hql; clear hq0 hq1 hql
            have hW0 := HW0.out; clear HW0; subst hW0
            obtain ⟨hc9, hf9⟩ := bcell hb9; (try simp only [World.heap_drewN, World.cell?_drewN, World.frozen?_drewN] at hc9 hf9); have hz9 := hb9.size; (try simp at hz9); (try (have hy9 := Nat.lt_of_succ_le hz9)); (try (have hx9 := Nat.lt_of_succ_lt hy9))
            go_wp2_with (go_at_call 82; refine (hlx _).mono ?_; rintro e w2 ⟨rfl, rfl⟩)
            go_ret
            exact ⟨rfl, bel⟩
        · rcases part_other (v := ⟨vk, vn, vs⟩) (name := name) e1 e2 hl with ⟨z, e⟩ | ⟨z, z2, e⟩ | ⟨z, z2, e⟩
          all_goals
            simp only [e, Bool.false_eq_true, if_false, if_true]
            have hne := fun w => run_neq_Val w vk vn 0 0 vs ⟨#[]⟩
            try simp only [z2, Bool.not_true, Bool.not_false] at hne
            have e1' : (op == 1) = false := by simpa using e1
            have e2' : (op == 2) = false := by simpa using e2
            clear e hl e1 e2
            generalize argsN op = q at hix hl'
            go_enter Tryz.func97, Tryz.ntmps97
            go_wp2_with fail
            refine wp_world ?_; intro W0 hW0
            have hS0 : W0.cell? ⟨w.heap.size, 5, none⟩ = some (.slice A n c) ∧ W0.cell? ⟨w.heap.size, 0, none⟩ = some (.int .i64 op) ∧ Below W0.heap.size W0 W0 ∧ W0.heap.size ≤ W0.heap.size := ⟨by rw [hW0]; go_simp, by rw [hW0]; go_simp, Below.refl _ _, Nat.le_refl _⟩
            have HW0 := Lib.hid hW0; clear hW0
            refine wp_quietC (C := fun w' => w'.cell? ⟨w.heap.size, 5, none⟩ = some (.slice A n c) ∧ w'.cell? ⟨w.heap.size, 0, none⟩ = some (.int .i64 op) ∧ Below W0.heap.size W0 w' ∧ W0.heap.size ≤ w'.heap.size) (by kernel_rfl) (by kernel_rfl) (held2d hS0) ?_
            clear hS0
            repeat (first
              | go_big_quiet_skip
              | (go_big_quiet_want; go_big_quiet_op; go_big_quiet_on)
              | (go_big_quiet_want
                 apply Exists.intro
                 refine ⟨fun w' hw' => ?_, ?_⟩
                 · unfold Oper.quietAt
                   have hqs := hw'
                   obtain ⟨hq0, hq1, hqb, hql⟩ := hw'
                   try go_simp
                   first
                     | with_reducible rfl
                     | exact ⟨rfl, rfl⟩
                     | (go_at_call 129; refine Calls.mono (expr_shapes _) ?_; rintro e w' ⟨rfl, hb⟩; exact ⟨rfl, held2 hqs hb⟩)
                 go_big_quiet_on
                 try go_simp))
            refine wpQuiet_nil ?_; intro wq9; (try simp only [and_imp]); intro hq0 hq1 hb9 hql; clear hq0 hq1 hql
            have hW0 := HW0.out; clear HW0; subst hW0
            obtain ⟨hc9, hf9⟩ := bcell hb9; (try simp only [World.heap_drewN, World.cell?_drewN, World.frozen?_drewN] at hc9 hf9); have hz9 := hb9.size; (try simp at hz9); (try (have hy9 := Nat.lt_of_succ_le hz9)); (try (have hx9 := Nat.lt_of_succ_lt hy9))
            go_wp2_with fail
            go_ret
            exact ⟨rfl, bel⟩
    · have e : partOk op ⟨vk, vn, vs⟩ name n = false := by rw [partOk, decide_eq_false hl, Bool.false_and]
      simp only [e, Bool.false_eq_true, if_false]
      have hl' : ((n : Int) != argsN op) = true := by simpa using hl
      clear e hl
      generalize argsN op = q at hix hl'
      go_enter Tryz.func97, Tryz.ntmps97
      go_wp2_with fail
      refine wp_world ?_; intro W0 hW0
      have hS0 : W0.cell? ⟨w.heap.size, 5, none⟩ = some (.slice A n c) ∧ W0.cell? ⟨w.heap.size, 0, none⟩ = some (.int .i64 op) ∧ Below W0.heap.size W0 W0 ∧ W0.heap.size ≤ W0.heap.size := ⟨by rw [hW0]; go_simp, by rw [hW0]; go_simp, Below.refl _ _, Nat.le_refl _⟩
      have HW0 := Lib.hid hW0; clear hW0
      refine wp_quietC (C := fun w' => w'.cell? ⟨w.heap.size, 5, none⟩ = some (.slice A n c) ∧ w'.cell? ⟨w.heap.size, 0, none⟩ = some (.int .i64 op) ∧ Below W0.heap.size W0 w' ∧ W0.heap.size ≤ w'.heap.size) (by kernel_rfl) (by kernel_rfl) (held2d hS0) ?_
      clear hS0
      repeat (first
        | go_big_quiet_skip
        | (go_big_quiet_want; go_big_quiet_op; go_big_quiet_on)
        | (go_big_quiet_want
           apply Exists.intro
           refine ⟨fun w' hw' => ?_, ?_⟩
           · unfold Oper.quietAt
             have hqs := hw'
             obtain ⟨hq0, hq1, hqb, hql⟩ := hw'
             try go_simp
             first
               | with_reducible rfl
               | exact ⟨rfl, rfl⟩
               | (go_at_call 129; refine Calls.mono (expr_shapes _) ?_; rintro e w' ⟨rfl, hb⟩; exact ⟨rfl, held2 hqs hb⟩)
           go_big_quiet_on
           try go_simp))
      refine wpQuiet_nil ?_; intro wq9; (try simp only [and_imp]); intro hq0 hq1 hb9 hql; clear hq0 hq1 hql
      have hW0 := HW0.out; clear HW0; subst hW0
      obtain ⟨hc9, hf9⟩ := bcell hb9; (try simp only [World.heap_drewN, World.cell?_drewN, World.frozen?_drewN] at hc9 hf9); have hz9 := hb9.size; (try simp at hz9); (try (have hy9 := Nat.lt_of_succ_le hz9)); (try (have hx9 := Nat.lt_of_succ_lt hy9))
      go_wp2_with fail
      go_ret
      exact ⟨rfl, bel⟩
end Go.Proofs.YtgmcojnhpedpnaaGreat
