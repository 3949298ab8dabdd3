/- The references TimersCancel and TimersDue. -/
import Derived.Test.YtiplgdplfbeahaaTim5
import Derived.Test.YtiplgdplfbeahaaTim2r
namespace Go.Proofs.Ytiplgdplfbeahaa
open Go.RowKit

theorem tmrCancel_bad {l : List Tmr} {id : Int} (h : tmrCheck l ≠ 0) : tmrCancel l id = ([], tmrCheck l) := by rw [tmrCancel, if_neg h]
theorem tmrCancel_none {l : List Tmr} {id : Int} (h : tmrCheck l = 0) (ha : l.any (tmrId id) = false) : tmrCancel l id = ([], 5) := by rw [tmrCancel, if_pos h, ha]; rfl
theorem tmrCancel_some {l : List Tmr} {id : Int} (h : tmrCheck l = 0) (ha : l.any (tmrId id) = true) : tmrCancel l id = (l.eraseIdx (firstAt (tmrId id) l), 0) := by rw [tmrCancel, if_pos h, ha]; rfl
theorem ownsRow_other {w w' : World} {base : Nat} {e : TypeId} {size : Nat} {v r : Value} {n : Nat} {xs : List Value} (h : w.ownsRow base e size r n xs) (hk : ∀ k, k < w.heap.size → some k ≠ v.ownBlock → w'.heap[k]? = w.heap[k]?)
    (ha : ∀ g, r.ownBlock = some g → v.ownBlock ≠ some g) : w'.ownsRow base e size r n xs := by
  refine ⟨h.1, ?_⟩
  rcases h.2 with hn | ⟨g, cap, cur, rfl, hbg, hgg, rest⟩
  · exact .inl hn
  · refine .inr ⟨g, cap, cur, rfl, hbg, ?_, rest⟩
    rw [hk g (Array.getElem?_eq_some_iff.1 hgg).1 (fun e => ha g rfl e.symm)]
    exact hgg
/-- One element more; where the row lies then. -/
theorem wpList_append1b {P : Program} {ops : Array Oper} {rest : List Oper} {o : Oper} {a : Act} {Q : Exit → Act → World → Prop} {w W : World} (hgd : o.guard = none) (s x : Operand) (t : TypeId)
    (ho : o.op = .call { callee := .builtin .append, args := #[s, x], argTypes := #[t, t] })
    (base : Nat) (e : TypeId) (i : TypeInfo) (z : Value) (size bytes : Nat) (ht : P.underlying t = some (.slice e)) (hi : P.info? e = some i) (hz : i.zero = some z)
    (hsize : i.size = size) (hby : i.bytes = bytes) (hzs : z.cells.size = size) (hsz : 0 < size)
    (v : Value) (n : Nat) (xs : List Value) (hs : a.eval s = v) (hown : w.ownsRow base e size v n xs)
    (cs : List Value) (t' : TypeId) (hW : W = w.alloc (.cells cs.toArray t')) (g : Nat) (hx : a.eval x = .slice (some ⟨g, 0, none⟩) 1 1) (hg0 : g = w.heap.size) (hl : cs.length = size) (h1 : ∀ u ∈ cs, u.oneCell' = true)
    (hbytes : (n + 1) * bytes ≤ 140737488355328) (h63 : n + 1 ≤ maxLen) (hbase : base ≤ w.heap.size)
    (h : ∀ v' w', w'.ownsRow base e size v' (n + 1) (xs ++ cs) → Below base w w' → w.heap.size ≤ w'.heap.size → (∀ k, k < w.heap.size → some k ≠ v.ownBlock → w'.heap[k]? = w.heap[k]?) → (v'.ownBlock = v.ownBlock ∨ ∃ k, v'.ownBlock = some k ∧ w.heap.size ≤ k) → wpList P ops Q rest (a.put o.dst v') w') :
    wpList P ops Q (o :: rest) a W := by
  subst hW
  subst hg0
  refine wpList_plain hgd fun K hK => ?_
  obtain ⟨v', w', hr, h2, h3, h5⟩ := run_append_sl (P := P) (w.alloc (.cells cs.toArray t')) base t o.type e i z size bytes ht hi hz hsize hby hzs hsz v n xs (hown.alloc _) (some ⟨w.heap.size, 0, none⟩) 1 1 cs (by rw [hl, Nat.one_mul]) (fun p hp => by cases hp; exact news_new w cs t') (fun e => by cases e) h1 h63 hbytes (by simp; omega)
  unfold Oper.wp execOp
  simp only [ho, resolve, invoke, builtin, Sem.run_bind, Sem.run_pure, Result.andThen_ok, List.map_toArray, List.map_cons, List.map_nil, hs, hx, hr]
  have hsz' := h3.size
  simp only [World.size_alloc] at hsz'
  refine hK _ _ (h v' w' h2 ?_ (by omega) (fun k hk hne => ?_) ?_)
  · exact ((Below.refl base w).alloc hbase _).grown h3 (by simp; omega) fun k hk => (hown.lt k hk).1
  · rw [h3.block k (by simp; omega) hne]
    exact Below.heap_alloc w _ k hk
  · rcases h5 with h5 | h5
    · exact .inl h5
    · exact .inr ⟨_, h5, by simp⟩
set_option maxRecDepth 100000 in
set_option maxHeartbeats 4000000 in
theorem ref_TimersCancel (A : Option Addr) (n c : Nat) (l : List Tmr) (id : Int) (w : World) (hn : inB 16 n) (h : Sl w (old w) 2 RTmr A n l) :
    Calls Try.prog 42 #[.slice A n c, .int .i64 id] w (OwnRowC Tmr.cs 55 2 w (tmrCancel l id).1 (tmrCancel l id).2) := by
  have hn' := hn.l (by decide)
  obtain ⟨i0, hi0, iz0, iz1, iz2⟩ := info_parts Try.infoTmr
  have HH := Lib.hid (And.intro h hn)
  have hlen := h.len
  clear h hn
  by_cases hb : tmrCheck l = 0
  · have hb' : (tmrCheck l != 0) = false := by simpa using hb
    have h20 : n ≤ 20 := by rw [← hlen]; exact tmrCheck_le hb
    have HE := Lib.hid (And.intro hlen hb)
    clear hb hlen
    go_enter Try.func42, Try.ntmps42
    go_wp2_with fail
    refine (ref_TimersFault A n c l _ hn' (HH.out.1.now (by repeat (first | with_reducible exact Below.refl _ _ | with_reducible assumption | with_reducible refine below_drewN ?_ _ | with_reducible refine Below.drew ?_ | with_reducible refine below_alloc0 ?_ | with_reducible refine below_alloc ?_ (by simp; try omega) | with_reducible refine below_set ?_ (by simp; try omega) | with_reducible refine below_chain ?_ (by assumption) | (with_reducible refine below_step ?_ (by assumption) (by simp; try omega)))))).mono ?_; rintro e w1 ⟨rfl, hb1⟩; obtain ⟨hc1, hf1⟩ := bcell hb1; (try simp only [World.heap_drewN, World.cell?_drewN, World.frozen?_drewN] at hc1 hf1); have hz1 := hb1.size; (try simp at hz1); (try (have hy1 := Nat.lt_of_succ_le hz1)); (try (have hx1 := Nat.lt_of_succ_lt hy1)); (try (have hl1_w_0 : w.heap.size < w1.heap.size := by omega)); (try (have hm1_w_0 : w.heap.size ≤ w1.heap.size := by omega)); (try (have hl1_w_1 : w.heap.size + 1 < w1.heap.size := by omega)); (try (have hm1_w_1 : w.heap.size + 1 ≤ w1.heap.size := by omega)); (try (have hl1_w_2 : w.heap.size + 2 < w1.heap.size := by omega)); (try (have hm1_w_2 : w.heap.size + 2 ≤ w1.heap.size := by omega)); (try (have hl1_w_3 : w.heap.size + 3 < w1.heap.size := by omega)); (try (have hm1_w_3 : w.heap.size + 3 ≤ w1.heap.size := by omega)); (try (have hl1_w_4 : w.heap.size + 4 < w1.heap.size := by omega)); (try (have hm1_w_4 : w.heap.size + 4 ≤ w1.heap.size := by omega)); (try (have hl1_w_5 : w.heap.size + 5 < w1.heap.size := by omega)); (try (have hm1_w_5 : w.heap.size + 5 ≤ w1.heap.size := by omega)); (try (have hl1_w_6 : w.heap.size + 6 < w1.heap.size := by omega)); (try (have hm1_w_6 : w.heap.size + 6 ≤ w1.heap.size := by omega))
    go_wp2_with fail
    go_loopw [7, 17] (fun out i wr => ∃ k : Nat, k ≤ n ∧ i = .int .i64 k ∧ wr.ownsRow w.heap.size 55 2 out ((l.take k).filter (fun x => !tmrId id x)).length (((l.take k).filter (fun x => !tmrId id x)).flatMap Tmr.cs) ∧ Below w.heap.size w wr) (fun _ i _ => n - (intOf i).toNat)
    case atStart => exact ⟨0, by omega, rfl, by simpa using World.ownsRow_nil _ _ _ _, hb1⟩
    case round =>
      obtain ⟨k, hk, rfl, hown, hbw⟩ := hrel
      obtain ⟨hcw, hfw⟩ := bcell hbw; (try simp only [World.heap_drewN, World.cell?_drewN, World.frozen?_drewN] at hcw hfw); have hzw := hbw.size; (try simp at hzw); (try (have hyw := Nat.lt_of_succ_le hzw)); (try (have hxw := Nat.lt_of_succ_lt hyw)); (try (have hlw_w_0 : w.heap.size < ww.heap.size := by omega)); (try (have hmw_w_0 : w.heap.size ≤ ww.heap.size := by omega)); (try (have hlw_w_1 : w.heap.size + 1 < ww.heap.size := by omega)); (try (have hmw_w_1 : w.heap.size + 1 ≤ ww.heap.size := by omega)); (try (have hlw_w_2 : w.heap.size + 2 < ww.heap.size := by omega)); (try (have hmw_w_2 : w.heap.size + 2 ≤ ww.heap.size := by omega)); (try (have hlw_w_3 : w.heap.size + 3 < ww.heap.size := by omega)); (try (have hmw_w_3 : w.heap.size + 3 ≤ ww.heap.size := by omega)); (try (have hlw_w_4 : w.heap.size + 4 < ww.heap.size := by omega)); (try (have hmw_w_4 : w.heap.size + 4 ≤ ww.heap.size := by omega)); (try (have hlw_w_5 : w.heap.size + 5 < ww.heap.size := by omega)); (try (have hmw_w_5 : w.heap.size + 5 ≤ ww.heap.size := by omega)); (try (have hlw_w_6 : w.heap.size + 6 < ww.heap.size := by omega)); (try (have hmw_w_6 : w.heap.size + 6 ≤ ww.heap.size := by omega))
      by_cases hlt : k < n
      · obtain ⟨b, o, x, rfl, hbl, hl, _, x0, x1⟩ := Tmr_at (HH.out.1.now hbw) hlt
        have hbl' : b < wr.heap.size := hbl
        have hil : ((l.take k).filter (fun x => !tmrId id x)).length ≤ k := Nat.le_trans (List.length_filter_le _ _) (List.length_take_le _ _)
        have HO := Lib.hid (And.intro hown (And.intro hl hil))
        clear hbl hown hl hil
        by_cases hid : x.id = id
        · have hid' : (x.id != id) = false := by simpa using hid
          have HI := Lib.hid hid
          clear hid
          go_wp2_with fail
          go_roundw
          case rel =>
            refine ⟨k + 1, by omega, by go_num, ?_, (by repeat (first | with_reducible exact Below.refl _ _ | with_reducible assumption | with_reducible refine below_drewN ?_ _ | with_reducible refine Below.drew ?_ | with_reducible refine below_alloc0 ?_ | with_reducible refine below_alloc ?_ (by simp; try omega) | with_reducible refine below_set ?_ (by simp; try omega) | with_reducible refine below_chain ?_ (by assumption) | (with_reducible refine below_step ?_ (by assumption) (by simp; try omega))))⟩
            rw [List.take_add_one, HO.out.2.1, List.filter_append]
            have e : tmrId id x = true := by simp [tmrId, HI.out]
            simp only [Option.toList, List.filter_cons, e, Bool.not_true, Bool.false_eq_true, if_false, List.filter_nil, List.append_nil]
            exact HO.out.1.alloc _
          case measure => simp [intOf]; omega
        · have hid' : (x.id != id) = true := by simpa using hid
          have HI := Lib.hid hid
          clear hid
          go_wp2_with (at_builtin; refine wpList_append1 rfl (.tmp 25) (.tmp 27) 53 rfl w.heap.size 55 i0 (.agg #[.int .i64 0, .int .i64 0]) 2 16 Try.underlying53 hi0 iz0 iz1 iz2 rfl (by decide) _ _ _ rfl (HO.out.1.alloc _) [.int .i64 x.id, .int .i64 x.at_] 55 rfl _ rfl (by simp) rfl (by simp [Value.oneCell']) (by have := HO.out.2.2; omega) (by have := HO.out.2.2; unfold maxLen; omega) (by (try simp); omega) ?_; intro v' w3 hown3 hb3 hz3 _)
          go_roundw
          case rel =>
            refine ⟨k + 1, by omega, by go_num, ?_, Below.trans ((by repeat (first | with_reducible exact Below.refl _ _ | with_reducible assumption | with_reducible refine below_drewN ?_ _ | with_reducible refine Below.drew ?_ | with_reducible refine below_alloc0 ?_ | with_reducible refine below_alloc ?_ (by simp; try omega) | with_reducible refine below_set ?_ (by simp; try omega) | with_reducible refine below_chain ?_ (by assumption) | (with_reducible refine below_step ?_ (by assumption) (by simp; try omega))))) hb3⟩
            rw [List.take_add_one, HO.out.2.1, List.filter_append]
            have e : tmrId id x = false := by simp [tmrId, HI.out]
            simp only [Option.toList, List.filter_cons, e, Bool.not_false, if_true, List.filter_nil, List.length_append, List.flatMap_append, List.length_cons, List.length_nil]
            exact hown3
          case measure => simp [intOf]; omega
      · have hkn : k = n := by omega
        subst hkn
        have etk : l.take k = l := List.take_of_length_le (by rw [HH.out.1.len]; exact Nat.le_refl _)
        rw [etk] at hown
        clear etk
        have hfw : ∀ a ∈ l.filter (fun x => !tmrId id x), a.wf := fun a ha => HH.out.1.wfTmr a ((List.mem_filter.1 ha).1)
        cases hany : l.any (tmrId id)
        · have hfl := (filter_len (tmrId id) l).2 hany
          rw [hfl, HE.out.1] at hown
          obtain ⟨A9, c9, rfl, hc9, hs9⟩ := ownTmr hown (by rw [hfl, HE.out.1]) hfw
          have HA := Lib.hid (tmrCancel_none HE.out.2 hany)
          clear hown hs9 hfl hany hfw
          go_wp2_with fail
          go_ret2
          rw [HA.out]
          exact NilC.own _ _ _ ⟨rfl, hbw⟩
        · have hne : (l.filter (fun x => !tmrId id x)).length ≠ k := by
            intro e
            rw [← HE.out.1] at e
            rw [(filter_len (tmrId id) l).1 e] at hany
            cases hany
          rw [filter_once (tmrId id) l (tmrCheck_once HE.out.2 id) hany] at hown hne
          have hne' : (((l.eraseIdx (firstAt (tmrId id) l)).length : Int) == (k : Int)) = false := by simp; omega
          obtain ⟨A9, c9, rfl, hc9, hs9⟩ := ownTmr hown rfl (fun a ha => HH.out.1.wfTmr a (List.mem_of_mem_eraseIdx ha))
          have HO := Lib.hid hown
          have HA := Lib.hid (tmrCancel_some HE.out.2 hany)
          clear hown hs9 hany hfw hne
          go_wp2_with fail
          go_ret2
          rw [HA.out]
          exact ⟨_, rfl, HO.out, hbw⟩
  · have hb' : (tmrCheck l != 0) = true := by simpa using hb
    rw [tmrCancel_bad hb]
    clear hb
    go_enter Try.func42, Try.ntmps42
    go_wp2_with fail
    refine (ref_TimersFault A n c l _ hn' (HH.out.1.now (by repeat (first | with_reducible exact Below.refl _ _ | with_reducible assumption | with_reducible refine below_drewN ?_ _ | with_reducible refine Below.drew ?_ | with_reducible refine below_alloc0 ?_ | with_reducible refine below_alloc ?_ (by simp; try omega) | with_reducible refine below_set ?_ (by simp; try omega) | with_reducible refine below_chain ?_ (by assumption) | (with_reducible refine below_step ?_ (by assumption) (by simp; try omega)))))).mono ?_; rintro e w1 ⟨rfl, hb1⟩; obtain ⟨hc1, hf1⟩ := bcell hb1; (try simp only [World.heap_drewN, World.cell?_drewN, World.frozen?_drewN] at hc1 hf1); have hz1 := hb1.size; (try simp at hz1); (try (have hy1 := Nat.lt_of_succ_le hz1)); (try (have hx1 := Nat.lt_of_succ_lt hy1)); (try (have hl1_w_0 : w.heap.size < w1.heap.size := by omega)); (try (have hm1_w_0 : w.heap.size ≤ w1.heap.size := by omega)); (try (have hl1_w_1 : w.heap.size + 1 < w1.heap.size := by omega)); (try (have hm1_w_1 : w.heap.size + 1 ≤ w1.heap.size := by omega)); (try (have hl1_w_2 : w.heap.size + 2 < w1.heap.size := by omega)); (try (have hm1_w_2 : w.heap.size + 2 ≤ w1.heap.size := by omega)); (try (have hl1_w_3 : w.heap.size + 3 < w1.heap.size := by omega)); (try (have hm1_w_3 : w.heap.size + 3 ≤ w1.heap.size := by omega)); (try (have hl1_w_4 : w.heap.size + 4 < w1.heap.size := by omega)); (try (have hm1_w_4 : w.heap.size + 4 ≤ w1.heap.size := by omega)); (try (have hl1_w_5 : w.heap.size + 5 < w1.heap.size := by omega)); (try (have hm1_w_5 : w.heap.size + 5 ≤ w1.heap.size := by omega)); (try (have hl1_w_6 : w.heap.size + 6 < w1.heap.size := by omega)); (try (have hm1_w_6 : w.heap.size + 6 ≤ w1.heap.size := by omega))
    go_wp2_with fail
    go_ret2
    exact NilC.own _ _ _ ⟨rfl, (by repeat (first | with_reducible exact Below.refl _ _ | with_reducible assumption | with_reducible refine below_drewN ?_ _ | with_reducible refine Below.drew ?_ | with_reducible refine below_alloc0 ?_ | with_reducible refine below_alloc ?_ (by simp; try omega) | with_reducible refine below_set ?_ (by simp; try omega) | with_reducible refine below_chain ?_ (by assumption) | (with_reducible refine below_step ?_ (by assumption) (by simp; try omega))))⟩
theorem tmrDue_bad {l : List Tmr} {now : Int} (h : tmrCheck l ≠ 0) : tmrDue l now = ([], [], tmrCheck l) := by rw [tmrDue, if_neg h]
theorem tmrDue_good {l : List Tmr} {now : Int} (h : tmrCheck l = 0) : tmrDue l now = (l.filter (fun x => !later now x), l.filter (later now), 0) := by
  obtain ⟨h1, h2⟩ := filter_mono (later now) l (later_mono h now)
  rw [tmrDue, if_pos h, h1, h2]
set_option maxRecDepth 100000 in
set_option maxHeartbeats 4000000 in
theorem ref_TimersDue (A : Option Addr) (n c : Nat) (l : List Tmr) (now : Int) (w : World) (hn : inB 16 n) (h : Sl w (old w) 2 RTmr A n l) :
    Calls Try.prog 43 #[.slice A n c, .int .i64 now] w (Own2C w 55 (tmrDue l now).1 (tmrDue l now).2.1 (tmrDue l now).2.2) := by
  have hn' := hn.l (by decide)
  obtain ⟨i0, hi0, iz0, iz1, iz2⟩ := info_parts Try.infoTmr
  have HH := Lib.hid (And.intro h hn)
  have hlen := h.len
  clear h hn
  by_cases hb : tmrCheck l = 0
  · have hb' : (tmrCheck l != 0) = false := by simpa using hb
    rw [tmrDue_good hb]
    have h20 : n ≤ 20 := by rw [← hlen]; exact tmrCheck_le hb
    have HE := Lib.hid hlen
    clear hb hlen
    go_enter Try.func43, Try.ntmps43
    go_wp2_with fail
    refine (ref_TimersFault A n c l _ hn' (HH.out.1.now (by repeat (first | with_reducible exact Below.refl _ _ | with_reducible assumption | with_reducible refine below_drewN ?_ _ | with_reducible refine Below.drew ?_ | with_reducible refine below_alloc0 ?_ | with_reducible refine below_alloc ?_ (by simp; try omega) | with_reducible refine below_set ?_ (by simp; try omega) | with_reducible refine below_chain ?_ (by assumption) | (with_reducible refine below_step ?_ (by assumption) (by simp; try omega)))))).mono ?_; rintro e w1 ⟨rfl, hb1⟩; obtain ⟨hc1, hf1⟩ := bcell hb1; (try simp only [World.heap_drewN, World.cell?_drewN, World.frozen?_drewN] at hc1 hf1); have hz1 := hb1.size; (try simp at hz1); (try (have hy1 := Nat.lt_of_succ_le hz1)); (try (have hx1 := Nat.lt_of_succ_lt hy1)); (try (have hl1_w_0 : w.heap.size < w1.heap.size := by omega)); (try (have hm1_w_0 : w.heap.size ≤ w1.heap.size := by omega)); (try (have hl1_w_1 : w.heap.size + 1 < w1.heap.size := by omega)); (try (have hm1_w_1 : w.heap.size + 1 ≤ w1.heap.size := by omega)); (try (have hl1_w_2 : w.heap.size + 2 < w1.heap.size := by omega)); (try (have hm1_w_2 : w.heap.size + 2 ≤ w1.heap.size := by omega)); (try (have hl1_w_3 : w.heap.size + 3 < w1.heap.size := by omega)); (try (have hm1_w_3 : w.heap.size + 3 ≤ w1.heap.size := by omega)); (try (have hl1_w_4 : w.heap.size + 4 < w1.heap.size := by omega)); (try (have hm1_w_4 : w.heap.size + 4 ≤ w1.heap.size := by omega)); (try (have hl1_w_5 : w.heap.size + 5 < w1.heap.size := by omega)); (try (have hm1_w_5 : w.heap.size + 5 ≤ w1.heap.size := by omega)); (try (have hl1_w_6 : w.heap.size + 6 < w1.heap.size := by omega)); (try (have hm1_w_6 : w.heap.size + 6 ≤ w1.heap.size := by omega))
    go_wp2_with fail
    go_loopw [8, 9, 19] (fun d r i wr => ∃ k : Nat, k ≤ n ∧ i = .int .i64 k ∧ Hid (wr.ownsRow w.heap.size 55 2 d ((l.take k).filter (fun x => !later now x)).length (((l.take k).filter (fun x => !later now x)).flatMap Tmr.cs) ∧
      wr.ownsRow w.heap.size 55 2 r ((l.take k).filter (later now)).length (((l.take k).filter (later now)).flatMap Tmr.cs) ∧ (∀ g, d.ownBlock = some g → r.ownBlock ≠ some g)) ∧ Below w.heap.size w wr) (fun _ _ i _ => n - (intOf i).toNat)
    case atStart => exact ⟨0, by omega, rfl, Lib.hid ⟨by simpa using World.ownsRow_nil _ _ _ _, by simpa using World.ownsRow_nil _ _ _ _, fun g hg => by simp [Value.ownBlock] at hg⟩, hb1⟩
    case round =>
      obtain ⟨k, hk, rfl, hown, hbw⟩ := hrel
      obtain ⟨hcw, hfw⟩ := bcell hbw; (try simp only [World.heap_drewN, World.cell?_drewN, World.frozen?_drewN] at hcw hfw); have hzw := hbw.size; (try simp at hzw); (try (have hyw := Nat.lt_of_succ_le hzw)); (try (have hxw := Nat.lt_of_succ_lt hyw)); (try (have hlw_w_0 : w.heap.size < ww.heap.size := by omega)); (try (have hmw_w_0 : w.heap.size ≤ ww.heap.size := by omega)); (try (have hlw_w_1 : w.heap.size + 1 < ww.heap.size := by omega)); (try (have hmw_w_1 : w.heap.size + 1 ≤ ww.heap.size := by omega)); (try (have hlw_w_2 : w.heap.size + 2 < ww.heap.size := by omega)); (try (have hmw_w_2 : w.heap.size + 2 ≤ ww.heap.size := by omega)); (try (have hlw_w_3 : w.heap.size + 3 < ww.heap.size := by omega)); (try (have hmw_w_3 : w.heap.size + 3 ≤ ww.heap.size := by omega)); (try (have hlw_w_4 : w.heap.size + 4 < ww.heap.size := by omega)); (try (have hmw_w_4 : w.heap.size + 4 ≤ ww.heap.size := by omega)); (try (have hlw_w_5 : w.heap.size + 5 < ww.heap.size := by omega)); (try (have hmw_w_5 : w.heap.size + 5 ≤ ww.heap.size := by omega)); (try (have hlw_w_6 : w.heap.size + 6 < ww.heap.size := by omega)); (try (have hmw_w_6 : w.heap.size + 6 ≤ ww.heap.size := by omega))
      by_cases hlt : k < n
      · obtain ⟨b, o, x, rfl, hbl, hl, _, x0, x1⟩ := Tmr_at (HH.out.1.now hbw) hlt
        have hbl' : b < wr.heap.size := hbl
        have hil : ((l.take k).filter (fun x => !later now x)).length ≤ k := Nat.le_trans (List.length_filter_le _ _) (List.length_take_le _ _)
        have hir : ((l.take k).filter (later now)).length ≤ k := Nat.le_trans (List.length_filter_le _ _) (List.length_take_le _ _)
        have HO := Lib.hid (And.intro hown.out (And.intro hl (And.intro hil hir)))
        have hd := hown.out.1.lt
        have hr := hown.out.2.1.lt
        have HD := Lib.hid (And.intro hd hr)
        clear hbl hown hl hil hir hd hr
        by_cases hid : x.at_ ≤ now
        · have HI := Lib.hid hid
          go_wp2_with (at_builtin; refine wpList_append1b rfl (.tmp 27) (.tmp 29) 53 rfl w.heap.size 55 i0 (.agg #[.int .i64 0, .int .i64 0]) 2 16 Try.underlying53 hi0 iz0 iz1 iz2 rfl (by decide) _ _ _ rfl (HO.out.1.1.alloc _) [.int .i64 x.id, .int .i64 x.at_] 55 rfl _ rfl (by simp) rfl (by simp [Value.oneCell']) (by have := HO.out.2.2.1; omega) (by have := HO.out.2.2.1; unfold maxLen; omega) (by (try simp); omega) ?_; intro v' w3 hown3 hb3 hz3 hk3 hv3)
          go_roundw
          case rel =>
            refine ⟨k + 1, by omega, by go_num, Lib.hid ⟨?_, ?_, ?_⟩, Below.trans ((by repeat (first | with_reducible exact Below.refl _ _ | with_reducible assumption | with_reducible refine below_drewN ?_ _ | with_reducible refine Below.drew ?_ | with_reducible refine below_alloc0 ?_ | with_reducible refine below_alloc ?_ (by simp; try omega) | with_reducible refine below_set ?_ (by simp; try omega) | with_reducible refine below_chain ?_ (by assumption) | (with_reducible refine below_step ?_ (by assumption) (by simp; try omega))))) hb3⟩
            · rw [List.take_add_one, HO.out.2.1, List.filter_append]
              have e : later now x = false := by simp [later, HI.out]
              simp only [Option.toList, List.filter_cons, e, Bool.not_false, if_true, List.filter_nil, List.length_append, List.flatMap_append, List.length_cons, List.length_nil]
              exact hown3
            · rw [List.take_add_one, HO.out.2.1, List.filter_append]
              have e : later now x = false := by simp [later, HI.out]
              simp only [Option.toList, List.filter_cons, e, Bool.false_eq_true, if_false, List.filter_nil, List.append_nil]
              exact ownsRow_other (HO.out.1.2.1.alloc _) hk3 (fun g hg e => HO.out.1.2.2 g e hg)
            · intro g hg e
              rcases hv3 with hv3 | ⟨k', hv3, hk'⟩
              · rw [hv3] at hg
                exact HO.out.1.2.2 g hg e
              · rw [hv3] at hg
                cases hg
                have := (HD.out.2 _ e).2
                simp at hk'
                omega
          case measure => simp [intOf]; omega
        · have HI := Lib.hid hid
          go_wp2_with (at_builtin; refine wpList_append1b rfl (.tmp 31) (.tmp 33) 53 rfl w.heap.size 55 i0 (.agg #[.int .i64 0, .int .i64 0]) 2 16 Try.underlying53 hi0 iz0 iz1 iz2 rfl (by decide) _ _ _ rfl (HO.out.1.2.1.alloc _) [.int .i64 x.id, .int .i64 x.at_] 55 rfl _ rfl (by simp) rfl (by simp [Value.oneCell']) (by have := HO.out.2.2.2; omega) (by have := HO.out.2.2.2; unfold maxLen; omega) (by (try simp); omega) ?_; intro v' w3 hown3 hb3 hz3 hk3 hv3)
          go_roundw
          case rel =>
            refine ⟨k + 1, by omega, by go_num, Lib.hid ⟨?_, ?_, ?_⟩, Below.trans ((by repeat (first | with_reducible exact Below.refl _ _ | with_reducible assumption | with_reducible refine below_drewN ?_ _ | with_reducible refine Below.drew ?_ | with_reducible refine below_alloc0 ?_ | with_reducible refine below_alloc ?_ (by simp; try omega) | with_reducible refine below_set ?_ (by simp; try omega) | with_reducible refine below_chain ?_ (by assumption) | (with_reducible refine below_step ?_ (by assumption) (by simp; try omega))))) hb3⟩
            · rw [List.take_add_one, HO.out.2.1, List.filter_append]
              have e : later now x = true := by simp [later]; have := HI.out; omega
              simp only [Option.toList, List.filter_cons, e, Bool.not_true, Bool.false_eq_true, if_false, List.filter_nil, List.append_nil]
              exact ownsRow_other (HO.out.1.1.alloc _) hk3 (fun g hg e => HO.out.1.2.2 g hg e)
            · rw [List.take_add_one, HO.out.2.1, List.filter_append]
              have e : later now x = true := by simp [later]; have := HI.out; omega
              simp only [Option.toList, List.filter_cons, e, if_true, List.filter_nil, List.length_append, List.flatMap_append, List.length_cons, List.length_nil]
              exact hown3
            · intro g hg e
              rcases hv3 with hv3 | ⟨k', hv3, hk'⟩
              · rw [hv3] at e
                exact HO.out.1.2.2 g hg e
              · rw [hv3] at e
                cases e
                have := (HD.out.1 _ hg).2
                simp at hk'
                omega
          case measure => simp [intOf]; omega
      · have hkn : k = n := by omega
        subst hkn
        have etk : l.take k = l := List.take_of_length_le (by rw [HH.out.1.len]; exact Nat.le_refl _)
        rw [etk] at hown
        clear etk
        go_wp2_with fail
        refine bodyPost_ret (by simp [results, Try.results43, go_sem]; rfl) rfl ?_
        exact ⟨_, _, rfl, hown.out.1, hown.out.2.1, hbw⟩
  · have hb' : (tmrCheck l != 0) = true := by simpa using hb
    rw [tmrDue_bad hb]
    clear hb
    go_enter Try.func43, Try.ntmps43
    go_wp2_with fail
    refine (ref_TimersFault A n c l _ hn' (HH.out.1.now (by repeat (first | with_reducible exact Below.refl _ _ | with_reducible assumption | with_reducible refine below_drewN ?_ _ | with_reducible refine Below.drew ?_ | with_reducible refine below_alloc0 ?_ | with_reducible refine below_alloc ?_ (by simp; try omega) | with_reducible refine below_set ?_ (by simp; try omega) | with_reducible refine below_chain ?_ (by assumption) | (with_reducible refine below_step ?_ (by assumption) (by simp; try omega)))))).mono ?_; rintro e w1 ⟨rfl, hb1⟩; obtain ⟨hc1, hf1⟩ := bcell hb1; (try simp only [World.heap_drewN, World.cell?_drewN, World.frozen?_drewN] at hc1 hf1); have hz1 := hb1.size; (try simp at hz1); (try (have hy1 := Nat.lt_of_succ_le hz1)); (try (have hx1 := Nat.lt_of_succ_lt hy1)); (try (have hl1_w_0 : w.heap.size < w1.heap.size := by omega)); (try (have hm1_w_0 : w.heap.size ≤ w1.heap.size := by omega)); (try (have hl1_w_1 : w.heap.size + 1 < w1.heap.size := by omega)); (try (have hm1_w_1 : w.heap.size + 1 ≤ w1.heap.size := by omega)); (try (have hl1_w_2 : w.heap.size + 2 < w1.heap.size := by omega)); (try (have hm1_w_2 : w.heap.size + 2 ≤ w1.heap.size := by omega)); (try (have hl1_w_3 : w.heap.size + 3 < w1.heap.size := by omega)); (try (have hm1_w_3 : w.heap.size + 3 ≤ w1.heap.size := by omega)); (try (have hl1_w_4 : w.heap.size + 4 < w1.heap.size := by omega)); (try (have hm1_w_4 : w.heap.size + 4 ≤ w1.heap.size := by omega)); (try (have hl1_w_5 : w.heap.size + 5 < w1.heap.size := by omega)); (try (have hm1_w_5 : w.heap.size + 5 ≤ w1.heap.size := by omega)); (try (have hl1_w_6 : w.heap.size + 6 < w1.heap.size := by omega)); (try (have hm1_w_6 : w.heap.size + 6 ≤ w1.heap.size := by omega))
    go_wp2_with fail
    refine bodyPost_ret (v := .tuple #[.slice none 0 0, .slice none 0 0, .int .i64 (tmrCheck l)]) (by first | (simp [results, Try.results43, go_sem]; done) | (simp [results, Try.results43, go_sem, *]; done)) rfl ?_
    exact ⟨_, _, rfl, by simpa using World.ownsRow_nil _ _ _ _, by simpa using World.ownsRow_nil _ _ _ _, (by repeat (first | with_reducible exact Below.refl _ _ | with_reducible assumption | with_reducible refine below_drewN ?_ _ | with_reducible refine Below.drew ?_ | with_reducible refine below_alloc0 ?_ | with_reducible refine below_alloc ?_ (by simp; try omega) | with_reducible refine below_set ?_ (by simp; try omega) | with_reducible refine below_chain ?_ (by assumption) | (with_reducible refine below_step ?_ (by assumption) (by simp; try omega))))⟩
end Go.Proofs.Ytiplgdplfbeahaa
