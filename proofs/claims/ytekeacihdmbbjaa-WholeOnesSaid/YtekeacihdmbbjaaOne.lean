/- whole.One and the reference OneOf. -/
import Derived.Test.YtekeacihdmbbjaaEvB
import Derived.Test.YtekeacihdmbbjaaAsk
namespace Go.Proofs.Ytekeacihdmbbjaa
open Go.RowKit Go.Maps

def inV (f : Fld) (l : List Fct) : Val := (factV l f.name).getD ⟨0 + f.type, 0, ⟨#[]⟩⟩
def oneV (f : Fld) (ins orc kn : List Fct) : Val := if f.kind = 1 then inV f ins else if f.kind = 3 then askV orc f.name (evalRes kn f.source).1 else (evalRes kn f.source).1
theorem evalRes_size (l : List Fct) (x : Exp) : (evalRes l x).1.s.size ≤ maxLen := by
  unfold evalRes
  split
  · exact Nat.zero_le _
  · rename_i h
    split
    · exact Nat.zero_le _
    · rename_i h1
      have he : exprErr x = 0 := by simpa using h
      have hf : factsErr l = 0 := by simpa using h1
      have := val_size (evX_ok (factsErr_ok hf) x.nodes x (Nat.le_refl _) (prt_of_exprErr he))
      show (evX l x).s.size ≤ maxLen
      unfold maxLen; omega
abbrev Fld.cs (f : Fld) (X : Option Addr) (C : Nat) : List Value := [.string f.name, .int .i64 f.kind, .int .i64 f.type, .int .i64 f.source.op, .int .i64 f.source.v.k, .int .i64 f.source.v.n, .string f.source.v.s, .string f.source.name, .slice X f.source.args.length C]
theorem factV_hit' {l : List Fct} {nm : ByteArray} {k : Nat} {y : Fct} (h0 : (l.take k).any (sameName nm) = false) (h1 : l[k]? = some y) (h2 : sameName nm y = true) : factV l nm = some y.has := by
  unfold factV; rw [find_take h0 h1 h2]; rfl
theorem factV_none' {l : List Fct} {nm : ByteArray} (h0 : l.any (sameName nm) = false) : factV l nm = none := by
  unfold factV; rw [find_none _ _ h0]; rfl
def inD (f : Fld) (l : List Fct) (k : Nat) : Val := inV f (l.drop k)
theorem inD_hit {f : Fld} {l : List Fct} {k : Nat} {y : Fct} (h : l[k]? = some y) (hx : sameName f.name y = true) : inD f l k = y.has := by
  unfold inD inV factV; rw [drop_at h, List.find?_cons_of_pos hx]; rfl
theorem inD_miss {f : Fld} {l : List Fct} {k : Nat} {y : Fct} (h : l[k]? = some y) (hx : sameName f.name y = false) : inD f l k = inD f l (k + 1) := by
  unfold inD inV factV; rw [drop_at h, List.find?_cons_of_neg (by simp [hx])]
set_option maxRecDepth 100000 in
set_option maxHeartbeats 8000000 in
theorem whole_One (f : Fld) (X : Option Addr) (C : Nat) (A1 : Option Addr) (n1 c1 : Nat) (l1 : List Fct) (A2 : Option Addr) (n2 c2 : Nat) (l2 : List Fct) (A3 : Option Addr) (n3 c3 : Nat) (l3 : List Fct) (w : World) (hn1 : inL n1) (hn2 : inL n2) (hn3 : inL n3)
    (hf : RFld w (old w) (f.cs X C) f) (h1 : Sl w (old w) 7 RFct A1 n1 l1) (h2 : Sl w (old w) 7 RFct A2 n2 l2) (h3 : Sl w (old w) 7 RFct A3 n3 l3) :
    Calls Try.prog 52 #[.agg (f.cs X C).toArray, .slice A1 n1 c1, .slice A2 n2 c2, .slice A3 n3 c3] w (RetV w (oneV f l1 l2 l3)) := by
  obtain ⟨i1, i2, i3, xs, hxe, hx⟩ := hf
  injection hxe with _ hxe
  injection hxe with _ hxe
  injection hxe with _ hxe
  subst hxe
  by_cases hk : f.kind = 1
  · rw [show oneV f l1 l2 l3 = inV f l1 by unfold oneV; rw [if_pos hk]]
    have hkb : (f.kind == 1) = true := by rw [hk]; rfl
    obtain ⟨out, hout⟩ : ∃ v, inV f l1 = v := ⟨_, rfl⟩
    rw [hout]
    have HO := Lib.hid hout
    have HF := Lib.hid (And.intro h1 h1.len)
    unfold inL at hn1
    clear hk hx h1 h2 h3 i1 i2 i3 hout hn2 hn3
    go_enter Try.func52, Try.ntmps52
    go_wp2_with fail
    obtain ⟨W, hW⟩ : ∃ W, W = ((w.alloc (.cells #[.string f.name, .int .i64 f.kind, .int .i64 f.type, .int .i64 f.source.op, .int .i64 f.source.v.k, .int .i64 f.source.v.n, .string f.source.v.s, .string f.source.name, .slice X f.source.args.length C] 44)).alloc (.cells #[.int .i64 0, .int .i64 0, .string ⟨#[]⟩] 35)) := ⟨_, rfl⟩
    have hb0 : Below w.heap.size w W := by rw [hW]; exact bel
    have d0 : W.cell? ⟨w.heap.size, 0, none⟩ = some (.string f.name) := by rw [hW]; go_simp
    have d1 : W.cell? ⟨w.heap.size, 2, none⟩ = some (.int .i64 f.type) := by rw [hW]; go_simp
    have r0 : W.cell? ⟨w.heap.size + 1, 0, none⟩ = some (.int .i64 0) := by rw [hW]; go_simp
    have r1 : W.cell? ⟨w.heap.size + 1, 1, none⟩ = some (.int .i64 0) := by rw [hW]; go_simp
    have r2 : W.cell? ⟨w.heap.size + 1, 2, none⟩ = some (.string ⟨#[]⟩) := by rw [hW]; go_simp
    have q0 : W.frozen? ⟨w.heap.size + 1, 0, none⟩ = false := by rw [hW]; go_simp
    have q1 : W.frozen? ⟨w.heap.size + 1, 1, none⟩ = false := by rw [hW]; go_simp
    have q2 : W.frozen? ⟨w.heap.size + 1, 2, none⟩ = false := by rw [hW]; go_simp
    have hsz : w.heap.size + 2 ≤ W.heap.size := by rw [hW]; simp
    rw [← hW]
    clear hW
    have HB0 := Lib.hid hb0
    clear hb0
    go_loopw [18] (fun i wr => ∃ k : Nat, k ≤ n1 ∧ i = .int .i64 k ∧ Hid ((l1.take k).any (sameName f.name) = false) ∧ Below W.heap.size W wr) (fun i _ => n1 - (intOf i).toNat)
    case atStart => exact ⟨0, by omega, rfl, Lib.hid (by simp), Below.refl _ _⟩
    case round =>
      obtain ⟨k, hk, rfl, hz, hbr⟩ := hrel
      have HBr := Lib.hid (show Below w.heap.size w wr from below_step HB0.out hbr (by omega))
      have hw1 : w.heap.size < W.heap.size := by omega
      have hw2 : w.heap.size + 1 < W.heap.size := by omega
      obtain ⟨hcr, hfr⟩ := bcell hbr; (try simp only [World.heap_drewN, World.cell?_drewN, World.frozen?_drewN] at hcr hfr); have hzr := hbr.size; (try simp at hzr); (try (have hyr := Nat.lt_of_succ_le hzr)); (try (have hxr := Nat.lt_of_succ_lt hyr)); (try (have hlr_w_0 : w.heap.size < wr.heap.size := by omega)); (try (have hmr_w_0 : w.heap.size ≤ wr.heap.size := by omega)); (try (have hlr_w_1 : w.heap.size + 1 < wr.heap.size := by omega)); (try (have hmr_w_1 : w.heap.size + 1 ≤ wr.heap.size := by omega)); (try (have hlr_w_2 : w.heap.size + 2 < wr.heap.size := by omega)); (try (have hmr_w_2 : w.heap.size + 2 ≤ wr.heap.size := by omega)); (try (have hlr_w_3 : w.heap.size + 3 < wr.heap.size := by omega)); (try (have hmr_w_3 : w.heap.size + 3 ≤ wr.heap.size := by omega)); (try (have hlr_w_4 : w.heap.size + 4 < wr.heap.size := by omega)); (try (have hmr_w_4 : w.heap.size + 4 ≤ wr.heap.size := by omega)); (try (have hlr_w_5 : w.heap.size + 5 < wr.heap.size := by omega)); (try (have hmr_w_5 : w.heap.size + 5 ≤ wr.heap.size := by omega)); (try (have hlr_w_6 : w.heap.size + 6 < wr.heap.size := by omega)); (try (have hmr_w_6 : w.heap.size + 6 ≤ wr.heap.size := by omega)); (try (have hlr_W_0 : W.heap.size < wr.heap.size := by omega)); (try (have hmr_W_0 : W.heap.size ≤ wr.heap.size := by omega)); (try (have hlr_W_1 : W.heap.size + 1 < wr.heap.size := by omega)); (try (have hmr_W_1 : W.heap.size + 1 ≤ wr.heap.size := by omega)); (try (have hlr_W_2 : W.heap.size + 2 < wr.heap.size := by omega)); (try (have hmr_W_2 : W.heap.size + 2 ≤ wr.heap.size := by omega)); (try (have hlr_W_3 : W.heap.size + 3 < wr.heap.size := by omega)); (try (have hmr_W_3 : W.heap.size + 3 ≤ wr.heap.size := by omega)); (try (have hlr_W_4 : W.heap.size + 4 < wr.heap.size := by omega)); (try (have hmr_W_4 : W.heap.size + 4 ≤ wr.heap.size := by omega)); (try (have hlr_W_5 : W.heap.size + 5 < wr.heap.size := by omega)); (try (have hmr_W_5 : W.heap.size + 5 ≤ wr.heap.size := by omega)); (try (have hlr_W_6 : W.heap.size + 6 < wr.heap.size := by omega)); (try (have hmr_W_6 : W.heap.size + 6 ≤ wr.heap.size := by omega))
      by_cases hlt : k < n1
      · obtain ⟨b, o, y, hFe, hbl, hy, hwf, x0, x1, x2, x3, x4, x5, x6⟩ := Fct_at (HF.out.1.now HBr.out) hlt
        subst hFe
        have hbl' : b < wr.heap.size := hbl
        have HL := Lib.hid hy
        have hsn : sameName f.name y = (y.name.toList == f.name.toList) := rfl
        clear hy hwf hbl
        cases hp : (y.name.toList == f.name.toList)
        · have HP := Lib.hid (hsn.trans hp)
          clear hsn
          go_wp2_with fail
          go_roundw
          case rel => exact ⟨k + 1, by omega, by go_num, Lib.hid (any_next hz.out HL.out HP.out), bel⟩
          case measure => simp [intOf]; omega
        · have HD := Lib.hid (show y.has = out by rw [← HO.out]; unfold inV; rw [factV_hit' hz.out HL.out (hsn.trans hp)]; rfl)
          have hBw := HBr.out
          clear hsn
          go_wp2_with fail
          exact bodyPost_ret (v := .agg #[.int .i64 y.has.k, .int .i64 y.has.n, .string y.has.s]) (by first | (simp [results, Try.results52, go_sem]; done) | (simp [results, Try.results52, go_sem, *]; done)) rfl ⟨by rw [HD.out], bel⟩
      · have hke : k = n1 := by omega
        subst hke
        have HD := Lib.hid (show (⟨0 + f.type, 0, ⟨#[]⟩⟩ : Val) = out by rw [← HO.out]; unfold inV; rw [factV_none' (by have h := hz.out; rwa [List.take_of_length_le (by rw [HF.out.2]; exact Nat.le_refl _)] at h)]; rfl)
        have hBw := HBr.out
        go_wp2_with fail
        exact bodyPost_ret (v := .agg #[.int .i64 f.type, .int .i64 0, .string ⟨#[]⟩]) (by first | (simp [results, Try.results52, go_sem]; done) | (simp [results, Try.results52, go_sem, *]; done)) rfl ⟨by rw [← HD.out]; simp, bel⟩
  · have hkb : (f.kind == 1) = false := by simpa using hk
    have ho := fun w h h' => eval_Of l3 A3 n3 c3 f.source X C w hn3 h h'
    have hsz := evalRes_size l3 f.source
    have HH := Lib.hid (And.intro hx (And.intro h2 h3))
    rw [show oneV f l1 l2 l3 = if f.kind = 3 then askV l2 f.name (evalRes l3 f.source).1 else (evalRes l3 f.source).1 by unfold oneV; rw [if_neg hk]]
    generalize evalRes l3 f.source = r at ho hsz
    obtain ⟨v, e0⟩ := r
    dsimp only at hsz
    by_cases hk3 : f.kind = 3
    · have hk3b : (f.kind == 3) = true := by rw [hk3]; rfl
      rw [if_pos hk3]
      have ha := fun w h => whole_Asked A2 n2 c2 l2 f.name v w hn2 hsz h
      generalize askV l2 f.name v = u at ha
      clear hk hk3 hx h1 h2 h3 i1 i2 i3 hsz
      go_enter Try.func52, Try.ntmps52
      go_wp2_with (first
        | (go_at_call 50; refine (ho _ (HH.out.1.keep (old_keep bel)) (HH.out.2.2.now bel)).mono ?_; rintro e w1 ⟨rfl, hb1⟩; obtain ⟨hc1, hf1⟩ := bcell hb1; (try simp only [World.heap_drewN, World.cell?_drewN, World.frozen?_drewN] at hc1 hf1); have hz1 := hb1.size; (try simp at hz1); (try (have hy1 := Nat.lt_of_succ_le hz1)); (try (have hx1 := Nat.lt_of_succ_lt hy1)); (try (have hl1_w_0 : w.heap.size < w1.heap.size := by omega)); (try (have hm1_w_0 : w.heap.size ≤ w1.heap.size := by omega)); (try (have hl1_w_1 : w.heap.size + 1 < w1.heap.size := by omega)); (try (have hm1_w_1 : w.heap.size + 1 ≤ w1.heap.size := by omega)); (try (have hl1_w_2 : w.heap.size + 2 < w1.heap.size := by omega)); (try (have hm1_w_2 : w.heap.size + 2 ≤ w1.heap.size := by omega)); (try (have hl1_w_3 : w.heap.size + 3 < w1.heap.size := by omega)); (try (have hm1_w_3 : w.heap.size + 3 ≤ w1.heap.size := by omega)); (try (have hl1_w_4 : w.heap.size + 4 < w1.heap.size := by omega)); (try (have hm1_w_4 : w.heap.size + 4 ≤ w1.heap.size := by omega)); (try (have hl1_w_5 : w.heap.size + 5 < w1.heap.size := by omega)); (try (have hm1_w_5 : w.heap.size + 5 ≤ w1.heap.size := by omega)); (try (have hl1_w_6 : w.heap.size + 6 < w1.heap.size := by omega)); (try (have hm1_w_6 : w.heap.size + 6 ≤ w1.heap.size := by omega)); dsimp only)
        | (go_at_call 38; refine (ha _ (HH.out.2.1.now bel)).mono ?_; rintro e w2 ⟨rfl, hb2⟩; obtain ⟨hc2, hf2⟩ := bcell hb2; (try simp only [World.heap_drewN, World.cell?_drewN, World.frozen?_drewN] at hc2 hf2); have hz2 := hb2.size; (try simp at hz2); (try (have hy2 := Nat.lt_of_succ_le hz2)); (try (have hx2 := Nat.lt_of_succ_lt hy2)); (try (have hl2_w_0 : w.heap.size < w2.heap.size := by omega)); (try (have hm2_w_0 : w.heap.size ≤ w2.heap.size := by omega)); (try (have hl2_w_1 : w.heap.size + 1 < w2.heap.size := by omega)); (try (have hm2_w_1 : w.heap.size + 1 ≤ w2.heap.size := by omega)); (try (have hl2_w_2 : w.heap.size + 2 < w2.heap.size := by omega)); (try (have hm2_w_2 : w.heap.size + 2 ≤ w2.heap.size := by omega)); (try (have hl2_w_3 : w.heap.size + 3 < w2.heap.size := by omega)); (try (have hm2_w_3 : w.heap.size + 3 ≤ w2.heap.size := by omega)); (try (have hl2_w_4 : w.heap.size + 4 < w2.heap.size := by omega)); (try (have hm2_w_4 : w.heap.size + 4 ≤ w2.heap.size := by omega)); (try (have hl2_w_5 : w.heap.size + 5 < w2.heap.size := by omega)); (try (have hm2_w_5 : w.heap.size + 5 ≤ w2.heap.size := by omega)); (try (have hl2_w_6 : w.heap.size + 6 < w2.heap.size := by omega)); (try (have hm2_w_6 : w.heap.size + 6 ≤ w2.heap.size := by omega)); (try (have hl2_w1_0 : w1.heap.size < w2.heap.size := by omega)); (try (have hm2_w1_0 : w1.heap.size ≤ w2.heap.size := by omega)); (try (have hl2_w1_1 : w1.heap.size + 1 < w2.heap.size := by omega)); (try (have hm2_w1_1 : w1.heap.size + 1 ≤ w2.heap.size := by omega)); (try (have hl2_w1_2 : w1.heap.size + 2 < w2.heap.size := by omega)); (try (have hm2_w1_2 : w1.heap.size + 2 ≤ w2.heap.size := by omega)); (try (have hl2_w1_3 : w1.heap.size + 3 < w2.heap.size := by omega)); (try (have hm2_w1_3 : w1.heap.size + 3 ≤ w2.heap.size := by omega)); (try (have hl2_w1_4 : w1.heap.size + 4 < w2.heap.size := by omega)); (try (have hm2_w1_4 : w1.heap.size + 4 ≤ w2.heap.size := by omega)); (try (have hl2_w1_5 : w1.heap.size + 5 < w2.heap.size := by omega)); (try (have hm2_w1_5 : w1.heap.size + 5 ≤ w2.heap.size := by omega)); (try (have hl2_w1_6 : w1.heap.size + 6 < w2.heap.size := by omega)); (try (have hm2_w1_6 : w1.heap.size + 6 ≤ w2.heap.size := by omega)); dsimp only))
      exact bodyPost_ret (v := .agg #[.int .i64 u.k, .int .i64 u.n, .string u.s]) (by first | (simp [results, Try.results52, go_sem]; done) | (simp [results, Try.results52, go_sem, *]; done)) rfl ⟨rfl, bel⟩
    · have hk3b : (f.kind == 3) = false := by simpa using hk3
      rw [if_neg hk3]
      clear hk hk3 hx h1 h2 h3 i1 i2 i3 hsz
      go_enter Try.func52, Try.ntmps52
      go_wp2_with (go_at_call 50; refine (ho _ (HH.out.1.keep (old_keep bel)) (HH.out.2.2.now bel)).mono ?_; rintro e w1 ⟨rfl, hb1⟩; obtain ⟨hc1, hf1⟩ := bcell hb1; (try simp only [World.heap_drewN, World.cell?_drewN, World.frozen?_drewN] at hc1 hf1); have hz1 := hb1.size; (try simp at hz1); (try (have hy1 := Nat.lt_of_succ_le hz1)); (try (have hx1 := Nat.lt_of_succ_lt hy1)); (try (have hl1_w_0 : w.heap.size < w1.heap.size := by omega)); (try (have hm1_w_0 : w.heap.size ≤ w1.heap.size := by omega)); (try (have hl1_w_1 : w.heap.size + 1 < w1.heap.size := by omega)); (try (have hm1_w_1 : w.heap.size + 1 ≤ w1.heap.size := by omega)); (try (have hl1_w_2 : w.heap.size + 2 < w1.heap.size := by omega)); (try (have hm1_w_2 : w.heap.size + 2 ≤ w1.heap.size := by omega)); (try (have hl1_w_3 : w.heap.size + 3 < w1.heap.size := by omega)); (try (have hm1_w_3 : w.heap.size + 3 ≤ w1.heap.size := by omega)); (try (have hl1_w_4 : w.heap.size + 4 < w1.heap.size := by omega)); (try (have hm1_w_4 : w.heap.size + 4 ≤ w1.heap.size := by omega)); (try (have hl1_w_5 : w.heap.size + 5 < w1.heap.size := by omega)); (try (have hm1_w_5 : w.heap.size + 5 ≤ w1.heap.size := by omega)); (try (have hl1_w_6 : w.heap.size + 6 < w1.heap.size := by omega)); (try (have hm1_w_6 : w.heap.size + 6 ≤ w1.heap.size := by omega)); dsimp only)
      exact bodyPost_ret (v := .agg #[.int .i64 v.k, .int .i64 v.n, .string v.s]) (by first | (simp [results, Try.results52, go_sem]; done) | (simp [results, Try.results52, go_sem, *]; done)) rfl ⟨rfl, bel⟩
set_option maxRecDepth 100000 in
set_option maxHeartbeats 8000000 in
theorem ref_OneOf (f : Fld) (X : Option Addr) (C : Nat) (A1 : Option Addr) (n1 c1 : Nat) (l1 : List Fct) (A2 : Option Addr) (n2 c2 : Nat) (l2 : List Fct) (A3 : Option Addr) (n3 c3 : Nat) (l3 : List Fct) (w : World) (hn1 : inL n1) (hn2 : inL n2) (hn3 : inL n3)
    (hf : RFld w (old w) (f.cs X C) f) (h1 : Sl w (old w) 7 RFct A1 n1 l1) (h2 : Sl w (old w) 7 RFct A2 n2 l2) (h3 : Sl w (old w) 7 RFct A3 n3 l3) :
    Calls Try.prog 53 #[.agg (f.cs X C).toArray, .slice A1 n1 c1, .slice A2 n2 c2, .slice A3 n3 c3] w (RetV w (oneV f l1 l2 l3)) := by
  obtain ⟨i1, i2, i3, xs, hxe, hx⟩ := hf
  injection hxe with _ hxe
  injection hxe with _ hxe
  injection hxe with _ hxe
  subst hxe
  by_cases hk : f.kind = 1
  · rw [show oneV f l1 l2 l3 = inV f l1 by unfold oneV; rw [if_pos hk]]
    have hkb : (f.kind == 1) = true := by rw [hk]; rfl
    obtain ⟨out, hout⟩ : ∃ v, inV f l1 = v := ⟨_, rfl⟩
    rw [hout]
    have HO := Lib.hid hout
    have HF := Lib.hid (And.intro h1 h1.len)
    unfold inL at hn1
    clear hk hx h1 h2 h3 i1 i2 i3 hout hn2 hn3
    go_enter Try.func53, Try.ntmps53
    go_wp2_with fail
    obtain ⟨W, hW⟩ : ∃ W, W = ((w.alloc (.cells #[.string f.name, .int .i64 f.kind, .int .i64 f.type, .int .i64 f.source.op, .int .i64 f.source.v.k, .int .i64 f.source.v.n, .string f.source.v.s, .string f.source.name, .slice X f.source.args.length C] 44)).alloc (.cells #[.int .i64 0, .int .i64 0, .string ⟨#[]⟩] 35)) := ⟨_, rfl⟩
    have hb0 : Below w.heap.size w W := by rw [hW]; exact bel
    have d0 : W.cell? ⟨w.heap.size, 0, none⟩ = some (.string f.name) := by rw [hW]; go_simp
    have d1 : W.cell? ⟨w.heap.size, 2, none⟩ = some (.int .i64 f.type) := by rw [hW]; go_simp
    have r0 : W.cell? ⟨w.heap.size + 1, 0, none⟩ = some (.int .i64 0) := by rw [hW]; go_simp
    have r1 : W.cell? ⟨w.heap.size + 1, 1, none⟩ = some (.int .i64 0) := by rw [hW]; go_simp
    have r2 : W.cell? ⟨w.heap.size + 1, 2, none⟩ = some (.string ⟨#[]⟩) := by rw [hW]; go_simp
    have q0 : W.frozen? ⟨w.heap.size + 1, 0, none⟩ = false := by rw [hW]; go_simp
    have q1 : W.frozen? ⟨w.heap.size + 1, 1, none⟩ = false := by rw [hW]; go_simp
    have q2 : W.frozen? ⟨w.heap.size + 1, 2, none⟩ = false := by rw [hW]; go_simp
    have hsz : W.heap.size = w.heap.size + 2 := by rw [hW]; simp
    have hsz1 : w.heap.size + 2 = W.heap.size := hsz.symm
    have HZ := Lib.hid hsz
    rw [← hW]
    clear hW hsz
    simp only [hsz1]
    have HB0 := Lib.hid hb0
    clear hb0 hsz1
    have hw1 : w.heap.size < W.heap.size := by have := HZ.out; omega
    have hw2 : w.heap.size + 1 < W.heap.size := by have := HZ.out; omega
    go_loopw [10] (fun i wr => ∃ (k : Nat) (v : Val), k ≤ n1 ∧ i = .int .i64 ((k : Int) - 1) ∧ Hid (inD f l1 k = v) ∧ wr.cell? ⟨W.heap.size, 0, none⟩ = some (.int .i64 v.k) ∧ wr.cell? ⟨W.heap.size, 1, none⟩ = some (.int .i64 v.n) ∧ wr.cell? ⟨W.heap.size, 2, none⟩ = some (.string v.s) ∧ (wr.frozen? ⟨W.heap.size, 0, none⟩ = false ∧ wr.frozen? ⟨W.heap.size, 1, none⟩ = false ∧ wr.frozen? ⟨W.heap.size, 2, none⟩ = false) ∧ Below W.heap.size W wr ∧ W.heap.size < wr.heap.size) (fun i _ => (intOf i + 1).toNat)
    case atStart => exact ⟨n1, ⟨0 + f.type, 0, ⟨#[]⟩⟩, Nat.le_refl _, rfl, Lib.hid (by unfold inD inV factV; rw [List.drop_of_length_le (by rw [HF.out.2]; exact Nat.le_refl _)]; rfl), by go_simp, by go_simp, by go_simp, by go_simp, bel, by simp⟩
    case round =>
      obtain ⟨k, v, hk', hi, hz, v0, v1, v2, ⟨u0, u1, u2⟩, hbr, hsz⟩ := hrel
      have HBr := Lib.hid (show Below w.heap.size w wr from below_step HB0.out hbr (by omega))
      obtain ⟨hcr, hfr⟩ := bcell hbr; (try simp only [World.heap_drewN, World.cell?_drewN, World.frozen?_drewN] at hcr hfr); have hzr := hbr.size; (try simp at hzr); (try (have hyr := Nat.lt_of_succ_le hzr)); (try (have hxr := Nat.lt_of_succ_lt hyr)); (try (have hlr_w_0 : w.heap.size < wr.heap.size := by omega)); (try (have hmr_w_0 : w.heap.size ≤ wr.heap.size := by omega)); (try (have hlr_w_1 : w.heap.size + 1 < wr.heap.size := by omega)); (try (have hmr_w_1 : w.heap.size + 1 ≤ wr.heap.size := by omega)); (try (have hlr_w_2 : w.heap.size + 2 < wr.heap.size := by omega)); (try (have hmr_w_2 : w.heap.size + 2 ≤ wr.heap.size := by omega)); (try (have hlr_w_3 : w.heap.size + 3 < wr.heap.size := by omega)); (try (have hmr_w_3 : w.heap.size + 3 ≤ wr.heap.size := by omega)); (try (have hlr_w_4 : w.heap.size + 4 < wr.heap.size := by omega)); (try (have hmr_w_4 : w.heap.size + 4 ≤ wr.heap.size := by omega)); (try (have hlr_w_5 : w.heap.size + 5 < wr.heap.size := by omega)); (try (have hmr_w_5 : w.heap.size + 5 ≤ wr.heap.size := by omega)); (try (have hlr_w_6 : w.heap.size + 6 < wr.heap.size := by omega)); (try (have hmr_w_6 : w.heap.size + 6 ≤ wr.heap.size := by omega)); (try (have hlr_W_0 : W.heap.size < wr.heap.size := by omega)); (try (have hmr_W_0 : W.heap.size ≤ wr.heap.size := by omega)); (try (have hlr_W_1 : W.heap.size + 1 < wr.heap.size := by omega)); (try (have hmr_W_1 : W.heap.size + 1 ≤ wr.heap.size := by omega)); (try (have hlr_W_2 : W.heap.size + 2 < wr.heap.size := by omega)); (try (have hmr_W_2 : W.heap.size + 2 ≤ wr.heap.size := by omega)); (try (have hlr_W_3 : W.heap.size + 3 < wr.heap.size := by omega)); (try (have hmr_W_3 : W.heap.size + 3 ≤ wr.heap.size := by omega)); (try (have hlr_W_4 : W.heap.size + 4 < wr.heap.size := by omega)); (try (have hmr_W_4 : W.heap.size + 4 ≤ wr.heap.size := by omega)); (try (have hlr_W_5 : W.heap.size + 5 < wr.heap.size := by omega)); (try (have hmr_W_5 : W.heap.size + 5 ≤ wr.heap.size := by omega)); (try (have hlr_W_6 : W.heap.size + 6 < wr.heap.size := by omega)); (try (have hmr_W_6 : W.heap.size + 6 ≤ wr.heap.size := by omega))
      rcases k with _ | m
      · have hi' := hi.trans (congrArg (Value.int .i64) (by omega : ((0 : Nat) : Int) - 1 = -1))
        clear hi
        subst hi'
        have HE := Lib.hid (show v = out by rw [← hz.out, ← HO.out]; rfl)
        have hBw := HBr.out
        go_wp2_with fail
        exact bodyPost_ret (v := .agg #[.int .i64 v.k, .int .i64 v.n, .string v.s]) (by first | (simp [results, Try.results53, go_sem]; done) | (simp [results, Try.results53, go_sem, *]; done)) rfl ⟨by rw [HE.out], bel⟩
      · have hi' := hi.trans (congrArg (Value.int .i64) (by omega : ((m + 1 : Nat) : Int) - 1 = (m : Int)))
        clear hi
        subst hi'
        obtain ⟨b, o, y, hFe, hbl, hl, hwf, x0, x1, x2, x3, x4, x5, x6⟩ := Fct_at (HF.out.1.now HBr.out) (show m < n1 by omega)
        subst hFe
        have hbl' : b < wr.heap.size := hbl
        have HL := Lib.hid hl
        have hsn : sameName f.name y = (y.name.toList == f.name.toList) := rfl
        clear hl hwf hbl
        cases hp : (y.name.toList == f.name.toList)
        · have HP := Lib.hid (show inD f l1 m = v by rw [inD_miss HL.out (hsn.trans hp)]; exact hz.out)
          clear hsn
          go_wp2_with fail
          go_quiet (fail)
          go_wp2_with fail
          go_roundw
          case rel => exact ⟨m, v, by omega, by go_num, HP, by go_simp, by go_simp, by go_simp, by go_simp, bel, by simp; omega⟩
          case measure => simp [intOf]
        · have HP := Lib.hid (show inD f l1 m = y.has from inD_hit HL.out (hsn.trans hp))
          clear hsn
          go_wp2_with fail
          go_quiet (fail)
          go_wp2_with fail
          go_roundw
          case rel => exact ⟨m, y.has, by omega, by go_num, HP, by go_simp, by go_simp, by go_simp, by go_simp, bel, by simp; omega⟩
          case measure => simp [intOf]
  · have hkb : (f.kind == 1) = false := by simpa using hk
    have ho := fun w h h' => ref_ValueBy l3 A3 n3 c3 f.source X C w hn3 h h'
    have hsz := evalRes_size l3 f.source
    have HH := Lib.hid (And.intro hx (And.intro h2 h3))
    rw [show oneV f l1 l2 l3 = if f.kind = 3 then askV l2 f.name (evalRes l3 f.source).1 else (evalRes l3 f.source).1 by unfold oneV; rw [if_neg hk]]
    generalize evalRes l3 f.source = r at ho hsz
    obtain ⟨v, e0⟩ := r
    dsimp only at hsz
    by_cases hk3 : f.kind = 3
    · have hk3b : (f.kind == 3) = true := by rw [hk3]; rfl
      rw [if_pos hk3]
      have ha := fun w h => ref_AskedOf A2 n2 c2 l2 f.name v w hn2 hsz h
      generalize askV l2 f.name v = u at ha
      clear hk hk3 hx h1 h2 h3 i1 i2 i3 hsz
      go_enter Try.func53, Try.ntmps53
      go_wp2_with (first
        | (go_at_call 51; refine (ho _ (HH.out.1.keep (old_keep bel)) (HH.out.2.2.now bel)).mono ?_; rintro e w1 ⟨rfl, hb1⟩; obtain ⟨hc1, hf1⟩ := bcell hb1; (try simp only [World.heap_drewN, World.cell?_drewN, World.frozen?_drewN] at hc1 hf1); have hz1 := hb1.size; (try simp at hz1); (try (have hy1 := Nat.lt_of_succ_le hz1)); (try (have hx1 := Nat.lt_of_succ_lt hy1)); (try (have hl1_w_0 : w.heap.size < w1.heap.size := by omega)); (try (have hm1_w_0 : w.heap.size ≤ w1.heap.size := by omega)); (try (have hl1_w_1 : w.heap.size + 1 < w1.heap.size := by omega)); (try (have hm1_w_1 : w.heap.size + 1 ≤ w1.heap.size := by omega)); (try (have hl1_w_2 : w.heap.size + 2 < w1.heap.size := by omega)); (try (have hm1_w_2 : w.heap.size + 2 ≤ w1.heap.size := by omega)); (try (have hl1_w_3 : w.heap.size + 3 < w1.heap.size := by omega)); (try (have hm1_w_3 : w.heap.size + 3 ≤ w1.heap.size := by omega)); (try (have hl1_w_4 : w.heap.size + 4 < w1.heap.size := by omega)); (try (have hm1_w_4 : w.heap.size + 4 ≤ w1.heap.size := by omega)); (try (have hl1_w_5 : w.heap.size + 5 < w1.heap.size := by omega)); (try (have hm1_w_5 : w.heap.size + 5 ≤ w1.heap.size := by omega)); (try (have hl1_w_6 : w.heap.size + 6 < w1.heap.size := by omega)); (try (have hm1_w_6 : w.heap.size + 6 ≤ w1.heap.size := by omega)); dsimp only)
        | (go_at_call 40; refine (ha _ (HH.out.2.1.now bel)).mono ?_; rintro e w2 ⟨rfl, hb2⟩; obtain ⟨hc2, hf2⟩ := bcell hb2; (try simp only [World.heap_drewN, World.cell?_drewN, World.frozen?_drewN] at hc2 hf2); have hz2 := hb2.size; (try simp at hz2); (try (have hy2 := Nat.lt_of_succ_le hz2)); (try (have hx2 := Nat.lt_of_succ_lt hy2)); (try (have hl2_w_0 : w.heap.size < w2.heap.size := by omega)); (try (have hm2_w_0 : w.heap.size ≤ w2.heap.size := by omega)); (try (have hl2_w_1 : w.heap.size + 1 < w2.heap.size := by omega)); (try (have hm2_w_1 : w.heap.size + 1 ≤ w2.heap.size := by omega)); (try (have hl2_w_2 : w.heap.size + 2 < w2.heap.size := by omega)); (try (have hm2_w_2 : w.heap.size + 2 ≤ w2.heap.size := by omega)); (try (have hl2_w_3 : w.heap.size + 3 < w2.heap.size := by omega)); (try (have hm2_w_3 : w.heap.size + 3 ≤ w2.heap.size := by omega)); (try (have hl2_w_4 : w.heap.size + 4 < w2.heap.size := by omega)); (try (have hm2_w_4 : w.heap.size + 4 ≤ w2.heap.size := by omega)); (try (have hl2_w_5 : w.heap.size + 5 < w2.heap.size := by omega)); (try (have hm2_w_5 : w.heap.size + 5 ≤ w2.heap.size := by omega)); (try (have hl2_w_6 : w.heap.size + 6 < w2.heap.size := by omega)); (try (have hm2_w_6 : w.heap.size + 6 ≤ w2.heap.size := by omega)); (try (have hl2_w1_0 : w1.heap.size < w2.heap.size := by omega)); (try (have hm2_w1_0 : w1.heap.size ≤ w2.heap.size := by omega)); (try (have hl2_w1_1 : w1.heap.size + 1 < w2.heap.size := by omega)); (try (have hm2_w1_1 : w1.heap.size + 1 ≤ w2.heap.size := by omega)); (try (have hl2_w1_2 : w1.heap.size + 2 < w2.heap.size := by omega)); (try (have hm2_w1_2 : w1.heap.size + 2 ≤ w2.heap.size := by omega)); (try (have hl2_w1_3 : w1.heap.size + 3 < w2.heap.size := by omega)); (try (have hm2_w1_3 : w1.heap.size + 3 ≤ w2.heap.size := by omega)); (try (have hl2_w1_4 : w1.heap.size + 4 < w2.heap.size := by omega)); (try (have hm2_w1_4 : w1.heap.size + 4 ≤ w2.heap.size := by omega)); (try (have hl2_w1_5 : w1.heap.size + 5 < w2.heap.size := by omega)); (try (have hm2_w1_5 : w1.heap.size + 5 ≤ w2.heap.size := by omega)); (try (have hl2_w1_6 : w1.heap.size + 6 < w2.heap.size := by omega)); (try (have hm2_w1_6 : w1.heap.size + 6 ≤ w2.heap.size := by omega)); dsimp only))
      exact bodyPost_ret (v := .agg #[.int .i64 u.k, .int .i64 u.n, .string u.s]) (by first | (simp [results, Try.results53, go_sem]; done) | (simp [results, Try.results53, go_sem, *]; done)) rfl ⟨rfl, bel⟩
    · have hk3b : (f.kind == 3) = false := by simpa using hk3
      rw [if_neg hk3]
      clear hk hk3 hx h1 h2 h3 i1 i2 i3 hsz
      go_enter Try.func53, Try.ntmps53
      go_wp2_with (go_at_call 51; refine (ho _ (HH.out.1.keep (old_keep bel)) (HH.out.2.2.now bel)).mono ?_; rintro e w1 ⟨rfl, hb1⟩; obtain ⟨hc1, hf1⟩ := bcell hb1; (try simp only [World.heap_drewN, World.cell?_drewN, World.frozen?_drewN] at hc1 hf1); have hz1 := hb1.size; (try simp at hz1); (try (have hy1 := Nat.lt_of_succ_le hz1)); (try (have hx1 := Nat.lt_of_succ_lt hy1)); (try (have hl1_w_0 : w.heap.size < w1.heap.size := by omega)); (try (have hm1_w_0 : w.heap.size ≤ w1.heap.size := by omega)); (try (have hl1_w_1 : w.heap.size + 1 < w1.heap.size := by omega)); (try (have hm1_w_1 : w.heap.size + 1 ≤ w1.heap.size := by omega)); (try (have hl1_w_2 : w.heap.size + 2 < w1.heap.size := by omega)); (try (have hm1_w_2 : w.heap.size + 2 ≤ w1.heap.size := by omega)); (try (have hl1_w_3 : w.heap.size + 3 < w1.heap.size := by omega)); (try (have hm1_w_3 : w.heap.size + 3 ≤ w1.heap.size := by omega)); (try (have hl1_w_4 : w.heap.size + 4 < w1.heap.size := by omega)); (try (have hm1_w_4 : w.heap.size + 4 ≤ w1.heap.size := by omega)); (try (have hl1_w_5 : w.heap.size + 5 < w1.heap.size := by omega)); (try (have hm1_w_5 : w.heap.size + 5 ≤ w1.heap.size := by omega)); (try (have hl1_w_6 : w.heap.size + 6 < w1.heap.size := by omega)); (try (have hm1_w_6 : w.heap.size + 6 ≤ w1.heap.size := by omega)); dsimp only)
      exact bodyPost_ret (v := .agg #[.int .i64 v.k, .int .i64 v.n, .string v.s]) (by first | (simp [results, Try.results53, go_sem]; done) | (simp [results, Try.results53, go_sem, *]; done)) rfl ⟨rfl, bel⟩
end Go.Proofs.Ytekeacihdmbbjaa
