/- Texts merged (mergeh.py): LawKit Open Evo FolP Nam1 Nam2 NIt Nam3 Ris Fol Fol2. -/
import Derived.Test.YtgmcojnhpedpnaaGreatRows
import Derived.ProofKit
import Derived.SizedLaws
import Derived.Deep.CondSized
import Derived.Test.YtgmcojnhpedpnaaGreatTypes
import Derived.Test.YtgmcojnhpedpnaaGreatMacP
import Derived.Test.YtgmcojnhpedpnaaGreatPrt3
import Derived.Test.YtgmcojnhpedpnaaGreatNamP
import Derived.Test.YtgmcojnhpedpnaaGreatBkw
import Derived.Test.YtgmcojnhpedpnaaGreatCop
import Derived.Laws.EntriesVeiled
import Derived.Test.YtgmcojnhpedpnaaGreatIterL
import Derived.Test.YtgmcojnhpedpnaaGreatMp
import Derived.Sort.KeysCollected
import Derived.Test.YtgmcojnhpedpnaaGreatPrt4
/- What every law's proof shares: the row's frame, once for all: from 'the call returns true and what was there before stays' to the given statement's form. -/
namespace Go.Proofs.YtgmcojnhpedpnaaGreat
open Go.ChangeShapes Go.WideShapes Go.ChangeAt Go.RowKit

theorem Tryz.own : ownKnob Tryz.prog.godebug = none := by kernel_rfl
theorem Tryz.laidOut : laidOutB Tryz.prog = true := by kernel_rfl

theorem trodAll_below {H : Type} {enc : TypeId × Value → H} {W W' : World} (hb : Below W.heap.size W W') :
    ∀ (ts : List TypeId) (vs : List Value) (ds : List (DataW H)) (ps : List MemPlace), (∀ t ∈ ts, Tryz.prog.readableRec t = true ∧ t < Tryz.prog.types.size) →
      DataW.TrodAll enc Tryz.prog W 0 (fun _ => true) true ts vs ds ps → (∀ x ∈ ps, x.block < W.heap.size) →
      DataW.TrodAll enc Tryz.prog W' 0 (fun b => decide (b < W.heap.size)) true ts vs ds ps
  | [], [], [], ps, _, h, _ => h
  | t :: ts, v :: vs, d :: ds, ps, hr, h, hlt => by
    obtain ⟨p, q, h1, h2, rfl⟩ := h
    exact ⟨p, q, Below.trod Tryz.laidOut (hr t (by simp)).1 (hr t (by simp)).2 h1 hb (fun x hx => hlt x (by simp [hx])),
      trodAll_below hb ts vs ds q (fun t ht => hr t (by simp [ht])) h2 (fun x hx => hlt x (by simp [hx])), rfl⟩
  | [], _ :: _, _, _, _, h, _ => h.elim
  | [], [], _ :: _, _, _, h, _ => h.elim
  | _ :: _, [], _, _, _, h, _ => h.elim
  | _ :: _, _ :: _, [], _, _, h, _ => h.elim

theorem trodAll_length {H : Type} {enc : TypeId × Value → H} {W : World} {sp : Nat → Bool} {b : Nat} {hd : Bool} : ∀ {ts : List TypeId} {vs : List Value} {ds : List (DataW H)} {ps : List MemPlace},
    DataW.TrodAll enc Tryz.prog W b sp hd ts vs ds ps → ds.length = ts.length
  | [], [], [], _, _ => rfl
  | t :: ts, v :: vs, d :: ds, _, h => by
    obtain ⟨p, q, _, h2, _⟩ := h
    simp [trodAll_length h2]
  | [], _ :: _, _, _, h => h.elim
  | [], [], _ :: _, _, h => h.elim
  | _ :: _, [], _, _, h => h.elim
  | _ :: _, _ :: _, [], _, h => h.elim

theorem law_post {H : Type} {enc : TypeId × Value → H} {f : Func} {s : ChangeSpec} {W W' : World} {args : Array Value} {ds : List (DataW H)} {p : List MemPlace}
    (hW : DataW.Whole enc Tryz.prog f.params.toList s.vars false W args.toList ds [] p) (hA : DataW.TrodAll enc Tryz.prog W 0 (fun _ => true) true f.params.toList args.toList ds p)
    (hr : ∀ t ∈ f.params.toList, Tryz.prog.readableRec t = true ∧ t < Tryz.prog.types.size) (hres : f.resultTypes = #[4]) (hv : s.vars = [])
    (hs : s.fn H (ds ++ []) = { results := [.lit (.bool true)], args := ds }) (hb : Below W.heap.size W W') :
    s.post enc Tryz.prog f false true false false W args (.bool true) W' := by
  refine ⟨ds, [], p, [], p, [], hW, ?_, ?_, ?_, hb.frame _, fun h => by cases h⟩
  · rw [hs, hres]
    exact trodAll_mk1 (shut_bool Tryz.underlying4 true)
  · rw [hs]
    exact trodAll_below hb _ _ _ _ hr hA fun x hx => by simpa using hW.lt x hx
  · rw [hs, hv]
    exact rfl

set_option maxRecDepth 100000 in
/-- The whole frame: what is left to a law is its witness, its closed facts and its walk. -/
theorem law_lifted {H : Type} {enc : TypeId × Value → H} {os : Os} (started : os.Started) {k : FuncId} {f : Func} {s : ChangeSpec} (hin : Tryz.prog.inits.idxOf? k = none) (hk : Tryz.prog.funcs[k]? = some f)
    (hr : ∀ t ∈ f.params.toList, Tryz.prog.readableRec t = true ∧ t < Tryz.prog.types.size) (hres : f.resultTypes = #[4]) (hv : s.vars = [])
    (hs : ∀ ds : List (DataW H), ds.length = f.params.size → s.fn H (ds ++ []) = { results := [.lit (.bool true)], args := ds })
    (hwit : ∃ (w : World) (tape : Tape) (i : Input), w.os = os ∧ (w.forCall tape i).Shaped Tryz.checked.prog ∧ i.vars = [] ∧ Input.okWide Tryz.checked.prog (w.forCall tape i) .any w.heap.size k i ∧
      s.pre6 enc Tryz.checked.prog f [] false (w.forCall tape i).memory i.args ∧ ({} : Assume).holds Tryz.checked.prog (lone (Frame.enter Tryz.checked.prog k i.args .normal) [] (w.forCall tape i)))
    (hwalk : ∀ (W : World) (b : Nat) (args : Array Value) (ds : List (DataW H)) (p : List MemPlace), DataW.TrodAll enc Tryz.prog W 0 (fun _ => true) true f.params.toList args.toList ds p →
      (∀ (j : Nat) t v, f.params[j]? = some t → args[j]? = some v → Value.okWide Tryz.prog W .any b t v) → (DataW.weightsEach Tryz.prog f.params.toList ds).all (· ≤ reachBytes) = true →
      Calls Tryz.prog k args W fun e w' => e = .returned (.bool true) ∧ Below W.heap.size W w') :
    ReturnsInHanded {} Tryz.checked os k .any (s.pre6 enc Tryz.checked.prog f [] false) (s.post enc Tryz.checked.prog f false true false false) := by
  refine returnsInHanded_of_change_sized (C := Tryz.checked) Tryz.own started hin hk hwit ?_
  intro W b args ds gs p hval hW _ hsz _
  have hW' := hW
  obtain ⟨p', q, hA, hV, rfl, hfz, hnd⟩ := hW
  have hg : gs = [] ∧ q = [] := by
    rw [hv] at hV
    exact trodVars_none hV
  obtain ⟨rfl, rfl⟩ := hg
  have hl : ds.length = f.params.size := by
    have := trodAll_length hA
    simpa using this
  have hsz' : (DataW.weightsEach Tryz.prog f.params.toList ds).all (· ≤ reachBytes) = true := by
    have : s.plain.varTypes Tryz.prog = [] := by simp [DataSpec.varTypes, ChangeSpec.plain, hv]
    have h2 := hsz
    rw [show s.plain.varTypes Tryz.checked.prog = [] from this, List.append_nil, List.append_nil] at h2
    exact h2
  rw [List.append_nil] at hW'
  have hW2 : DataW.Whole enc Tryz.prog f.params.toList s.vars false W args.toList ds [] p' := hW'
  have hA2 : DataW.TrodAll enc Tryz.prog W 0 (fun _ => true) true f.params.toList args.toList ds p' := hA
  refine (hwalk W b args ds p' hA hval hsz').mono ?_
  rintro e W' ⟨rfl, hb⟩
  exact ⟨_, rfl, law_post hW2 hA2 hr hres hv (hs ds hl) hb⟩

set_option maxRecDepth 100000 in
/-- The same for the second form: the arguments' bulk is bounded. -/
theorem law_lifted_upto {H : Type} {enc : TypeId × Value → H} {os : Os} {FS : Stop.Interp} (started : os.Started) {k : FuncId} {f : Func} {s : ChangeSpec} (hin : Tryz.prog.inits.idxOf? k = none) (hk : Tryz.prog.funcs[k]? = some f)
    (hr : ∀ t ∈ f.params.toList, Tryz.prog.readableRec t = true ∧ t < Tryz.prog.types.size) (hres : f.resultTypes = #[4]) (hv : s.vars = [])
    (hs : ∀ ds : List (DataW H), ds.length = f.params.size → s.fn H (ds ++ []) = { results := [.lit (.bool true)], args := ds })
    (hwit : ∃ (w : World) (tape : Tape) (i : Input), w.os = os ∧ (w.forCall tape i).Shaped Tryz.checked.prog ∧ i.vars = [] ∧ Input.okWide Tryz.checked.prog (w.forCall tape i) .any w.heap.size k i ∧
      (Rows.OpenSpec.upto s).pre6 enc Tryz.checked.prog f [] false (w.forCall tape i).memory i.args ∧ ({} : Assume).holds Tryz.checked.prog (lone (Frame.enter Tryz.checked.prog k i.args .normal) [] (w.forCall tape i)))
    (hwalk : ∀ (W : World) (b : Nat) (args : Array Value) (ds : List (DataW H)) (p : List MemPlace), DataW.TrodAll enc Tryz.prog W 0 (fun _ => true) true f.params.toList args.toList ds p →
      (∀ (j : Nat) t v, f.params[j]? = some t → args[j]? = some v → Value.okWide Tryz.prog W .any b t v) → (DataW.weightsEach Tryz.prog f.params.toList ds).all (· ≤ reachBytes) = true → Rows.uptoBulkAll ds ≤ 1048576 →
      Calls Tryz.prog k args W fun e w' => e = .returned (.bool true) ∧ Below W.heap.size W w') :
    ReturnsInHanded {} Tryz.checked os k .any ((Rows.OpenSpec.upto s).pre6 enc Tryz.checked.prog f [] false) (((Rows.OpenSpec.upto s).at FS).post enc Tryz.checked.prog f false true false false) := by
  refine returnsInHanded_of_cond_sized (C := Tryz.checked) (s := Rows.OpenSpec.upto s) (k := Rows.uptoSmall) rfl Tryz.own started hin hk hwit ?_
  intro W b args ds gs p hval hW _ hbk hsz _
  have hW' : DataW.Whole enc Tryz.prog f.params.toList s.vars false W args.toList ds gs p := hW
  obtain ⟨p', q, hA, hV, rfl, hfz, hnd⟩ := hW
  have hg : gs = [] ∧ q = [] := by
    have hv' : (Rows.OpenSpec.upto s).vars = [] := hv
    rw [hv'] at hV
    exact trodVars_none hV
  obtain ⟨rfl, rfl⟩ := hg
  have hl : ds.length = f.params.size := by
    have := trodAll_length hA
    simpa using this
  have hsz' : (DataW.weightsEach Tryz.prog f.params.toList ds).all (· ≤ reachBytes) = true := by
    have : s.plain.varTypes Tryz.prog = [] := by simp [DataSpec.varTypes, ChangeSpec.plain, hv]
    have h2 := hsz
    rw [show (Rows.OpenSpec.upto s).bare.plain.varTypes Tryz.checked.prog = [] from this, List.append_nil, List.append_nil] at h2
    exact h2
  have hbk' : Rows.uptoBulkAll ds ≤ 1048576 := by
    have h2 := of_decide_eq_true hbk
    rwa [List.append_nil] at h2
  rw [List.append_nil] at hW'
  have hA2 : DataW.TrodAll enc Tryz.prog W 0 (fun _ => true) true f.params.toList args.toList ds p' := hA
  refine (hwalk W b args ds p' hA hval hsz' hbk').mono ?_
  rintro e W' ⟨rfl, hb⟩
  exact ⟨_, rfl, law_post hW' hA2 hr hres hv (hs ds hl) hb⟩
end Go.Proofs.YtgmcojnhpedpnaaGreat
/- How the arguments of a call, read as data, are things of the plain types. -/
namespace Go.Proofs.YtgmcojnhpedpnaaGreat
open Go.ChangeShapes Go.WideShapes Go.ChangeAt Go.RowKit

/-- Type t's readings are things of α by R (in world w), and of bulk at least μ. -/
def Dec {α : Type} (t : TypeId) (R : World → List Value → α → Prop) (μ : α → Nat) : Prop :=
  ∀ {H : Type} {enc : TypeId × Value → H} {w : World} {fuel : Nat} {cs : List Value} {x : DataW H × List MemPlace},
    DataW.trod enc Tryz.prog w 0 (fun _ => true) true fuel t cs = some x → (x.1.weights Tryz.prog t).all (· ≤ reachBytes) = true → ∃ a, R w cs a ∧ μ a ≤ Rows.uptoBulk x.1

theorem Dec.mono {α : Type} {t : TypeId} {R R' : World → List Value → α → Prop} {μ μ' : α → Nat} (h : Dec t R μ) (hR : ∀ w cs a, R w cs a → R' w cs a) (hm : ∀ a, μ' a ≤ μ a) : Dec t R' μ' :=
  fun h1 h2 => let ⟨a, r, m⟩ := h h1 h2; ⟨a, hR _ _ _ r, Nat.le_trans (hm a) m⟩

theorem dec_int {t : TypeId} (ht : Tryz.prog.underlying t = some (.int .i64)) : Dec t (fun _ => RInt) (fun _ => 1) := by
  intro H enc w fuel cs x h _
  obtain ⟨n, rfl, rfl, hw⟩ := DataW.trod_int ht h
  exact ⟨n, ⟨rfl, hw⟩, by simp [Rows.uptoBulk]⟩
theorem dec_bool {t : TypeId} (ht : Tryz.prog.underlying t = some .bool) : Dec t (fun _ cs (b : Bool) => cs = [.bool b]) (fun _ => 1) := by
  intro H enc w fuel cs x h _
  obtain ⟨n, rfl, rfl⟩ := DataW.trod_bool ht h
  exact ⟨n, rfl, by simp [Rows.uptoBulk]⟩
theorem dec_str {t : TypeId} (ht : Tryz.prog.underlying t = some .string) : Dec t (fun _ => RStr) (fun s => s.size + 1) := by
  intro H enc w fuel cs x h hw
  obtain ⟨s, rfl, rfl, hs⟩ := DataW.trod_string ht h
  refine ⟨s, ⟨rfl, ?_⟩, ?_⟩
  · have h1 := hw
    simp only [DataW.weights, List.all_cons, List.all_nil, Bool.and_true] at h1
    have h2 := of_decide_eq_true h1
    unfold inS
    simpa [reachBytes] using h2
  · simp [Rows.uptoBulk]

theorem weightsEach_at {H : Type} : ∀ (ts : List TypeId) (ds : List (DataW H)), (DataW.weightsEach Tryz.prog ts ds).all (· ≤ reachBytes) = true →
    ∀ (i : Nat) (t : TypeId) (d : DataW H), ts[i]? = some t → ds[i]? = some d → (d.weights Tryz.prog t).all (· ≤ reachBytes) = true
  | t :: ts, d :: ds, h, 0, t', d', ht, hd => by
    simp only [List.getElem?_cons_zero, Option.some.injEq] at ht hd
    subst ht; subst hd
    simp only [DataW.weightsEach, List.all_append, Bool.and_eq_true] at h
    exact h.1
  | t :: ts, d :: ds, h, i + 1, t', d', ht, hd => by
    simp only [DataW.weightsEach, List.all_append, Bool.and_eq_true] at h
    exact weightsEach_at ts ds h.2 i t' d' (by simpa using ht) (by simpa using hd)
  | [], _, _, _, _, _, ht, _ => by simp at ht
  | _ :: _, [], _, _, _, _, _, hd => by simp at hd
theorem bulkAll_sum {H : Type} : ∀ ds : List (DataW H), Rows.uptoBulkAll ds = (ds.map Rows.uptoBulk).sum
  | [] => by simp [Rows.uptoBulkAll]
  | d :: ds => by simp [Rows.uptoBulkAll, bulkAll_sum ds]

theorem struct_parts {H : Type} {enc : TypeId × Value → H} {w : World} {sp : Nat → Bool} {hd : Bool} {fuel : Nat} {t : TypeId} {cs : List Value} {x : DataW H × List MemPlace} {fs : Array Field}
    (ht : Tryz.prog.underlying t = some (.struct fs)) (h : DataW.trod enc Tryz.prog w 0 sp hd fuel t cs = some x) (hw : (x.1.weights Tryz.prog t).all (· ≤ reachBytes) = true) :
    ∃ (xs : List (DataW H × List MemPlace)) (n : Nat), fuel = n + 1 ∧ xs.length = fs.size ∧ cs.length = Tryz.prog.cellsOf t ∧ Rows.uptoBulk x.1 = (xs.map fun y => Rows.uptoBulk y.1).sum + 1 ∧
      ∀ (i : Nat) (f : Field), fs[i]? = some f → ∃ y, xs[i]? = some y ∧ DataW.trod enc Tryz.prog w 0 sp hd n f.type ((cs.drop f.offset).take (Tryz.prog.cellsOf f.type)) = some y ∧ (y.1.weights Tryz.prog f.type).all (· ≤ reachBytes) = true := by
  obtain ⟨xs, n, rfl, rfl, hl, hlen, hf⟩ := DataW.trod_struct ht h
  refine ⟨xs, n, rfl, hlen, hl, by simp [Rows.uptoBulk, bulkAll_sum, Function.comp_def], fun i f hi => ?_⟩
  have hi' : i < fs.size := (Array.getElem?_eq_some_iff.1 hi).1
  have hx : xs[i]? = some (xs[i]'(by omega)) := List.getElem?_eq_getElem (by omega)
  refine ⟨_, hx, (hf i f hi).trans hx, ?_⟩
  simp only [DataW.weights, ht] at hw
  exact weightsEach_at _ _ hw i _ _ (by simp [List.getElem?_map, hi]) (by simp [List.getElem?_map, hx])

theorem cells_int : Tryz.prog.cellsOf 3 = 1 := by kernel_rfl
theorem cells_string : Tryz.prog.cellsOf 9 = 1 := by kernel_rfl
theorem cells_Val : Tryz.prog.cellsOf 23 = 3 := by kernel_rfl
set_option maxRecDepth 100000 in
theorem dec_Val : Dec 23 (fun _ => RVal) (fun v => v.s.size + 1) := by
  intro H enc w fuel cs x h hw
  obtain ⟨xs, n, hfu, hlen, hl, hb, hf⟩ := struct_parts Tryz.underlying23 h hw
  rw [cells_Val] at hl
  match cs, hl with
  | [c0, c1, c2], _ =>
    match xs, hlen with
    | [y0, y1, y2], _ =>
      obtain ⟨z0, e0, g0, q0⟩ := hf 0 _ rfl
      cases e0
      change DataW.trod enc Tryz.prog w 0 (fun _ => true) true n 3 (List.take (Tryz.prog.cellsOf 3) [c0, c1, c2]) = some y0 at g0
      rw [cells_int] at g0
      change DataW.trod enc Tryz.prog w 0 (fun _ => true) true n 3 [c0] = some y0 at g0
      obtain ⟨a0, ⟨r0, i0⟩, m0⟩ := dec_int Tryz.underlying3 g0 q0
      simp only [List.cons.injEq, and_true] at r0
      subst r0
      obtain ⟨z1, e1, g1, q1⟩ := hf 1 _ rfl
      cases e1
      change DataW.trod enc Tryz.prog w 0 (fun _ => true) true n 3 (List.take (Tryz.prog.cellsOf 3) [c1, c2]) = some y1 at g1
      rw [cells_int] at g1
      change DataW.trod enc Tryz.prog w 0 (fun _ => true) true n 3 [c1] = some y1 at g1
      obtain ⟨a1, ⟨r1, i1⟩, m1⟩ := dec_int Tryz.underlying3 g1 q1
      simp only [List.cons.injEq, and_true] at r1
      subst r1
      obtain ⟨z2, e2, g2, q2⟩ := hf 2 _ rfl
      cases e2
      change DataW.trod enc Tryz.prog w 0 (fun _ => true) true n 9 (List.take (Tryz.prog.cellsOf 9) [c2]) = some y2 at g2
      rw [cells_string] at g2
      change DataW.trod enc Tryz.prog w 0 (fun _ => true) true n 9 [c2] = some y2 at g2
      obtain ⟨a2, ⟨r2, i2⟩, m2⟩ := dec_str Tryz.underlying9 g2 q2
      simp only [List.cons.injEq, and_true] at r2
      subst r2
      simp only [List.map_cons, List.map_nil, List.sum_cons, List.sum_nil] at hb
      exact ⟨⟨a0, a1, a2⟩, ⟨rfl, i0, i1, i2⟩, by simp only [] at *; omega⟩
theorem cells_Fct : Tryz.prog.cellsOf 127 = 7 := by kernel_rfl
set_option maxRecDepth 100000 in
theorem dec_Fct : Dec 127 (fun _ => RFct) (fun v => v.name.size + v.key.s.size + v.has.s.size + 1) := by
  intro H enc w fuel cs x h hw
  obtain ⟨xs, n, hfu, hlen, hl, hb, hf⟩ := struct_parts Tryz.underlying127 h hw
  rw [cells_Fct] at hl
  match cs, hl with
  | [c0, c1, c2, c3, c4, c5, c6], _ =>
    match xs, hlen with
    | [y0, y1, y2], _ =>
      obtain ⟨z0, e0, g0, q0⟩ := hf 0 _ rfl
      cases e0
      change DataW.trod enc Tryz.prog w 0 (fun _ => true) true n 9 (List.take (Tryz.prog.cellsOf 9) [c0, c1, c2, c3, c4, c5, c6]) = some y0 at g0
      rw [cells_string] at g0
      change DataW.trod enc Tryz.prog w 0 (fun _ => true) true n 9 [c0] = some y0 at g0
      obtain ⟨a0, ⟨r0, i0⟩, m0⟩ := dec_str Tryz.underlying9 g0 q0
      simp only [List.cons.injEq, and_true] at r0
      subst r0
      obtain ⟨z1, e1, g1, q1⟩ := hf 1 _ rfl
      cases e1
      change DataW.trod enc Tryz.prog w 0 (fun _ => true) true n 23 (List.take (Tryz.prog.cellsOf 23) [c1, c2, c3, c4, c5, c6]) = some y1 at g1
      rw [cells_Val] at g1
      change DataW.trod enc Tryz.prog w 0 (fun _ => true) true n 23 [c1, c2, c3] = some y1 at g1
      obtain ⟨a1, ⟨r1, i1⟩, m1⟩ := dec_Val g1 q1
      simp only [List.cons.injEq, and_true] at r1
      obtain ⟨rfl, rfl, rfl⟩ := r1
      obtain ⟨z2, e2, g2, q2⟩ := hf 2 _ rfl
      cases e2
      change DataW.trod enc Tryz.prog w 0 (fun _ => true) true n 23 (List.take (Tryz.prog.cellsOf 23) [c4, c5, c6]) = some y2 at g2
      rw [cells_Val] at g2
      change DataW.trod enc Tryz.prog w 0 (fun _ => true) true n 23 [c4, c5, c6] = some y2 at g2
      obtain ⟨a2, ⟨r2, i2⟩, m2⟩ := dec_Val g2 q2
      simp only [List.cons.injEq, and_true] at r2
      obtain ⟨rfl, rfl, rfl⟩ := r2
      simp only [List.map_cons, List.map_nil, List.sum_cons, List.sum_nil] at hb
      exact ⟨⟨a0, a1, a2⟩, ⟨rfl, i0, i1, i2⟩, by simp only [] at *; omega⟩
-- STRUCTS END

def c_of (c b : Nat) : Nat := c * b
theorem pick {α β : Type} (f : β → Nat) (μ : α → Nat) : ∀ (elems : List β) (Q : Nat → α → Prop), (∀ i y, elems[i]? = some y → ∃ a, Q i a ∧ μ a ≤ f y) →
    ∃ l : List α, l.length = elems.length ∧ (∀ i a, l[i]? = some a → Q i a) ∧ (l.map μ).sum ≤ (elems.map f).sum
  | [], _, _ => ⟨[], rfl, fun i a h => by simp at h, by simp⟩
  | y :: ys, Q, h => by
    obtain ⟨a, qa, ma⟩ := h 0 y rfl
    obtain ⟨l, h1, h2, h3⟩ := pick f μ ys (fun i => Q (i + 1)) (fun i y hy => h (i + 1) y (by simpa using hy))
    refine ⟨a :: l, by simp [h1], fun i b hb => ?_, by simp only [List.map_cons, List.sum_cons]; omega⟩
    cases i with
    | zero => simp at hb; subst hb; exact qa
    | succ i => exact h2 i b (by simpa using hb)

theorem weightsAll_at {H : Type} {e : TypeId} : ∀ (ds : List (DataW H)), (DataW.weightsAll Tryz.prog e ds).all (· ≤ reachBytes) = true → ∀ (i : Nat) (d : DataW H), ds[i]? = some d → (d.weights Tryz.prog e).all (· ≤ reachBytes) = true
  | d :: ds, h, 0, d', hd => by
    simp only [List.getElem?_cons_zero, Option.some.injEq] at hd
    subst hd
    simp only [DataW.weightsAll, List.all_append, Bool.and_eq_true] at h
    exact h.1
  | d :: ds, h, i + 1, d', hd => by
    simp only [DataW.weightsAll, List.all_append, Bool.and_eq_true] at h
    exact weightsAll_at ds h.2 i d' (by simpa using hd)
  | [], _, _, _, hd => by simp at hd

theorem block_lt {w : World} {b o : Nat} {v : Value} (h : w.cell? ⟨b, o, none⟩ = some v) : b < w.heap.size := by
  have := block_lt_of_cell h
  exact this
theorem spot_none {w : World} {a : Addr} {v : Value} (h : w.cell? a = some v) : a = ⟨a.block, a.off, none⟩ := by
  obtain ⟨b, o, s⟩ := a
  cases s with
  | none => rfl
  | some s =>
    unfold World.cell? at h
    split at h <;> simp at h

set_option maxRecDepth 100000 in
theorem slice_parts {α : Type} {H : Type} {enc : TypeId × Value → H} {w : World} {sp : Nat → Bool} {hd : Bool} {fuel : Nat} {t e : TypeId} {cs : List Value} {x : DataW H × List MemPlace} {size bytes : Nat} {R : List Value → α → Prop} {μ : α → Nat}
    (ht : Tryz.prog.underlying t = some (.slice e)) (hc : Tryz.prog.cellsOf e = size) (hb : Tryz.prog.bytesOf e = bytes) (hsz : 0 < size) (hsp : ∀ b, sp b = true)
    (h : DataW.trod enc Tryz.prog w 0 sp hd fuel t cs = some x) (hw : (x.1.weights Tryz.prog t).all (· ≤ reachBytes) = true)
    (hE : ∀ n cs x, n < fuel → DataW.trod enc Tryz.prog w 0 sp hd n e cs = some x → (x.1.weights Tryz.prog e).all (· ≤ reachBytes) = true → ∃ a, R cs a ∧ μ a ≤ Rows.uptoBulk x.1) :
    ∃ A n c l, cs = [.slice A n c] ∧ inB bytes n ∧ n ≤ c ∧ c * bytes ≤ reachBytes ∧ Sl w (fun b => b < w.heap.size) size R A n l ∧ (l.map μ).sum + 1 ≤ Rows.uptoBulk x.1 := by
  rcases DataW.trod_slice ht h with ⟨rfl, rfl⟩ | ⟨a, len, cap, elems, rest, n, rfl, rfl, rfl, _, hlc, hcap, hel, hat, hrest, _⟩
  · exact ⟨none, 0, 0, [], rfl, by simp [inB], Nat.le_refl _, by simp, Sl.nil, by simp [Rows.uptoBulk]⟩
  · have hrl := (hrest (hsp _)).1
    simp only [DataW.weights, ht, List.all_cons, List.all_append, Bool.and_eq_true] at hw
    obtain ⟨hw1, hw2, _⟩ := hw
    have hw1' := of_decide_eq_true hw1
    rw [hb, List.length_map, List.length_map, hrl, hel] at hw1'
    have hcb : c_of cap bytes ≤ reachBytes := by unfold c_of; rwa [show len + (cap - len) = cap by omega] at hw1'
    have key : ∀ i y, elems[i]? = some y → ∃ a', (∃ cs, R cs a' ∧ cs.length = size ∧ ∀ j, j < size → w.cell? ((a.add (i * size)).add j) = cs[j]?) ∧ μ a' ≤ Rows.uptoBulk y.1 := by
      intro i y hy
      have hi : i < len := by rw [← hel]; exact (List.getElem?_eq_some_iff.1 hy).1
      have h1 := (hat i hi).trans hy
      rw [hc] at h1
      obtain ⟨cs', h2, h3⟩ := Option.bind_eq_some_iff.1 h1
      obtain ⟨_, hcl, hcell⟩ := World.cells?_some h2
      obtain ⟨a', r, m⟩ := hE n cs' y (by omega) h3 (weightsAll_at _ hw2 i _ (by simp [List.getElem?_map, hy]))
      exact ⟨a', ⟨cs', r, hcl, hcell⟩, m⟩
    obtain ⟨l, l1, l2, l3⟩ := pick (fun y : DataW H × List MemPlace => Rows.uptoBulk y.1) μ elems _ key
    refine ⟨some a, len, cap, l, rfl, ?_, hlc, hcb, ⟨by rw [l1, hel], fun hn => ?_⟩, ?_⟩
    · unfold inB
      unfold c_of reachBytes at hcb
      exact Nat.le_trans (Nat.mul_le_mul_right _ hlc) hcb
    · have h0 : l[0]? = some (l[0]'(by omega)) := List.getElem?_eq_getElem (by omega)
      obtain ⟨cs0, _, hc0, hcell0⟩ := l2 0 _ h0
      have hv : w.cell? a = cs0[0]? := by simpa [Addr.add] using hcell0 0 hsz
      rw [List.getElem?_eq_getElem (by omega)] at hv
      have ha := spot_none hv
      refine ⟨a.block, a.off, by rw [← ha], block_lt_of_cell hv, fun i v hi => ?_⟩
      obtain ⟨cs', r1, r2, r3⟩ := l2 i v hi
      refine ⟨cs', r1, r2, fun j hj => ?_⟩
      rw [← r3 j hj, add_of_add]
      congr 1
      rw [ha]
      unfold Addr.add
      split
      · rename_i hz; simp [hz]
      · rfl
    · simp only [Rows.uptoBulk, bulkAll_sum, List.map_map, Function.comp_def]
      omega

/-- How a slice value reads: its three parts, the list, all in the blocks that the world has. -/
def RSl {α : Type} (size bytes : Nat) (R : World → (Nat → Prop) → List Value → α → Prop) (w : World) (S : Nat → Prop) (cs : List Value) (l : List α) : Prop :=
  ∃ A n c, cs = [.slice A n c] ∧ inB bytes n ∧ n ≤ c ∧ Sl w S size (R w S) A n l

theorem dec_sl {α : Type} {t e : TypeId} {size bytes : Nat} {R : World → (Nat → Prop) → List Value → α → Prop} {μ : α → Nat}
    (ht : Tryz.prog.underlying t = some (.slice e)) (hc : Tryz.prog.cellsOf e = size) (hb : Tryz.prog.bytesOf e = bytes) (hsz : 0 < size) (hE : Dec e (fun w => R w (old w)) μ) :
    Dec t (fun w => RSl size bytes R w (old w)) (fun l => (l.map μ).sum + 1) := by
  intro H enc w fuel cs x h hw
  obtain ⟨A, n, c, l, h1, h2, h3, _, h4, h5⟩ := slice_parts ht hc hb hsz (fun _ => rfl) h hw (fun n cs x _ h hw => hE h hw)
  exact ⟨l, ⟨A, n, c, h1, h2, h3, h4⟩, h5⟩

/-- How many parts and letters a formula holds. -/
def Exp.bulk : Exp → Nat
  | .mk _ v name args => v.s.size + name.size + bulks args + 1
where bulks : List Exp → Nat
  | [] => 0
  | a :: l => a.bulk + bulks l
theorem bulks_sum : ∀ l : List Exp, Exp.bulk.bulks l = (l.map Exp.bulk).sum
  | [] => by simp [Exp.bulk.bulks]
  | a :: l => by simp [Exp.bulk.bulks, bulks_sum l]

theorem cells_Exp : Tryz.prog.cellsOf 26 = 6 := by kernel_rfl
theorem cells_Exps : Tryz.prog.cellsOf 24 = 1 := by kernel_rfl
theorem bytes_Exp : Tryz.prog.bytesOf 26 = 80 := by kernel_rfl
set_option maxRecDepth 100000 in
theorem dec_Exp_at {H : Type} {enc : TypeId × Value → H} {w : World} : ∀ (fuel : Nat) (cs : List Value) (x : DataW H × List MemPlace),
    DataW.trod enc Tryz.prog w 0 (fun _ => true) true fuel 26 cs = some x → (x.1.weights Tryz.prog 26).all (· ≤ reachBytes) = true → ∃ a, XRep w (old w) cs a ∧ a.bulk ≤ Rows.uptoBulk x.1 := by
  intro fuel
  induction fuel using Nat.strongRecOn with
  | ind fuel ih =>
    intro cs x h hw
    obtain ⟨xs, n, hfu, hlen, hl, hb, hf⟩ := struct_parts Tryz.underlying26 h hw
    rw [cells_Exp] at hl
    match cs, hl with
    | [c0, c1, c2, c3, c4, c5], _ =>
      match xs, hlen with
      | [y0, y1, y2, y3], _ =>
        obtain ⟨z0, e0, g0, q0⟩ := hf 0 _ rfl
        obtain ⟨z1, e1, g1, q1⟩ := hf 1 _ rfl
        obtain ⟨z2, e2, g2, q2⟩ := hf 2 _ rfl
        obtain ⟨z3, e3, g3, q3⟩ := hf 3 _ rfl
        cases e0; cases e1; cases e2; cases e3
        change DataW.trod enc Tryz.prog w 0 (fun _ => true) true n 3 (List.take (Tryz.prog.cellsOf 3) [c0, c1, c2, c3, c4, c5]) = some y0 at g0
        rw [cells_int] at g0
        change DataW.trod enc Tryz.prog w 0 (fun _ => true) true n 3 [c0] = some y0 at g0
        change DataW.trod enc Tryz.prog w 0 (fun _ => true) true n 23 (List.take (Tryz.prog.cellsOf 23) [c1, c2, c3, c4, c5]) = some y1 at g1
        rw [cells_Val] at g1
        change DataW.trod enc Tryz.prog w 0 (fun _ => true) true n 23 [c1, c2, c3] = some y1 at g1
        change DataW.trod enc Tryz.prog w 0 (fun _ => true) true n 9 (List.take (Tryz.prog.cellsOf 9) [c4, c5]) = some y2 at g2
        rw [cells_string] at g2
        change DataW.trod enc Tryz.prog w 0 (fun _ => true) true n 9 [c4] = some y2 at g2
        change DataW.trod enc Tryz.prog w 0 (fun _ => true) true n 24 (List.take (Tryz.prog.cellsOf 24) [c5]) = some y3 at g3
        rw [cells_Exps] at g3
        change DataW.trod enc Tryz.prog w 0 (fun _ => true) true n 24 [c5] = some y3 at g3
        obtain ⟨a0, ⟨r0, i0⟩, m0⟩ := dec_int Tryz.underlying3 g0 q0
        obtain ⟨a1, ⟨r1, i1⟩, m1⟩ := dec_Val g1 q1
        obtain ⟨a2, ⟨r2, i2⟩, m2⟩ := dec_str Tryz.underlying9 g2 q2
        obtain ⟨A, k, c, l, r3, i3, k3, _, hs, m3⟩ := slice_parts (R := XRep w (old w)) (μ := Exp.bulk) Tryz.underlying24 cells_Exp bytes_Exp (by decide) (fun _ => rfl) g3 q3
          (fun n' cs' x' hn h' hw' => ih n' (by omega) cs' x' h' hw')
        simp only [List.cons.injEq, and_true] at r0 r1 r2 r3
        obtain ⟨rfl, rfl, rfl⟩ := r1
        subst r0; subst r2; subst r3
        simp only [List.map_cons, List.map_nil, List.sum_cons, List.sum_nil] at hb
        refine ⟨.mk a0 a1 a2 l, XRep.shut i0 i1 i2 i3 k3 hs, ?_⟩
        simp only [Exp.bulk, bulks_sum]
        have m1' : a1.s.size + 1 ≤ _ := m1
        have m2' : a2.size + 1 ≤ _ := m2
        omega
theorem dec_Exp : Dec 26 (fun w => XRep w (old w)) Exp.bulk := fun h hw => dec_Exp_at _ _ _ h hw

theorem cells_Fld : Tryz.prog.cellsOf 62 = 9 := by kernel_rfl
theorem bytes_Fld : Tryz.prog.bytesOf 62 = 112 := by kernel_rfl
def Fld.bulk (f : Fld) : Nat := f.name.size + f.source.bulk + 1
set_option maxRecDepth 100000 in
theorem dec_Fld : Dec 62 (fun w => RFld w (old w)) Fld.bulk := by
  intro H enc w fuel cs x h hw
  obtain ⟨xs, n, hfu, hlen, hl, hb, hf⟩ := struct_parts Tryz.underlying62 h hw
  rw [cells_Fld] at hl
  match cs, hl with
  | [c0, c1, c2, c3, c4, c5, c6, c7, c8], _ =>
    match xs, hlen with
    | [y0, y1, y2, y3], _ =>
      obtain ⟨z0, e0, g0, q0⟩ := hf 0 _ rfl
      obtain ⟨z1, e1, g1, q1⟩ := hf 1 _ rfl
      obtain ⟨z2, e2, g2, q2⟩ := hf 2 _ rfl
      obtain ⟨z3, e3, g3, q3⟩ := hf 3 _ rfl
      cases e0; cases e1; cases e2; cases e3
      change DataW.trod enc Tryz.prog w 0 (fun _ => true) true n 9 (List.take (Tryz.prog.cellsOf 9) [c0, c1, c2, c3, c4, c5, c6, c7, c8]) = some y0 at g0
      rw [cells_string] at g0
      change DataW.trod enc Tryz.prog w 0 (fun _ => true) true n 9 [c0] = some y0 at g0
      change DataW.trod enc Tryz.prog w 0 (fun _ => true) true n 3 (List.take (Tryz.prog.cellsOf 3) [c1, c2, c3, c4, c5, c6, c7, c8]) = some y1 at g1
      rw [cells_int] at g1
      change DataW.trod enc Tryz.prog w 0 (fun _ => true) true n 3 [c1] = some y1 at g1
      change DataW.trod enc Tryz.prog w 0 (fun _ => true) true n 3 (List.take (Tryz.prog.cellsOf 3) [c2, c3, c4, c5, c6, c7, c8]) = some y2 at g2
      rw [cells_int] at g2
      change DataW.trod enc Tryz.prog w 0 (fun _ => true) true n 3 [c2] = some y2 at g2
      change DataW.trod enc Tryz.prog w 0 (fun _ => true) true n 26 (List.take (Tryz.prog.cellsOf 26) [c3, c4, c5, c6, c7, c8]) = some y3 at g3
      rw [cells_Exp] at g3
      change DataW.trod enc Tryz.prog w 0 (fun _ => true) true n 26 [c3, c4, c5, c6, c7, c8] = some y3 at g3
      obtain ⟨a0, ⟨r0, i0⟩, m0⟩ := dec_str Tryz.underlying9 g0 q0
      obtain ⟨a1, ⟨r1, i1⟩, m1⟩ := dec_int Tryz.underlying3 g1 q1
      obtain ⟨a2, ⟨r2, i2⟩, m2⟩ := dec_int Tryz.underlying3 g2 q2
      obtain ⟨a3, r3, m3⟩ := dec_Exp g3 q3
      simp only [List.cons.injEq, and_true] at r0 r1 r2
      subst r0; subst r1; subst r2
      simp only [List.map_cons, List.map_nil, List.sum_cons, List.sum_nil] at hb
      have m0' : a0.size + 1 ≤ _ := m0
      exact ⟨⟨a0, a1, a2, a3⟩, ⟨i0, i1, i2, _, rfl, r3⟩, by simp only [Fld.bulk]; omega⟩
theorem dec_Flds : Dec 37 (fun w => RSl 9 112 RFld w (old w)) (fun l => (l.map Fld.bulk).sum + 1) :=
  dec_sl Tryz.underlying37 cells_Fld bytes_Fld (by decide) dec_Fld
theorem bytes_string : Tryz.prog.bytesOf 9 = 16 := by kernel_rfl
theorem dec_Strs : Dec 32 (fun w => RSl 1 16 (fun _ _ => RStr) w (old w)) (fun l => (l.map fun s => s.size + 1).sum + 1) :=
  dec_sl (R := fun _ _ => RStr) Tryz.underlying32 cells_string bytes_string (by decide) (dec_str Tryz.underlying9)
theorem cells_Strs : Tryz.prog.cellsOf 32 = 1 := by kernel_rfl
theorem cells_Pag : Tryz.prog.cellsOf 70 = 8 := by kernel_rfl
theorem bytes_Pag : Tryz.prog.bytesOf 70 = 120 := by kernel_rfl
def Pag.bulk (p : Pag) : Nat := p.name.size + (p.fields.map fun s => s.size + 1).sum + p.skip.bulk + 1
set_option maxRecDepth 100000 in
theorem dec_Pag : Dec 70 (fun w => RPag w (old w)) Pag.bulk := by
  intro H enc w fuel cs x h hw
  obtain ⟨xs, n, hfu, hlen, hl, hb, hf⟩ := struct_parts Tryz.underlying70 h hw
  rw [cells_Pag] at hl
  match cs, hl with
  | [c0, c1, c2, c3, c4, c5, c6, c7], _ =>
    match xs, hlen with
    | [y0, y1, y2], _ =>
      obtain ⟨z0, e0, g0, q0⟩ := hf 0 _ rfl
      obtain ⟨z1, e1, g1, q1⟩ := hf 1 _ rfl
      obtain ⟨z2, e2, g2, q2⟩ := hf 2 _ rfl
      cases e0; cases e1; cases e2
      change DataW.trod enc Tryz.prog w 0 (fun _ => true) true n 9 (List.take (Tryz.prog.cellsOf 9) [c0, c1, c2, c3, c4, c5, c6, c7]) = some y0 at g0
      rw [cells_string] at g0
      change DataW.trod enc Tryz.prog w 0 (fun _ => true) true n 9 [c0] = some y0 at g0
      change DataW.trod enc Tryz.prog w 0 (fun _ => true) true n 32 (List.take (Tryz.prog.cellsOf 32) [c1, c2, c3, c4, c5, c6, c7]) = some y1 at g1
      rw [cells_Strs] at g1
      change DataW.trod enc Tryz.prog w 0 (fun _ => true) true n 32 [c1] = some y1 at g1
      change DataW.trod enc Tryz.prog w 0 (fun _ => true) true n 26 (List.take (Tryz.prog.cellsOf 26) [c2, c3, c4, c5, c6, c7]) = some y2 at g2
      rw [cells_Exp] at g2
      change DataW.trod enc Tryz.prog w 0 (fun _ => true) true n 26 [c2, c3, c4, c5, c6, c7] = some y2 at g2
      obtain ⟨a0, ⟨r0, i0⟩, m0⟩ := dec_str Tryz.underlying9 g0 q0
      obtain ⟨a1, ⟨A, k, c, r1, hl1, hc1, hs1⟩, m1⟩ := dec_Strs g1 q1
      obtain ⟨a2, r2, m2⟩ := dec_Exp g2 q2
      simp only [List.cons.injEq, and_true] at r0 r1
      subst r0; subst r1
      simp only [List.map_cons, List.map_nil, List.sum_cons, List.sum_nil] at hb
      have m0' : a0.size + 1 ≤ _ := m0
      have m1' : (a1.map fun s => s.size + 1).sum + 1 ≤ _ := m1
      exact ⟨⟨a0, a1, a2⟩, ⟨i0, A, k, c, _, rfl, hl1, hc1, hs1, r2⟩, by simp only [Pag.bulk]; omega⟩
theorem dec_Pags : Dec 38 (fun w => RSl 8 120 RPag w (old w)) (fun l => (l.map Pag.bulk).sum + 1) :=
  dec_sl Tryz.underlying38 cells_Pag bytes_Pag (by decide) dec_Pag

section
variable {H : Type} {enc : TypeId × Value → H} {W : World} {b : Nat} {t : TypeId} {v : Value} {d : DataW H} {p : List MemPlace}
set_option maxRecDepth 100000 in
theorem arg_struct {α : Type} {R : World → List Value → α → Prop} {μ : α → Nat} (D : Dec t R μ) {fs : Array Field} (hu : Tryz.prog.underlying t = some (.struct fs)) (hv : Value.okWide Tryz.prog W .any b t v)
    (h : DataW.Trod enc Tryz.prog W 0 (fun _ => true) true t v d p) (hw : (d.weights Tryz.prog t).all (· ≤ reachBytes) = true) : ∃ (cs : List Value) (a : α), v = .agg cs.toArray ∧ R W cs a ∧ μ a ≤ Rows.uptoBulk d := by
  obtain ⟨cs, rfl, _⟩ := okWide_struct hu hv
  obtain ⟨fuel, hf⟩ := h
  obtain ⟨a, r, m⟩ := D hf hw
  exact ⟨cs.toList, a, by simp, r, m⟩
set_option maxRecDepth 100000 in
theorem arg_sl {α : Type} {size bytes : Nat} {R : World → (Nat → Prop) → List Value → α → Prop} {μ : List α → Nat} (D : Dec t (fun w => RSl size bytes R w (old w)) μ) {e : TypeId} (hu : Tryz.prog.underlying t = some (.slice e)) (hv : Value.okWide Tryz.prog W .any b t v)
    (h : DataW.Trod enc Tryz.prog W 0 (fun _ => true) true t v d p) (hw : (d.weights Tryz.prog t).all (· ≤ reachBytes) = true) :
    ∃ (A : Option Addr) (n c : Nat) (l : List α), v = .slice A n c ∧ inB bytes n ∧ n ≤ c ∧ Sl W (old W) size (R W (old W)) A n l ∧ μ l ≤ Rows.uptoBulk d := by
  obtain ⟨A, n, c, rfl⟩ := okWide_slice hu hv
  obtain ⟨fuel, hf⟩ := h
  obtain ⟨l, ⟨A', n', c', e', h1, h2, h3⟩, m⟩ := D hf hw
  simp only [Value.cells, List.cons.injEq, Value.slice.injEq, and_true] at e'
  obtain ⟨rfl, rfl, rfl⟩ := e'
  exact ⟨A, n, c, l, rfl, h1, h2, h3, m⟩
set_option maxRecDepth 100000 in
theorem arg_int (hu : Tryz.prog.underlying t = some (.int .i64)) (hv : Value.okWide Tryz.prog W .any b t v) (h : DataW.Trod enc Tryz.prog W 0 (fun _ => true) true t v d p) : ∃ x, v = .int .i64 x ∧ inI x := by
  obtain ⟨x, rfl, rfl, rfl, w⟩ := open_int hu hv h
  exact ⟨x, rfl, w⟩
set_option maxRecDepth 100000 in
theorem arg_str (hu : Tryz.prog.underlying t = some .string) (hv : Value.okWide Tryz.prog W .any b t v) (h : DataW.Trod enc Tryz.prog W 0 (fun _ => true) true t v d p) (hw : (d.weights Tryz.prog t).all (· ≤ reachBytes) = true) :
    ∃ x, v = .string x ∧ inS x ∧ x.size + 1 ≤ Rows.uptoBulk d := by
  obtain ⟨x, rfl, rfl, rfl, w⟩ := ChangeMaps.open_string hu hv h
  refine ⟨x, rfl, ?_, by simp [Rows.uptoBulk]⟩
  simp only [DataW.weights, List.all_cons, List.all_nil, Bool.and_true] at hw
  have h2 := of_decide_eq_true hw
  unfold inS
  simpa [reachBytes] using h2
end
end Go.Proofs.YtgmcojnhpedpnaaGreat
/- eval.Of. -/
namespace Go.Proofs.YtgmcojnhpedpnaaGreat
open Go.RowKit Go.Maps

def evalRes (l : List Fct) (x : Exp) : Val × Int := if exprErr x ≠ 0 then (noVal, exprErr x) else if factsErr l ≠ 0 then (noVal, factsErr l) else (evX l x, 0)
/-- The ending with a value and an error. -/
def RetVE (w : World) (r : Val × Int) (e : Ending) (w' : World) : Prop := e = .returned (.tuple #[r.1.ag, .int .i64 r.2]) ∧ Below w.heap.size w w'
theorem prt_of_exprErr {x : Exp} (h : exprErr x = 0) : prtN x = 0 := by
  unfold exprErr at h
  split at h
  · cases h
  split at h
  · cases h
  · exact h
theorem evalRes_bad {l : List Fct} {x : Exp} {e : Int} (h : exprErr x = e) (h0 : e ≠ 0) : evalRes l x = (noVal, e) := by
  unfold evalRes; rw [if_pos (by rw [h]; exact h0), h]
theorem evalRes_fct {l : List Fct} {x : Exp} {e : Int} (h : exprErr x = 0) (h1 : factsErr l = e) (h0 : e ≠ 0) : evalRes l x = (noVal, e) := by
  unfold evalRes; rw [if_neg (by simpa using h), if_pos (by rw [h1]; exact h0), h1]
theorem evalRes_ok {l : List Fct} {x : Exp} (h : exprErr x = 0) (h1 : factsErr l = 0) : evalRes l x = (evX l x, 0) := by
  unfold evalRes; rw [if_neg (by simpa using h), if_neg (by simpa using h1)]
set_option maxRecDepth 100000 in
set_option maxHeartbeats 8000000 in
theorem eval_Of (l : List Fct) (L : Option Addr) (n d : Nat) (x : Exp) (A : Option Addr) (c : Nat) (w : World) (hn : inL n) (hx : XRep w (old w) (x.cs A c) x) (hl : Sl w (old w) 7 RFct L n l) :
    Calls Tryz.prog 63 #[.agg (x.cs A c).toArray, .slice L n d] w (RetVE w (evalRes l x)) := by
  have hck := fun w h => expr_Check x A c w h
  have hft := fun w h => eval_facts L n d l w hn h
  have HX := Lib.hid (And.intro hx hl)
  clear hx hl
  by_cases he : exprErr x = 0
  · have HP := Lib.hid (prt_of_exprErr he)
    by_cases hf : factsErr l = 0
    · have hof := fun fb w h h' => machine_all_N l (factsErr_ok hf) fb n x.nodes x A c w (Nat.le_refl _) HP.out h h'
      rw [evalRes_ok he hf]
      have HF := Lib.hid hf
      simp only [he] at hck
      generalize evX l x = u at hof
      clear he hf
      go_enter Tryz.func63, Tryz.ntmps63
      go_wp2_with (first
        | (go_at_call 27; refine (hck _ (HX.out.1.keep (old_keep bel))).mono ?_; rintro e w1 ⟨rfl, hb1⟩; obtain ⟨hc1, hf1⟩ := bcell hb1; (try simp only [World.heap_drewN, World.cell?_drewN, World.frozen?_drewN] at hc1 hf1); have hz1 := hb1.size; (try simp at hz1); (try (have hy1 := Nat.lt_of_succ_le hz1)); (try (have hx1 := Nat.lt_of_succ_lt hy1)); (first | refine szz6 w1 w (by omega) ?_ | refine szz5 w1 w (by omega) ?_ | refine szz4 w1 w (by omega) ?_ | refine szz3 w1 w (by omega) ?_ | refine szz2 w1 w (by omega) ?_ | refine szz1 w1 w (by omega) ?_ | refine szz0 w1 w (by omega) ?_ | refine szzn w1 w (by omega) ?_ | skip); intros)
        | (go_at_call 98; refine (hft _ (HX.out.2.now bel)).mono ?_; rintro e w2 hq2; unfold RetF at hq2; rw [if_pos HF.out] at hq2; obtain ⟨⟨rfl, hM2⟩, hb2⟩ := hq2; obtain ⟨hc2, hf2⟩ := bcell hb2; (try simp only [World.heap_drewN, World.cell?_drewN, World.frozen?_drewN] at hc2 hf2); have hz2 := hb2.size; (try simp at hz2); (try (have hy2 := Nat.lt_of_succ_le hz2)); (try (have hx2 := Nat.lt_of_succ_lt hy2)); (first | refine szz6 w2 w (by omega) ?_ | refine szz5 w2 w (by omega) ?_ | refine szz4 w2 w (by omega) ?_ | refine szz3 w2 w (by omega) ?_ | refine szz2 w2 w (by omega) ?_ | refine szz1 w2 w (by omega) ?_ | refine szz0 w2 w (by omega) ?_ | refine szzn w2 w (by omega) ?_ | skip); intros; (first | refine szz6 w2 w1 (by omega) ?_ | refine szz5 w2 w1 (by omega) ?_ | refine szz4 w2 w1 (by omega) ?_ | refine szz3 w2 w1 (by omega) ?_ | refine szz2 w2 w1 (by omega) ?_ | refine szz1 w2 w1 (by omega) ?_ | refine szz0 w2 w1 (by omega) ?_ | refine szzn w2 w1 (by omega) ?_ | skip); intros; dsimp only)
        | (go_at_call 99; refine (hof _ _ (HX.out.1.keep (old_keep bel)) hM2).mono ?_; rintro e w3 ⟨rfl, hb3⟩; obtain ⟨hc3, hf3⟩ := bcell hb3; (try simp only [World.heap_drewN, World.cell?_drewN, World.frozen?_drewN] at hc3 hf3); have hz3 := hb3.size; (try simp at hz3); (try (have hy3 := Nat.lt_of_succ_le hz3)); (try (have hx3 := Nat.lt_of_succ_lt hy3)); (first | refine szz6 w3 w (by omega) ?_ | refine szz5 w3 w (by omega) ?_ | refine szz4 w3 w (by omega) ?_ | refine szz3 w3 w (by omega) ?_ | refine szz2 w3 w (by omega) ?_ | refine szz1 w3 w (by omega) ?_ | refine szz0 w3 w (by omega) ?_ | refine szzn w3 w (by omega) ?_ | skip); intros; (first | refine szz6 w3 w1 (by omega) ?_ | refine szz5 w3 w1 (by omega) ?_ | refine szz4 w3 w1 (by omega) ?_ | refine szz3 w3 w1 (by omega) ?_ | refine szz2 w3 w1 (by omega) ?_ | refine szz1 w3 w1 (by omega) ?_ | refine szz0 w3 w1 (by omega) ?_ | refine szzn w3 w1 (by omega) ?_ | skip); intros; (first | refine szz6 w3 w2 (by omega) ?_ | refine szz5 w3 w2 (by omega) ?_ | refine szz4 w3 w2 (by omega) ?_ | refine szz3 w3 w2 (by omega) ?_ | refine szz2 w3 w2 (by omega) ?_ | refine szz1 w3 w2 (by omega) ?_ | refine szz0 w3 w2 (by omega) ?_ | refine szzn w3 w2 (by omega) ?_ | skip); intros; dsimp only))
      exact bodyPost_ret (v := .tuple #[.agg #[.int .i64 u.k, .int .i64 u.n, .string u.s], .int .i64 0]) (by first | (simp [results, Tryz.results63, go_sem]; done) | (simp [results, Tryz.results63, go_sem, *]; done)) rfl ⟨rfl, bel⟩
    · obtain ⟨fe, hfe⟩ : ∃ e, factsErr l = e := ⟨_, rfl⟩
      rw [evalRes_fct he hfe (by rw [← hfe]; exact hf)]
      have hfb : (fe != 0) = true := by rw [← hfe]; simpa using hf
      have HF := Lib.hid (And.intro hf hfe)
      simp only [he] at hck
      clear he hf hfe
      go_enter Tryz.func63, Tryz.ntmps63
      go_wp2_with (first
        | (go_at_call 27; refine (hck _ (HX.out.1.keep (old_keep bel))).mono ?_; rintro e w1 ⟨rfl, hb1⟩; obtain ⟨hc1, hf1⟩ := bcell hb1; (try simp only [World.heap_drewN, World.cell?_drewN, World.frozen?_drewN] at hc1 hf1); have hz1 := hb1.size; (try simp at hz1); (try (have hy1 := Nat.lt_of_succ_le hz1)); (try (have hx1 := Nat.lt_of_succ_lt hy1)); (first | refine szz6 w1 w (by omega) ?_ | refine szz5 w1 w (by omega) ?_ | refine szz4 w1 w (by omega) ?_ | refine szz3 w1 w (by omega) ?_ | refine szz2 w1 w (by omega) ?_ | refine szz1 w1 w (by omega) ?_ | refine szz0 w1 w (by omega) ?_ | refine szzn w1 w (by omega) ?_ | skip); intros)
        | (go_at_call 98; refine (hft _ (HX.out.2.now bel)).mono ?_; rintro e w2 hq2; unfold RetF at hq2; rw [if_neg HF.out.1, HF.out.2] at hq2; obtain ⟨rfl, hb2⟩ := hq2; obtain ⟨hc2, hf2⟩ := bcell hb2; (try simp only [World.heap_drewN, World.cell?_drewN, World.frozen?_drewN] at hc2 hf2); have hz2 := hb2.size; (try simp at hz2); (try (have hy2 := Nat.lt_of_succ_le hz2)); (try (have hx2 := Nat.lt_of_succ_lt hy2)); (first | refine szz6 w2 w (by omega) ?_ | refine szz5 w2 w (by omega) ?_ | refine szz4 w2 w (by omega) ?_ | refine szz3 w2 w (by omega) ?_ | refine szz2 w2 w (by omega) ?_ | refine szz1 w2 w (by omega) ?_ | refine szz0 w2 w (by omega) ?_ | refine szzn w2 w (by omega) ?_ | skip); intros; (first | refine szz6 w2 w1 (by omega) ?_ | refine szz5 w2 w1 (by omega) ?_ | refine szz4 w2 w1 (by omega) ?_ | refine szz3 w2 w1 (by omega) ?_ | refine szz2 w2 w1 (by omega) ?_ | refine szz1 w2 w1 (by omega) ?_ | refine szz0 w2 w1 (by omega) ?_ | refine szzn w2 w1 (by omega) ?_ | skip); intros; dsimp only))
      exact bodyPost_ret (v := .tuple #[.agg #[.int .i64 0, .int .i64 0, .string ⟨#[]⟩], .int .i64 fe]) (by first | (simp [results, Tryz.results63, go_sem]; done) | (simp [results, Tryz.results63, go_sem, *]; done)) rfl ⟨rfl, bel⟩
  · obtain ⟨ee, hee⟩ : ∃ e, exprErr x = e := ⟨_, rfl⟩
    rw [evalRes_bad hee (by rw [← hee]; exact he)]
    have heb : (ee != 0) = true := by rw [← hee]; simpa using he
    simp only [hee] at hck
    clear he hee
    go_enter Tryz.func63, Tryz.ntmps63
    go_wp2_with (go_at_call 27; refine (hck _ (HX.out.1.keep (old_keep bel))).mono ?_; rintro e w1 ⟨rfl, hb1⟩; obtain ⟨hc1, hf1⟩ := bcell hb1; (try simp only [World.heap_drewN, World.cell?_drewN, World.frozen?_drewN] at hc1 hf1); have hz1 := hb1.size; (try simp at hz1); (try (have hy1 := Nat.lt_of_succ_le hz1)); (try (have hx1 := Nat.lt_of_succ_lt hy1)); (first | refine szz6 w1 w (by omega) ?_ | refine szz5 w1 w (by omega) ?_ | refine szz4 w1 w (by omega) ?_ | refine szz3 w1 w (by omega) ?_ | refine szz2 w1 w (by omega) ?_ | refine szz1 w1 w (by omega) ?_ | refine szz0 w1 w (by omega) ?_ | refine szzn w1 w (by omega) ?_ | skip); intros)
    exact bodyPost_ret (v := .tuple #[.agg #[.int .i64 0, .int .i64 0, .string ⟨#[]⟩], .int .i64 ee]) (by first | (simp [results, Tryz.results63, go_sem]; done) | (simp [results, Tryz.results63, go_sem, *]; done)) rfl ⟨rfl, bel⟩
end Go.Proofs.YtgmcojnhpedpnaaGreat
/- What a formula folds to. Plain laws. -/
namespace Go.Proofs.YtgmcojnhpedpnaaGreat
open Go.RowKit

def noStr : ByteArray := ⟨#[]⟩
/-- A value as a formula. -/
def constX (v : Val) : Exp := if v.k = 1 ∧ v.n < 0 then .mk 3 ⟨0, 0, noStr⟩ noStr [.mk 1 ⟨v.k, -v.n, v.s⟩ noStr []] else .mk 1 v noStr []
/-- An 'if' whose condition is known is the arm that it takes. -/
def ifX (y : Exp) : Exp :=
  if y.op = 17 then match y.args with
    | [a, b, c] => if a.op = 1 ∧ a.v.k = 2 then (if a.v.n = 1 then b else c) else y
    | _ => y
  else y
mutual
def foldX : Exp → Exp
  | .mk op v nm args => if askN (.mk op v nm args) = [] ∧ valKnown (evX [] (.mk op v nm args)) = true then constX (evX [] (.mk op v nm args)) else ifX (.mk op v nm (foldL args))
def foldL : List Exp → List Exp
  | [] => []
  | a :: l => foldX a :: foldL l
end
theorem foldL_map : ∀ l, foldL l = l.map foldX
  | [] => by simp [foldL]
  | a :: l => by simp [foldL, foldL_map l]
theorem foldX_known {x : Exp} (h : askN x = []) (h2 : valKnown (evX [] x) = true) : foldX x = constX (evX [] x) := by
  obtain ⟨op, v, nm, args⟩ := x
  rw [foldX, if_pos ⟨h, h2⟩]
theorem foldX_else {x : Exp} (h : ¬ (askN x = [] ∧ valKnown (evX [] x) = true)) : foldX x = ifX (.mk x.op x.v x.name (x.args.map foldX)) := by
  obtain ⟨op, v, nm, args⟩ := x
  rw [foldX, if_neg h, foldL_map]
  rfl
-- sizes without wrapping
theorem w64 {n : Int} (h1 : 0 ≤ n) (h2 : n ≤ 4194304) : wrap64 n = n := by unfold wrap64; omega
mutual
theorem szN_nodes : ∀ x : Exp, x.nodes ≤ 2097152 → szN x = (x.nodes : Int)
  | .mk op v nm args, h => by
    have h2 : nodesL args + 1 ≤ 2097152 := h
    have := szNL_nodes args 1 (by omega) (by omega)
    show szNL 1 args = ((nodesL args + 1 : Nat) : Int)
    omega
theorem szNL_nodes : ∀ (l : List Exp) (n : Int), 0 ≤ n → n + (nodesL l : Int) ≤ 2097152 → szNL n l = n + (nodesL l : Int)
  | [], n, _, _ => by simp [szNL, nodesL]
  | a :: l, n, h0, h => by
    have e : nodesL (a :: l) = a.nodes + nodesL l := rfl
    rw [e] at h ⊢
    have ha := szN_nodes a (by omega)
    have hw : wrap64 (n + szN a) = n + (a.nodes : Int) := by rw [ha]; exact w64 (by omega) (by omega)
    show szNL (wrap64 (n + szN a)) l = _
    rw [hw, szNL_nodes l _ (by omega) (by omega)]
    omega
end
mutual
theorem dpN_bd : ∀ x : Exp, x.nodes ≤ 2097152 → 1 ≤ dpN x ∧ dpN x ≤ (x.nodes : Int) ∧ dpN x = dpL 0 x.args + 1
  | .mk op v nm args, h => by
    have h2 : nodesL args + 1 ≤ 2097152 := h
    have h3 := dpL_bd args 0 (by omega) (by omega)
    have e : dpN (.mk op v nm args) = dpL 0 args + 1 := by
      show wrap64 (dpL 0 args + 1) = _
      exact w64 (by omega) (by omega)
    have e2 : ((Exp.mk op v nm args).nodes : Int) = (nodesL args : Int) + 1 := rfl
    rw [e2, e]
    exact ⟨by omega, by omega, rfl⟩
theorem dpL_bd : ∀ (l : List Exp) (d : Int), 0 ≤ d → nodesL l ≤ 2097152 → d ≤ dpL d l ∧ dpL d l ≤ d + (nodesL l : Int)
  | [], d, _, _ => by simp [dpL, nodesL]
  | a :: l, d, h0, h => by
    have e : nodesL (a :: l) = a.nodes + nodesL l := rfl
    rw [e] at h ⊢
    have ha := dpN_bd a (by omega)
    have hl := dpL_bd l (max d (dpN a)) (by omega) (by omega)
    show d ≤ dpL (max d (dpN a)) l ∧ dpL (max d (dpN a)) l ≤ _
    omega
end
theorem dpL_mem : ∀ (l : List Exp) (d : Int), 0 ≤ d → nodesL l ≤ 2097152 → ∀ a ∈ l, dpN a ≤ dpL d l
  | [], _, _, _, _, h => absurd h List.not_mem_nil
  | b :: l, d, h0, h, a, ha => by
    have e : nodesL (b :: l) = b.nodes + nodesL l := rfl
    rw [e] at h
    have hb := dpN_bd b (by omega)
    show dpN a ≤ dpL (max d (dpN b)) l
    rcases List.mem_cons.1 ha with rfl | ha
    · have := dpL_bd l (max d (dpN a)) (by omega) (by omega)
      omega
    · exact dpL_mem l _ (by omega) (by omega) a ha
theorem prtL_mem : ∀ (l : List Exp), prtL l = 0 → ∀ a ∈ l, prtN a = 0
  | [], _, _, h => absurd h List.not_mem_nil
  | b :: l, h, a, ha => by
    rw [prtL] at h
    split at h
    · rename_i hb
      rcases List.mem_cons.1 ha with rfl | ha
      · exact hb
      · exact prtL_mem l h a ha
    · rename_i hb
      exact absurd h hb
theorem nodes_mem {x a : Exp} (h : a ∈ x.args) : a.nodes + 1 ≤ x.nodes := by
  obtain ⟨i, hi, he⟩ := List.mem_iff_getElem.1 h
  have := nodes_at x.args i a (by rw [List.getElem?_eq_getElem hi, he])
  have hnx : x.nodes = nodesL x.args + 1 := by cases x; rfl
  omega
/-- What may be a formula has parts that may be. -/
theorem exprErr_kid {x a : Exp} (h : exprErr x = 0) (hN : x.nodes ≤ 1048576) (ha : a ∈ x.args) : exprErr a = 0 := by
  have hp := prt_of_exprErr h
  have hk := nodes_mem ha
  have hs := szN_nodes x (by omega)
  have hsa := szN_nodes a (by omega)
  have hd := dpN_bd x (by omega)
  have hnx : x.nodes = nodesL x.args + 1 := by cases x; rfl
  have hda := dpL_mem x.args 0 (by omega) (by omega) a ha
  have hpa : prtN a = 0 := by
    rw [prtN_eq] at hp
    split at hp
    · exact prtL_mem _ hp a ha
    · rename_i hh; exact absurd hp hh
  unfold exprErr at h ⊢
  split at h
  · cases h
  split at h
  · cases h
  rw [if_neg (by omega), if_neg (by omega)]
  exact hpa

/-- A formula that is folded to a constant is one that may be. -/
theorem foldX_const : ∀ (N : Nat) (x : Exp), x.nodes ≤ N → prtN x = 0 → (foldX x).op = 1 → valKnown (foldX x).v = true
  | 0, x, h, _, _ => by
    obtain ⟨op, v, nm, args⟩ := x
    simp [Exp.nodes] at h
  | N + 1, x, h, hp, ho => by
    by_cases hk : askN x = [] ∧ valKnown (evX [] x) = true
    · rw [foldX_known hk.1 hk.2] at ho ⊢
      unfold constX at ho ⊢
      split at ho
      · simp [Exp.op] at ho
      · rename_i h2
        rw [if_neg h2]
        exact hk.2
    · rw [foldX_else hk] at ho ⊢
      have hkid : ∀ a ∈ x.args, prtN a = 0 ∧ a.nodes ≤ N := by
        intro a ha
        have := nodes_mem ha
        have h2 := hp
        rw [prtN_eq] at h2
        split at h2
        · exact ⟨prtL_mem _ h2 a ha, by omega⟩
        · rename_i hh; exact absurd h2 hh
      have hm : ∀ b ∈ x.args.map foldX, b.op = 1 → valKnown b.v = true := by
        intro b hb ho
        obtain ⟨a, ha, rfl⟩ := List.mem_map.1 hb
        exact foldX_const N a (hkid a ha).2 (hkid a ha).1 ho
      by_cases h17 : x.op = 17
      · revert ho
        unfold ifX
        show (if x.op = 17 then _ else _ : Exp).op = 1 → valKnown (if x.op = 17 then _ else _ : Exp).v = true
        rw [if_pos h17]
        dsimp only [Exp.args]
        split
        · rename_i a b c he
          have he' : x.args.map foldX = [a, b, c] := he
          rw [he'] at hm
          split
          · split
            · exact fun ho => hm b (by simp) ho
            · exact fun ho => hm c (by simp) ho
          · intro ho
            have : x.op = 1 := ho
            omega
        · intro ho
          have : x.op = 1 := ho
          omega
      · have e : ifX (.mk x.op x.v x.name (x.args.map foldX)) = .mk x.op x.v x.name (x.args.map foldX) := by
          unfold ifX
          show (if x.op = 17 then _ else _) = _
          rw [if_neg h17]
        rw [e] at ho ⊢
        exact part_v (x := x) hp ho
end Go.Proofs.YtgmcojnhpedpnaaGreat
/- names.refs: the iterator over the names that a formula asks for: a closure that calls itself and hands its names to the round. -/
namespace Go.Proofs.YtgmcojnhpedpnaaGreat
open Go.RowKit Go.Shelf Go.Maps

attribute [local go_sem] Oper.semAt_some

theorem room_none {F : Fence} (hd : F.depth = none) (k : Nat) : F.room k := fun d h => by rw [hd] at h; cases h
theorem round_any {F : Fence} (hd : F.depth = none) {m m' : Nat} {P : Program} {l : Nat} {f : FuncId} {tmps : Array Value} {assign body : Code} {w : World} {R : Ending → World → Prop}
    (h : RoundIn F m P l f tmps assign body w R) : RoundIn F m' P l f tmps assign body w R := ⟨h.1, fun c cs _ => h.2 c cs (room_none hd _)⟩
theorem yield_any {F : Fence} (hd : F.depth = none) {m : Nat} (m' : Nat) {P : Program} {l : Nat} {args : Array Value} {W : World} {R : Ending → World → Prop} (h : YieldAt F m P l args W R) : YieldAt F m' P l args W R := by
  obtain ⟨fn, tmps, assign, body, hy, hR⟩ := h
  exact ⟨fn, tmps, assign, body, hy, round_any hd hR⟩
theorem calls_any {F : Fence} (hd : F.depth = none) {m : Nat} (m' : Nat) {P : Program} {f : FuncId} {args : Array Value} {W : World} {R : Ending → World → Prop} (h : CallsIn F m P f args W R) : CallsIn F m' P f args W R := by
  exact ⟨h.1, fun cs _ => h.2 cs (room_none hd _)⟩

/-- What lay below n₀ lies as it lay, and so does every row of cells but one. -/
def Kr (n₀ rb : Nat) (A B : World) : Prop := A.heap.size ≤ B.heap.size ∧ (∀ k, k < n₀ → B.heap[k]? = A.heap[k]?) ∧ ∀ (k : Nat) (o : Obj), k ≠ rb → A.heap[k]? = some o → o.isCells = true → B.heap[k]? = some o
theorem Kr.refl (n₀ rb : Nat) (A : World) : Kr n₀ rb A A := ⟨Nat.le_refl _, fun _ _ => rfl, fun _ _ _ h _ => h⟩
theorem Kr.trans {n₀ rb : Nat} {A B C : World} (h : Kr n₀ rb A B) (k : Kr n₀ rb B C) : Kr n₀ rb A C :=
  ⟨Nat.le_trans h.1 k.1, fun i hi => (k.2.1 i hi).trans (h.2.1 i hi), fun i o hi ho hc => k.2.2 i o hi (h.2.2 i o hi ho hc) hc⟩
theorem Kr.alloc {n₀ rb : Nat} {A B : World} (h : Kr n₀ rb A B) (o : Obj) (hn : n₀ ≤ A.heap.size) : Kr n₀ rb A (B.alloc o) :=
  ⟨by have := h.1; simp; omega, fun i hi => (Below.heap_alloc B o i (by have := h.1; omega)).trans (h.2.1 i hi), fun i u hi hu hc => (Below.heap_alloc B o i (Array.getElem?_eq_some_iff.1 (h.2.2 i u hi hu hc)).1).trans (h.2.2 i u hi hu hc)⟩
theorem Kr.cells {n₀ rb : Nat} {A B : World} (h : Kr n₀ rb A B) {k : Nat} {cs : Array Value} {t : TypeId} {z : Nat × Nat} (hk : k ≠ rb) (ha : A.heap[k]? = some (.cells cs t z)) : B.heap[k]? = some (.cells cs t z) := h.2.2 k _ hk ha rfl
theorem Kr.boxed {n₀ rb : Nat} {A B : World} (h : Kr n₀ rb A B) {k : Nat} {v : Value} {t : TypeId} (hk : k ≠ rb) (ha : Boxed A k t v) : Boxed B k t v := h.2.2 k _ hk ha rfl

abbrev encN (s : { s : ByteArray // inS s }) : Array Value := #[.string s.1]

set_option maxRecDepth 100000 in
set_option maxHeartbeats 4000000 in
theorem refs_walk (F : Fence) (hd : F.depth = none) (h35 : F.fn 138) (hro : F.round = none) (l n₀ rb N Yb Wb : Nat) (J Jx : List ByteArray → World → Prop) (n₁ : Nat) (hab : AbidesFrom n₁ J) (hrb : rb < n₁) (hn1 : n₀ ≤ n₁) (hYr : Yb ≠ rb) (hWr : Wb ≠ rb)
    (hY : ∀ m pre (s : ByteArray) W, inS s → J pre W → pre.length < N → YieldAt F m Tryz.prog l #[.string s] W fun e W' =>
      (e = .returned (.bool true) ∧ J (pre ++ [s]) W' ∧ Kr n₀ rb W W') ∨ (e = .returned (.bool false) ∧ Jx (pre ++ [s]) W')) (M : Nat) :
    ∀ (x : Exp) (A : Option Addr) (c n : Nat) (pre : List ByteArray) (W : World), x.nodes ≤ M → n₁ ≤ W.heap.size →
      XRep W (fun b => b < n₀) [.int .i64 x.op, .int .i64 x.v.k, .int .i64 x.v.n, .string x.v.s, .string x.name, .slice A x.args.length c] x →
      Boxed W Yb 136 (.func (.yield l) #[] #[]) → Boxed W Wb 36 (.func (.func 138) #[] #[.pointer (some ⟨Yb, 0, none⟩), .pointer (some ⟨Wb, 0, none⟩)]) →
      J pre W → pre.length + (askN x).length ≤ N →
      CallsIn F n Tryz.prog 138 #[.agg #[.int .i64 x.op, .int .i64 x.v.k, .int .i64 x.v.n, .string x.v.s, .string x.name, .slice A x.args.length c], .pointer (some ⟨Yb, 0, none⟩), .pointer (some ⟨Wb, 0, none⟩)] W fun e W' =>
        (e = .returned (.bool true) ∧ J (pre ++ askN x) W' ∧ Kr n₀ rb W W') ∨ (e = .returned (.bool false) ∧ ∃ q, q <+: askN x ∧ Jx (pre ++ q) W') := by
  induction M with
  | zero =>
    intro x A c n pre W hM
    obtain ⟨op, v, nm, args⟩ := x
    simp [Exp.nodes] at hM
  | succ M ih =>
    intro x A c n pre W hM hsz hx bY bW hJ hN
    have HI := Lib.hid ih
    clear ih
    obtain ⟨A0, c0, e0, i1, i2, i3, i4, i5, hsl⟩ := hx.open_
    simp only [List.cons.injEq, Value.slice.injEq, and_true, true_and] at e0
    obtain ⟨rfl, rfl⟩ := e0
    have i4' : inS x.name := i3
    have hch : ∀ (i : Nat) (a : Exp), x.args[i]? = some a → a.nodes ≤ M := by
      obtain ⟨op, v, nm, args⟩ := x
      intro i a h
      have := nodes_at args i a h
      simp only [Exp.nodes] at hM
      omega
    have hask := askN_eq x
    have hdd : ∀ k : Nat, (F.depth.isSome = true → 1 ≤ k) := fun k h => by rw [hd] at h; cases h
    have HH := Lib.hid (And.intro hsl hch)
    have hlen : x.args.length ≤ 1759218604416 := by unfold inB at i4; omega
    have hWs : W.heap.size ≠ rb := by omega
    generalize hcs : (#[.int .i64 x.op, .int .i64 x.v.k, .int .i64 x.v.n, .string x.v.s, .string x.name, .slice A x.args.length c] : Array Value) = cs
    have hbx : (W.alloc (.cells cs 26)).heap[W.heap.size]? = some (.cells cs 26 (0, 0)) := World.alloc_heap_new W _
    have hJ1 : J pre (W.alloc (.cells cs 26)) := hab pre W _ none hJ (World.grownBy_alloc W _ none) (fun r e => by cases e)
    subst hcs
    -- the loop over the arguments, from whatever world in which it stands
    have HB := Lib.hid (And.intro hbx (And.intro hJ1 (And.intro bY bW)))
    clear hsl hch hx hM i1 i2 i3 i5 hbx hJ1 hJ
    obtain ⟨own, hown⟩ : ∃ own, own = if x.op = 2 then [x.name] else [] := ⟨_, rfl⟩
    rw [← hown] at hask
    have hcut : ∀ (k : Nat) (a : Exp), x.args[k]? = some a → ∃ r, askN x = own ++ askNL (x.args.take k) ++ askN a ++ r := by
      intro k a ha
      obtain ⟨hk, he⟩ := List.getElem?_eq_some_iff.1 ha
      refine ⟨askNL (x.args.drop (k + 1)), ?_⟩
      rw [hask]
      conv => lhs; rw [← List.take_append_drop k x.args, List.drop_eq_getElem_cons hk, he]
      rw [askNL_app]
      simp [askNL]
    have HC := Lib.hid hcut
    have HA := Lib.hid hask
    clear hask hcut
    have h5c : ∀ W', Kr n₀ rb (W.alloc (.cells #[.int .i64 x.op, .int .i64 x.v.k, .int .i64 x.v.n, .string x.v.s, .string x.name, .slice A x.args.length c] 26)) W' → W'.cell? ⟨W.heap.size, 5, none⟩ = some (.slice A x.args.length c) ∧ W.heap.size + 1 ≤ W'.heap.size ∧ Boxed W' Wb 36 (.func (.func 138) #[] #[.pointer (some ⟨Yb, 0, none⟩), .pointer (some ⟨Wb, 0, none⟩)]) ∧ Boxed W' Yb 136 (.func (.yield l) #[] #[]) := fun W' h => by
      have h1 := h.cells hWs HB.out.1
      exact ⟨by simp [World.cell?, h1], by simpa using h.1, h.boxed hWr (HB.out.2.2.2.alloc _), h.boxed hYr (HB.out.2.2.1.alloc _)⟩
    have H5 := Lib.hid h5c
    clear h5c
    cases ho : (x.op == 2)
    · have h0 : own = [] := by rw [hown, if_neg (by simpa using ho)]
      have HJ := Lib.hid (And.intro (show J (pre ++ own) _ by rw [h0, List.append_nil]; exact HB.out.2.1) (Kr.refl n₀ rb (W.alloc (.cells #[.int .i64 x.op, .int .i64 x.v.k, .int .i64 x.v.n, .string x.v.s, .string x.name, .slice A x.args.length c] 26))))
      clear hown h0
      refine callsIn_of_wp Tryz.func138 rfl h35 ?_ hro
      simp only [Tryz.ntmps138, List.size_toArray, List.length_cons, List.length_nil, Nat.reduceAdd, Nat.reduceSub, Array.replicate_succ, Array.replicate_zero, List.push_toArray, List.append_toArray, List.nil_append, List.cons_append]
      gi_wp2
      refine ⟨fun _ h => (by cases h), ?_⟩
      gi_wp2
      gi_loopw [20] (fun i wr => ∃ k : Nat, k ≤ x.args.length ∧ i = .int .i64 k ∧ J (pre ++ own ++ askNL (x.args.take k)) wr ∧ Kr n₀ rb (W.alloc (.cells #[.int .i64 x.op, .int .i64 x.v.k, .int .i64 x.v.n, .string x.v.s, .string x.name, .slice A x.args.length c] 26)) wr) (fun i _ => x.args.length - (intOf i).toNat)
      case atStart => exact ⟨0, by omega, rfl, by simpa [askNL] using HJ.out.1, HJ.out.2⟩
      case round =>
        obtain ⟨k, hk, rfl, hJk, hkr⟩ := hrel
        obtain ⟨_, hsz2, bW2, bY2⟩ := H5.out wr hkr
        have HK := Lib.hid (And.intro hJk (And.intro hkr (And.intro bW2 bY2)))
        clear hJk hkr bY2
        by_cases hlt : k < x.args.length
        · obtain ⟨b, o, a, X, C, hAe, hbl, hl, hxa, x0, x1, x2, x3, x4, x5⟩ := Exp_at (Sl.keepN keeps_Exp (w' := wr) (S' := fun b => b < n₀) HH.out.1 (fun b hb => ⟨hb, (HK.out.2.1.2.1 b hb).trans (Below.heap_alloc W _ b (by omega))⟩)) hlt
          subst hAe
          have hbl' : b < wr.heap.size := by have h1 : b < n₀ := hbl; omega
          have lW := bW2.lt
          have cW := bW2.cell
          obtain ⟨r, hr⟩ := HC.out k a hl
          have hNa : (pre ++ own ++ askNL (x.args.take k)).length + (askN a).length ≤ N := by
            have h1 := congrArg List.length hr
            simp only [List.length_append] at h1 ⊢
            omega
          have hJa : J (pre ++ own ++ askNL (x.args.take k)) (wr.alloc (.cells #[.int .i64 a.op, .int .i64 a.v.k, .int .i64 a.v.n, .string a.v.s, .string a.name, .slice X a.args.length C] 26)) := hab _ wr _ none HK.out.1 (World.grownBy_alloc wr _ none) (fun r e => by cases e)
          have hxa' : XRep (wr.alloc (.cells #[.int .i64 a.op, .int .i64 a.v.k, .int .i64 a.v.n, .string a.v.s, .string a.name, .slice X a.args.length C] 26)) (fun b => b < n₀) [.int .i64 a.op, .int .i64 a.v.k, .int .i64 a.v.n, .string a.v.s, .string a.name, .slice X a.args.length C] a := XRep.keep hxa (fun b hb => ⟨hb, Below.heap_alloc wr _ b (by omega)⟩)
          have hcall := HI.out a X C (n - 1) _ _ (HH.out.2 k a hl) (by simp; omega) hxa' (HK.out.2.2.2.alloc _) (HK.out.2.2.1.alloc _) hJa hNa
          have HR := Lib.hid (And.intro hr hl)
          clear hxa hxa' hJa hl hr bW2 hbl
          gi_wp2_with ((try refine ⟨hdd _, ?_⟩); gi_at_call 138; refine hcall.mono ?_; clear hcall; rintro e W3 (⟨rfl, hJ3, hk3⟩ | ⟨rfl, q, hq, hx3⟩))
          · go_roundw
            case rel =>
              refine ⟨k + 1, by omega, by go_num, ?_, HK.out.2.1.trans ((Kr.refl n₀ rb wr).alloc _ (by omega) |>.trans hk3)⟩
              rw [List.take_add_one, HR.out.2]
              simpa [askNL_app, askNL, List.append_assoc] using hJ3
            case measure => simp [intOf]; omega
          · go_ret
            refine .inr ⟨rfl, own ++ askNL (x.args.take k) ++ q, ?_, by simpa [List.append_assoc] using hx3⟩
            obtain ⟨r2, hr2⟩ := hq
            exact ⟨r2 ++ r, by rw [HR.out.1, ← hr2]; simp [List.append_assoc]⟩
        · have hke : k = x.args.length := by omega
          subst hke
          gi_wp2
          go_ret
          refine .inl ⟨rfl, ?_, ?_⟩
          · have h1 := HK.out.1
            rw [List.take_of_length_le (Nat.le_refl _)] at h1
            rw [HA.out]
            simpa [List.append_assoc] using h1
          · exact ((Kr.refl n₀ rb W).alloc _ (by omega)).trans HK.out.2.1
    · have h0 : own = [x.name] := by rw [hown, if_pos (by simpa using ho)]
      obtain ⟨fn, tmps, assign, body, hy, hR⟩ := hY (n - 1) pre x.name _ i4' HB.out.2.1 (by rw [HA.out, h0] at hN; simp at hN; omega)
      have cY := bY.cell
      have lY := bY.lt
      refine callsIn_of_wp Tryz.func138 rfl h35 ?_ hro
      simp only [Tryz.ntmps138, List.size_toArray, List.length_cons, List.length_nil, Nat.reduceAdd, Nat.reduceSub, Array.replicate_succ, Array.replicate_zero, List.push_toArray, List.append_toArray, List.nil_append, List.cons_append]
      gi_wp2_with ((try refine ⟨hdd _, ?_⟩); refine hR.mono ?_; clear hR; rintro e W2 (⟨rfl, hJ2, hk2⟩ | ⟨rfl, hx2⟩); (first | (obtain ⟨c5, hs5, _⟩ := H5.out W2 hk2) | skip))
      rotate_left
      · go_ret
        exact .inr ⟨rfl, [x.name], ⟨askNL x.args, by rw [HA.out, h0]⟩, hx2⟩
      have HJ := Lib.hid (And.intro (show J (pre ++ own) W2 by rw [h0]; exact hJ2) hk2)
      clear hown h0 hJ2 hk2
      gi_loopw [20] (fun i wr => ∃ k : Nat, k ≤ x.args.length ∧ i = .int .i64 k ∧ J (pre ++ own ++ askNL (x.args.take k)) wr ∧ Kr n₀ rb (W.alloc (.cells #[.int .i64 x.op, .int .i64 x.v.k, .int .i64 x.v.n, .string x.v.s, .string x.name, .slice A x.args.length c] 26)) wr) (fun i _ => x.args.length - (intOf i).toNat)
      case atStart => exact ⟨0, by omega, rfl, by simpa [askNL] using HJ.out.1, HJ.out.2⟩
      case round =>
        obtain ⟨k, hk, rfl, hJk, hkr⟩ := hrel
        obtain ⟨_, hsz2, bW2, bY2⟩ := H5.out wr hkr
        have HK := Lib.hid (And.intro hJk (And.intro hkr (And.intro bW2 bY2)))
        clear hJk hkr bY2
        by_cases hlt : k < x.args.length
        · obtain ⟨b, o, a, X, C, hAe, hbl, hl, hxa, x0, x1, x2, x3, x4, x5⟩ := Exp_at (Sl.keepN keeps_Exp (w' := wr) (S' := fun b => b < n₀) HH.out.1 (fun b hb => ⟨hb, (HK.out.2.1.2.1 b hb).trans (Below.heap_alloc W _ b (by omega))⟩)) hlt
          subst hAe
          have hbl' : b < wr.heap.size := by have h1 : b < n₀ := hbl; omega
          have lW := bW2.lt
          have cW := bW2.cell
          obtain ⟨r, hr⟩ := HC.out k a hl
          have hNa : (pre ++ own ++ askNL (x.args.take k)).length + (askN a).length ≤ N := by
            have h1 := congrArg List.length hr
            simp only [List.length_append] at h1 ⊢
            omega
          have hJa : J (pre ++ own ++ askNL (x.args.take k)) (wr.alloc (.cells #[.int .i64 a.op, .int .i64 a.v.k, .int .i64 a.v.n, .string a.v.s, .string a.name, .slice X a.args.length C] 26)) := hab _ wr _ none HK.out.1 (World.grownBy_alloc wr _ none) (fun r e => by cases e)
          have hxa' : XRep (wr.alloc (.cells #[.int .i64 a.op, .int .i64 a.v.k, .int .i64 a.v.n, .string a.v.s, .string a.name, .slice X a.args.length C] 26)) (fun b => b < n₀) [.int .i64 a.op, .int .i64 a.v.k, .int .i64 a.v.n, .string a.v.s, .string a.name, .slice X a.args.length C] a := XRep.keep hxa (fun b hb => ⟨hb, Below.heap_alloc wr _ b (by omega)⟩)
          have hcall := HI.out a X C (n - 1) _ _ (HH.out.2 k a hl) (by simp; omega) hxa' (HK.out.2.2.2.alloc _) (HK.out.2.2.1.alloc _) hJa hNa
          have HR := Lib.hid (And.intro hr hl)
          clear hxa hxa' hJa hl hr bW2 hbl
          gi_wp2_with ((try refine ⟨hdd _, ?_⟩); gi_at_call 138; refine hcall.mono ?_; clear hcall; rintro e W3 (⟨rfl, hJ3, hk3⟩ | ⟨rfl, q, hq, hx3⟩))
          · go_roundw
            case rel =>
              refine ⟨k + 1, by omega, by go_num, ?_, HK.out.2.1.trans ((Kr.refl n₀ rb wr).alloc _ (by omega) |>.trans hk3)⟩
              rw [List.take_add_one, HR.out.2]
              simpa [askNL_app, askNL, List.append_assoc] using hJ3
            case measure => simp [intOf]; omega
          · go_ret
            refine .inr ⟨rfl, own ++ askNL (x.args.take k) ++ q, ?_, by simpa [List.append_assoc] using hx3⟩
            obtain ⟨r2, hr2⟩ := hq
            exact ⟨r2 ++ r, by rw [HR.out.1, ← hr2]; simp [List.append_assoc]⟩
        · have hke : k = x.args.length := by omega
          subst hke
          gi_wp2
          go_ret
          refine .inl ⟨rfl, ?_, ?_⟩
          · have h1 := HK.out.1
            rw [List.take_of_length_le (Nat.le_refl _)] at h1
            rw [HA.out]
            simpa [List.append_assoc] using h1
          · exact ((Kr.refl n₀ rb W).alloc _ (by omega)).trans HK.out.2.1
end Go.Proofs.YtgmcojnhpedpnaaGreat
/- names.refs as an iterator's contract; names.Has. -/
namespace Go.Proofs.YtgmcojnhpedpnaaGreat
open Go.RowKit Go.Shelf Go.Maps

attribute [local go_sem] Oper.semAt_some

abbrev NmIt := { s : ByteArray // inS s }
abbrev encNm (s : NmIt) : Array Value := #[.string s.1]
def nmsOf (l : List NmIt) : List ByteArray := l.map (·.1)
theorem nmsOf_snoc (l : List NmIt) (s : NmIt) : nmsOf (l ++ [s]) = nmsOf l ++ [s.1] := by simp [nmsOf]
theorem nmsOf_len (l : List NmIt) : (nmsOf l).length = l.length := by simp [nmsOf]

set_option maxRecDepth 100000 in
set_option maxHeartbeats 2000000 in
theorem refs1_in (F : Fence) (hd : F.depth = none) (n : Nat) (h34 : F.fn 137) (h35 : F.fn 138) (hro : F.round = none) (l Bx n₀ rb : Nat) (x : Exp) (A : Option Addr) (c : Nat) (J Jx : List NmIt → World → Prop) (W : World)
    (hab : AbidesFrom W.heap.size J) (hrb : rb < W.heap.size) (hn0 : n₀ ≤ W.heap.size)
    (hY : ∀ pre (s : NmIt) W, J pre W → pre.length < (askN x).length → YieldAt F (n - 1) Tryz.prog l (encNm s) W fun e W' =>
      (e = .returned (.bool true) ∧ J (pre ++ [s]) W' ∧ Kr n₀ rb W W') ∨ (e = .returned (.bool false) ∧ Jx (pre ++ [s]) W'))
    (hBx : W.heap[Bx]? = some (.cells #[.int .i64 x.op, .int .i64 x.v.k, .int .i64 x.v.n, .string x.v.s, .string x.name, .slice A x.args.length c] 26 (0, 0)))
    (hx : XRep W (fun b => b < n₀) [.int .i64 x.op, .int .i64 x.v.k, .int .i64 x.v.n, .string x.v.s, .string x.name, .slice A x.args.length c] x) (h0 : J [] W) :
    CallsIn F n Tryz.prog 137 #[.func (.yield l) #[] #[], .pointer (some ⟨Bx, 0, none⟩)] W fun e W' => (∃ v, e = .returned v) ∧
      ((∃ ys, nmsOf ys = askN x ∧ J ys W') ∨ (∃ pre, nmsOf pre <+: askN x ∧ Jx pre W')) := by
  have hdd : ∀ k : Nat, (F.depth.isSome = true → 1 ≤ k) := fun k h => by rw [hd] at h; cases h
  have hbl : Bx < W.heap.size := (Array.getElem?_eq_some_iff.1 hBx).1
  have c0 : W.cell? ⟨Bx, 0, none⟩ = some (.int .i64 x.op) := by simp [World.cell?, hBx]
  have c1 : W.cell? ⟨Bx, 1, none⟩ = some (.int .i64 x.v.k) := by simp [World.cell?, hBx]
  have c2 : W.cell? ⟨Bx, 2, none⟩ = some (.int .i64 x.v.n) := by simp [World.cell?, hBx]
  have c3 : W.cell? ⟨Bx, 3, none⟩ = some (.string x.v.s) := by simp [World.cell?, hBx]
  have c4 : W.cell? ⟨Bx, 4, none⟩ = some (.string x.name) := by simp [World.cell?, hBx]
  have c5 : W.cell? ⟨Bx, 5, none⟩ = some (.slice A x.args.length c) := by simp [World.cell?, hBx]
  obtain ⟨W2, hW2⟩ : ∃ W2, W2 = (W.alloc (.cells #[.func (.yield l) #[] #[]] 136)).alloc (.cells #[.func (.func 138) #[] #[.pointer (some ⟨W.heap.size, 0, none⟩), .pointer (some ⟨W.heap.size + 1, 0, none⟩)]] 36) := ⟨_, rfl⟩
  have hs2 : W2.heap.size = W.heap.size + 2 := by rw [hW2]; simp
  have hblk : ∀ b, b < W.heap.size → W2.heap[b]? = W.heap[b]? := fun b hb => by rw [hW2]; exact (Below.heap_alloc _ _ b (by simp; omega)).trans (Below.heap_alloc _ _ b hb)
  have bY : Boxed W2 W.heap.size 136 (.func (.yield l) #[] #[]) := by rw [hW2]; exact (Boxed.new W _ _).alloc _
  have bW : Boxed W2 (W.heap.size + 1) 36 (.func (.func 138) #[] #[.pointer (some ⟨W.heap.size, 0, none⟩), .pointer (some ⟨W.heap.size + 1, 0, none⟩)]) := by
    rw [hW2]; have := Boxed.new (W.alloc (.cells #[.func (.yield l) #[] #[]] 136)) 36 (.func (.func 138) #[] #[.pointer (some ⟨W.heap.size, 0, none⟩), .pointer (some ⟨W.heap.size + 1, 0, none⟩)])
    rwa [World.size_alloc] at this
  have hJ2 : J [] W2 := by rw [hW2]; exact hab _ _ _ none (hab _ _ _ none h0 (World.grownBy_alloc W _ none) (fun r e => by cases e)) (World.grownBy_alloc _ _ none) (fun r e => by cases e)
  have hx2 : XRep W2 (fun b => b < n₀) [.int .i64 x.op, .int .i64 x.v.k, .int .i64 x.v.n, .string x.v.s, .string x.name, .slice A x.args.length c] x := XRep.keep hx (fun b hb => ⟨hb, hblk b (by omega)⟩)
  have hcall := refs_walk F hd h35 hro l n₀ rb (askN x).length W.heap.size (W.heap.size + 1) (fun l W => ∃ ys, nmsOf ys = l ∧ J ys W) (fun l W => ∃ ys, nmsOf ys = l ∧ Jx ys W) W.heap.size
    (fun s A B row ⟨ys, e, hs⟩ hg hr => ⟨ys, e, hab ys A B row hs hg hr⟩) hrb hn0 (by omega) (by omega)
    (fun m pre s W1 hs ⟨ys, e, hj⟩ hl => yield_any hd m (YieldAt.mono (hY ys ⟨s, hs⟩ W1 hj (by rw [← nmsOf_len, e]; exact hl)) fun e1 W3 h => h.elim
      (fun ⟨h1, h2, h3⟩ => .inl ⟨h1, ⟨_, by rw [nmsOf_snoc, e], h2⟩, h3⟩) (fun ⟨h1, h2⟩ => .inr ⟨h1, ⟨_, by rw [nmsOf_snoc, e], h2⟩⟩)))
    x.nodes x A c (n - 1) [] W2 (Nat.le_refl _) (by omega) hx2 bY bW ⟨[], rfl, hJ2⟩ (by simp)
  have HC := Lib.hid hcall
  have HW := Lib.hid hW2
  clear hcall hW2 hBx hx h0 hab hJ2 hx2 bY bW hY
  refine callsIn_of_wp Tryz.func137 rfl h34 ?_ hro
  simp only [Tryz.ntmps137, List.size_toArray, List.length_cons, List.length_nil, Nat.reduceAdd, Nat.reduceSub, Array.replicate_succ, Array.replicate_zero, List.push_toArray, List.append_toArray, List.nil_append, List.cons_append]
  gi_wp2_with ((try refine ⟨hdd _, ?_⟩); gi_at_call 138; rw [← HW.out]; refine HC.out.mono ?_; rintro e W3 (⟨rfl, ⟨ys, hys, hJ3⟩, _⟩ | ⟨rfl, q, hq, ⟨ys, hys, hx3⟩⟩))
  · go_end0
    exact ⟨⟨_, rfl⟩, .inl ⟨ys, by simpa using hys, hJ3⟩⟩
  · go_end0
    exact ⟨⟨_, rfl⟩, .inr ⟨ys, by rw [hys]; simpa using hq, hx3⟩⟩

set_option maxHeartbeats 1000000 in
theorem refs_in (F : Fence) (n : Nat) (h14 : F.fn 101) (hro : F.round = none) (cs : Array Value) (hcs : cs.size = 6) (w : World) :
    CallsIn F n Tryz.prog 101 #[.agg cs] w fun e w' => e = .returned (.func (.func 137) #[] #[.pointer (some ⟨w.heap.size, 0, none⟩)]) ∧ w' = w.alloc (.cells cs 26) := by
  obtain ⟨l⟩ := cs
  match l, hcs with
  | [a, b, c, d, e, f], _ =>
    refine callsIn_of_wp Tryz.func101 rfl h14 ?_ hro
    simp only [Tryz.ntmps101, List.size_toArray, List.length_cons, List.length_nil, Nat.reduceAdd, Nat.reduceSub, Array.replicate_succ, Array.replicate_zero, List.push_toArray, List.append_toArray, List.nil_append, List.cons_append]
    gi_wp2
    go_ret
    exact ⟨rfl, rfl⟩
theorem refs_stops (F : Fence) (hd : F.depth = none) (n : Nat) (h34 : F.fn 137) (h35 : F.fn 138) (hro : F.round = none) (Bx n₀ rb : Nat) (x : Exp) (A : Option Addr) (c : Nat) (w : World) (hrb : rb < w.heap.size) (hn0 : n₀ ≤ w.heap.size)
    (hBx : w.heap[Bx]? = some (.cells #[.int .i64 x.op, .int .i64 x.v.k, .int .i64 x.v.n, .string x.v.s, .string x.name, .slice A x.args.length c] 26 (0, 0)))
    (hx : XRep w (fun b => b < n₀) [.int .i64 x.op, .int .i64 x.v.k, .int .i64 x.v.n, .string x.v.s, .string x.name, .slice A x.args.length c] x) :
    SeqStopsK F n Tryz.prog 137 #[.pointer (some ⟨Bx, 0, none⟩)] encNm (Kr n₀ rb) (fun ys => nmsOf ys = askN x) (fun pre => nmsOf pre <+: askN x) (askN x).length w := fun l J Jx W hW hab _ hY h0 =>
  refs1_in F hd n h34 h35 hro l Bx n₀ rb x A c J Jx W hab (Nat.lt_of_lt_of_le hrb hW.size) (Nat.le_trans hn0 hW.size) hY ((hW.block Bx (Array.getElem?_eq_some_iff.1 hBx).1).trans hBx)
    (XRep.keep hx (fun b hb => ⟨hb, hW.block b (by omega)⟩)) h0
theorem Kr.put {n₀ rb : Nat} (W : World) (l : Nat) (o o' : Obj) (hl : n₀ ≤ l) (ho : W.heap[l]? = some o) (hc : o.isCells = false) : Kr n₀ rb W (W.putObj l o') :=
  ⟨by simp, fun k hk => World.putObj_heap_other (fun e => by omega), fun k u hk hu hcu => (World.putObj_heap_other (fun e => by subst e; rw [ho] at hu; cases hu; rw [hc] at hcu; cases hcu)).trans hu⟩

end Go.Proofs.YtgmcojnhpedpnaaGreat
/- slices.Sorted(maps.Keys(m)) at a map of this program: the shelf's contracts, laid (IterL), as the walk wants them. -/
namespace Go.Proofs.YtgmcojnhpedpnaaGreat
open Go.RowKit Go.Maps Go.Sort Go.Shelf

theorem sorts_at (m : Nat) : AnyZ.SortsIn Tryz.prog Tryz.sorted_ren Fence.wide m :=
  ⟨fun blk off cap ss W hH hblk hsz => callsIn_wide.2 (AnyM.slices_Sort_string Tryz.sort blk off cap ss W hH hblk hsz),
   fun p cap W => callsIn_wide.2 (AnyM.slices_Sort_string_none Tryz.sort p cap W)⟩
theorem maps_Keys_at (mb : Option Nat) (W : World) : CallsIn Fence.wide 5 Tryz.prog 103 #[.map mb] W fun e w' => e = .returned (.func (.func 141) #[] #[.pointer (some ⟨W.heap.size, 0, none⟩)]) ∧ w' = W.alloc (.cells #[.map mb] 119) :=
  AnyZ.keys_in Tryz.keys Fence.wide 5 trivial rfl mb W

set_option maxHeartbeats 1000000 in
theorem slices_Sorted_at {H : Type} (b nn : Nat) (D0 : DataW H) (R : Value → Option (DataW H × List MemPlace)) (w : World) (hown : w.ownsMap Tryz.prog 9 R b nn D0) (hmax : Maps.size D0 ≤ maxLen) (hbytes : Maps.size D0 * 16 ≤ 140737488355328) :
    CallsIn Fence.wide 5 Tryz.prog 102 #[.func (.func 141) #[] #[.pointer (some ⟨w.heap.size, 0, none⟩)]] (w.alloc (.cells #[.map (some b)] 119)) fun e w' => ∃ (v : Value) (ss : List (List UInt8)), e = .returned v ∧ ss.Perm (strKeys D0) ∧
      w'.ownsRow (w.alloc (.cells #[.map (some b)] 119)).heap.size 9 1 v ss.length ((ss.mergeSort (fun x y => decide (x ≤ y))).map encStr) ∧ (v = .slice none 0 0 ↔ ss = []) ∧ Below (w.alloc (.cells #[.map (some b)] 119)).heap.size (w.alloc (.cells #[.map (some b)] 119)) w' := by
  have hbl := hown.lt
  have hseq : SeqGives Fence.wide 2 Tryz.prog 141 #[.pointer (some ⟨w.heap.size, 0, none⟩)] encStr (fun ss => ss.Perm (strKeys D0)) (Maps.size D0) (w.alloc (.cells #[.map (some b)] 119)) :=
    AnyZ.keys_gives (ρ := Tryz.keys_ren) { Tryz.keys with } Fence.wide _ trivial rfl (by omega) w.heap.size b nn D0 _ (by simp) (by simp) (by
      obtain ⟨es, clock, hb, Ft, hs, hD⟩ := hown
      exact ⟨es, clock, (Below.heap_alloc _ _ b hbl).trans hb, Ft, hs, hD⟩)
  exact AnyZ.sorted_in Tryz.sorted Fence.wide 5 trivial trivial trivial trivial rfl (by omega) (sorts_at _) (enters_of Tryz.func140 (by kernel_rfl) rfl) 141 #[.pointer (some ⟨w.heap.size, 0, none⟩)] trivial (enters_of Tryz.func141 (by kernel_rfl) rfl) _ _ hmax hbytes _ hseq

/-- What stands at each name of a list. -/
def nameSet (l : List ByteArray) : Lit → Option Value := l.foldl (fun f s => putAt f (.string s.data.toList) (.bool true)) (fun _ => none)
theorem nameSet_snoc (l : List ByteArray) (s : ByteArray) : nameSet (l ++ [s]) = putAt (nameSet l) (.string s.data.toList) (.bool true) := by simp [nameSet]
theorem isKeyLit_str (s : List UInt8) : WideAt.IsKeyLit (.string s) := by simp [WideAt.IsKeyLit]
theorem nameSet_some (l : List ByteArray) (s : List UInt8) : (nameSet l (.string s)).isSome = true ↔ ∃ t ∈ l, t.data.toList = s := by
  suffices h : ∀ (m : List ByteArray) (f : Lit → Option Value), (m.foldl (fun f s => putAt f (.string s.data.toList) (.bool true)) f (.string s)).isSome = true ↔ (f (.string s)).isSome = true ∨ ∃ t ∈ m, t.data.toList = s by
    have := h l (fun _ => none)
    simpa [nameSet] using this
  intro m
  induction m with
  | nil => simp
  | cons a m ih =>
    intro f
    rw [List.foldl_cons, ih]
    by_cases he : a.data.toList = s
    · subst he
      rw [putAt_same (isKeyLit_str _)]
      simp
    · rw [putAt_other (by intro e; cases e; exact he rfl)]
      simp [he]
theorem flat_one {α : Type} (f : α → Value) : ∀ l : List α, l.flatMap (fun a => [f a]) = l.map f
  | [] => rfl
  | a :: l => by rw [List.flatMap_cons, flat_one f l]; rfl
/-- The sorted keys of a set of names are the names, rising. -/
theorem sorted_rise (l : List ByteArray) (D : DataW Value) (k : TypeId) {w : World} {b n : Nat} (ho : w.ownsMap Tryz.prog k rdV b n D) (hk : Tryz.prog.underlying k = some .string) (hh : ∀ kl, Maps.has D kl = (nameSet l kl).isSome) (ss : List (List UInt8)) (hp : ss.Perm (strKeys D)) :
    (ss.mergeSort (fun x y => decide (x ≤ y))).map encStr = (rise l).flatMap strCs ∧ ss.length = (rise l).length := by
  have K : Keyed Tryz.prog k := Maps.string_keyed hk
  obtain ⟨es, rfl, hpw, hkl⟩ := ho.entries K
  have hstr : ∀ p ∈ es, ∃ x, p.1 = .string x := by
    intro p hp
    obtain ⟨es', hD', hko⟩ := ho.keysOf
    obtain rfl : es = es' := by simpa using hD'
    obtain ⟨v, hv⟩ := hko p hp
    obtain ⟨x, _, hx, _⟩ := Maps.keyOf_str hk hv
    exact ⟨x, hx⟩
  have hnd : ss.Nodup := by
    rw [hp.nodup_iff]
    show (es.map fun p => strOf p.1).Nodup
    rw [List.Nodup, List.pairwise_map]
    refine hpw.imp_of_mem fun {a c} ha hc hne he => hne ?_
    obtain ⟨x, hx⟩ := hstr a ha
    obtain ⟨y, hy⟩ := hstr c hc
    rw [hx, hy] at he ⊢
    exact congrArg Lit.string he
  have hmem : ∀ x : ByteArray, x.data.toList ∈ ss ↔ x ∈ l := by
    intro x
    rw [hp.mem_iff]
    have h1 := hh (.string x.data.toList)
    have h2 := nameSet_some l x.data.toList
    rw [← h1] at h2
    have h3 : Maps.has (.map es) (.string x.data.toList) = true ↔ x.data.toList ∈ strKeys (.map es) := by
      simp only [Maps.has, List.any_eq_true, strKeys, List.mem_map]
      constructor
      · rintro ⟨p, hp, he⟩
        obtain ⟨y, hy⟩ := hstr p hp
        rw [hy] at he
        refine ⟨p, hp, ?_⟩
        rw [hy]
        simpa [Lit.sameKey, strOf] using he
      · rintro ⟨p, hp, he⟩
        obtain ⟨y, hy⟩ := hstr p hp
        refine ⟨p, hp, ?_⟩
        rw [hy] at he ⊢
        simpa [Lit.sameKey, strOf] using he
    rw [← h3, h2]
    constructor
    · rintro ⟨t, ht, he⟩
      have : t = x := by cases t; cases x; simpa using Array.toList_inj.1 he
      rw [← this]; exact ht
    · intro h; exact ⟨x, h, rfl⟩
  have hsp := List.mergeSort_perm ss (fun x y => decide (x ≤ y))
  have hsort : (ss.mergeSort (fun x y => decide (x ≤ y))).Pairwise (· ≤ ·) := by
    have := List.pairwise_mergeSort (le := fun x y : List UInt8 => decide (x ≤ y)) (by intro a b c h1 h2; simp only [decide_eq_true_eq] at *; exact List.le_trans h1 h2) (by intro a b; simp only [Bool.or_eq_true, decide_eq_true_eq]; exact List.le_total a b) ss
    simpa using this
  have hu := rise_unique l (ss.mergeSort (fun x y => decide (x ≤ y))) hsort (hsp.nodup_iff.2 hnd) (fun x => by rw [hsp.mem_iff]; exact hmem x)
  constructor
  · rw [← hu, List.flatMap_map]
    exact (flat_one _ _).symm
  · rw [← hu, List.length_map, hsp.length_eq]
end Go.Proofs.YtgmcojnhpedpnaaGreat
/- names.Of: each name once, rising. -/
namespace Go.Proofs.YtgmcojnhpedpnaaGreat
open Go.RowKit Go.Shelf Go.Maps Go.Sort

attribute [local go_sem] Oper.semAt_some

def namesR (x : Exp) : List ByteArray × Int := if exprErr x = 0 then (rise (askN x), 0) else ([], exprErr x)
mutual
theorem askN_nodes : ∀ x : Exp, (askN x).length ≤ x.nodes
  | .mk op v nm args => by
    have := askNL_nodes args
    simp only [askN, Exp.nodes, List.length_append]
    split <;> simp <;> omega
theorem askNL_nodes : ∀ l : List Exp, (askNL l).length ≤ nodesL l
  | [] => by simp [askNL]
  | a :: l => by
    have := askN_nodes a
    have := askNL_nodes l
    simp only [askNL, nodesL, List.length_append]
    omega
end
set_option maxRecDepth 100000 in
set_option maxHeartbeats 4000000 in
theorem names_Of (x : Exp) (A : Option Addr) (c : Nat) (w : World) (hN : x.nodes ≤ 1048576)
    (hx : XRep w (old w) [.int .i64 x.op, .int .i64 x.v.k, .int .i64 x.v.n, .string x.v.s, .string x.name, .slice A x.args.length c] x) :
    Calls Tryz.prog 66 #[.agg #[.int .i64 x.op, .int .i64 x.v.k, .int .i64 x.v.n, .string x.v.s, .string x.name, .slice A x.args.length c]] w (OwnRowC strCs 9 1 w (namesR x).1 (namesR x).2) := by
  have hck := fun w h => expr_Check x A c w h
  have HX := Lib.hid hx
  by_cases he : exprErr x = 0
  · rw [he] at hck
    have hr : namesR x = (rise (askN x), 0) := by rw [namesR, if_pos he]
    rw [hr]
    have hal := askN_nodes x
    have hmm := @run_makeMap Tryz.prog
    clear hx he hr
    refine (callsIn_wide (n := 6)).1 ?_
    refine callsIn_of_wp_marks Tryz.func66 rfl trivial ?_ rfl
    simp only [Tryz.ntmps66, List.size_toArray, List.length_cons, List.length_nil, Nat.reduceAdd, Nat.reduceSub, Array.replicate_succ, Array.replicate_zero, List.push_toArray, List.append_toArray, List.nil_append, List.cons_append]
    gi_wp2_with (first
      | (refine ⟨trivial, ?_⟩; gi_at_call 27; refine (callsIn_wide.2 (hck _ (HX.out.keep (old_keep bel)))).mono ?_; rintro e w1 ⟨rfl, hb1⟩; have q0 : w1.cell? ⟨w.heap.size, 0, none⟩ = some (.int .i64 x.op) := (hb1.cell (p := ⟨w.heap.size, 0, none⟩) (by simp)).trans (by go_simp); have q1 : w1.cell? ⟨w.heap.size, 1, none⟩ = some (.int .i64 x.v.k) := (hb1.cell (p := ⟨w.heap.size, 1, none⟩) (by simp)).trans (by go_simp); have q2 : w1.cell? ⟨w.heap.size, 2, none⟩ = some (.int .i64 x.v.n) := (hb1.cell (p := ⟨w.heap.size, 2, none⟩) (by simp)).trans (by go_simp); have q3 : w1.cell? ⟨w.heap.size, 3, none⟩ = some (.string x.v.s) := (hb1.cell (p := ⟨w.heap.size, 3, none⟩) (by simp)).trans (by go_simp); have q4 : w1.cell? ⟨w.heap.size, 4, none⟩ = some (.string x.name) := (hb1.cell (p := ⟨w.heap.size, 4, none⟩) (by simp)).trans (by go_simp); have q5 : w1.cell? ⟨w.heap.size, 5, none⟩ = some (.slice A x.args.length c) := (hb1.cell (p := ⟨w.heap.size, 5, none⟩) (by simp)).trans (by go_simp); have hs1 : w.heap.size < w1.heap.size := by have := hb1.size; simp at this; omega)
      | (refine ⟨trivial, ?_⟩; gi_at_call 101; refine (refs_in _ _ trivial rfl _ rfl _).mono ?_; rintro e w' ⟨rfl, rfl⟩))
    have hmp0 := MapIs.made w1 Tryz.prog 9
    have bX := World.alloc_heap_new ((w1.alloc (.map #[] 0)).alloc (.cells #[.map (some w1.heap.size)] 119)) (.cells #[.int .i64 x.op, .int .i64 x.v.k, .int .i64 x.v.n, .string x.v.s, .string x.name, .slice A x.args.length c] 26)
    have bM := (Boxed.new (w1.alloc (.map #[] 0)) 119 (.map (some w1.heap.size))).alloc (.cells #[.int .i64 x.op, .int .i64 x.v.k, .int .i64 x.v.n, .string x.v.s, .string x.name, .slice A x.args.length c] 26)
    simp only [World.size_alloc] at bX bM
    have hm1 := (hmp0.kept (World.grownBy_alloc _ (.cells #[.map (some w1.heap.size)] 119) none) (by simp)).kept (World.grownBy_alloc _ (.cells #[.int .i64 x.op, .int .i64 x.v.k, .int .i64 x.v.n, .string x.v.s, .string x.name, .slice A x.args.length c] 26) none) (by simp)
    have hbw : Below w.heap.size w w1 := alloc_below (by simpa using hb1)
    have hB0 : Below w.heap.size w (((w1.alloc (.map #[] 0)).alloc (.cells #[.map (some w1.heap.size)] 119)).alloc (.cells #[.int .i64 x.op, .int .i64 x.v.k, .int .i64 x.v.n, .string x.v.s, .string x.name, .slice A x.args.length c] 26)) := ((hbw.alloc (by omega) _).alloc (by simp; omega) _).alloc (by simp; omega) _
    have hsz : (((w1.alloc (.map #[] 0)).alloc (.cells #[.map (some w1.heap.size)] 119)).alloc (.cells #[.int .i64 x.op, .int .i64 x.v.k, .int .i64 x.v.n, .string x.v.s, .string x.name, .slice A x.args.length c] 26)).heap.size = w1.heap.size + 3 := by simp
    obtain ⟨W0, hW0⟩ : ∃ W0, (((w1.alloc (.map #[] 0)).alloc (.cells #[.map (some w1.heap.size)] 119)).alloc (.cells #[.int .i64 x.op, .int .i64 x.v.k, .int .i64 x.v.n, .string x.v.s, .string x.name, .slice A x.args.length c] 26)) = W0 := ⟨_, rfl⟩
    rw [hW0] at bX bM hm1 hB0 hsz ⊢
    clear hW0 hmp0
    have hx0 : XRep W0 (fun b => b < w.heap.size) [.int .i64 x.op, .int .i64 x.v.k, .int .i64 x.v.n, .string x.v.s, .string x.name, .slice A x.args.length c] x := XRep.keep HX.out (fun b hb => ⟨hb, hB0.block b hb⟩)
    refine wpIn_rangeFunc_ownH rfl (by omega) (gf := 137) (lb := #[.pointer (some ⟨w1.heap.size + 1 + 1, 0, none⟩)]) rfl trivial (enters_of Tryz.func137 (by kernel_rfl) rfl)
      (refs_stops _ rfl _ trivial trivial rfl (w1.heap.size + 1 + 1) w.heap.size w1.heap.size x A c W0 (by omega) (by omega) bX hx0) Kr.trans (fun W l o o' hl ho hc _ => Kr.put W l o o' (by omega) ho hc) (Below.refl _ _) (fun _ => rfl)
      (fun pre W => (Boxed W (w1.heap.size + 1) 119 (.map (some w1.heap.size)) ∧ MapIs W Tryz.prog 9 w1.heap.size pre.length (nameSet (nmsOf pre))) ∧ Below w.heap.size w W)
      (fun _ _ _ => False)
      (OwnFrom.and (OwnFrom.and (Own.from (boxed_own _ _ _) _) (fun s X Y row hs hg hr => hs.kept hg (fun e => by have := (hr _ e.symm).1; omega))) (ownFrom_below (Nat.le_refl _) (by omega)))
      (fun _ _ _ _ _ hs _ _ => hs)
      ⟨⟨bM, hm1⟩, hB0⟩
      (fun s a' W => a' = { tmps := #[.agg #[.int .i64 x.op, .int .i64 x.v.k, .int .i64 x.v.n, .string x.v.s, .string x.name, .slice A x.args.length c], .pointer (some ⟨w.heap.size, 0, none⟩), .slice none 0 0, .int .i64 0, .int .i64 0, .pointer (some ⟨w1.heap.size + 1, 0, none⟩), .string s.1, .agg #[.int .i64 x.op, .int .i64 x.v.k, .int .i64 x.v.n, .string x.v.s, .string x.name, .slice A x.args.length c], .int .i64 0, .int .i64 0, .bool false, undef, .map (some w1.heap.size), .agg #[.int .i64 x.op, .int .i64 x.v.k, .int .i64 x.v.n, .string x.v.s, .string x.name, .slice A x.args.length c], .func (.func 137) #[] #[.pointer (some ⟨w1.heap.size + 1 + 1, 0, none⟩)], .string s.1, undef, undef, undef, undef, undef], defers := [] })
      (fun s a' => ownFrom_pure _ _)
      ?assign ?body ?done ?stop
    case assign =>
      rintro l pre s W K hI hK
      gi_wp2
      exact hK _ _ (KeepsFrom.refl _ _) (Kr.refl _ _ _) hI rfl
    case body =>
      rintro l pre s a' W hl ⟨r, hr⟩ ⟨⟨bM1, hm2⟩, hB1⟩ rfl hlt
      have cM := bM1.cell
      have hks := Tryz.keyStr s.1 s.2
      have lM := bM1.lt
      clear hr
      gi_wp2_with (gi_at_mapUpdate; refine wpListIn_mapUpdate_Is _ rfl _ _ _ 119 rfl 9 4 (Maps.string_keyed Tryz.underlying9) Tryz.underlying119 w1.heap.size pre.length _ rfl hm2 (by unfold maxLen; omega) _ _ _ rfl rfl hks ?_; intro w2 hm3 hgrow1)
      refine ⟨KeepsFrom.of_grownBy hgrow1 (fun j e => by cases e; omega), ⟨hgrow1.size, fun k hk => hgrow1.block k (by omega) (fun e => by cases e; omega), fun k o hk ho _ => (hgrow1.block k (Array.getElem?_eq_some_iff.1 ho).1 (fun e => by cases e; exact hk rfl)).trans ho⟩, ⟨⟨bM1.kept hgrow1 (by simp), ?_⟩, hB1.grown hgrow1 hB1.size (fun k e => by cases e; omega)⟩⟩
      rw [List.length_append, nmsOf_snoc]
      exact (nameSet_snoc _ _) ▸ hm3
    case done =>
      rintro D ys W hD hys ⟨⟨bM1, hm2⟩, hB1⟩ hK
      have cM := bM1.cell
      obtain ⟨D0, ho, hh, _⟩ := hm2
      have hle := ho.size_le
      have hyl : ys.length = (askN x).length := by rw [← nmsOf_len, hys]
      have hsr := fun ss hp => sorted_rise (nmsOf ys) D0 9 ho Tryz.underlying9 hh ss hp
      have HO := Lib.hid (And.intro ho (And.intro hh (And.intro hB1 (And.intro hK hsr))))
      have lD : D < W.heap.size := (Array.getElem?_eq_some_iff.1 hK).1
      clear ho hh hB1 hK hsr
      gi_wp2_with (first
        | (refine ⟨trivial, ?_⟩; gi_at_call 103; refine (maps_Keys_at _ _).mono ?_; rintro e w' ⟨rfl, rfl⟩)
        | (refine ⟨trivial, ?_⟩; gi_at_call 102; refine (slices_Sorted_at w1.heap.size _ D0 rdV W HO.out.1 (by unfold maxLen; omega) (by omega)).mono ?_; rintro e w2 ⟨v, ss, rfl, hS, hrow, hnil, hb2⟩))
      have hK2 : w2.heap[D]? = some (.deferred (some [])) := (hb2.block D (by simp; omega)).trans ((Below.heap_alloc W _ D lD).trans HO.out.2.2.2.1)
      have hsr := HO.out.2.2.2.2 ss hS
      rw [hys] at hsr
      rw [hsr.1, hsr.2] at hrow
      have hb3 : Below w.heap.size w w2 := below_chain HO.out.2.2.1 (((Below.refl W.heap.size W).alloc (Nat.le_refl _) _).trans (hb2.mono (by simp)))
      have hsz2 := HO.out.2.2.1.size
      refine ⟨by simp, .inl ⟨_, _, rfl, run_takeDeferred hK2, ?_⟩⟩
      refine ⟨.tuple #[v, .int .i64 0], by simp [results, Tryz.results66, go_sem], v, rfl, ?_, ?_⟩
      · exact ownsRow_base_a (hrow.kept (grownBy_putObj' w2 D _) (.inr fun e => by have := (hrow.lt D e).1; simp at this; omega)) (by simp; omega)
      · exact hb3.trans (belowK_b (w := w) (Nat.le_refl _) w2 D _ _ (by omega) hK2 rfl rfl)
    case stop =>
      rintro D cd pre W _ _ h _
      exact h.elim
  · have hr : namesR x = ([], exprErr x) := by rw [namesR, if_neg he]
    rw [hr]
    generalize exprErr x = er at he hck
    have hne : (er != 0) = true := by simpa using he
    clear hx he hr
    go_enter Tryz.func66, Tryz.ntmps66
    go_wp2_with (go_at_call 27; refine (hck _ (HX.out.keep (old_keep bel))).mono ?_; rintro e w1 ⟨rfl, hb1⟩; obtain ⟨hc1, hf1⟩ := bcell hb1; (try simp only [World.heap_drewN, World.cell?_drewN, World.frozen?_drewN] at hc1 hf1); have hz1 := hb1.size; (try simp at hz1); (try (have hy1 := Nat.lt_of_succ_le hz1)); (try (have hx1 := Nat.lt_of_succ_lt hy1)); (first | refine szz6 w1 w (by omega) ?_ | refine szz5 w1 w (by omega) ?_ | refine szz4 w1 w (by omega) ?_ | refine szz3 w1 w (by omega) ?_ | refine szz2 w1 w (by omega) ?_ | refine szz1 w1 w (by omega) ?_ | refine szz0 w1 w (by omega) ?_ | refine szzn w1 w (by omega) ?_ | skip); intros)
    go_ret2
    exact NilC.own _ _ _ ⟨rfl, bel⟩
end Go.Proofs.YtgmcojnhpedpnaaGreat
/- The reference's rising, asked, NamesOf, NamesHas. -/
namespace Go.Proofs.YtgmcojnhpedpnaaGreat
open Go.RowKit

theorem ltS_less {a b : ByteArray} : Op.bytesLess a.toList b.toList = true ↔ ltS a b := by
  rw [bytesLess_eq, decide_eq_true_eq, ByteArray.toList_eq, ByteArray.toList_eq]; rfl
/-- How Go's '>' answers. -/
theorem gtS_cases (t s : ByteArray) : (ltS s t ∧ Op.bytesLess t.toList s.toList = false ∧ (t.toList == s.toList) = false) ∨ (¬ ltS s t ∧ (Op.bytesLess t.toList s.toList = true ∨ (t.toList == s.toList) = true)) := by
  rcases ltS_tri s t with h | h | h
  · refine .inl ⟨h, ?_, ?_⟩
    · rw [Bool.eq_false_iff, Ne, ltS_less]; exact fun k => ltS_irr _ (ltS_tr _ _ _ h k)
    · rw [beq_eq_false_iff_ne]
      intro e
      rw [toList_inj e] at h
      exact ltS_irr _ h
  · exact .inr ⟨by rw [h]; exact ltS_irr _, .inr (by rw [h]; simp)⟩
  · exact .inr ⟨fun k => ltS_irr _ (ltS_tr _ _ _ h k), .inl (ltS_less.2 h)⟩
theorem putK_step (s : ByteArray) (l : List ByteArray) (k : Nat) (t : ByteArray) (ht : l[k]? = some t) (h : ltS s t) : putK s l (k + 1) = putK s l k := by
  rw [putK, ht]; dsimp only; exact if_pos h
theorem putK_stop (s : ByteArray) (l : List ByteArray) (k : Nat) (t : ByteArray) (ht : l[k]? = some t) (h : ¬ ltS s t) : putK s l (k + 1) = k + 1 := by
  rw [putK, ht]; dsimp only; exact if_neg h

theorem own_take {w : World} {base g cap : Nat} {e : TypeId} {n k : Nat} {l : List ByteArray} (h : w.ownsRow base e 1 (.slice (some ⟨g, 0, none⟩) n cap) n (l.flatMap strCs)) (hl : l.length = n) (hk : k ≤ n) : w.ownsRow base e 1 (.slice (some ⟨g, 0, none⟩) k cap) k ((l.take k).flatMap strCs) := by
  rcases h.2 with ⟨h0, _⟩ | ⟨g', cap', cur, h0, h1, h2, h3, h4, h5, h6⟩
  · cases h0
  · cases h0
    have hc : cur.toList.take (k * 1) = (l.take k).flatMap strCs := by
      rw [← flat_take strCs 1 (fun _ => rfl) l k (by omega), ← h6, List.take_take, Nat.min_eq_left (by omega)]
    exact ⟨by rw [flat_len strCs 1 (fun _ => rfl), List.length_take]; simp; omega, .inr ⟨g, cap, cur, rfl, h1, h2, by omega, h4, h5, hc⟩⟩
theorem own_drop {w : World} {base g cap : Nat} {e : TypeId} {n k : Nat} {l : List ByteArray} (h : w.ownsRow base e 1 (.slice (some ⟨g, 0, none⟩) n cap) n (l.flatMap strCs)) (hl : l.length = n) (hk : k ≤ n) :
    ∀ p, (if cap = k then some (⟨g, 0, none⟩ : Addr) else some ⟨g, k, none⟩) = some p → ∀ j u, ((l.drop k).flatMap strCs)[j]? = some u → w.cell? (p.add j) = some u := by
  intro p hp j u hu
  have hc := h.cells (g := g) rfl (k + j) u
  rw [← flat_drop strCs 1 (fun _ => rfl) l k (by omega), List.getElem?_drop, Nat.mul_one] at hu
  have hc' := hc hu
  have hlt : k + j < n := by
    have h1 := (List.getElem?_eq_some_iff.1 hu).1
    rw [flat_len strCs 1 (fun _ => rfl)] at h1
    omega
  have hncap : n ≤ cap := by
    rcases h.2 with ⟨h0, _⟩ | ⟨g', cap', cur, h0, _, _, h3, _⟩
    · cases h0
    · cases h0; exact h3
  rw [if_neg (by omega)] at hp
  cases hp
  rw [Addr.add_lit] at hc' ⊢
  simpa using hc'
theorem own_form {w : World} {base : Nat} {e : TypeId} {size : Nat} {v : Value} {n : Nat} {xs : List Value} (h : w.ownsRow base e size v n xs) (hn : 0 < n) : ∃ g cap, v = .slice (some ⟨g, 0, none⟩) n cap := by
  rcases h.2 with ⟨_, h0⟩ | ⟨g, cap, cur, h1, _⟩
  · omega
  · exact ⟨g, cap, h1⟩
theorem one_cons (s : ByteArray) (l : List ByteArray) : ∀ u ∈ [Value.string s] ++ l.flatMap strCs, u.oneCell' = true := by
  intro u hu
  rcases List.mem_append.1 hu with h | h
  · simp at h; subst h; rfl
  · exact oneStr _ u h
theorem own_str (w : World) (e : TypeId) (s : ByteArray) : (w.alloc (.cells #[.string s] e)).ownsRow w.heap.size e 1 (.slice (some ⟨w.heap.size, 0, none⟩) 1 1) 1 [.string s] :=
  ⟨rfl, .inr ⟨w.heap.size, 1, #[.string s], rfl, Nat.le_refl _, heap_alloc_new w _, Nat.le_refl _, by decide, rfl, rfl⟩⟩
set_option maxRecDepth 100000 in
set_option maxHeartbeats 4000000 in
theorem ref_rising (A : Option Addr) (n c : Nat) (l : List ByteArray) (w : World) (hn : n ≤ 1048576) (h : Sl w (old w) 1 RStr A n l) :
    Calls Tryz.prog 32 #[.slice A n c] w (OwnRow strCs 9 1 w (rise l)) := by
  have HH := Lib.hid h
  have hall : ∀ x ∈ l, inS x := Sl.all_wf h fun _ _ h => h.2
  have HA := Lib.hid hall
  obtain ⟨i0, hi, hz0, hz1, hz2⟩ := info_parts Tryz.infoStr'
  clear h hall
  go_enter Tryz.func32, Tryz.ntmps32
  go_wp2_with fail
  go_loopw [3, 9] (fun v i wr => ∃ k : Nat, k ≤ n ∧ i = .int .i64 k ∧ wr.ownsRow w.heap.size 9 1 v (rise (l.take k)).length ((rise (l.take k)).flatMap strCs) ∧ Below w.heap.size w wr) (fun _ i _ => n - (intOf i).toNat)
  case atStart => exact ⟨0, by omega, rfl, by simpa [rise] using World.ownsRow_nil _ _ _ _, Below.refl _ _⟩
  case round =>
    obtain ⟨k, hk, rfl, hown, hb⟩ := hrel
    by_cases hlt : k < n
    · obtain ⟨b, o, s, rfl, hbl, hl, hins, h0⟩ := Str_at (HH.out.now hb) hlt
      have hbl' : b < wr.heap.size := hbl
      have hrs : rise (l.take (k + 1)) = riseOne (rise (l.take k)) s := by rw [List.take_add_one, hl]; exact rise_snoc _ _
      have hrl := rise_len (l.take k)
      have htl : (l.take k).length ≤ k := by rw [List.length_take]; omega
      have hin : ∀ x ∈ rise (l.take k), inS x := fun x hx => HA.out x (List.mem_of_mem_take ((rise_mem _ _).1 hx))
      obtain ⟨AO, CO, rfl, hcO, hslO⟩ := ownStr hown rfl hin
      generalize rise (l.take k) = R at hown hrs hrl hin hslO
      have HL := Lib.hid (And.intro hl (And.intro hrs (And.intro hin (And.intro hown (And.intro hb hslO)))))
      have hRl : R.length ≤ 1048576 := by omega
      clear hl hrs hin hown hslO hbl
      cases hany : R.any (isStr s)
      · have hcl := fun w h => ref_holds s AO R.length CO R w (by unfold inL; omega) h
        rw [hany] at hcl
        have hR1 : riseOne R s = R.take (putK s R R.length) ++ s :: R.drop (putK s R R.length) := by rw [riseOne, if_neg (by rw [hany]; simp)]
        have HR1 := Lib.hid hR1
        clear hany hR1
        rcases HL.out.2.2.2.1.2 with ⟨hv, hz⟩ | ⟨g, cap, cur, hv, hbg, hgg, hnc, hcm, _⟩
        · obtain rfl : R = [] := List.eq_nil_of_length_eq_zero hz
          cases hv
          clear hz
          go_wp2_with (go_at_call 60; refine (hcl _ (HL.out.2.2.2.2.2.now bel)).mono ?_; rintro e w1 ⟨rfl, hb1⟩)
          clear hcl
          generalize hwq : wr = wq at *
          clear hwq
          go_loopw [6] (fun jj wr => jj = .int .i64 0 ∧ Below wq.heap.size wq wr) (fun jj _ => 0)
          case atStart => exact ⟨rfl, hb1⟩
          case round =>
            obtain ⟨rfl, hbj⟩ := hrel
            go_wp2_with fail
            go_region_law (first
              | (refine step_append_sl rfl (.tmp 35) (.tmp 38) 32 rfl wr.heap.size 9 i0 (.string ⟨#[]⟩) 1 16 Tryz.underlying32 hi hz0 hz1 hz2 rfl (by decide) (.slice (some ⟨wr.heap.size, 0, none⟩) 1 1) 1 [.string s] rfl (own_str wr 9 s) none 0 0 [] rfl rfl (by intro p hp; cases hp) (by intro _; rfl) (by simp) (by unfold maxLen; omega) (by omega) (by simp) ?_; intro v1 w2 hown1 hb2 hq2; obtain ⟨g1, cap1, rfl⟩ : ∃ g1 cap1, v1 = .slice (some ⟨g1, 0, none⟩) 1 cap1 := own_form hown1 (by omega); have hB2 : Below wr.heap.size wr w2 := (((Below.refl wr.heap.size wr).alloc (Nat.le_refl _) _).drew.trans hb2); have HO1 := Lib.hid hown1; clear hown1)
              | (refine step_append_sl rfl (.tmp 33) (.tmp 39) 32 rfl w.heap.size 9 i0 (.string ⟨#[]⟩) 1 16 Tryz.underlying32 hi hz0 hz1 hz2 rfl (by decide) (.slice none 0 0) 0 [] rfl (World.ownsRow_nil _ _ _ _) (some ⟨g1, 0, none⟩) 1 cap1 [.string s] rfl rfl (fun p hp j u hu => by cases hp; exact HO1.out.cells (g := g1) rfl j u hu) (by intro h; cases h) (by intro u hu; simp at hu; subst hu; rfl) (by unfold maxLen; omega) (by omega) (by have h1 := HL.out.2.2.2.2.1.size; have h2 := hB2.size; have h3 := hbj.size; omega) ?_; intro v2 w3 hown2 hb3 hq3; have HO2 := Lib.hid hown2; clear hown2))
            go_wp2_with fail
            go_roundw
            case rel => exact ⟨k + 1, by omega, by go_num, by rw [HL.out.2.1]; exact HO2.out, (below_chain (below_chain HL.out.2.2.2.2.1 hbj) hB2).trans hb3⟩
            case measure => simp [intOf]; omega
        · cases hv
          go_wp2_with (go_at_call 60; refine (hcl _ (HL.out.2.2.2.2.2.now bel)).mono ?_; rintro e w1 ⟨rfl, hb1⟩)
          clear hcl
          generalize hwq : wr = wq at *
          clear hwq
          go_loopw [6] (fun jj wr => ∃ j : Nat, j ≤ R.length ∧ jj = .int .i64 j ∧ putK s R R.length = putK s R j ∧ Below wq.heap.size wq wr) (fun jj _ => (intOf jj).toNat)
          case atStart => exact ⟨R.length, Nat.le_refl _, rfl, rfl, hb1⟩
          case round =>
            obtain ⟨j, hj, rfl, hpk, hbj⟩ := hrel
            rcases j with _ | j
            · have HS := Lib.hid (hpk.trans rfl : putK s R R.length = 0)
              clear hpk
              go_wp2_with fail
              have hKR : (0 : Nat) ≤ R.length := by omega
              have hKC : (0 : Nat) ≤ CO := by omega
              have hoK := own_take (ownsRow_keep HL.out.2.2.2.1 hbj) rfl hKR
              have hoD := own_drop (ownsRow_keep HL.out.2.2.2.1 hbj) rfl hKR
              have HO := Lib.hid (And.intro hoK hoD)
              clear hoK hoD
              go_region_law (first
                | (refine step_append_sl rfl (.tmp 35) (.tmp 38) 32 rfl wr.heap.size 9 i0 (.string ⟨#[]⟩) 1 16 Tryz.underlying32 hi hz0 hz1 hz2 rfl (by decide) (.slice (some ⟨wr.heap.size, 0, none⟩) 1 1) 1 [.string s] rfl (own_str wr 9 s) (some ⟨g, 0, none⟩) R.length CO ((R.drop 0).flatMap strCs) rfl (by rw [flat_len strCs 1 (fun _ => rfl), List.length_drop]; first | done | simp) (fun p hp j u hu => Lib.cell?_alloc_some _ (HO.out.2 p (by simpa using hp) j u hu)) (by intro h; first | cases h | (split at h <;> cases h)) (oneStr _) (by unfold maxLen; omega) (by omega) (by simp) ?_; intro v1 w2 hown1 hb2 hq2; obtain ⟨g1, cap1, rfl⟩ : ∃ g1 cap1, v1 = .slice (some ⟨g1, 0, none⟩) (1 + R.length) cap1 := own_form hown1 (by omega); have hB2 : Below wr.heap.size wr w2 := (((Below.refl wr.heap.size wr).alloc (Nat.le_refl _) _).drew.trans hb2); have HO1 := Lib.hid hown1; clear hown1)
                | (refine step_append_sl rfl (.tmp 33) (.tmp 39) 32 rfl w.heap.size 9 i0 (.string ⟨#[]⟩) 1 16 Tryz.underlying32 hi hz0 hz1 hz2 rfl (by decide) (.slice (some ⟨g, 0, none⟩) 0 CO) 0 ((R.take 0).flatMap strCs) rfl (ownsRow_keep HO.out.1 hB2) (some ⟨g1, 0, none⟩) (1 + R.length) cap1 ([.string s] ++ (R.drop 0).flatMap strCs) rfl (by rw [List.length_append, flat_len strCs 1 (fun _ => rfl), List.length_drop]; simp) (fun p hp j u hu => by cases hp; exact HO1.out.cells (g := g1) rfl j u hu) (by intro h; cases h) (one_cons s _) (by unfold maxLen; omega) (by omega) (by have h1 := HL.out.2.2.2.2.1.size; have h2 := hB2.size; have h3 := hbj.size; omega) ?_; intro v2 w3 hown2 hb3 hq3; have HO2 := Lib.hid hown2; clear hown2))
              go_wp2_with fail
              go_roundw
              case rel =>
                refine ⟨k + 1, by omega, by go_num, ?_, ?_⟩
                · have e1 : (R.take (putK s R R.length) ++ s :: R.drop (putK s R R.length)).length = 0 + (1 + R.length) := by rw [HS.out]; simp; try omega
                  rw [HL.out.2.1, HR1.out, e1, HS.out, List.flatMap_append, List.flatMap_cons]
                  exact HO2.out
                · exact (below_chain (below_chain HL.out.2.2.2.2.1 hbj) hB2).trans hb3
              case measure => simp [intOf]; omega
            · obtain ⟨b2, o2, t, hAe, hbl2, hlt2, _, g0⟩ := Str_at (HL.out.2.2.2.2.2.now hbj) (show j < R.length by omega)
              cases hAe
              rw [Nat.zero_add] at g0
              have hbl2' : g < wr.heap.size := hbl2
              rcases gtS_cases t s with ⟨h1, h2, h3⟩ | ⟨h1, h2⟩
              · have HS := Lib.hid (hpk.trans (putK_step s R j t hlt2 h1))
                clear hpk hlt2 h1 hbl2
                go_wp2_with fail
                go_roundw
                case rel => exact ⟨j, by omega, by go_num, HS.out, hbj⟩
                case measure => simp [intOf]
              · have HS := Lib.hid (hpk.trans (putK_stop s R j t hlt2 h1))
                clear hpk hlt2 h1 hbl2
                rcases h2 with h2 | h2
                all_goals
                  go_wp2_with fail
                  generalize hKe : j + 1 = K at *
                  clear hKe
                  have hKR : (K : Nat) ≤ R.length := by omega
                  have hKC : (K : Nat) ≤ CO := by omega
                  have hoK := own_take (ownsRow_keep HL.out.2.2.2.1 hbj) rfl hKR
                  have hoD := own_drop (ownsRow_keep HL.out.2.2.2.1 hbj) rfl hKR
                  have HO := Lib.hid (And.intro hoK hoD)
                  clear hoK hoD
                  go_region_law (first
                    | (refine step_append_sl rfl (.tmp 35) (.tmp 38) 32 rfl wr.heap.size 9 i0 (.string ⟨#[]⟩) 1 16 Tryz.underlying32 hi hz0 hz1 hz2 rfl (by decide) (.slice (some ⟨wr.heap.size, 0, none⟩) 1 1) 1 [.string s] rfl (own_str wr 9 s) (if CO = K then some ⟨g, 0, none⟩ else some ⟨g, K, none⟩) (R.length - K) (CO - K) ((R.drop K).flatMap strCs) rfl (by rw [flat_len strCs 1 (fun _ => rfl), List.length_drop]; first | done | simp) (fun p hp j u hu => Lib.cell?_alloc_some _ (HO.out.2 p hp j u hu)) (by intro h; first | cases h | (split at h <;> cases h)) (oneStr _) (by unfold maxLen; omega) (by omega) (by simp) ?_; intro v1 w2 hown1 hb2 hq2; obtain ⟨g1, cap1, rfl⟩ : ∃ g1 cap1, v1 = .slice (some ⟨g1, 0, none⟩) (1 + (R.length - K)) cap1 := own_form hown1 (by omega); have hB2 : Below wr.heap.size wr w2 := (((Below.refl wr.heap.size wr).alloc (Nat.le_refl _) _).drew.trans hb2); have HO1 := Lib.hid hown1; clear hown1)
                    | (refine step_append_sl rfl (.tmp 33) (.tmp 39) 32 rfl w.heap.size 9 i0 (.string ⟨#[]⟩) 1 16 Tryz.underlying32 hi hz0 hz1 hz2 rfl (by decide) (.slice (some ⟨g, 0, none⟩) K CO) K ((R.take K).flatMap strCs) rfl (ownsRow_keep HO.out.1 hB2) (some ⟨g1, 0, none⟩) (1 + (R.length - K)) cap1 ([.string s] ++ (R.drop K).flatMap strCs) rfl (by rw [List.length_append, flat_len strCs 1 (fun _ => rfl), List.length_drop]; simp) (fun p hp j u hu => by cases hp; exact HO1.out.cells (g := g1) rfl j u hu) (by intro h; cases h) (one_cons s _) (by unfold maxLen; omega) (by omega) (by have h1 := HL.out.2.2.2.2.1.size; have h2 := hB2.size; have h3 := hbj.size; omega) ?_; intro v2 w3 hown2 hb3 hq3; have HO2 := Lib.hid hown2; clear hown2))
                  go_wp2_with fail
                  go_roundw
                  case rel =>
                    refine ⟨k + 1, by omega, by go_num, ?_, ?_⟩
                    · have e1 : (R.take (putK s R R.length) ++ s :: R.drop (putK s R R.length)).length = K + (1 + (R.length - K)) := by rw [HS.out]; simp; try omega
                      rw [HL.out.2.1, HR1.out, e1, HS.out, List.flatMap_append, List.flatMap_cons]
                      exact HO2.out
                    · exact (below_chain (below_chain HL.out.2.2.2.2.1 hbj) hB2).trans hb3
                  case measure => simp [intOf]; omega
      · have hcl := fun w h => ref_holds s AO R.length CO R w (by unfold inL; omega) h
        rw [hany] at hcl
        have hR1 : riseOne R s = R := by rw [riseOne, if_pos hany]
        have HR1 := Lib.hid hR1
        clear hany hR1
        go_wp2_with (go_at_call 60; refine (hcl _ (HL.out.2.2.2.2.2.now bel)).mono ?_; rintro e w1 ⟨rfl, hb1⟩)
        go_roundw
        case rel => exact ⟨k + 1, by omega, by go_num, by rw [HL.out.2.1, HR1.out]; exact ownsRow_keep HL.out.2.2.2.1 hb1, below_chain HL.out.2.2.2.2.1 hb1⟩
        case measure => simp [intOf]; omega
    · have hke : k = n := by omega
      subst hke
      have etk : l.take k = l := by rw [List.take_of_length_le (by rw [HH.out.len]; exact Nat.le_refl _)]
      rw [etk] at hown
      have HO := Lib.hid hown
      clear hown etk
      go_wp2_with fail
      go_ret
      exact ⟨_, rfl, HO.out, hb⟩

theorem own_src {w : World} {base : Nat} {e : TypeId} {size : Nat} {v : Value} {n : Nat} {xs : List Value} (h : w.ownsRow base e size v n xs) : ∃ A c, v = .slice A n c ∧ (A = none → n = 0) ∧ ∀ p, A = some p → ∀ j u, xs[j]? = some u → w.cell? (p.add j) = some u := by
  rcases h.2 with ⟨hv, h0⟩ | ⟨g, cap, cur, hv, _⟩
  · subst h0; exact ⟨none, 0, hv, fun _ => rfl, (fun p hp => by cases hp)⟩
  · subst hv; exact ⟨_, _, rfl, (fun h => by cases h), (fun p hp j u hu => by cases hp; exact h.cells (g := g) rfl j u hu)⟩
theorem askN_inS {w : World} {S : Nat → Prop} : ∀ {cs : List Value} {x : Exp}, XRep w S cs x → ∀ s ∈ askN x, inS s := by
  intro cs x h
  suffices hN : ∀ (N : Nat) (cs : List Value) (x : Exp), x.nodes ≤ N → XRep w S cs x → ∀ s ∈ askN x, inS s from hN x.nodes cs x (Nat.le_refl _) h
  intro N
  induction N with
  | zero =>
    intro cs x hN
    obtain ⟨op, v, nm, args⟩ := x
    simp [Exp.nodes] at hN
  | succ N ih =>
    intro cs x hN hx s hs
    obtain ⟨A, c, rfl, _, _, i3, _, _, hsl⟩ := hx.open_
    rw [askN_eq, List.mem_append] at hs
    rcases hs with hs | hs
    · split at hs
      · simp at hs; rw [hs]; exact i3
      · cases hs
    · have hall : ∀ (l : List Exp), s ∈ askNL l → ∃ a ∈ l, s ∈ askN a := by
        intro l
        induction l with
        | nil => intro h; cases h
        | cons a l ihl =>
          intro h
          simp only [askNL, List.mem_append] at h
          rcases h with h | h
          · exact ⟨a, List.mem_cons_self, h⟩
          · obtain ⟨a', h1, h2⟩ := ihl h
            exact ⟨a', List.mem_cons_of_mem _ h1, h2⟩
      obtain ⟨a, ha, hsa⟩ := hall _ hs
      obtain ⟨i, hi, he⟩ := List.mem_iff_getElem.1 ha
      have hg : x.args[i]? = some a := by rw [List.getElem?_eq_getElem hi, he]
      obtain ⟨b, o, v, cs', _, _, hv, hr, _⟩ := hsl.at_ hi
      rw [hg] at hv
      cases hv
      refine ih cs' a ?_ hr s hsa
      obtain ⟨op, v, nm, args⟩ := x
      have := nodes_at args i a hg
      simp only [Exp.nodes] at hN
      omega
set_option maxRecDepth 100000 in
set_option maxHeartbeats 2000000 in
theorem ref_asked (N : Nat) : ∀ (x : Exp) (A : Option Addr) (c : Nat) (w : World), x.nodes ≤ N → (askN x).length ≤ 1048576 →
    XRep w (old w) [.int .i64 x.op, .int .i64 x.v.k, .int .i64 x.v.n, .string x.v.s, .string x.name, .slice A x.args.length c] x →
    Calls Tryz.prog 33 #[.agg #[.int .i64 x.op, .int .i64 x.v.k, .int .i64 x.v.n, .string x.v.s, .string x.name, .slice A x.args.length c]] w (OwnRow strCs 9 1 w (askN x)) := by
  induction N with
  | zero =>
    intro x A c w hN
    obtain ⟨op, v, nm, args⟩ := x
    simp [Exp.nodes] at hN
  | succ N ih =>
    intro x A c w hN hB hx
    have HI := Lib.hid ih
    clear ih
    obtain ⟨A0, c0, e0, i1, i2, i3, i4, i5, hsl⟩ := hx.open_
    simp only [List.cons.injEq, Value.slice.injEq, and_true, true_and] at e0
    obtain ⟨rfl, rfl⟩ := e0
    have hch : ∀ (i : Nat) (a : Exp), x.args[i]? = some a → a.nodes ≤ N := by
      obtain ⟨op, v, nm, args⟩ := x
      intro i a h
      have := nodes_at args i a h
      simp only [Exp.nodes] at hN
      omega
    obtain ⟨i0, hi, hz0, hz1, hz2⟩ := info_parts Tryz.infoStr'
    have HH := Lib.hid (And.intro hsl hch)
    have hlen : x.args.length ≤ 1759218604416 := by unfold inB at i4; omega
    have hask := askN_eq x
    obtain ⟨own, hown0⟩ : ∃ own, own = if x.op = 2 then [x.name] else [] := ⟨_, rfl⟩
    rw [← hown0] at hask
    have hcut : ∀ (k : Nat) (a : Exp), x.args[k]? = some a → (own ++ askNL (x.args.take k)).length + (askN a).length ≤ 1048576 ∧ askNL (x.args.take (k + 1)) = askNL (x.args.take k) ++ askN a := by
      intro k a ha
      obtain ⟨hk, he⟩ := List.getElem?_eq_some_iff.1 ha
      have h1 : askNL (x.args.take (k + 1)) = askNL (x.args.take k) ++ askN a := by rw [List.take_add_one, ha]; exact askNL_snoc _ _
      refine ⟨?_, h1⟩
      have h2 : askN x = own ++ (askNL (x.args.take (k + 1)) ++ askNL (x.args.drop (k + 1))) := by rw [hask, ← askNL_app, List.take_append_drop]
      have h3 := congrArg List.length h2
      rw [h1] at h3
      simp only [List.length_append] at h3 ⊢
      omega
    have HC := Lib.hid (And.intro hcut hask)
    clear hsl hch hx hN i1 i2 i4 i5 hask hcut
    cases ho : (x.op == 2)
    · have h0 : own = [] := by rw [hown0, if_neg (by simpa using ho)]
      have H0 := Lib.hid h0
      clear hown0 h0
      go_enter Tryz.func33, Tryz.ntmps33
      go_wp2_with fail
      go_loopw [3, 17] (fun v i wr => ∃ k : Nat, k ≤ x.args.length ∧ i = .int .i64 k ∧ wr.ownsRow (w.heap.size + 1) 9 1 v (own ++ askNL (x.args.take k)).length ((own ++ askNL (x.args.take k)).flatMap strCs) ∧ Below (w.heap.size + 1) (w.alloc (.cells #[.int .i64 x.op, .int .i64 x.v.k, .int .i64 x.v.n, .string x.v.s, .string x.name, .slice A x.args.length c] 26)) wr) (fun _ i _ => x.args.length - (intOf i).toNat)
      case atStart => exact ⟨0, by omega, rfl, by simpa [askNL, H0.out] using World.ownsRow_nil _ _ _ _, Below.refl _ _⟩
      case round =>
        obtain ⟨k, hk, rfl, hown, hb⟩ := hrel
        have hbw : Below w.heap.size w wr := alloc_below hb
        have hsz : w.heap.size + 1 ≤ wr.heap.size := by have := hb.size; simpa using this
        by_cases hlt : k < x.args.length
        · obtain ⟨b, o, a, X, C, hAe, hbl, hl, hxa, x0, x1, x2, x3, x4, x5⟩ := Exp_at (HH.out.1.nowN keeps_Exp hbw) hlt
          subst hAe
          have hbl' : b < wr.heap.size := hbl
          obtain ⟨hNa, hsn⟩ := HC.out.1 k a hl
          have hca := fun w h => HI.out a X C w (HH.out.2 k a hl) (by have := hNa; omega) h
          have HR := Lib.hid (And.intro hxa (And.intro hl (And.intro hsn (And.intro hown hb))))
          obtain ⟨L, hL⟩ : ∃ L, own ++ askNL (x.args.take k) = L := ⟨_, rfl⟩
          rw [hL] at hNa
          have HR := Lib.hid (And.intro HR.out.1 (And.intro HR.out.2.1 (And.intro HR.out.2.2.1 (And.intro (by rw [← hL]; exact HR.out.2.2.2.1 : wr.ownsRow (w.heap.size + 1) 9 1 _ L.length (L.flatMap strCs)) (And.intro hL HR.out.2.2.2.2)))))
          clear hL
          have hln : L.length ≤ 1048576 := by omega
          clear hxa hl hbl hsn hown
          go_wp2_with (first
            | (go_at_call 33; refine (hca _ (HR.out.1.keep (old_keep bel))).mono ?_; rintro e w2 ⟨v2, rfl, hown2, hb2⟩; obtain ⟨A2, c2, rfl, hn2, hc2⟩ := own_src hown2; have hB2 : Below wr.heap.size wr w2 := ((Below.refl wr.heap.size wr).alloc (Nat.le_refl _) _).trans (hb2.mono (by simp)))
            | (at_builtin; refine wpList_append_sl rfl _ _ 32 rfl (w.heap.size + 1) 9 i0 (.string ⟨#[]⟩) 1 16 Tryz.underlying32 hi hz0 hz1 hz2 rfl (by decide) _ L.length (L.flatMap strCs) rfl (ownsRow_keep HR.out.2.2.2.1 hB2) A2 (askN a).length c2 ((askN a).flatMap strCs) rfl (by rw [flat_len strCs 1 (fun _ => rfl)]) hc2 hn2 (oneStr _) (by unfold maxLen; omega) (by omega) (by have := hB2.size; omega) ?_; intro v3 w3 hown3 hb3 hq3))
          have HO := Lib.hid (And.intro hown3 (And.intro hb3 hB2))
          clear hown3 hb3 hown2 hB2
          go_roundw
          case rel =>
            refine ⟨k + 1, by omega, by go_num, ?_, ?_⟩
            · rw [HR.out.2.2.1, ← List.append_assoc, HR.out.2.2.2.2.1, List.length_append, List.flatMap_append]
              exact HO.out.1
            · exact (HR.out.2.2.2.2.2.trans (HO.out.2.2.mono hsz)).trans HO.out.2.1
          case measure => simp [intOf]; omega
        · have hke : k = x.args.length := by omega
          subst hke
          have etk : x.args.take x.args.length = x.args := List.take_of_length_le (Nat.le_refl _)
          rw [etk, ← HC.out.2] at hown
          have HO := Lib.hid hown
          clear hown etk
          go_wp2_with fail
          go_ret
          exact ⟨_, rfl, ownsRow_base HO.out (by omega), hbw⟩
    · have h0 : own = [x.name] := by rw [hown0, if_pos (by simpa using ho)]
      have H0 := Lib.hid h0
      clear hown0 h0
      go_enter Tryz.func33, Tryz.ntmps33
      go_wp2_with (at_builtin; refine wpList_append1 rfl _ _ 32 rfl (w.heap.size + 1) 9 i0 (.string ⟨#[]⟩) 1 16 Tryz.underlying32 hi hz0 hz1 hz2 rfl (by decide) (.slice none 0 0) 0 [] rfl (World.ownsRow_nil _ _ _ _) [.string x.name] 9 rfl (w.heap.size + 1) rfl (by simp) rfl (by intro u hu; simp at hu; subst hu; rfl) (by omega) (by unfold maxLen; omega) (by simp) ?_; intro v1 w1 hown1 hb1 hq1 hk1; have q5 : w1.cell? ⟨w.heap.size, 5, none⟩ = some (.slice A x.args.length c) := (hb1.cell (p := ⟨w.heap.size, 5, none⟩) (by simp)).trans (by go_simp))
      go_loopw [3, 17] (fun v i wr => ∃ k : Nat, k ≤ x.args.length ∧ i = .int .i64 k ∧ wr.ownsRow (w.heap.size + 1) 9 1 v (own ++ askNL (x.args.take k)).length ((own ++ askNL (x.args.take k)).flatMap strCs) ∧ Below (w.heap.size + 1) (w.alloc (.cells #[.int .i64 x.op, .int .i64 x.v.k, .int .i64 x.v.n, .string x.v.s, .string x.name, .slice A x.args.length c] 26)) wr) (fun _ i _ => x.args.length - (intOf i).toNat)
      case atStart => exact ⟨0, by omega, rfl, by simpa [askNL, H0.out] using hown1, hb1⟩
      case round =>
        obtain ⟨k, hk, rfl, hown, hb⟩ := hrel
        have hbw : Below w.heap.size w wr := alloc_below hb
        have hsz : w.heap.size + 1 ≤ wr.heap.size := by have := hb.size; simpa using this
        by_cases hlt : k < x.args.length
        · obtain ⟨b, o, a, X, C, hAe, hbl, hl, hxa, x0, x1, x2, x3, x4, x5⟩ := Exp_at (HH.out.1.nowN keeps_Exp hbw) hlt
          subst hAe
          have hbl' : b < wr.heap.size := hbl
          obtain ⟨hNa, hsn⟩ := HC.out.1 k a hl
          have hca := fun w h => HI.out a X C w (HH.out.2 k a hl) (by have := hNa; omega) h
          have HR := Lib.hid (And.intro hxa (And.intro hl (And.intro hsn (And.intro hown hb))))
          obtain ⟨L, hL⟩ : ∃ L, own ++ askNL (x.args.take k) = L := ⟨_, rfl⟩
          rw [hL] at hNa
          have HR := Lib.hid (And.intro HR.out.1 (And.intro HR.out.2.1 (And.intro HR.out.2.2.1 (And.intro (by rw [← hL]; exact HR.out.2.2.2.1 : wr.ownsRow (w.heap.size + 1) 9 1 _ L.length (L.flatMap strCs)) (And.intro hL HR.out.2.2.2.2)))))
          clear hL
          have hln : L.length ≤ 1048576 := by omega
          clear hxa hl hbl hsn hown
          go_wp2_with (first
            | (go_at_call 33; refine (hca _ (HR.out.1.keep (old_keep bel))).mono ?_; rintro e w2 ⟨v2, rfl, hown2, hb2⟩; obtain ⟨A2, c2, rfl, hn2, hc2⟩ := own_src hown2; have hB2 : Below wr.heap.size wr w2 := ((Below.refl wr.heap.size wr).alloc (Nat.le_refl _) _).trans (hb2.mono (by simp)))
            | (at_builtin; refine wpList_append_sl rfl _ _ 32 rfl (w.heap.size + 1) 9 i0 (.string ⟨#[]⟩) 1 16 Tryz.underlying32 hi hz0 hz1 hz2 rfl (by decide) _ L.length (L.flatMap strCs) rfl (ownsRow_keep HR.out.2.2.2.1 hB2) A2 (askN a).length c2 ((askN a).flatMap strCs) rfl (by rw [flat_len strCs 1 (fun _ => rfl)]) hc2 hn2 (oneStr _) (by unfold maxLen; omega) (by omega) (by have := hB2.size; omega) ?_; intro v3 w3 hown3 hb3 hq3))
          have HO := Lib.hid (And.intro hown3 (And.intro hb3 hB2))
          clear hown3 hb3 hown2 hB2
          go_roundw
          case rel =>
            refine ⟨k + 1, by omega, by go_num, ?_, ?_⟩
            · rw [HR.out.2.2.1, ← List.append_assoc, HR.out.2.2.2.2.1, List.length_append, List.flatMap_append]
              exact HO.out.1
            · exact (HR.out.2.2.2.2.2.trans (HO.out.2.2.mono hsz)).trans HO.out.2.1
          case measure => simp [intOf]; omega
        · have hke : k = x.args.length := by omega
          subst hke
          have etk : x.args.take x.args.length = x.args := List.take_of_length_le (Nat.le_refl _)
          rw [etk, ← HC.out.2] at hown
          have HO := Lib.hid hown
          clear hown etk
          go_wp2_with fail
          go_ret
          exact ⟨_, rfl, ownsRow_base HO.out (by omega), hbw⟩

set_option maxHeartbeats 1000000 in
theorem ref_NamesOf (x : Exp) (A : Option Addr) (c : Nat) (w : World) (hN : x.nodes ≤ 1048576)
    (hx : XRep w (old w) [.int .i64 x.op, .int .i64 x.v.k, .int .i64 x.v.n, .string x.v.s, .string x.name, .slice A x.args.length c] x) :
    Calls Tryz.prog 10 #[.agg #[.int .i64 x.op, .int .i64 x.v.k, .int .i64 x.v.n, .string x.v.s, .string x.name, .slice A x.args.length c]] w (OwnRowC strCs 9 1 w (namesR x).1 (namesR x).2) := by
  have hal := askN_nodes x
  have hca := fun w h => ref_asked _ x A c w (Nat.le_refl _) (by omega) h
  have hck := fun w h => ref_ExprFault x A c w h
  have hin := askN_inS hx
  have HX := Lib.hid (And.intro hx hin)
  by_cases he : exprErr x = 0
  · rw [he] at hck
    have hr : namesR x = (rise (askN x), 0) := by rw [namesR, if_pos he]
    rw [hr]
    clear hx hin he hr
    go_enter Tryz.func10, Tryz.ntmps10
    go_wp2_with (first
      | (go_at_call 30; refine (hck _ (HX.out.1.keep (old_keep bel))).mono ?_; rintro e w1 ⟨rfl, hb1⟩; have q0 : w1.cell? ⟨w.heap.size, 0, none⟩ = some (.int .i64 x.op) := (hb1.cell (p := ⟨w.heap.size, 0, none⟩) (by simp)).trans (by go_simp); have q1 : w1.cell? ⟨w.heap.size, 1, none⟩ = some (.int .i64 x.v.k) := (hb1.cell (p := ⟨w.heap.size, 1, none⟩) (by simp)).trans (by go_simp); have q2 : w1.cell? ⟨w.heap.size, 2, none⟩ = some (.int .i64 x.v.n) := (hb1.cell (p := ⟨w.heap.size, 2, none⟩) (by simp)).trans (by go_simp); have q3 : w1.cell? ⟨w.heap.size, 3, none⟩ = some (.string x.v.s) := (hb1.cell (p := ⟨w.heap.size, 3, none⟩) (by simp)).trans (by go_simp); have q4 : w1.cell? ⟨w.heap.size, 4, none⟩ = some (.string x.name) := (hb1.cell (p := ⟨w.heap.size, 4, none⟩) (by simp)).trans (by go_simp); have q5 : w1.cell? ⟨w.heap.size, 5, none⟩ = some (.slice A x.args.length c) := (hb1.cell (p := ⟨w.heap.size, 5, none⟩) (by simp)).trans (by go_simp); have hB1 : Below w.heap.size w w1 := alloc_below (by simpa using hb1))
      | (go_at_call 33; refine (hca _ (HX.out.1.keep (old_keep hB1))).mono ?_; rintro e w2 ⟨v2, rfl, hown2, hb2⟩; obtain ⟨A2, c2, rfl, hc2, hs2⟩ := ownStr hown2 rfl HX.out.2; have hB2 : Below w.heap.size w w2 := below_chain hB1 hb2)
      | (go_at_call 32; refine (ref_rising A2 _ c2 _ _ (by omega) hs2).mono ?_; rintro e w3 ⟨v3, rfl, hown3, hb3⟩))
    go_ret2
    exact ⟨v3, rfl, ownsRow_base hown3 hB2.size, below_chain hB2 hb3⟩
  · have hr : namesR x = ([], exprErr x) := by rw [namesR, if_neg he]
    rw [hr]
    generalize exprErr x = er at he hck
    have hne : (er != 0) = true := by simpa using he
    clear hx hin he hr
    go_enter Tryz.func10, Tryz.ntmps10
    go_wp2_with (go_at_call 30; refine (hck _ (HX.out.1.keep (old_keep bel))).mono ?_; rintro e w1 ⟨rfl, hb1⟩; obtain ⟨hc1, hf1⟩ := bcell hb1; (try simp only [World.heap_drewN, World.cell?_drewN, World.frozen?_drewN] at hc1 hf1); have hz1 := hb1.size; (try simp at hz1); (try (have hy1 := Nat.lt_of_succ_le hz1)); (try (have hx1 := Nat.lt_of_succ_lt hy1)); (first | refine szz6 w1 w (by omega) ?_ | refine szz5 w1 w (by omega) ?_ | refine szz4 w1 w (by omega) ?_ | refine szz3 w1 w (by omega) ?_ | refine szz2 w1 w (by omega) ?_ | refine szz1 w1 w (by omega) ?_ | refine szz0 w1 w (by omega) ?_ | refine szzn w1 w (by omega) ?_ | skip); intros)
    go_ret2
    exact NilC.own _ _ _ ⟨rfl, bel⟩
end Go.Proofs.YtgmcojnhpedpnaaGreat
/- fold.closed, fold.constant, fold.fold. -/
namespace Go.Proofs.YtgmcojnhpedpnaaGreat
open Go.RowKit

theorem rise_nil (l : List ByteArray) : (rise l).length = 0 ↔ l = [] := by
  constructor
  · intro h
    have h0 := List.eq_nil_of_length_eq_zero h
    apply List.eq_nil_iff_forall_not_mem.2
    intro s hs
    have := (rise_mem l s).2 hs
    rw [h0] at this
    cases this
  · rintro rfl; rfl
set_option maxHeartbeats 1000000 in
theorem fold_closed (x : Exp) (A : Option Addr) (c : Nat) (w : World) (hN : x.nodes ≤ 1048576) (he : exprErr x = 0)
    (hx : XRep w (old w) [.int .i64 x.op, .int .i64 x.v.k, .int .i64 x.v.n, .string x.v.s, .string x.name, .slice A x.args.length c] x) :
    Calls Tryz.prog 29 #[.agg #[.int .i64 x.op, .int .i64 x.v.k, .int .i64 x.v.n, .string x.v.s, .string x.name, .slice A x.args.length c]] w (RetB w (decide (askN x = []))) := by
  have hno := fun w h => names_Of x A c w hN h
  have hr : namesR x = (rise (askN x), 0) := by rw [namesR, if_pos he]
  rw [hr] at hno
  have hin : ∀ s ∈ rise (askN x), inS s := fun s hs => askN_inS hx s ((rise_mem _ _).1 hs)
  have hlen : (rise (askN x)).length ≤ 1048576 := Nat.le_trans (rise_len _) (Nat.le_trans (askN_nodes x) hN)
  have hd : decide (askN x = []) = (((rise (askN x)).length : Int) == 0) := by
    rw [Bool.eq_iff_iff, decide_eq_true_eq, beq_iff_eq, ← rise_nil]
    omega
  rw [hd]
  have HX := Lib.hid (And.intro hx hin)
  clear hx hin hr hd he
  dsimp only at hno
  generalize rise (askN x) = R at *
  go_enter Tryz.func29, Tryz.ntmps29
  go_wp2_with (go_at_call 66; refine (hno _ (HX.out.1.keep (old_keep bel))).mono ?_; rintro e w2 ⟨v2, rfl, hown2, hb2⟩; obtain ⟨A2, c2, rfl, hc2, hs2⟩ := ownStr hown2 rfl HX.out.2; have hB2 : Below w.heap.size w w2 := ((Below.refl w.heap.size w).alloc (Nat.le_refl _) _).trans (hb2.mono (by simp)))
  go_ret
  exact ⟨rfl, hB2⟩


theorem heap_new_at {W : World} {o : Obj} {n : Nat} (h : n = W.heap.size) : (W.alloc o).heap[n]? = some o := by subst h; exact heap_alloc_new W o
/-- One formula in a block of its own, as a slice. -/
theorem slOneX {w : World} {b : Nat} {e : TypeId} {fr : Nat × Nat} {S : Nat → Prop} (y : Exp) (A : Option Addr) (c : Nat) (hS : S b) (hy : XRep w S (y.cs A c) y) (h : w.heap[b]? = some (.cells (y.cs A c).toArray e fr)) : Sl w S 6 (XRep w S) (some ⟨b, 0, none⟩) 1 [y] := by
  refine ⟨rfl, fun _ => ⟨b, 0, rfl, hS, fun i v hv => ?_⟩⟩
  have hi : i = 0 := by
    have := (List.getElem?_eq_some_iff.1 hv).1
    simp at this; exact this
  subst hi
  simp at hv
  subst hv
  refine ⟨y.cs A c, hy, rfl, fun j hj => ?_⟩
  rw [cell_of_row w b _ _ e fr h, Nat.zero_mul, Nat.zero_add, Nat.zero_add, List.getElem?_toArray]
theorem inI_of {x : Int} (h1 : -9223372036854775808 ≤ x) (h2 : x ≤ 9223372036854775807) : inI x := by
  have e : IntKind.i64.min = -9223372036854775808 := by decide
  have e2 : IntKind.i64.max = 9223372036854775807 := by decide
  simp only [inI, Lit.wf, e, e2, Bool.and_eq_true, decide_eq_true_eq]
  exact ⟨h1, h2⟩
theorem inI_one : inI 1 := rfl
theorem inI_three : inI 3 := rfl
theorem str0 : inS noStr := by show (0 : Nat) ≤ 140737488351232; omega
theorem const_rep {w : World} {S : Nat → Prop} {v : Val} (hv : v.wf) : XRep w S ((Exp.mk 1 v noStr []).cs none 0) (.mk 1 v noStr []) :=
  XRep.shut (n := 0) inI_one hv str0 (by unfold inB; omega) (Nat.le_refl _) Sl.nil
theorem num_bd {v : Val} (hc : valCheck v = 0) (h1 : v.k = 1) : v.s = ⟨#[]⟩ ∧ -1000000000000000000 ≤ v.n ∧ v.n ≤ 1000000000000000000 := by
  unfold valCheck at hc
  rw [if_pos h1] at hc
  split at hc
  · rename_i h2
    refine ⟨?_, ?_⟩
    · unfold emptyCheck at hc
      split at hc
      · rename_i h3
        exact toList_inj ((List.isEmpty_iff.1 h3).trans (ByteArray.toList_eq ⟨#[]⟩).symm)
      · cases hc
    · unfold numCheck at h2
      split at h2
      · cases h2
      · omega
  · cases hc
set_option maxRecDepth 100000 in
set_option maxHeartbeats 2000000 in
theorem fold_constant (v : Val) (w : World) (hv : v.wf) (hc : valCheck v = 0) : Calls Tryz.prog 65 #[.agg #[.int .i64 v.k, .int .i64 v.n, .string v.s]] w (RetExp w (constX v)) := by
  have HV := Lib.hid (And.intro hv hc)
  by_cases h1 : v.k = 1
  · obtain ⟨hs0, hb1, hb2⟩ := num_bd hc h1
    by_cases h2 : v.n < 0
    · have hcx : constX v = .mk 3 ⟨0, 0, noStr⟩ noStr [.mk 1 ⟨v.k, -v.n, v.s⟩ noStr []] := by unfold constX; rw [if_pos ⟨h1, h2⟩]
      rw [hcx]
      obtain ⟨k, n, s⟩ := v
      dsimp only at h1 h2 hb1 hb2 ⊢
      subst h1
      clear hv hc hcx hs0
      have hn : -9223372036854775808 ≤ -n ∧ -n ≤ 9223372036854775807 := by omega
      go_enter Tryz.func65, Tryz.ntmps65
      go_wp2_with fail
      refine bodyPost_ret (v := .agg #[.int .i64 3, .int .i64 0, .int .i64 0, .string ⟨#[]⟩, .string ⟨#[]⟩, .slice (some ⟨w.heap.size + 1 + 1, 0, none⟩) 1 1]) (by first | (simp [results, Tryz.results65, go_sem]; done) | (simp [results, Tryz.results65, go_sem, *]; done)) rfl ?_
      refine ⟨some ⟨w.heap.size + 1 + 1, 0, none⟩, 1, rfl, ?_, bel⟩
      have hwf : (⟨1, -n, s⟩ : Val).wf := ⟨inI_one, inI_of hn.1 hn.2, HV.out.1.2.2⟩
      refine XRep.shut (v := ⟨0, 0, noStr⟩) (args := [.mk 1 ⟨1, -n, s⟩ noStr []]) (n := 1) inI_three ⟨(rfl : inI 0), (rfl : inI 0), str0⟩ str0 (by unfold inB; omega) (Nat.le_refl _) ?_
      exact slOneX (e := 26) (fr := (0, 0)) (.mk 1 ⟨1, -n, s⟩ noStr []) none 0 ⟨by omega, by simp⟩ (const_rep hwf) (heap_new_at (by simp))
    · have hcx : constX v = .mk 1 v noStr [] := by unfold constX; rw [if_neg (fun h => h2 h.2)]
      rw [hcx]
      obtain ⟨k, n, s⟩ := v
      dsimp only at h1 h2 hb1 hb2 ⊢
      subst h1
      clear hv hc hcx hs0
      go_enter Tryz.func65, Tryz.ntmps65
      go_wp2_with fail
      refine bodyPost_ret (v := .agg #[.int .i64 1, .int .i64 1, .int .i64 n, .string s, .string ⟨#[]⟩, .slice none 0 0]) (by first | (simp [results, Tryz.results65, go_sem]; done) | (simp [results, Tryz.results65, go_sem, *]; done)) rfl ?_
      exact ⟨none, 0, rfl, const_rep HV.out.1, bel⟩
  · have hcx : constX v = .mk 1 v noStr [] := by unfold constX; rw [if_neg (fun h => h1 h.1)]
    rw [hcx]
    obtain ⟨k, n, s⟩ := v
    have hk : (k == 1) = false := by simpa using h1
    clear hv hc hcx h1
    dsimp only
    go_enter Tryz.func65, Tryz.ntmps65
    go_wp2_with fail
    refine bodyPost_ret (v := .agg #[.int .i64 1, .int .i64 k, .int .i64 n, .string s, .string ⟨#[]⟩, .slice none 0 0]) (by first | (simp [results, Tryz.results65, go_sem]; done) | (simp [results, Tryz.results65, go_sem, *]; done)) rfl ?_
    exact ⟨none, 0, rfl, const_rep HV.out.1, bel⟩
end Go.Proofs.YtgmcojnhpedpnaaGreat
/- fold.fold. -/
namespace Go.Proofs.YtgmcojnhpedpnaaGreat
open Go.RowKit

theorem known_bd {v : Val} (h : valKnown v = true) : valCheck v = 0 ∧ 1 ≤ v.k ∧ v.k ≤ 3 := by
  unfold valKnown at h
  simp only [Bool.and_eq_true, decide_eq_true_eq] at h
  exact ⟨h.2, h.1.1, h.1.2⟩
theorem factsOk_nil : factsOk [] := fun _ hf => absurd hf List.not_mem_nil
theorem eval_nil (x : Exp) (he : exprErr x = 0) : evalRes [] x = (evX [] x, 0) := evalRes_ok he rfl
theorem askN_small {x : Exp} (hN : x.nodes ≤ 1048576) : (askN x).length ≤ 1048576 := Nat.le_trans (askN_nodes x) hN
set_option maxRecDepth 100000 in
set_option maxHeartbeats 4000000 in
theorem fold_fold_known (x : Exp) (A : Option Addr) (c : Nat) (w : World) (hN : x.nodes ≤ 1048576) (he : exprErr x = 0) (hx : XRep w (old w) (x.cs A c) x) (hk : askN x = []) (hk2 : valKnown (evX [] x) = true) :
    Calls Tryz.prog 28 #[.agg (x.cs A c).toArray] w (RetExp w (foldX x)) := by
  rw [foldX_known hk hk2]
  have hev := fun w h => eval_Of [] none 0 0 x A c w (by unfold inL; omega) h Sl.nil
  rw [eval_nil x he] at hev
  have hcl := fun w h => fold_closed x A c w hN he h
  rw [show decide (askN x = []) = true by simpa using hk] at hcl
  obtain ⟨u, hu⟩ : ∃ u, u = evX [] x := ⟨_, rfl⟩
  rw [← hu] at hev hk2 ⊢
  obtain ⟨hc0, _, _⟩ := known_bd hk2
  have hwf := val_wf hc0
  have hkn := fun w => value_Known u.k u.n u.s w (inS_max hwf.2.2)
  have hk3 : valKnown ⟨u.k, u.n, u.s⟩ = true := hk2
  simp only [hk3] at hkn
  have hco := fun w => fold_constant u w hwf hc0
  have HX := Lib.hid hx
  clear hx hk hk2 hk3 hc0 hwf hu he
  obtain ⟨uk, un, us⟩ := u
  dsimp only at hkn hco
  generalize constX ⟨uk, un, us⟩ = y at hco ⊢
  go_enter Tryz.func28, Tryz.ntmps28
  go_wp2_with (first
    | (go_at_call 63; refine (hev _ (HX.out.keep (old_keep bel))).mono ?_; clear hev; rintro e w1 ⟨rfl, hb1⟩; obtain ⟨hc1, hf1⟩ := bcell hb1; (try simp only [World.heap_drewN, World.cell?_drewN, World.frozen?_drewN] at hc1 hf1); have hz1 := hb1.size; (try simp at hz1); (try (have hy1 := Nat.lt_of_succ_le hz1)); (try (have hx1 := Nat.lt_of_succ_lt hy1)); (first | refine szz6 w1 w (by omega) ?_ | refine szz5 w1 w (by omega) ?_ | refine szz4 w1 w (by omega) ?_ | refine szz3 w1 w (by omega) ?_ | refine szz2 w1 w (by omega) ?_ | refine szz1 w1 w (by omega) ?_ | refine szz0 w1 w (by omega) ?_ | refine szzn w1 w (by omega) ?_ | skip); intros)
    | (go_at_call 29; refine (hcl _ (HX.out.keep (old_keep bel))).mono ?_; clear hcl; rintro e w2 ⟨rfl, hb2⟩; obtain ⟨hc2, hf2⟩ := bcell hb2; (try simp only [World.heap_drewN, World.cell?_drewN, World.frozen?_drewN] at hc2 hf2); have hz2 := hb2.size; (try simp at hz2); (try (have hy2 := Nat.lt_of_succ_le hz2)); (try (have hx2 := Nat.lt_of_succ_lt hy2)); (first | refine szz6 w2 w (by omega) ?_ | refine szz5 w2 w (by omega) ?_ | refine szz4 w2 w (by omega) ?_ | refine szz3 w2 w (by omega) ?_ | refine szz2 w2 w (by omega) ?_ | refine szz1 w2 w (by omega) ?_ | refine szz0 w2 w (by omega) ?_ | refine szzn w2 w (by omega) ?_ | skip); intros; (first | refine szz6 w2 w1 (by omega) ?_ | refine szz5 w2 w1 (by omega) ?_ | refine szz4 w2 w1 (by omega) ?_ | refine szz3 w2 w1 (by omega) ?_ | refine szz2 w2 w1 (by omega) ?_ | refine szz1 w2 w1 (by omega) ?_ | refine szz0 w2 w1 (by omega) ?_ | refine szzn w2 w1 (by omega) ?_ | skip); intros)
    | (go_at_call 64; refine (hkn _).mono ?_; clear hkn; rintro e w3 ⟨rfl, hb3⟩; obtain ⟨hc3, hf3⟩ := bcell hb3; (try simp only [World.heap_drewN, World.cell?_drewN, World.frozen?_drewN] at hc3 hf3); have hz3 := hb3.size; (try simp at hz3); (try (have hy3 := Nat.lt_of_succ_le hz3)); (try (have hx3 := Nat.lt_of_succ_lt hy3)); (first | refine szz6 w3 w (by omega) ?_ | refine szz5 w3 w (by omega) ?_ | refine szz4 w3 w (by omega) ?_ | refine szz3 w3 w (by omega) ?_ | refine szz2 w3 w (by omega) ?_ | refine szz1 w3 w (by omega) ?_ | refine szz0 w3 w (by omega) ?_ | refine szzn w3 w (by omega) ?_ | skip); intros; (first | refine szz6 w3 w1 (by omega) ?_ | refine szz5 w3 w1 (by omega) ?_ | refine szz4 w3 w1 (by omega) ?_ | refine szz3 w3 w1 (by omega) ?_ | refine szz2 w3 w1 (by omega) ?_ | refine szz1 w3 w1 (by omega) ?_ | refine szz0 w3 w1 (by omega) ?_ | refine szzn w3 w1 (by omega) ?_ | skip); intros; (first | refine szz6 w3 w2 (by omega) ?_ | refine szz5 w3 w2 (by omega) ?_ | refine szz4 w3 w2 (by omega) ?_ | refine szz3 w3 w2 (by omega) ?_ | refine szz2 w3 w2 (by omega) ?_ | refine szz1 w3 w2 (by omega) ?_ | refine szz0 w3 w2 (by omega) ?_ | refine szzn w3 w2 (by omega) ?_ | skip); intros)
    | (go_at_call 65; refine (hco _).mono ?_; clear hco; rintro e w4 ⟨A4, c4, rfl, hx4, hb4⟩; obtain ⟨hc4, hf4⟩ := bcell hb4; (try simp only [World.heap_drewN, World.cell?_drewN, World.frozen?_drewN] at hc4 hf4); have hz4 := hb4.size; (try simp at hz4); (try (have hy4 := Nat.lt_of_succ_le hz4)); (try (have hx4 := Nat.lt_of_succ_lt hy4)); (first | refine szz6 w4 w (by omega) ?_ | refine szz5 w4 w (by omega) ?_ | refine szz4 w4 w (by omega) ?_ | refine szz3 w4 w (by omega) ?_ | refine szz2 w4 w (by omega) ?_ | refine szz1 w4 w (by omega) ?_ | refine szz0 w4 w (by omega) ?_ | refine szzn w4 w (by omega) ?_ | skip); intros; (first | refine szz6 w4 w1 (by omega) ?_ | refine szz5 w4 w1 (by omega) ?_ | refine szz4 w4 w1 (by omega) ?_ | refine szz3 w4 w1 (by omega) ?_ | refine szz2 w4 w1 (by omega) ?_ | refine szz1 w4 w1 (by omega) ?_ | refine szz0 w4 w1 (by omega) ?_ | refine szzn w4 w1 (by omega) ?_ | skip); intros; (first | refine szz6 w4 w2 (by omega) ?_ | refine szz5 w4 w2 (by omega) ?_ | refine szz4 w4 w2 (by omega) ?_ | refine szz3 w4 w2 (by omega) ?_ | refine szz2 w4 w2 (by omega) ?_ | refine szz1 w4 w2 (by omega) ?_ | refine szz0 w4 w2 (by omega) ?_ | refine szzn w4 w2 (by omega) ?_ | skip); intros; (first | refine szz6 w4 w3 (by omega) ?_ | refine szz5 w4 w3 (by omega) ?_ | refine szz4 w4 w3 (by omega) ?_ | refine szz3 w4 w3 (by omega) ?_ | refine szz2 w4 w3 (by omega) ?_ | refine szz1 w4 w3 (by omega) ?_ | refine szz0 w4 w3 (by omega) ?_ | refine szzn w4 w3 (by omega) ?_ | skip); intros; have HX4 := Lib.hid hx4; clear hx4))
  have hy9 : w.heap.size + 1 < w.heap.size + 1 + 1 := by omega
  have hyA : w.heap.size + 1 < w1.heap.size + 1 := by omega
  refine bodyPost_ret (v := .agg #[.int .i64 y.op, .int .i64 y.v.k, .int .i64 y.v.n, .string y.v.s, .string y.name, .slice A4 y.args.length c4]) (by first | (simp [results, Tryz.results28, go_sem]; done) | (simp [results, Tryz.results28, go_sem, *]; done)) rfl ?_
  refine ⟨A4, c4, rfl, HX4.out.keep (fun b hb => ?_), bel⟩
  have h1 := hb.1
  refine ⟨⟨by omega, by simpa using hb.2⟩, ?_⟩
  iterate 6 rw [heap_setCell_other _ _ _ _ (by simp; omega)]

/-- What the folded parts make of the whole, case by case. -/
theorem ifX_of {x y : Exp} {l : List Exp} (hp : prtN x = 0) (hl : l = x.args.map foldX) (hy : y = .mk x.op x.v x.name l) :
    (ifX y = y ∧ (x.op == 17) = false) ∨ (ifX y = y ∧ (x.op == 17) = true ∧ ∃ a0, l[0]? = some a0 ∧ 0 < x.args.length ∧ (a0.op == 1) = false) ∨ (ifX y = y ∧ (x.op == 17) = true ∧ ∃ a0, l[0]? = some a0 ∧ 0 < x.args.length ∧ (a0.op == 1) = true ∧ (a0.v.k == 2) = false) ∨
      (∃ a0 a1 a2, l = [a0, a1, a2] ∧ (x.op == 17) = true ∧ (a0.op == 1) = true ∧ (a0.v.k == 2) = true ∧ a0.v.n = 1 ∧ ifX y = a1) ∨ (∃ a0 a1 a2, l = [a0, a1, a2] ∧ (x.op == 17) = true ∧ (a0.op == 1) = true ∧ (a0.v.k == 2) = true ∧ a0.v.n = 0 ∧ ifX y = a2) := by
  obtain ⟨p1, p2, p3, p4⟩ := prt_ok hp
  by_cases h17 : x.op = 17
  · have h17' : (x.op == 17) = true := by simpa using h17
    have hn : x.args.length = 3 := by
      have : argsN x.op = 3 := by rw [h17]; rfl
      omega
    have hll : l.length = 3 := by rw [hl, List.length_map, hn]
    match hm : l, hll with
    | [a0, a1, a2], _ =>
      have hk : a0.op = 1 → valKnown a0.v = true := by
        intro ho
        have hmem : a0 ∈ x.args.map foldX := by rw [← hl]; simp
        obtain ⟨a, ha, rfl⟩ := List.mem_map.1 hmem
        exact foldX_const _ a (Nat.le_refl _) (p4 a ha) ho
      have hif : ifX y = if a0.op = 1 ∧ a0.v.k = 2 then (if a0.v.n = 1 then a1 else a2) else y := by
        rw [hy]
        unfold ifX
        show (if x.op = 17 then _ else _) = _
        rw [if_pos h17]
        rfl
      by_cases ho : a0.op = 1
      · have ho' : (a0.op == 1) = true := by simpa using ho
        by_cases hk2 : a0.v.k = 2
        · have hk2' : (a0.v.k == 2) = true := by simpa using hk2
          rw [if_pos ⟨ho, hk2⟩] at hif
          have hb := (known_bd (hk ho)).1
          have hn01 : a0.v.n = 0 ∨ a0.v.n = 1 := by
            unfold valCheck at hb
            rw [if_neg (by omega), if_pos hk2] at hb
            split at hb
            · assumption
            · cases hb
          rcases hn01 with h0 | h1
          · rw [if_neg (by omega)] at hif
            exact .inr (.inr (.inr (.inr ⟨a0, a1, a2, rfl, h17', ho', hk2', h0, hif⟩)))
          · rw [if_pos h1] at hif
            exact .inr (.inr (.inr (.inl ⟨a0, a1, a2, rfl, h17', ho', hk2', h1, hif⟩)))
        · rw [if_neg (fun h => hk2 h.2)] at hif
          exact .inr (.inr (.inl ⟨hif, h17', a0, rfl, by omega, ho', by simpa using hk2⟩))
      · rw [if_neg (fun h => ho h.1)] at hif
        exact .inr (.inl ⟨hif, h17', a0, rfl, by omega, by simpa using ho⟩)
  · refine .inl ⟨?_, by simpa using h17⟩
    rw [hy]
    unfold ifX
    show (if x.op = 17 then _ else _) = _
    rw [if_neg h17]
/-- The new formula's box in the midst of the loop: k parts are folded. -/
def FoldRel (w : World) (o base : Nat) (x : Exp) (l : List Exp) (k : Nat) (wr : World) : Prop :=
  ∃ (A' : Option Addr) (c' : Nat), wr.cell? ⟨o, 0, none⟩ = some (.int .i64 x.op) ∧ wr.cell? ⟨o, 1, none⟩ = some (.int .i64 x.v.k) ∧ wr.cell? ⟨o, 2, none⟩ = some (.int .i64 x.v.n) ∧
    wr.cell? ⟨o, 3, none⟩ = some (.string x.v.s) ∧ wr.cell? ⟨o, 4, none⟩ = some (.string x.name) ∧ wr.cell? ⟨o, 5, none⟩ = some (.slice A' k c') ∧
    wr.frozen? ⟨o, 5, none⟩ = false ∧ Own wr base 26 6 XRep (.slice A' k c') (l.take k) ∧ Below w.heap.size w wr ∧ base ≤ wr.heap.size
set_option maxRecDepth 100000 in
set_option maxHeartbeats 8000000 in
theorem fold_fold (N : Nat) : ∀ (x : Exp) (A : Option Addr) (c : Nat) (w : World), x.nodes ≤ N → x.nodes ≤ 1048576 → exprErr x = 0 → XRep w (old w) (x.cs A c) x → Calls Tryz.prog 28 #[.agg (x.cs A c).toArray] w (RetExp w (foldX x)) := by
  induction N with
  | zero =>
    intro x A c w hN
    obtain ⟨op, v, nm, args⟩ := x
    simp [Exp.nodes] at hN
  | succ N ih =>
    intro x A c w hN hM he hx
    by_cases hk : askN x = [] ∧ valKnown (evX [] x) = true
    · exact fold_fold_known x A c w hM he hx hk.1 hk.2
    rw [foldX_else hk]
    have HI := Lib.hid ih
    clear ih
    obtain ⟨A0, c0, e0, i1, i2, i3, i4, i5, hsl⟩ := hx.open_
    simp only [List.cons.injEq, Value.slice.injEq, and_true, true_and] at e0
    obtain ⟨rfl, rfl⟩ := e0
    have hkid : ∀ (i : Nat) (a : Exp), x.args[i]? = some a → a.nodes ≤ N ∧ a.nodes ≤ 1048576 ∧ exprErr a = 0 := by
      intro i a h
      have hm := List.mem_of_getElem? h
      have := nodes_mem hm
      exact ⟨by omega, by omega, exprErr_kid he hM hm⟩
    have hev := fun w h => eval_Of [] none 0 0 x A c w (by unfold inL; omega) h Sl.nil
    rw [eval_nil x he] at hev
    have hcl := fun w h => fold_closed x A c w hM he h
    have hc0 : valCheck (evX [] x) = 0 := evX_ok factsOk_nil _ x (Nat.le_refl _) (prt_of_exprErr he)
    have hwf := val_wf hc0
    have hkn := fun w => value_Known (evX [] x).k (evX [] x).n (evX [] x).s w (inS_max hwf.2.2)
    have hp := prt_of_exprErr he
    obtain ⟨l, hl0⟩ : ∃ l, l = x.args.map foldX := ⟨_, rfl⟩
    have hll : l.length = x.args.length := by rw [hl0]; simp
    have hlg : ∀ i a, x.args[i]? = some a → l[i]? = some (foldX a) := fun i a h => by rw [hl0, List.getElem?_map, h]; rfl
    rw [← hl0]
    have HX := Lib.hid (And.intro hx he)
    have HH := Lib.hid (And.intro hsl (And.intro hkid (And.intro i1 (And.intro i2 (And.intro i3 (And.intro i4 (And.intro hll hlg)))))))
    have hlen : x.args.length ≤ 1759218604416 := by unfold inB at i4; omega
    have HP := Lib.hid (And.intro hp hl0)
    obtain ⟨u, hu⟩ : ∃ u, u = evX [] x := ⟨_, rfl⟩
    rw [← hu] at hev hk hkn
    obtain ⟨b1, hb1⟩ : ∃ b1, b1 = decide (askN x = []) := ⟨_, rfl⟩
    obtain ⟨b2, hb2⟩ : ∃ b2, b2 = valKnown u := ⟨_, rfl⟩
    have hb : b1 = false ∨ (b1 = true ∧ b2 = false) := by
      by_cases h1 : askN x = []
      · refine .inr ⟨by rw [hb1]; simpa using h1, ?_⟩
        rw [hb2]
        cases hq : valKnown u
        · rfl
        · exact absurd ⟨h1, hq⟩ hk
      · exact .inl (by rw [hb1]; simpa using h1)
    rw [← hb1] at hcl
    have hkn2 : ∀ w, Calls Tryz.prog 64 #[.agg #[.int .i64 u.k, .int .i64 u.n, .string u.s]] w fun e w' => e = .returned (.bool b2) ∧ Below w.heap.size w w' := fun w => by rw [hb2]; exact hkn w
    clear hkn hsl hkid hx hN i1 i2 i3 i4 i5 hll hlg hl0 hk hM he hc0 hwf hp hu hb1 hb2
    obtain ⟨j0, hj0, iz0, iz1, iz2⟩ := info_parts Tryz.infoExp
    obtain ⟨uk, un, us⟩ := u
    dsimp only at hkn2
    obtain ⟨y, hy⟩ : ∃ y : Exp, y = Exp.mk x.op x.v x.name l := ⟨_, rfl⟩
    have e0 : y.op = x.op := by rw [hy]; rfl
    have e1 : y.v = x.v := by rw [hy]; rfl
    have e2 : y.name = x.name := by rw [hy]; rfl
    have e3 : y.args = l := by rw [hy]; rfl
    have HE := Lib.hid (And.intro e0 (And.intro e1 (And.intro e2 (And.intro e3 hy))))
    rw [← hy]
    clear e0 e1 e2 e3 hy
    rcases hb with rfl | ⟨rfl, rfl⟩
    · go_enter Tryz.func28, Tryz.ntmps28
      go_wp2_with (first
        | (go_at_call 63; refine (hev _ (HX.out.1.keep (old_keep bel))).mono ?_; clear hev; rintro e w1 ⟨rfl, hb1⟩; obtain ⟨hc1, hf1⟩ := bcell hb1; (try simp only [World.heap_drewN, World.cell?_drewN, World.frozen?_drewN] at hc1 hf1); have hz1 := hb1.size; (try simp at hz1); (try (have hy1 := Nat.lt_of_succ_le hz1)); (try (have hx1 := Nat.lt_of_succ_lt hy1)); (first | refine szz6 w1 w (by omega) ?_ | refine szz5 w1 w (by omega) ?_ | refine szz4 w1 w (by omega) ?_ | refine szz3 w1 w (by omega) ?_ | refine szz2 w1 w (by omega) ?_ | refine szz1 w1 w (by omega) ?_ | refine szz0 w1 w (by omega) ?_ | refine szzn w1 w (by omega) ?_ | skip); intros)
        | (go_at_call 29; refine (hcl _ (HX.out.1.keep (old_keep bel))).mono ?_; clear hcl; rintro e w2 ⟨rfl, hb2⟩; obtain ⟨hc2, hf2⟩ := bcell hb2; (try simp only [World.heap_drewN, World.cell?_drewN, World.frozen?_drewN] at hc2 hf2); have hz2 := hb2.size; (try simp at hz2); (try (have hy2 := Nat.lt_of_succ_le hz2)); (try (have hx2 := Nat.lt_of_succ_lt hy2)); (first | refine szz6 w2 w (by omega) ?_ | refine szz5 w2 w (by omega) ?_ | refine szz4 w2 w (by omega) ?_ | refine szz3 w2 w (by omega) ?_ | refine szz2 w2 w (by omega) ?_ | refine szz1 w2 w (by omega) ?_ | refine szz0 w2 w (by omega) ?_ | refine szzn w2 w (by omega) ?_ | skip); intros; (first | refine szz6 w2 w1 (by omega) ?_ | refine szz5 w2 w1 (by omega) ?_ | refine szz4 w2 w1 (by omega) ?_ | refine szz3 w2 w1 (by omega) ?_ | refine szz2 w2 w1 (by omega) ?_ | refine szz1 w2 w1 (by omega) ?_ | refine szz0 w2 w1 (by omega) ?_ | refine szzn w2 w1 (by omega) ?_ | skip); intros))
      obtain ⟨o, ho⟩ : ∃ o, o = w2.heap.size := ⟨_, rfl⟩
      obtain ⟨W, hW⟩ : ∃ W, W = w2.alloc (.cells #[.int .i64 x.op, .int .i64 x.v.k, .int .i64 x.v.n, .string x.v.s, .string x.name, .slice none 0 0] 26) := ⟨_, rfl⟩
      have hy9 : w.heap.size + 1 < w.heap.size + 1 + 1 := by omega
      have hyA : w.heap.size + 1 < w1.heap.size + 1 := by omega
      have s0 : W.cell? ⟨o, 0, none⟩ = some (.int .i64 x.op) := by rw [hW, ho]; go_simp
      have s1 : W.cell? ⟨o, 1, none⟩ = some (.int .i64 x.v.k) := by rw [hW, ho]; go_simp
      have s2 : W.cell? ⟨o, 2, none⟩ = some (.int .i64 x.v.n) := by rw [hW, ho]; go_simp
      have s3 : W.cell? ⟨o, 3, none⟩ = some (.string x.v.s) := by rw [hW, ho]; go_simp
      have s4 : W.cell? ⟨o, 4, none⟩ = some (.string x.name) := by rw [hW, ho]; go_simp
      have s5 : W.cell? ⟨o, 5, none⟩ = some (.slice none 0 0) := by rw [hW, ho]; go_simp
      have s6 : W.frozen? ⟨o, 5, none⟩ = false := by rw [hW, ho]; go_simp
      have s7 : ∀ j, W.frozen? ⟨w.heap.size + 1, j, none⟩ = false := fun j => by rw [hW]; go_simp
      have s8 : ∀ j, j < 6 → ∃ u, W.cell? ⟨w.heap.size + 1, j, none⟩ = some u := fun j hj => by
        rcases (by omega : j = 0 ∨ j = 1 ∨ j = 2 ∨ j = 3 ∨ j = 4 ∨ j = 5) with rfl | rfl | rfl | rfl | rfl | rfl
        · exact ⟨.int .i64 0, by rw [hW]; go_simp⟩
        · exact ⟨.int .i64 0, by rw [hW]; go_simp⟩
        · exact ⟨.int .i64 0, by rw [hW]; go_simp⟩
        · exact ⟨.string ⟨#[]⟩, by rw [hW]; go_simp⟩
        · exact ⟨.string ⟨#[]⟩, by rw [hW]; go_simp⟩
        · exact ⟨.slice none 0 0, by rw [hW]; go_simp⟩
      have hoW : W.heap.size = o + 1 := by rw [hW, ho]; simp
      have hoo : w.heap.size + 2 ≤ o := by omega
      have hbW : Below w.heap.size w W := by rw [hW]; exact bel
      rw [← hW, ← ho]
      have HW := Lib.hid (And.intro hbW (And.intro s7 s8))
      clear hW ho hbW s7 s8 hy9 hyA hb1 hc1 hf1 hb2 hc2 hf2 hkn2
      have HW' := HW.out.1
      go_loopw [26] (fun i wr => ∃ k : Nat, k ≤ x.args.length ∧ i = .int .i64 k ∧ FoldRel w o (o + 1) x l k wr ∧ (∀ j, wr.frozen? ⟨w.heap.size + 1, j, none⟩ = false) ∧ (∀ j, j < 6 → ∃ u, wr.cell? ⟨w.heap.size + 1, j, none⟩ = some u)) (fun i _ => x.args.length - (intOf i).toNat)
      case atStart =>
        exact ⟨0, by omega, rfl, ⟨none, 0, s0, s1, s2, s3, s4, s5, s6, Own.nil, HW', by omega⟩, HW.out.2.1, HW.out.2.2⟩
      case round =>
        obtain ⟨k, hk, rfl, ⟨A', c', q0, q1, q2, q3, q4, q5, qf, hown, hbr, hbase⟩, rf, rc⟩ := hrel
        clear s0 s1 s2 s3 s4 s5 s6 hoW
        have ho : o < wr.heap.size := by omega
        by_cases hlt : k < x.args.length
        · obtain ⟨b, o', a, X, C, hAe, hbl, hl, hxa, x0, x1, x2, x3, x4, x5⟩ := Exp_at (HH.out.1.nowN keeps_Exp hbr) hlt
          subst hAe
          have hbl' : b < wr.heap.size := hbl
          obtain ⟨a', ha'⟩ : ∃ a', foldX a = a' := ⟨_, rfl⟩
          have hla : l[k]? = some a' := by rw [← ha']; exact HH.out.2.2.2.2.2.2.2 k a hl
          have hia := fun w h => HI.out a X C w (HH.out.2.1 k a hl).1 (HH.out.2.1 k a hl).2.1 (HH.out.2.1 k a hl).2.2 h
          rw [ha'] at hia
          have hlk : (l.take k).length = k := by rw [List.length_take, HH.out.2.2.2.2.2.2.1]; omega
          have HO := Lib.hid (And.intro hown (And.intro hxa (And.intro hla (And.intro rf rc))))
          have HK := Lib.hid hlk
          clear hown hxa hbl hl rf rc hlk ha' hla
          go_wp2_with fail
          go_region_law (first
            | (go_simp; go_at_call 28; refine (hia _ (HO.out.2.1.keep (old_keep bel))).mono ?_; rintro e w2 ⟨A2, c2, rfl, hx2, hb2⟩; have hw2 : Below wr.heap.size wr w2 := (by (refine below_step ?_ hb2 (by simp [heap_drew])); exact bel); have p5 := (hw2.cell (p := ⟨o, 5, none⟩) ho).trans q5; have pf := (hw2.frozen (p := ⟨o, 5, none⟩) ho).trans qf; have ho2 : o < w2.heap.size := Nat.lt_of_lt_of_le ho hw2.size)
            | (refine step_append_Own keeps_Exp rfl (.tmp 31) (.tmp 34) 24 rfl (o + 1) 26 j0 _ 6 80 Tryz.underlying24 hj0 iz0 iz1 iz2 rfl (by decide) (.slice A' k c') (l.take k) rfl (HO.out.1.keep keeps_Exp hw2) [.int .i64 a'.op, .int .i64 a'.v.k, .int .i64 a'.v.n, .string a'.v.s, .string a'.name, .slice A2 a'.args.length c2] 26 rfl _ rfl rfl rfl (by simp [Value.oneCell']) (by rw [HK.out]; omega) (by rw [HK.out]; unfold maxLen; omega) (by have := hw2.size; omega) a' (hx2.keep fun b hb => ⟨⟨by have := hb.1; simp [heap_drew] at this; omega, hb.2, fun e => by have h1 := (HO.out.1.lt b e.symm).2; have h2 := hb.1; simp [heap_drew] at h2; omega⟩, rfl⟩) ?_; intro g' cap w3 hown3 hb3 hz3 hk3 hat3; rw [HK.out] at hown3 ⊢; have hne : some o ≠ (Value.slice A' k c').ownBlock := (fun e => by have := (HO.out.1.lt _ e.symm).1; omega); have hke := hk3 o (by have := hw2.size; omega) hne; have r5 := (World.cell?_of_block (w := w2) (a := ⟨o, 5, none⟩) hke).trans p5; have rz := (World.frozen?_of_block (w := w2) (a := ⟨o, 5, none⟩) hke).trans pf))
          all_goals
            go_wp2_with fail
            go_roundw
            case rel =>
              have hsz3 := hw2.size
              have hc3 : ∀ j, w3.cell? ⟨o, j, none⟩ = wr.cell? ⟨o, j, none⟩ := fun j => (World.cell?_of_block (w := w2) (a := ⟨o, j, none⟩) hke).trans (hw2.cell (p := ⟨o, j, none⟩) ho)
              have hke1 := hk3 (w.heap.size + 1) (by omega) (fun e => by have := (HO.out.1.lt _ e.symm).1; omega)
              have ho1 : w.heap.size + 1 < wr.heap.size := by omega
              have hd3 : ∀ j, w3.cell? ⟨w.heap.size + 1, j, none⟩ = wr.cell? ⟨w.heap.size + 1, j, none⟩ := fun j => (World.cell?_of_block (w := w2) (a := ⟨w.heap.size + 1, j, none⟩) hke1).trans (hw2.cell (p := ⟨w.heap.size + 1, j, none⟩) ho1)
              have he3 : ∀ j, w3.frozen? ⟨w.heap.size + 1, j, none⟩ = wr.frozen? ⟨w.heap.size + 1, j, none⟩ := fun j => (World.frozen?_of_block (w := w2) (a := ⟨w.heap.size + 1, j, none⟩) hke1).trans (hw2.frozen (p := ⟨w.heap.size + 1, j, none⟩) ho1)
              have r0 := (hc3 0).trans q0
              have r1 := (hc3 1).trans q1
              have r2 := (hc3 2).trans q2
              have r3 := (hc3 3).trans q3
              have r4 := (hc3 4).trans q4
              have etk : l.take k ++ [a'] = l.take (k + 1) := by rw [List.take_add_one, HO.out.2.2.1]; rfl
              rw [etk] at hown3
              have hno : w.heap.size + 1 ≠ o := by omega
              refine ⟨k + 1, by omega, by go_num, ⟨some ⟨g', 0, none⟩, cap, by go_simp, by go_simp, by go_simp, by go_simp, by go_simp, (by first | (go_simp; done) | (go_simp; exact World.cell?_setCell_same' _ _ _ (by go_simp))), by go_simp, hown3.set keeps_Exp _ _ (by simp), ?_, by simp; omega⟩, fun j => ?_, fun j hj => ?_⟩
              · exact below_set (below_step (below_step hbr hw2 (by omega)) hb3 (by omega)) (by simp; omega)
              · rw [World.frozen?_setCell, he3]; exact HO.out.2.2.2.1 j
              · obtain ⟨u, hu⟩ := HO.out.2.2.2.2 j hj
                refine ⟨u, ?_⟩
                rw [World.cell?_setCell_other _ _ _ _ (by simp <;> omega)]
                exact (hd3 j).trans hu
            case measure => simp [intOf]; omega
        · have hke : k = x.args.length := by omega
          subst hke
          have etk : l.take x.args.length = l := List.take_of_length_le (by rw [HH.out.2.2.2.2.2.2.1]; omega)
          have hown' : Own wr (o + 1) 26 6 XRep (.slice A' x.args.length c') l := by rw [← etk]; exact hown
          obtain ⟨A9, c9, e9, hc9, hs9⟩ := hown'.sl keeps_Exp
          injection e9 with e91 e92 e93
          subst e91 e93
          have HL := Lib.hid HH.out.2.2.2.2.2.2.1
          rw [HL.out] at hs9
          obtain ⟨z0, w0⟩ := rc 0 (by decide)
          obtain ⟨z1, w1⟩ := rc 1 (by decide)
          obtain ⟨z2, w2⟩ := rc 2 (by decide)
          obtain ⟨z3, w3⟩ := rc 3 (by decide)
          obtain ⟨z4, w4⟩ := rc 4 (by decide)
          obtain ⟨z5, w5⟩ := rc 5 (by decide)
          have f0 := rf 0
          have f1 := rf 1
          have f2 := rf 2
          have f3 := rf 3
          have f4 := rf 4
          have f5 := rf 5
          have HS := Lib.hid hs9
          have hif := ifX_of HP.out.1 HP.out.2 HE.out.2.2.2.2
          clear rf rc hown hown' hs9 etk e92
          rcases hif with ⟨hy, h17⟩ | ⟨hy, h17, a0, ha0, hn1, ho1⟩ | ⟨hy, h17, a0, ha0, hn1, ho1, hk2⟩ | ⟨a0, a1, a2, hargs, h17, ho1, hk2, hn, hy⟩ | ⟨a0, a1, a2, hargs, h17, ho1, hk2, hn, hy⟩
          · have HY := Lib.hid hy
            clear hy HP
            go_wp2_with fail
            refine bodyPost_ret (v := .agg #[.int .i64 x.op, .int .i64 x.v.k, .int .i64 x.v.n, .string x.v.s, .string x.name, .slice A' x.args.length c']) (by first | (simp [results, Tryz.results28, go_sem, w0, w1, w2, w3, w4, w5]; done) | (simp [results, Tryz.results28, go_sem, *]; done)) rfl ?_
            rw [HY.out, HE.out.2.2.2.2]
            refine ⟨A', c', ?_, ?_, ?_⟩
            · show Ending.returned _ = Ending.returned (.agg #[.int .i64 x.op, .int .i64 x.v.k, .int .i64 x.v.n, .string x.v.s, .string x.name, .slice A' l.length c'])
              rw [HL.out]
            · have key : ∀ w2 : World, (∀ b, since (o + 1) wr b → fresh w w2 b ∧ w2.heap[b]? = wr.heap[b]?) → XRep w2 (fresh w w2) [.int .i64 x.op, .int .i64 x.v.k, .int .i64 x.v.n, .string x.v.s, .string x.name, .slice A' l.length c'] (.mk x.op x.v x.name l) := by
                intro w2 hW
                refine XRep.shut HH.out.2.2.1 HH.out.2.2.2.1 HH.out.2.2.2.2.1 ?_ hc9 (by rw [HL.out]; exact HS.out.keepN keeps_Exp hW)
                rw [HL.out]; exact HH.out.2.2.2.2.2.1
              refine key _ fun b hb => ⟨⟨by have := hb.1; omega, by simpa using hb.2⟩, ?_⟩
              have hb1 := hb.1
              iterate 6 rw [heap_setCell_other _ _ _ _ (by simp; omega)]
            · exact bel
          · obtain ⟨g, o9, a9, X9, C9, e9, hg9, hl9, hx9, x0, x1, x2, x3, x4, x5⟩ := Exp_at HS.out (k := 0) (by omega)
            subst e9
            obtain rfl : a9 = a0 := Option.some.inj (hl9.symm.trans ha0)
            have hg9' : g < wr.heap.size := hg9.2
            simp only [Nat.zero_mul, Nat.add_zero] at x0 x1 x2 x3 x4 x5
            clear hl9 hx9 ha0
            have HY := Lib.hid hy
            clear hy HP
            go_wp2_with fail
            refine bodyPost_ret (v := .agg #[.int .i64 x.op, .int .i64 x.v.k, .int .i64 x.v.n, .string x.v.s, .string x.name, .slice (some ⟨g, o9, none⟩) x.args.length c']) (by first | (simp [results, Tryz.results28, go_sem, w0, w1, w2, w3, w4, w5]; done) | (simp [results, Tryz.results28, go_sem, *]; done)) rfl ?_
            rw [HY.out, HE.out.2.2.2.2]
            refine ⟨(some ⟨g, o9, none⟩), c', ?_, ?_, ?_⟩
            · show Ending.returned _ = Ending.returned (.agg #[.int .i64 x.op, .int .i64 x.v.k, .int .i64 x.v.n, .string x.v.s, .string x.name, .slice (some ⟨g, o9, none⟩) l.length c'])
              rw [HL.out]
            · have key : ∀ w2 : World, (∀ b, since (o + 1) wr b → fresh w w2 b ∧ w2.heap[b]? = wr.heap[b]?) → XRep w2 (fresh w w2) [.int .i64 x.op, .int .i64 x.v.k, .int .i64 x.v.n, .string x.v.s, .string x.name, .slice (some ⟨g, o9, none⟩) l.length c'] (.mk x.op x.v x.name l) := by
                intro w2 hW
                refine XRep.shut HH.out.2.2.1 HH.out.2.2.2.1 HH.out.2.2.2.2.1 ?_ hc9 (by rw [HL.out]; exact HS.out.keepN keeps_Exp hW)
                rw [HL.out]; exact HH.out.2.2.2.2.2.1
              refine key _ fun b hb => ⟨⟨by have := hb.1; omega, by simpa using hb.2⟩, ?_⟩
              have hb1 := hb.1
              iterate 6 rw [heap_setCell_other _ _ _ _ (by simp; omega)]
            · exact bel
          · obtain ⟨g, o9, a9, X9, C9, e9, hg9, hl9, hx9, x0, x1, x2, x3, x4, x5⟩ := Exp_at HS.out (k := 0) (by omega)
            subst e9
            obtain rfl : a9 = a0 := Option.some.inj (hl9.symm.trans ha0)
            have hg9' : g < wr.heap.size := hg9.2
            simp only [Nat.zero_mul, Nat.add_zero] at x0 x1 x2 x3 x4 x5
            clear hl9 hx9 ha0
            have HY := Lib.hid hy
            clear hy HP
            go_wp2_with fail
            refine bodyPost_ret (v := .agg #[.int .i64 x.op, .int .i64 x.v.k, .int .i64 x.v.n, .string x.v.s, .string x.name, .slice (some ⟨g, o9, none⟩) x.args.length c']) (by first | (simp [results, Tryz.results28, go_sem, w0, w1, w2, w3, w4, w5]; done) | (simp [results, Tryz.results28, go_sem, *]; done)) rfl ?_
            rw [HY.out, HE.out.2.2.2.2]
            refine ⟨(some ⟨g, o9, none⟩), c', ?_, ?_, ?_⟩
            · show Ending.returned _ = Ending.returned (.agg #[.int .i64 x.op, .int .i64 x.v.k, .int .i64 x.v.n, .string x.v.s, .string x.name, .slice (some ⟨g, o9, none⟩) l.length c'])
              rw [HL.out]
            · have key : ∀ w2 : World, (∀ b, since (o + 1) wr b → fresh w w2 b ∧ w2.heap[b]? = wr.heap[b]?) → XRep w2 (fresh w w2) [.int .i64 x.op, .int .i64 x.v.k, .int .i64 x.v.n, .string x.v.s, .string x.name, .slice (some ⟨g, o9, none⟩) l.length c'] (.mk x.op x.v x.name l) := by
                intro w2 hW
                refine XRep.shut HH.out.2.2.1 HH.out.2.2.2.1 HH.out.2.2.2.2.1 ?_ hc9 (by rw [HL.out]; exact HS.out.keepN keeps_Exp hW)
                rw [HL.out]; exact HH.out.2.2.2.2.2.1
              refine key _ fun b hb => ⟨⟨by have := hb.1; omega, by simpa using hb.2⟩, ?_⟩
              have hb1 := hb.1
              iterate 6 rw [heap_setCell_other _ _ _ _ (by simp; omega)]
            · exact bel
          · have hl3 : l.length = 3 := by rw [hargs]; rfl
            have hn3 : x.args.length = 3 := by rw [← HL.out]; exact hl3
            obtain ⟨g, o9, a9, X9, C9, e9, hg9, hl9, hx9, x0, x1, x2, x3, x4, x5⟩ := Exp_at HS.out (k := 0) (by omega)
            obtain ⟨g', o9', aJ, XJ, CJ, e9', hg9', hlJ, hxJ, y0, y1, y2, y3, y4, y5⟩ := Exp_at HS.out (k := 1) (by omega)
            rw [e9] at e9'
            cases e9'
            subst e9
            obtain rfl : a9 = a0 := Option.some.inj (hl9.symm.trans (by rw [hargs]; rfl))
            obtain rfl : aJ = a1 := Option.some.inj (hlJ.symm.trans (by rw [hargs]; rfl))
            have hgl : g < wr.heap.size := hg9.2
            rw [hn] at x2
            simp only [Nat.zero_mul, Nat.one_mul, Nat.add_zero] at x0 x1 x2 x3 x4 x5 y0 y1 y2 y3 y4 y5
            have HY := Lib.hid hy
            have HXJ := Lib.hid hxJ
            have hp3 : (0 : Int) < x.args.length ∧ (1 : Int) < x.args.length ∧ (2 : Int) < x.args.length := by omega
            obtain ⟨hp1, hp2, hp4⟩ := hp3
            clear hl9 hx9 hlJ hxJ hy hargs hn hl3 hn3 HP
            go_wp2_with fail
            go_region
            try go_wp2_with fail
            refine bodyPost_ret (v := .agg #[.int .i64 aJ.op, .int .i64 aJ.v.k, .int .i64 aJ.v.n, .string aJ.v.s, .string aJ.name, .slice XJ aJ.args.length CJ]) (by first | (simp [results, Tryz.results28, go_sem, w0, w1, w2, w3, w4, w5]; done) | (simp [results, Tryz.results28, go_sem, *]; done)) rfl ?_
            rw [HY.out]
            refine ⟨XJ, CJ, rfl, HXJ.out.keep (fun b hb => ?_), bel⟩
            have hb1 := hb.1
            refine ⟨⟨by omega, by simpa using hb.2⟩, ?_⟩
            (try simp only [heap_drew])
            iterate 6 rw [heap_setCell_other _ _ _ _ (by simp; omega)]
          · have hl3 : l.length = 3 := by rw [hargs]; rfl
            have hn3 : x.args.length = 3 := by rw [← HL.out]; exact hl3
            obtain ⟨g, o9, a9, X9, C9, e9, hg9, hl9, hx9, x0, x1, x2, x3, x4, x5⟩ := Exp_at HS.out (k := 0) (by omega)
            obtain ⟨g', o9', aJ, XJ, CJ, e9', hg9', hlJ, hxJ, y0, y1, y2, y3, y4, y5⟩ := Exp_at HS.out (k := 2) (by omega)
            rw [e9] at e9'
            cases e9'
            subst e9
            obtain rfl : a9 = a0 := Option.some.inj (hl9.symm.trans (by rw [hargs]; rfl))
            obtain rfl : aJ = a2 := Option.some.inj (hlJ.symm.trans (by rw [hargs]; rfl))
            have hgl : g < wr.heap.size := hg9.2
            rw [hn] at x2
            simp only [Nat.zero_mul, Nat.add_zero, Nat.reduceMul] at x0 x1 x2 x3 x4 x5 y0 y1 y2 y3 y4 y5
            have HY := Lib.hid hy
            have HXJ := Lib.hid hxJ
            have hp3 : (0 : Int) < x.args.length ∧ (1 : Int) < x.args.length ∧ (2 : Int) < x.args.length := by omega
            obtain ⟨hp1, hp2, hp4⟩ := hp3
            clear hl9 hx9 hlJ hxJ hy hargs hn hl3 hn3 HP
            go_wp2_with fail
            go_region
            try go_wp2_with fail
            refine bodyPost_ret (v := .agg #[.int .i64 aJ.op, .int .i64 aJ.v.k, .int .i64 aJ.v.n, .string aJ.v.s, .string aJ.name, .slice XJ aJ.args.length CJ]) (by first | (simp [results, Tryz.results28, go_sem, w0, w1, w2, w3, w4, w5]; done) | (simp [results, Tryz.results28, go_sem, *]; done)) rfl ?_
            rw [HY.out]
            refine ⟨XJ, CJ, rfl, HXJ.out.keep (fun b hb => ?_), bel⟩
            have hb1 := hb.1
            refine ⟨⟨by omega, by simpa using hb.2⟩, ?_⟩
            (try simp only [heap_drew])
            iterate 6 rw [heap_setCell_other _ _ _ _ (by simp; omega)]

    · go_enter Tryz.func28, Tryz.ntmps28
      go_wp2_with (first
        | (go_at_call 63; refine (hev _ (HX.out.1.keep (old_keep bel))).mono ?_; clear hev; rintro e w1 ⟨rfl, hb1⟩; obtain ⟨hc1, hf1⟩ := bcell hb1; (try simp only [World.heap_drewN, World.cell?_drewN, World.frozen?_drewN] at hc1 hf1); have hz1 := hb1.size; (try simp at hz1); (try (have hy1 := Nat.lt_of_succ_le hz1)); (try (have hx1 := Nat.lt_of_succ_lt hy1)); (first | refine szz6 w1 w (by omega) ?_ | refine szz5 w1 w (by omega) ?_ | refine szz4 w1 w (by omega) ?_ | refine szz3 w1 w (by omega) ?_ | refine szz2 w1 w (by omega) ?_ | refine szz1 w1 w (by omega) ?_ | refine szz0 w1 w (by omega) ?_ | refine szzn w1 w (by omega) ?_ | skip); intros)
        | (go_at_call 29; refine (hcl _ (HX.out.1.keep (old_keep bel))).mono ?_; clear hcl; rintro e w2 ⟨rfl, hb2⟩; obtain ⟨hc2, hf2⟩ := bcell hb2; (try simp only [World.heap_drewN, World.cell?_drewN, World.frozen?_drewN] at hc2 hf2); have hz2 := hb2.size; (try simp at hz2); (try (have hy2 := Nat.lt_of_succ_le hz2)); (try (have hx2 := Nat.lt_of_succ_lt hy2)); (first | refine szz6 w2 w (by omega) ?_ | refine szz5 w2 w (by omega) ?_ | refine szz4 w2 w (by omega) ?_ | refine szz3 w2 w (by omega) ?_ | refine szz2 w2 w (by omega) ?_ | refine szz1 w2 w (by omega) ?_ | refine szz0 w2 w (by omega) ?_ | refine szzn w2 w (by omega) ?_ | skip); intros; (first | refine szz6 w2 w1 (by omega) ?_ | refine szz5 w2 w1 (by omega) ?_ | refine szz4 w2 w1 (by omega) ?_ | refine szz3 w2 w1 (by omega) ?_ | refine szz2 w2 w1 (by omega) ?_ | refine szz1 w2 w1 (by omega) ?_ | refine szz0 w2 w1 (by omega) ?_ | refine szzn w2 w1 (by omega) ?_ | skip); intros)
        | (go_at_call 64; refine (hkn2 _).mono ?_; clear hkn2; rintro e w3 ⟨rfl, hb3⟩; obtain ⟨hc3, hf3⟩ := bcell hb3; (try simp only [World.heap_drewN, World.cell?_drewN, World.frozen?_drewN] at hc3 hf3); have hz3 := hb3.size; (try simp at hz3); (try (have hy3 := Nat.lt_of_succ_le hz3)); (try (have hx3 := Nat.lt_of_succ_lt hy3)); (first | refine szz6 w3 w (by omega) ?_ | refine szz5 w3 w (by omega) ?_ | refine szz4 w3 w (by omega) ?_ | refine szz3 w3 w (by omega) ?_ | refine szz2 w3 w (by omega) ?_ | refine szz1 w3 w (by omega) ?_ | refine szz0 w3 w (by omega) ?_ | refine szzn w3 w (by omega) ?_ | skip); intros; (first | refine szz6 w3 w1 (by omega) ?_ | refine szz5 w3 w1 (by omega) ?_ | refine szz4 w3 w1 (by omega) ?_ | refine szz3 w3 w1 (by omega) ?_ | refine szz2 w3 w1 (by omega) ?_ | refine szz1 w3 w1 (by omega) ?_ | refine szz0 w3 w1 (by omega) ?_ | refine szzn w3 w1 (by omega) ?_ | skip); intros; (first | refine szz6 w3 w2 (by omega) ?_ | refine szz5 w3 w2 (by omega) ?_ | refine szz4 w3 w2 (by omega) ?_ | refine szz3 w3 w2 (by omega) ?_ | refine szz2 w3 w2 (by omega) ?_ | refine szz1 w3 w2 (by omega) ?_ | refine szz0 w3 w2 (by omega) ?_ | refine szzn w3 w2 (by omega) ?_ | skip); intros))
      obtain ⟨o, ho⟩ : ∃ o, o = w3.heap.size := ⟨_, rfl⟩
      obtain ⟨W, hW⟩ : ∃ W, W = w3.alloc (.cells #[.int .i64 x.op, .int .i64 x.v.k, .int .i64 x.v.n, .string x.v.s, .string x.name, .slice none 0 0] 26) := ⟨_, rfl⟩
      have hy9 : w.heap.size + 1 < w.heap.size + 1 + 1 := by omega
      have hyA : w.heap.size + 1 < w1.heap.size + 1 := by omega
      have s0 : W.cell? ⟨o, 0, none⟩ = some (.int .i64 x.op) := by rw [hW, ho]; go_simp
      have s1 : W.cell? ⟨o, 1, none⟩ = some (.int .i64 x.v.k) := by rw [hW, ho]; go_simp
      have s2 : W.cell? ⟨o, 2, none⟩ = some (.int .i64 x.v.n) := by rw [hW, ho]; go_simp
      have s3 : W.cell? ⟨o, 3, none⟩ = some (.string x.v.s) := by rw [hW, ho]; go_simp
      have s4 : W.cell? ⟨o, 4, none⟩ = some (.string x.name) := by rw [hW, ho]; go_simp
      have s5 : W.cell? ⟨o, 5, none⟩ = some (.slice none 0 0) := by rw [hW, ho]; go_simp
      have s6 : W.frozen? ⟨o, 5, none⟩ = false := by rw [hW, ho]; go_simp
      have s7 : ∀ j, W.frozen? ⟨w.heap.size + 1, j, none⟩ = false := fun j => by rw [hW]; go_simp
      have s8 : ∀ j, j < 6 → ∃ u, W.cell? ⟨w.heap.size + 1, j, none⟩ = some u := fun j hj => by
        rcases (by omega : j = 0 ∨ j = 1 ∨ j = 2 ∨ j = 3 ∨ j = 4 ∨ j = 5) with rfl | rfl | rfl | rfl | rfl | rfl
        · exact ⟨.int .i64 0, by rw [hW]; go_simp⟩
        · exact ⟨.int .i64 0, by rw [hW]; go_simp⟩
        · exact ⟨.int .i64 0, by rw [hW]; go_simp⟩
        · exact ⟨.string ⟨#[]⟩, by rw [hW]; go_simp⟩
        · exact ⟨.string ⟨#[]⟩, by rw [hW]; go_simp⟩
        · exact ⟨.slice none 0 0, by rw [hW]; go_simp⟩
      have hoW : W.heap.size = o + 1 := by rw [hW, ho]; simp
      have hoo : w.heap.size + 2 ≤ o := by omega
      have hbW : Below w.heap.size w W := by rw [hW]; exact bel
      rw [← hW, ← ho]
      have HW := Lib.hid (And.intro hbW (And.intro s7 s8))
      clear hW ho hbW s7 s8 hy9 hyA hb1 hc1 hf1 hb2 hc2 hf2 hb3 hc3 hf3
      have HW' := HW.out.1
      go_loopw [26] (fun i wr => ∃ k : Nat, k ≤ x.args.length ∧ i = .int .i64 k ∧ FoldRel w o (o + 1) x l k wr ∧ (∀ j, wr.frozen? ⟨w.heap.size + 1, j, none⟩ = false) ∧ (∀ j, j < 6 → ∃ u, wr.cell? ⟨w.heap.size + 1, j, none⟩ = some u)) (fun i _ => x.args.length - (intOf i).toNat)
      case atStart =>
        exact ⟨0, by omega, rfl, ⟨none, 0, s0, s1, s2, s3, s4, s5, s6, Own.nil, HW', by omega⟩, HW.out.2.1, HW.out.2.2⟩
      case round =>
        obtain ⟨k, hk, rfl, ⟨A', c', q0, q1, q2, q3, q4, q5, qf, hown, hbr, hbase⟩, rf, rc⟩ := hrel
        clear s0 s1 s2 s3 s4 s5 s6 hoW
        have ho : o < wr.heap.size := by omega
        by_cases hlt : k < x.args.length
        · obtain ⟨b, o', a, X, C, hAe, hbl, hl, hxa, x0, x1, x2, x3, x4, x5⟩ := Exp_at (HH.out.1.nowN keeps_Exp hbr) hlt
          subst hAe
          have hbl' : b < wr.heap.size := hbl
          obtain ⟨a', ha'⟩ : ∃ a', foldX a = a' := ⟨_, rfl⟩
          have hla : l[k]? = some a' := by rw [← ha']; exact HH.out.2.2.2.2.2.2.2 k a hl
          have hia := fun w h => HI.out a X C w (HH.out.2.1 k a hl).1 (HH.out.2.1 k a hl).2.1 (HH.out.2.1 k a hl).2.2 h
          rw [ha'] at hia
          have hlk : (l.take k).length = k := by rw [List.length_take, HH.out.2.2.2.2.2.2.1]; omega
          have HO := Lib.hid (And.intro hown (And.intro hxa (And.intro hla (And.intro rf rc))))
          have HK := Lib.hid hlk
          clear hown hxa hbl hl rf rc hlk ha' hla
          go_wp2_with fail
          go_region_law (first
            | (go_simp; go_at_call 28; refine (hia _ (HO.out.2.1.keep (old_keep bel))).mono ?_; rintro e w2 ⟨A2, c2, rfl, hx2, hb2⟩; have hw2 : Below wr.heap.size wr w2 := (by (refine below_step ?_ hb2 (by simp [heap_drew])); exact bel); have p5 := (hw2.cell (p := ⟨o, 5, none⟩) ho).trans q5; have pf := (hw2.frozen (p := ⟨o, 5, none⟩) ho).trans qf; have ho2 : o < w2.heap.size := Nat.lt_of_lt_of_le ho hw2.size)
            | (refine step_append_Own keeps_Exp rfl (.tmp 31) (.tmp 34) 24 rfl (o + 1) 26 j0 _ 6 80 Tryz.underlying24 hj0 iz0 iz1 iz2 rfl (by decide) (.slice A' k c') (l.take k) rfl (HO.out.1.keep keeps_Exp hw2) [.int .i64 a'.op, .int .i64 a'.v.k, .int .i64 a'.v.n, .string a'.v.s, .string a'.name, .slice A2 a'.args.length c2] 26 rfl _ rfl rfl rfl (by simp [Value.oneCell']) (by rw [HK.out]; omega) (by rw [HK.out]; unfold maxLen; omega) (by have := hw2.size; omega) a' (hx2.keep fun b hb => ⟨⟨by have := hb.1; simp [heap_drew] at this; omega, hb.2, fun e => by have h1 := (HO.out.1.lt b e.symm).2; have h2 := hb.1; simp [heap_drew] at h2; omega⟩, rfl⟩) ?_; intro g' cap w3 hown3 hb3 hz3 hk3 hat3; rw [HK.out] at hown3 ⊢; have hne : some o ≠ (Value.slice A' k c').ownBlock := (fun e => by have := (HO.out.1.lt _ e.symm).1; omega); have hke := hk3 o (by have := hw2.size; omega) hne; have r5 := (World.cell?_of_block (w := w2) (a := ⟨o, 5, none⟩) hke).trans p5; have rz := (World.frozen?_of_block (w := w2) (a := ⟨o, 5, none⟩) hke).trans pf))
          all_goals
            go_wp2_with fail
            go_roundw
            case rel =>
              have hsz3 := hw2.size
              have hc3 : ∀ j, w3.cell? ⟨o, j, none⟩ = wr.cell? ⟨o, j, none⟩ := fun j => (World.cell?_of_block (w := w2) (a := ⟨o, j, none⟩) hke).trans (hw2.cell (p := ⟨o, j, none⟩) ho)
              have hke1 := hk3 (w.heap.size + 1) (by omega) (fun e => by have := (HO.out.1.lt _ e.symm).1; omega)
              have ho1 : w.heap.size + 1 < wr.heap.size := by omega
              have hd3 : ∀ j, w3.cell? ⟨w.heap.size + 1, j, none⟩ = wr.cell? ⟨w.heap.size + 1, j, none⟩ := fun j => (World.cell?_of_block (w := w2) (a := ⟨w.heap.size + 1, j, none⟩) hke1).trans (hw2.cell (p := ⟨w.heap.size + 1, j, none⟩) ho1)
              have he3 : ∀ j, w3.frozen? ⟨w.heap.size + 1, j, none⟩ = wr.frozen? ⟨w.heap.size + 1, j, none⟩ := fun j => (World.frozen?_of_block (w := w2) (a := ⟨w.heap.size + 1, j, none⟩) hke1).trans (hw2.frozen (p := ⟨w.heap.size + 1, j, none⟩) ho1)
              have r0 := (hc3 0).trans q0
              have r1 := (hc3 1).trans q1
              have r2 := (hc3 2).trans q2
              have r3 := (hc3 3).trans q3
              have r4 := (hc3 4).trans q4
              have etk : l.take k ++ [a'] = l.take (k + 1) := by rw [List.take_add_one, HO.out.2.2.1]; rfl
              rw [etk] at hown3
              have hno : w.heap.size + 1 ≠ o := by omega
              refine ⟨k + 1, by omega, by go_num, ⟨some ⟨g', 0, none⟩, cap, by go_simp, by go_simp, by go_simp, by go_simp, by go_simp, (by first | (go_simp; done) | (go_simp; exact World.cell?_setCell_same' _ _ _ (by go_simp))), by go_simp, hown3.set keeps_Exp _ _ (by simp), ?_, by simp; omega⟩, fun j => ?_, fun j hj => ?_⟩
              · exact below_set (below_step (below_step hbr hw2 (by omega)) hb3 (by omega)) (by simp; omega)
              · rw [World.frozen?_setCell, he3]; exact HO.out.2.2.2.1 j
              · obtain ⟨u, hu⟩ := HO.out.2.2.2.2 j hj
                refine ⟨u, ?_⟩
                rw [World.cell?_setCell_other _ _ _ _ (by simp <;> omega)]
                exact (hd3 j).trans hu
            case measure => simp [intOf]; omega
        · have hke : k = x.args.length := by omega
          subst hke
          have etk : l.take x.args.length = l := List.take_of_length_le (by rw [HH.out.2.2.2.2.2.2.1]; omega)
          have hown' : Own wr (o + 1) 26 6 XRep (.slice A' x.args.length c') l := by rw [← etk]; exact hown
          obtain ⟨A9, c9, e9, hc9, hs9⟩ := hown'.sl keeps_Exp
          injection e9 with e91 e92 e93
          subst e91 e93
          have HL := Lib.hid HH.out.2.2.2.2.2.2.1
          rw [HL.out] at hs9
          obtain ⟨z0, w0⟩ := rc 0 (by decide)
          obtain ⟨z1, w1⟩ := rc 1 (by decide)
          obtain ⟨z2, w2⟩ := rc 2 (by decide)
          obtain ⟨z3, w3⟩ := rc 3 (by decide)
          obtain ⟨z4, w4⟩ := rc 4 (by decide)
          obtain ⟨z5, w5⟩ := rc 5 (by decide)
          have f0 := rf 0
          have f1 := rf 1
          have f2 := rf 2
          have f3 := rf 3
          have f4 := rf 4
          have f5 := rf 5
          have HS := Lib.hid hs9
          have hif := ifX_of HP.out.1 HP.out.2 HE.out.2.2.2.2
          clear rf rc hown hown' hs9 etk e92
          rcases hif with ⟨hy, h17⟩ | ⟨hy, h17, a0, ha0, hn1, ho1⟩ | ⟨hy, h17, a0, ha0, hn1, ho1, hk2⟩ | ⟨a0, a1, a2, hargs, h17, ho1, hk2, hn, hy⟩ | ⟨a0, a1, a2, hargs, h17, ho1, hk2, hn, hy⟩
          · have HY := Lib.hid hy
            clear hy HP
            go_wp2_with fail
            refine bodyPost_ret (v := .agg #[.int .i64 x.op, .int .i64 x.v.k, .int .i64 x.v.n, .string x.v.s, .string x.name, .slice A' x.args.length c']) (by first | (simp [results, Tryz.results28, go_sem, w0, w1, w2, w3, w4, w5]; done) | (simp [results, Tryz.results28, go_sem, *]; done)) rfl ?_
            rw [HY.out, HE.out.2.2.2.2]
            refine ⟨A', c', ?_, ?_, ?_⟩
            · show Ending.returned _ = Ending.returned (.agg #[.int .i64 x.op, .int .i64 x.v.k, .int .i64 x.v.n, .string x.v.s, .string x.name, .slice A' l.length c'])
              rw [HL.out]
            · have key : ∀ w3 : World, (∀ b, since (o + 1) wr b → fresh w w3 b ∧ w3.heap[b]? = wr.heap[b]?) → XRep w3 (fresh w w3) [.int .i64 x.op, .int .i64 x.v.k, .int .i64 x.v.n, .string x.v.s, .string x.name, .slice A' l.length c'] (.mk x.op x.v x.name l) := by
                intro w3 hW
                refine XRep.shut HH.out.2.2.1 HH.out.2.2.2.1 HH.out.2.2.2.2.1 ?_ hc9 (by rw [HL.out]; exact HS.out.keepN keeps_Exp hW)
                rw [HL.out]; exact HH.out.2.2.2.2.2.1
              refine key _ fun b hb => ⟨⟨by have := hb.1; omega, by simpa using hb.2⟩, ?_⟩
              have hb1 := hb.1
              iterate 6 rw [heap_setCell_other _ _ _ _ (by simp; omega)]
            · exact bel
          · obtain ⟨g, o9, a9, X9, C9, e9, hg9, hl9, hx9, x0, x1, x2, x3, x4, x5⟩ := Exp_at HS.out (k := 0) (by omega)
            subst e9
            obtain rfl : a9 = a0 := Option.some.inj (hl9.symm.trans ha0)
            have hg9' : g < wr.heap.size := hg9.2
            simp only [Nat.zero_mul, Nat.add_zero] at x0 x1 x2 x3 x4 x5
            clear hl9 hx9 ha0
            have HY := Lib.hid hy
            clear hy HP
            go_wp2_with fail
            refine bodyPost_ret (v := .agg #[.int .i64 x.op, .int .i64 x.v.k, .int .i64 x.v.n, .string x.v.s, .string x.name, .slice (some ⟨g, o9, none⟩) x.args.length c']) (by first | (simp [results, Tryz.results28, go_sem, w0, w1, w2, w3, w4, w5]; done) | (simp [results, Tryz.results28, go_sem, *]; done)) rfl ?_
            rw [HY.out, HE.out.2.2.2.2]
            refine ⟨(some ⟨g, o9, none⟩), c', ?_, ?_, ?_⟩
            · show Ending.returned _ = Ending.returned (.agg #[.int .i64 x.op, .int .i64 x.v.k, .int .i64 x.v.n, .string x.v.s, .string x.name, .slice (some ⟨g, o9, none⟩) l.length c'])
              rw [HL.out]
            · have key : ∀ w3 : World, (∀ b, since (o + 1) wr b → fresh w w3 b ∧ w3.heap[b]? = wr.heap[b]?) → XRep w3 (fresh w w3) [.int .i64 x.op, .int .i64 x.v.k, .int .i64 x.v.n, .string x.v.s, .string x.name, .slice (some ⟨g, o9, none⟩) l.length c'] (.mk x.op x.v x.name l) := by
                intro w3 hW
                refine XRep.shut HH.out.2.2.1 HH.out.2.2.2.1 HH.out.2.2.2.2.1 ?_ hc9 (by rw [HL.out]; exact HS.out.keepN keeps_Exp hW)
                rw [HL.out]; exact HH.out.2.2.2.2.2.1
              refine key _ fun b hb => ⟨⟨by have := hb.1; omega, by simpa using hb.2⟩, ?_⟩
              have hb1 := hb.1
              iterate 6 rw [heap_setCell_other _ _ _ _ (by simp; omega)]
            · exact bel
          · obtain ⟨g, o9, a9, X9, C9, e9, hg9, hl9, hx9, x0, x1, x2, x3, x4, x5⟩ := Exp_at HS.out (k := 0) (by omega)
            subst e9
            obtain rfl : a9 = a0 := Option.some.inj (hl9.symm.trans ha0)
            have hg9' : g < wr.heap.size := hg9.2
            simp only [Nat.zero_mul, Nat.add_zero] at x0 x1 x2 x3 x4 x5
            clear hl9 hx9 ha0
            have HY := Lib.hid hy
            clear hy HP
            go_wp2_with fail
            refine bodyPost_ret (v := .agg #[.int .i64 x.op, .int .i64 x.v.k, .int .i64 x.v.n, .string x.v.s, .string x.name, .slice (some ⟨g, o9, none⟩) x.args.length c']) (by first | (simp [results, Tryz.results28, go_sem, w0, w1, w2, w3, w4, w5]; done) | (simp [results, Tryz.results28, go_sem, *]; done)) rfl ?_
            rw [HY.out, HE.out.2.2.2.2]
            refine ⟨(some ⟨g, o9, none⟩), c', ?_, ?_, ?_⟩
            · show Ending.returned _ = Ending.returned (.agg #[.int .i64 x.op, .int .i64 x.v.k, .int .i64 x.v.n, .string x.v.s, .string x.name, .slice (some ⟨g, o9, none⟩) l.length c'])
              rw [HL.out]
            · have key : ∀ w3 : World, (∀ b, since (o + 1) wr b → fresh w w3 b ∧ w3.heap[b]? = wr.heap[b]?) → XRep w3 (fresh w w3) [.int .i64 x.op, .int .i64 x.v.k, .int .i64 x.v.n, .string x.v.s, .string x.name, .slice (some ⟨g, o9, none⟩) l.length c'] (.mk x.op x.v x.name l) := by
                intro w3 hW
                refine XRep.shut HH.out.2.2.1 HH.out.2.2.2.1 HH.out.2.2.2.2.1 ?_ hc9 (by rw [HL.out]; exact HS.out.keepN keeps_Exp hW)
                rw [HL.out]; exact HH.out.2.2.2.2.2.1
              refine key _ fun b hb => ⟨⟨by have := hb.1; omega, by simpa using hb.2⟩, ?_⟩
              have hb1 := hb.1
              iterate 6 rw [heap_setCell_other _ _ _ _ (by simp; omega)]
            · exact bel
          · have hl3 : l.length = 3 := by rw [hargs]; rfl
            have hn3 : x.args.length = 3 := by rw [← HL.out]; exact hl3
            obtain ⟨g, o9, a9, X9, C9, e9, hg9, hl9, hx9, x0, x1, x2, x3, x4, x5⟩ := Exp_at HS.out (k := 0) (by omega)
            obtain ⟨g', o9', aJ, XJ, CJ, e9', hg9', hlJ, hxJ, y0, y1, y2, y3, y4, y5⟩ := Exp_at HS.out (k := 1) (by omega)
            rw [e9] at e9'
            cases e9'
            subst e9
            obtain rfl : a9 = a0 := Option.some.inj (hl9.symm.trans (by rw [hargs]; rfl))
            obtain rfl : aJ = a1 := Option.some.inj (hlJ.symm.trans (by rw [hargs]; rfl))
            have hgl : g < wr.heap.size := hg9.2
            rw [hn] at x2
            simp only [Nat.zero_mul, Nat.one_mul, Nat.add_zero] at x0 x1 x2 x3 x4 x5 y0 y1 y2 y3 y4 y5
            have HY := Lib.hid hy
            have HXJ := Lib.hid hxJ
            have hp3 : (0 : Int) < x.args.length ∧ (1 : Int) < x.args.length ∧ (2 : Int) < x.args.length := by omega
            obtain ⟨hp1, hp2, hp4⟩ := hp3
            clear hl9 hx9 hlJ hxJ hy hargs hn hl3 hn3 HP
            go_wp2_with fail
            go_region
            try go_wp2_with fail
            refine bodyPost_ret (v := .agg #[.int .i64 aJ.op, .int .i64 aJ.v.k, .int .i64 aJ.v.n, .string aJ.v.s, .string aJ.name, .slice XJ aJ.args.length CJ]) (by first | (simp [results, Tryz.results28, go_sem, w0, w1, w2, w3, w4, w5]; done) | (simp [results, Tryz.results28, go_sem, *]; done)) rfl ?_
            rw [HY.out]
            refine ⟨XJ, CJ, rfl, HXJ.out.keep (fun b hb => ?_), bel⟩
            have hb1 := hb.1
            refine ⟨⟨by omega, by simpa using hb.2⟩, ?_⟩
            (try simp only [heap_drew])
            iterate 6 rw [heap_setCell_other _ _ _ _ (by simp; omega)]
          · have hl3 : l.length = 3 := by rw [hargs]; rfl
            have hn3 : x.args.length = 3 := by rw [← HL.out]; exact hl3
            obtain ⟨g, o9, a9, X9, C9, e9, hg9, hl9, hx9, x0, x1, x2, x3, x4, x5⟩ := Exp_at HS.out (k := 0) (by omega)
            obtain ⟨g', o9', aJ, XJ, CJ, e9', hg9', hlJ, hxJ, y0, y1, y2, y3, y4, y5⟩ := Exp_at HS.out (k := 2) (by omega)
            rw [e9] at e9'
            cases e9'
            subst e9
            obtain rfl : a9 = a0 := Option.some.inj (hl9.symm.trans (by rw [hargs]; rfl))
            obtain rfl : aJ = a2 := Option.some.inj (hlJ.symm.trans (by rw [hargs]; rfl))
            have hgl : g < wr.heap.size := hg9.2
            rw [hn] at x2
            simp only [Nat.zero_mul, Nat.add_zero, Nat.reduceMul] at x0 x1 x2 x3 x4 x5 y0 y1 y2 y3 y4 y5
            have HY := Lib.hid hy
            have HXJ := Lib.hid hxJ
            have hp3 : (0 : Int) < x.args.length ∧ (1 : Int) < x.args.length ∧ (2 : Int) < x.args.length := by omega
            obtain ⟨hp1, hp2, hp4⟩ := hp3
            clear hl9 hx9 hlJ hxJ hy hargs hn hl3 hn3 HP
            go_wp2_with fail
            go_region
            try go_wp2_with fail
            refine bodyPost_ret (v := .agg #[.int .i64 aJ.op, .int .i64 aJ.v.k, .int .i64 aJ.v.n, .string aJ.v.s, .string aJ.name, .slice XJ aJ.args.length CJ]) (by first | (simp [results, Tryz.results28, go_sem, w0, w1, w2, w3, w4, w5]; done) | (simp [results, Tryz.results28, go_sem, *]; done)) rfl ?_
            rw [HY.out]
            refine ⟨XJ, CJ, rfl, HXJ.out.keep (fun b hb => ?_), bel⟩
            have hb1 := hb.1
            refine ⟨⟨by omega, by simpa using hb.2⟩, ?_⟩
            (try simp only [heap_drew])
            iterate 6 rw [heap_setCell_other _ _ _ _ (by simp; omega)]

end Go.Proofs.YtgmcojnhpedpnaaGreat
