/- What every law's proof shares: the row's frame, once for all: from 'the call returns true and what was there before stays' to the given statement's form. -/
import Derived.Test.YtbhkpepinogigaaGreatRows
import Derived.ProofKit
import Derived.SizedLaws
import Derived.Deep.CondSized
namespace Go.Proofs.YtbhkpepinogigaaGreat
open Go.ChangeShapes Go.WideShapes Go.ChangeAt Go.RowKit

theorem Tryz.own : ownKnob Tryz.prog.godebug = none := by kernel_rfl
theorem Tryz.laidOut : laidOutB Tryz.prog = true := by kernel_rfl

theorem trodAll_below {H : Type} {enc : TypeId × Value → H} {W W' : World} (hb : Below W.heap.size W W') :
    ∀ (ts : List TypeId) (vs : List Value) (ds : List (DataW H)) (ps : List MemPlace), (∀ t ∈ ts, Tryz.prog.readableRec t = true ∧ t < Tryz.prog.types.size) →
      DataW.TrodAll enc Tryz.prog W 0 (fun _ => true) true ts vs ds ps → (∀ x ∈ ps, x.block < W.heap.size) →
      DataW.TrodAll enc Tryz.prog W' 0 (fun b => decide (b < W.heap.size)) true ts vs ds ps
  | [], [], [], ps, _, h, _ => h
  | t :: ts, v :: vs, d :: ds, ps, hr, h, hlt => by
    obtain ⟨p, q, h1, h2, rfl⟩ := h
    exact ⟨p, q, Below.trod Tryz.laidOut (hr t (by simp)).1 (hr t (by simp)).2 h1 hb (fun x hx => hlt x (by simp [hx])),
      trodAll_below hb ts vs ds q (fun t ht => hr t (by simp [ht])) h2 (fun x hx => hlt x (by simp [hx])), rfl⟩
  | [], _ :: _, _, _, _, h, _ => h.elim
  | [], [], _ :: _, _, _, h, _ => h.elim
  | _ :: _, [], _, _, _, h, _ => h.elim
  | _ :: _, _ :: _, [], _, _, h, _ => h.elim

theorem trodAll_length {H : Type} {enc : TypeId × Value → H} {W : World} {sp : Nat → Bool} {b : Nat} {hd : Bool} : ∀ {ts : List TypeId} {vs : List Value} {ds : List (DataW H)} {ps : List MemPlace},
    DataW.TrodAll enc Tryz.prog W b sp hd ts vs ds ps → ds.length = ts.length
  | [], [], [], _, _ => rfl
  | t :: ts, v :: vs, d :: ds, _, h => by
    obtain ⟨p, q, _, h2, _⟩ := h
    simp [trodAll_length h2]
  | [], _ :: _, _, _, h => h.elim
  | [], [], _ :: _, _, h => h.elim
  | _ :: _, [], _, _, h => h.elim
  | _ :: _, _ :: _, [], _, h => h.elim

theorem law_post {H : Type} {enc : TypeId × Value → H} {f : Func} {s : ChangeSpec} {W W' : World} {args : Array Value} {ds : List (DataW H)} {p : List MemPlace}
    (hW : DataW.Whole enc Tryz.prog f.params.toList s.vars false W args.toList ds [] p) (hA : DataW.TrodAll enc Tryz.prog W 0 (fun _ => true) true f.params.toList args.toList ds p)
    (hr : ∀ t ∈ f.params.toList, Tryz.prog.readableRec t = true ∧ t < Tryz.prog.types.size) (hres : f.resultTypes = #[4]) (hv : s.vars = [])
    (hs : s.fn H (ds ++ []) = { results := [.lit (.bool true)], args := ds }) (hb : Below W.heap.size W W') :
    s.post enc Tryz.prog f false true false false W args (.bool true) W' := by
  refine ⟨ds, [], p, [], p, [], hW, ?_, ?_, ?_, hb.frame _, fun h => by cases h⟩
  · rw [hs, hres]
    exact trodAll_mk1 (shut_bool Tryz.underlying4 true)
  · rw [hs]
    exact trodAll_below hb _ _ _ _ hr hA fun x hx => by simpa using hW.lt x hx
  · rw [hs, hv]
    exact rfl

set_option maxRecDepth 100000 in
/-- The whole frame: what is left to a law is its witness, its closed facts and its walk. -/
theorem law_lifted {H : Type} {enc : TypeId × Value → H} {os : Os} (started : os.Started) {k : FuncId} {f : Func} {s : ChangeSpec} (hin : Tryz.prog.inits.idxOf? k = none) (hk : Tryz.prog.funcs[k]? = some f)
    (hr : ∀ t ∈ f.params.toList, Tryz.prog.readableRec t = true ∧ t < Tryz.prog.types.size) (hres : f.resultTypes = #[4]) (hv : s.vars = [])
    (hs : ∀ ds : List (DataW H), ds.length = f.params.size → s.fn H (ds ++ []) = { results := [.lit (.bool true)], args := ds })
    (hwit : ∃ (w : World) (tape : Tape) (i : Input), w.os = os ∧ (w.forCall tape i).Shaped Tryz.checked.prog ∧ i.vars = [] ∧ Input.okWide Tryz.checked.prog (w.forCall tape i) .any w.heap.size k i ∧
      s.pre6 enc Tryz.checked.prog f [] false (w.forCall tape i).memory i.args ∧ ({} : Assume).holds Tryz.checked.prog (lone (Frame.enter Tryz.checked.prog k i.args .normal) [] (w.forCall tape i)))
    (hwalk : ∀ (W : World) (b : Nat) (args : Array Value) (ds : List (DataW H)) (p : List MemPlace), DataW.TrodAll enc Tryz.prog W 0 (fun _ => true) true f.params.toList args.toList ds p →
      (∀ (j : Nat) t v, f.params[j]? = some t → args[j]? = some v → Value.okWide Tryz.prog W .any b t v) → (DataW.weightsEach Tryz.prog f.params.toList ds).all (· ≤ reachBytes) = true →
      Calls Tryz.prog k args W fun e w' => e = .returned (.bool true) ∧ Below W.heap.size W w') :
    ReturnsInHanded {} Tryz.checked os k .any (s.pre6 enc Tryz.checked.prog f [] false) (s.post enc Tryz.checked.prog f false true false false) := by
  refine returnsInHanded_of_change_sized (C := Tryz.checked) Tryz.own started hin hk hwit ?_
  intro W b args ds gs p hval hW _ hsz _
  have hW' := hW
  obtain ⟨p', q, hA, hV, rfl, hfz, hnd⟩ := hW
  have hg : gs = [] ∧ q = [] := by
    rw [hv] at hV
    exact trodVars_none hV
  obtain ⟨rfl, rfl⟩ := hg
  have hl : ds.length = f.params.size := by
    have := trodAll_length hA
    simpa using this
  have hsz' : (DataW.weightsEach Tryz.prog f.params.toList ds).all (· ≤ reachBytes) = true := by
    have : s.plain.varTypes Tryz.prog = [] := by simp [DataSpec.varTypes, ChangeSpec.plain, hv]
    have h2 := hsz
    rw [show s.plain.varTypes Tryz.checked.prog = [] from this, List.append_nil, List.append_nil] at h2
    exact h2
  rw [List.append_nil] at hW'
  have hW2 : DataW.Whole enc Tryz.prog f.params.toList s.vars false W args.toList ds [] p' := hW'
  have hA2 : DataW.TrodAll enc Tryz.prog W 0 (fun _ => true) true f.params.toList args.toList ds p' := hA
  refine (hwalk W b args ds p' hA hval hsz').mono ?_
  rintro e W' ⟨rfl, hb⟩
  exact ⟨_, rfl, law_post hW2 hA2 hr hres hv (hs ds hl) hb⟩

set_option maxRecDepth 100000 in
/-- The same for the second form: the arguments' bulk is bounded. -/
theorem law_lifted_upto {H : Type} {enc : TypeId × Value → H} {os : Os} {FS : Stop.Interp} (started : os.Started) {k : FuncId} {f : Func} {s : ChangeSpec} (hin : Tryz.prog.inits.idxOf? k = none) (hk : Tryz.prog.funcs[k]? = some f)
    (hr : ∀ t ∈ f.params.toList, Tryz.prog.readableRec t = true ∧ t < Tryz.prog.types.size) (hres : f.resultTypes = #[4]) (hv : s.vars = [])
    (hs : ∀ ds : List (DataW H), ds.length = f.params.size → s.fn H (ds ++ []) = { results := [.lit (.bool true)], args := ds })
    (hwit : ∃ (w : World) (tape : Tape) (i : Input), w.os = os ∧ (w.forCall tape i).Shaped Tryz.checked.prog ∧ i.vars = [] ∧ Input.okWide Tryz.checked.prog (w.forCall tape i) .any w.heap.size k i ∧
      (Rows.OpenSpec.upto s).pre6 enc Tryz.checked.prog f [] false (w.forCall tape i).memory i.args ∧ ({} : Assume).holds Tryz.checked.prog (lone (Frame.enter Tryz.checked.prog k i.args .normal) [] (w.forCall tape i)))
    (hwalk : ∀ (W : World) (b : Nat) (args : Array Value) (ds : List (DataW H)) (p : List MemPlace), DataW.TrodAll enc Tryz.prog W 0 (fun _ => true) true f.params.toList args.toList ds p →
      (∀ (j : Nat) t v, f.params[j]? = some t → args[j]? = some v → Value.okWide Tryz.prog W .any b t v) → (DataW.weightsEach Tryz.prog f.params.toList ds).all (· ≤ reachBytes) = true → Rows.uptoBulkAll ds ≤ 1048576 →
      Calls Tryz.prog k args W fun e w' => e = .returned (.bool true) ∧ Below W.heap.size W w') :
    ReturnsInHanded {} Tryz.checked os k .any ((Rows.OpenSpec.upto s).pre6 enc Tryz.checked.prog f [] false) (((Rows.OpenSpec.upto s).at FS).post enc Tryz.checked.prog f false true false false) := by
  refine returnsInHanded_of_cond_sized (C := Tryz.checked) (s := Rows.OpenSpec.upto s) (k := Rows.uptoSmall) rfl Tryz.own started hin hk hwit ?_
  intro W b args ds gs p hval hW _ hbk hsz _
  have hW' : DataW.Whole enc Tryz.prog f.params.toList s.vars false W args.toList ds gs p := hW
  obtain ⟨p', q, hA, hV, rfl, hfz, hnd⟩ := hW
  have hg : gs = [] ∧ q = [] := by
    have hv' : (Rows.OpenSpec.upto s).vars = [] := hv
    rw [hv'] at hV
    exact trodVars_none hV
  obtain ⟨rfl, rfl⟩ := hg
  have hl : ds.length = f.params.size := by
    have := trodAll_length hA
    simpa using this
  have hsz' : (DataW.weightsEach Tryz.prog f.params.toList ds).all (· ≤ reachBytes) = true := by
    have : s.plain.varTypes Tryz.prog = [] := by simp [DataSpec.varTypes, ChangeSpec.plain, hv]
    have h2 := hsz
    rw [show (Rows.OpenSpec.upto s).bare.plain.varTypes Tryz.checked.prog = [] from this, List.append_nil, List.append_nil] at h2
    exact h2
  have hbk' : Rows.uptoBulkAll ds ≤ 1048576 := by
    have h2 := of_decide_eq_true hbk
    rwa [List.append_nil] at h2
  rw [List.append_nil] at hW'
  have hA2 : DataW.TrodAll enc Tryz.prog W 0 (fun _ => true) true f.params.toList args.toList ds p' := hA
  refine (hwalk W b args ds p' hA hval hsz' hbk').mono ?_
  rintro e W' ⟨rfl, hb⟩
  exact ⟨_, rfl, law_post hW' hA2 hr hres hv (hs ds hl) hb⟩
end Go.Proofs.YtbhkpepinogigaaGreat
