/- What the laws over listed variables share: the row's frame with its list and the world's shape; the card. -/
import Derived.Test.YtldbpmlgbbomcaaGreatDoorCards
import Derived.Test.YtldbpmlgbbomcaaGreatDoorTie
import Derived.Test.YtldbpmlgbbomcaaGreatDoorOpen
import Derived.Deep.DeepHandedRow
import Derived.Lay
import Derived.PinnedBridge
import Derived.Stop.LaidErr
import Derived.Lib.LaidTab
namespace Go.Proofs.YtldbpmlgbbomcaaGreatDoor
open Go.ChangeShapes Go.WideShapes Go.ChangeAt Go.RowKit

theorem witness_zip {H:Type} {enc:TypeId × Value → H} {C:Checked} {os:Os} {f:FuncId} {fn:Func} {s:OpenSpec} {laid:List (String × DataW Unit)} (w0:World) (args:Array Value) (hos:w0.os = os)
  (hsh:(w0.forCall (fun _ _ => 0) ⟨#[],args,[]⟩).Shaped C.prog)
  (hok:Input.okWideB C.prog (w0.forCall (fun _ _ => 0) ⟨#[],args,[]⟩) f ⟨#[],args,[]⟩ = true)
  (hrow:s.preRow enc C.prog fn [] false laid (w0.forCall (fun _ _ => 0) ⟨#[],args,[]⟩).memory args) :
  ∃ (w:World) (tape:Tape) (i:Input),w.os = os ∧ (w.forCall tape i).Shaped C.prog ∧ i.vars = [] ∧ Input.okWide C.prog (w.forCall tape i) .any w.heap.size f i ∧
   s.preRow enc C.prog fn [] false laid (w.forCall tape i).memory i.args ∧ ({}:Assume).holds C.prog (lone (Frame.enter C.prog f i.args .normal) [] (w.forCall tape i)) :=
 ⟨w0,fun _ _ => 0,⟨#[],args,[]⟩,hos,hsh,(Input.okWide_of_okWideB (base:=0) hok).1,(Input.okWide_of_okWideB hok).2,hrow,by simp [Assume.holds]⟩

set_option maxRecDepth 100000 in
theorem law_lifted_laid {H:Type} {enc:TypeId × Value → H} {os:Os} {FS:Stop.Interp} (started:os.Started) {k:FuncId} {f:Func} {s:ChangeSpec} {laid:List (String × DataW Unit)} (hin:Tryz.prog.inits.idxOf? k = none) (hk:Tryz.prog.funcs[k]? = some f)
  (hr:∀ t ∈ f.params.toList,Tryz.prog.readableRec t = true ∧ t < Tryz.prog.types.size) (hres:f.resultTypes = #[4]) (hv:s.vars = [])
  (hs:∀ ds:List (DataW H),ds.length = f.params.size → s.fn H (ds ++ []) = { results:=[.lit (.bool true)],args:=ds })
  (hwit:∃ (w:World) (tape:Tape) (i:Input),w.os = os ∧ (w.forCall tape i).Shaped Tryz.checked.prog ∧ i.vars = [] ∧ Input.okWide Tryz.checked.prog (w.forCall tape i) .any w.heap.size k i ∧
   (OpenSpec.ofChange s).preRow enc Tryz.checked.prog f [] false laid (w.forCall tape i).memory i.args ∧ ({}:Assume).holds Tryz.checked.prog (lone (Frame.enter Tryz.checked.prog k i.args .normal) [] (w.forCall tape i)))
  (hwalk:∀ (W:World) (b:Nat) (args:Array Value) (ds:List (DataW H)) (p:List MemPlace),DataW.TrodAll enc Tryz.prog W 0 (fun _ => true) true f.params.toList args.toList ds p →
   (∀ (j:Nat) t v,f.params[j]? = some t → args[j]? = some v → Value.okWide Tryz.prog W .any b t v) → (DataW.weightsEach Tryz.prog f.params.toList ds).all (· ≤ reachBytes) = true → laidMetH Tryz.prog laid W → W.ShapedOpen Tryz.prog →
   Calls Tryz.prog k args W fun e w' => e = .returned (.bool true) ∧ Below W.heap.size W w') :
  ReturnsInHanded {} Tryz.checked os k .any ((OpenSpec.ofChange s).preRow enc Tryz.checked.prog f [] false laid) (((OpenSpec.ofChange s).at FS).post enc Tryz.checked.prog f false true false false):=by
 refine returnsInHanded_of_row (C:=Tryz.checked) (s:=OpenSpec.ofChange s) Tryz.own started hin hk hwit ?_
 intro W b args ds gs p hval hW _ _ hsz hL hsh _
 have hW':DataW.Whole enc Tryz.prog f.params.toList s.vars false W args.toList ds gs p:=hW
 obtain ⟨p',q,hA,hV,rfl,hfz,hnd⟩:=hW
 have hg:gs = [] ∧ q = []:=by
  have hv':(OpenSpec.ofChange s).vars = []:=hv
  rw [hv'] at hV
  exact trodVars_none hV
 obtain ⟨rfl,rfl⟩:=hg
 have hl:ds.length = f.params.size:=by
  have:=trodAll_length hA
  simpa using this
 have hsz':(DataW.weightsEach Tryz.prog f.params.toList ds).all (· ≤ reachBytes) = true:=by
  have:s.plain.varTypes Tryz.prog = []:=by simp [DataSpec.varTypes,ChangeSpec.plain,hv]
  have h2:=hsz
  rw [show (OpenSpec.ofChange s).bare.plain.varTypes Tryz.checked.prog = [] from this,List.append_nil,List.append_nil] at h2
  exact h2
 rw [List.append_nil] at hW'
 have hA2:DataW.TrodAll enc Tryz.prog W 0 (fun _ => true) true f.params.toList args.toList ds p':=hA
 refine (hwalk W b args ds p' hA hval hsz' hL hsh).mono ?_
 rintro e W' ⟨rfl,hb⟩
 exact ⟨_,rfl,law_post hW' hA2 hr hres hv (hs ds hl) hb⟩
set_option maxRecDepth 100000 in
theorem law_lifted_laid_upto {H:Type} {enc:TypeId × Value → H} {os:Os} {FS:Stop.Interp} (started:os.Started) {k:FuncId} {f:Func} {s:ChangeSpec} {laid:List (String × DataW Unit)} (hin:Tryz.prog.inits.idxOf? k = none) (hk:Tryz.prog.funcs[k]? = some f)
  (hr:∀ t ∈ f.params.toList,Tryz.prog.readableRec t = true ∧ t < Tryz.prog.types.size) (hres:f.resultTypes = #[4]) (hv:s.vars = [])
  (hs:∀ ds:List (DataW H),ds.length = f.params.size → s.fn H (ds ++ []) = { results:=[.lit (.bool true)],args:=ds })
  (hwit:∃ (w:World) (tape:Tape) (i:Input),w.os = os ∧ (w.forCall tape i).Shaped Tryz.checked.prog ∧ i.vars = [] ∧ Input.okWide Tryz.checked.prog (w.forCall tape i) .any w.heap.size k i ∧
   (Rows.OpenSpec.upto s).preRow enc Tryz.checked.prog f [] false laid (w.forCall tape i).memory i.args ∧ ({}:Assume).holds Tryz.checked.prog (lone (Frame.enter Tryz.checked.prog k i.args .normal) [] (w.forCall tape i)))
  (hwalk:∀ (W:World) (b:Nat) (args:Array Value) (ds:List (DataW H)) (p:List MemPlace),DataW.TrodAll enc Tryz.prog W 0 (fun _ => true) true f.params.toList args.toList ds p →
   (∀ (j:Nat) t v,f.params[j]? = some t → args[j]? = some v → Value.okWide Tryz.prog W .any b t v) → (DataW.weightsEach Tryz.prog f.params.toList ds).all (· ≤ reachBytes) = true → Rows.uptoBulkAll ds ≤ 1048576 → laidMetH Tryz.prog laid W → W.ShapedOpen Tryz.prog →
   Calls Tryz.prog k args W fun e w' => e = .returned (.bool true) ∧ Below W.heap.size W w') :
  ReturnsInHanded {} Tryz.checked os k .any ((Rows.OpenSpec.upto s).preRow enc Tryz.checked.prog f [] false laid) (((Rows.OpenSpec.upto s).at FS).post enc Tryz.checked.prog f false true false false):=by
 refine returnsInHanded_of_row (C:=Tryz.checked) (s:=Rows.OpenSpec.upto s) Tryz.own started hin hk hwit ?_
 intro W b args ds gs p hval hW _ hcond hsz hL hsh _
 have hbk:=hcond _ rfl
 have hW':DataW.Whole enc Tryz.prog f.params.toList s.vars false W args.toList ds gs p:=hW
 obtain ⟨p',q,hA,hV,rfl,hfz,hnd⟩:=hW
 have hg:gs = [] ∧ q = []:=by
  have hv':(Rows.OpenSpec.upto s).vars = []:=hv
  rw [hv'] at hV
  exact trodVars_none hV
 obtain ⟨rfl,rfl⟩:=hg
 have hl:ds.length = f.params.size:=by
  have:=trodAll_length hA
  simpa using this
 have hsz':(DataW.weightsEach Tryz.prog f.params.toList ds).all (· ≤ reachBytes) = true:=by
  have:s.plain.varTypes Tryz.prog = []:=by simp [DataSpec.varTypes,ChangeSpec.plain,hv]
  have h2:=hsz
  rw [show (Rows.OpenSpec.upto s).bare.plain.varTypes Tryz.checked.prog = [] from this,List.append_nil,List.append_nil] at h2
  exact h2
 have hbk':Rows.uptoBulkAll ds ≤ 1048576:=by
  have h2:=of_decide_eq_true hbk
  rwa [List.append_nil] at h2
 rw [List.append_nil] at hW'
 have hA2:DataW.TrodAll enc Tryz.prog W 0 (fun _ => true) true f.params.toList args.toList ds p':=hA
 refine (hwalk W b args ds p' hA hval hsz' hbk' hL hsh).mono ?_
 rintro e W' ⟨rfl,hb⟩
 exact ⟨_,rfl,law_post hW' hA2 hr hres hv (hs ds hl) hb⟩
end Go.Proofs.YtldbpmlgbbomcaaGreatDoor
