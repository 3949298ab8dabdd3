/- Texts merged: LawKit Open Decs. -/
import Derived.Test.YtldbpmlgbbomcaaGreatDoorRows
import Derived.ProofKit
import Derived.SizedLaws
import Derived.Deep.CondSized
import Derived.Test.YtldbpmlgbbomcaaGreatDoorTypes
/- What every law's proof shares: the row's frame, once for all: from 'the call returns true and what was there before stays' to the given statement's form. -/
namespace Go.Proofs.YtldbpmlgbbomcaaGreatDoor
open Go.ChangeShapes Go.WideShapes Go.ChangeAt Go.RowKit

theorem Tryz.own:ownKnob Tryz.prog.godebug = none:=by kernel_rfl
theorem Tryz.laidOut:laidOutB Tryz.prog = true:=by kernel_rfl

theorem trodAll_below {H:Type} {enc:TypeId × Value → H} {W W':World} (hb:Below W.heap.size W W') :
  ∀ (ts:List TypeId) (vs:List Value) (ds:List (DataW H)) (ps:List MemPlace),(∀ t ∈ ts,Tryz.prog.readableRec t = true ∧ t < Tryz.prog.types.size) →
   DataW.TrodAll enc Tryz.prog W 0 (fun _ => true) true ts vs ds ps → (∀ x ∈ ps,x.block < W.heap.size) →
   DataW.TrodAll enc Tryz.prog W' 0 (fun b => decide (b < W.heap.size)) true ts vs ds ps
 | [],[],[],ps,_,h,_ => h
 | t :: ts,v :: vs,d :: ds,ps,hr,h,hlt => by
  obtain ⟨p,q,h1,h2,rfl⟩:=h
  exact ⟨p,q,Below.trod Tryz.laidOut (hr t (by simp)).1 (hr t (by simp)).2 h1 hb (fun x hx => hlt x (by simp [hx])),
   trodAll_below hb ts vs ds q (fun t ht => hr t (by simp [ht])) h2 (fun x hx => hlt x (by simp [hx])),rfl⟩
 | [],_ :: _,_,_,_,h,_ => h.elim
 | [],[],_ :: _,_,_,h,_ => h.elim
 | _ :: _,[],_,_,_,h,_ => h.elim
 | _ :: _,_ :: _,[],_,_,h,_ => h.elim

theorem trodAll_length {H:Type} {enc:TypeId × Value → H} {W:World} {sp:Nat → Bool} {b:Nat} {hd:Bool}:∀ {ts:List TypeId} {vs:List Value} {ds:List (DataW H)} {ps:List MemPlace},
  DataW.TrodAll enc Tryz.prog W b sp hd ts vs ds ps → ds.length = ts.length
 | [],[],[],_,_ => rfl
 | t :: ts,v :: vs,d :: ds,_,h => by
  obtain ⟨p,q,_,h2,_⟩:=h
  simp [trodAll_length h2]
 | [],_ :: _,_,_,h => h.elim
 | [],[],_ :: _,_,h => h.elim
 | _ :: _,[],_,_,h => h.elim
 | _ :: _,_ :: _,[],_,h => h.elim

theorem law_post {H:Type} {enc:TypeId × Value → H} {f:Func} {s:ChangeSpec} {W W':World} {args:Array Value} {ds:List (DataW H)} {p:List MemPlace}
  (hW:DataW.Whole enc Tryz.prog f.params.toList s.vars false W args.toList ds [] p) (hA:DataW.TrodAll enc Tryz.prog W 0 (fun _ => true) true f.params.toList args.toList ds p)
  (hr:∀ t ∈ f.params.toList,Tryz.prog.readableRec t = true ∧ t < Tryz.prog.types.size) (hres:f.resultTypes = #[4]) (hv:s.vars = [])
  (hs:s.fn H (ds ++ []) = { results:=[.lit (.bool true)],args:=ds }) (hb:Below W.heap.size W W') :
  s.post enc Tryz.prog f false true false false W args (.bool true) W':=by
 refine ⟨ds,[],p,[],p,[],hW,?_,?_,?_,hb.frame _,fun h => by cases h⟩
 ·rw [hs,hres]
  exact trodAll_mk1 (shut_bool Tryz.underlying4 true)
 ·rw [hs]
  exact trodAll_below hb _ _ _ _ hr hA fun x hx => by simpa using hW.lt x hx
 ·rw [hs,hv]
  exact rfl

set_option maxRecDepth 100000 in
theorem law_lifted {H:Type} {enc:TypeId × Value → H} {os:Os} (started:os.Started) {k:FuncId} {f:Func} {s:ChangeSpec} (hin:Tryz.prog.inits.idxOf? k = none) (hk:Tryz.prog.funcs[k]? = some f)
  (hr:∀ t ∈ f.params.toList,Tryz.prog.readableRec t = true ∧ t < Tryz.prog.types.size) (hres:f.resultTypes = #[4]) (hv:s.vars = [])
  (hs:∀ ds:List (DataW H),ds.length = f.params.size → s.fn H (ds ++ []) = { results:=[.lit (.bool true)],args:=ds })
  (hwit:∃ (w:World) (tape:Tape) (i:Input),w.os = os ∧ (w.forCall tape i).Shaped Tryz.checked.prog ∧ i.vars = [] ∧ Input.okWide Tryz.checked.prog (w.forCall tape i) .any w.heap.size k i ∧
   s.pre6 enc Tryz.checked.prog f [] false (w.forCall tape i).memory i.args ∧ ({}:Assume).holds Tryz.checked.prog (lone (Frame.enter Tryz.checked.prog k i.args .normal) [] (w.forCall tape i)))
  (hwalk:∀ (W:World) (b:Nat) (args:Array Value) (ds:List (DataW H)) (p:List MemPlace),DataW.TrodAll enc Tryz.prog W 0 (fun _ => true) true f.params.toList args.toList ds p →
   (∀ (j:Nat) t v,f.params[j]? = some t → args[j]? = some v → Value.okWide Tryz.prog W .any b t v) → (DataW.weightsEach Tryz.prog f.params.toList ds).all (· ≤ reachBytes) = true →
   Calls Tryz.prog k args W fun e w' => e = .returned (.bool true) ∧ Below W.heap.size W w') :
  ReturnsInHanded {} Tryz.checked os k .any (s.pre6 enc Tryz.checked.prog f [] false) (s.post enc Tryz.checked.prog f false true false false):=by
 refine returnsInHanded_of_change_sized (C:=Tryz.checked) Tryz.own started hin hk hwit ?_
 intro W b args ds gs p hval hW _ hsz _
 have hW':=hW
 obtain ⟨p',q,hA,hV,rfl,hfz,hnd⟩:=hW
 have hg:gs = [] ∧ q = []:=by
  rw [hv] at hV
  exact trodVars_none hV
 obtain ⟨rfl,rfl⟩:=hg
 have hl:ds.length = f.params.size:=by
  have:=trodAll_length hA
  simpa using this
 have hsz':(DataW.weightsEach Tryz.prog f.params.toList ds).all (· ≤ reachBytes) = true:=by
  have:s.plain.varTypes Tryz.prog = []:=by simp [DataSpec.varTypes,ChangeSpec.plain,hv]
  have h2:=hsz
  rw [show s.plain.varTypes Tryz.checked.prog = [] from this,List.append_nil,List.append_nil] at h2
  exact h2
 rw [List.append_nil] at hW'
 have hW2:DataW.Whole enc Tryz.prog f.params.toList s.vars false W args.toList ds [] p':=hW'
 have hA2:DataW.TrodAll enc Tryz.prog W 0 (fun _ => true) true f.params.toList args.toList ds p':=hA
 refine (hwalk W b args ds p' hA hval hsz').mono ?_
 rintro e W' ⟨rfl,hb⟩
 exact ⟨_,rfl,law_post hW2 hA2 hr hres hv (hs ds hl) hb⟩

set_option maxRecDepth 100000 in
theorem law_lifted_upto {H:Type} {enc:TypeId × Value → H} {os:Os} {FS:Stop.Interp} (started:os.Started) {k:FuncId} {f:Func} {s:ChangeSpec} (hin:Tryz.prog.inits.idxOf? k = none) (hk:Tryz.prog.funcs[k]? = some f)
  (hr:∀ t ∈ f.params.toList,Tryz.prog.readableRec t = true ∧ t < Tryz.prog.types.size) (hres:f.resultTypes = #[4]) (hv:s.vars = [])
  (hs:∀ ds:List (DataW H),ds.length = f.params.size → s.fn H (ds ++ []) = { results:=[.lit (.bool true)],args:=ds })
  (hwit:∃ (w:World) (tape:Tape) (i:Input),w.os = os ∧ (w.forCall tape i).Shaped Tryz.checked.prog ∧ i.vars = [] ∧ Input.okWide Tryz.checked.prog (w.forCall tape i) .any w.heap.size k i ∧
   (Rows.OpenSpec.upto s).pre6 enc Tryz.checked.prog f [] false (w.forCall tape i).memory i.args ∧ ({}:Assume).holds Tryz.checked.prog (lone (Frame.enter Tryz.checked.prog k i.args .normal) [] (w.forCall tape i)))
  (hwalk:∀ (W:World) (b:Nat) (args:Array Value) (ds:List (DataW H)) (p:List MemPlace),DataW.TrodAll enc Tryz.prog W 0 (fun _ => true) true f.params.toList args.toList ds p →
   (∀ (j:Nat) t v,f.params[j]? = some t → args[j]? = some v → Value.okWide Tryz.prog W .any b t v) → (DataW.weightsEach Tryz.prog f.params.toList ds).all (· ≤ reachBytes) = true → Rows.uptoBulkAll ds ≤ 1048576 →
   Calls Tryz.prog k args W fun e w' => e = .returned (.bool true) ∧ Below W.heap.size W w') :
  ReturnsInHanded {} Tryz.checked os k .any ((Rows.OpenSpec.upto s).pre6 enc Tryz.checked.prog f [] false) (((Rows.OpenSpec.upto s).at FS).post enc Tryz.checked.prog f false true false false):=by
 refine returnsInHanded_of_cond_sized (C:=Tryz.checked) (s:=Rows.OpenSpec.upto s) (k:=Rows.uptoSmall) rfl Tryz.own started hin hk hwit ?_
 intro W b args ds gs p hval hW _ hbk hsz _
 have hW':DataW.Whole enc Tryz.prog f.params.toList s.vars false W args.toList ds gs p:=hW
 obtain ⟨p',q,hA,hV,rfl,hfz,hnd⟩:=hW
 have hg:gs = [] ∧ q = []:=by
  have hv':(Rows.OpenSpec.upto s).vars = []:=hv
  rw [hv'] at hV
  exact trodVars_none hV
 obtain ⟨rfl,rfl⟩:=hg
 have hl:ds.length = f.params.size:=by
  have:=trodAll_length hA
  simpa using this
 have hsz':(DataW.weightsEach Tryz.prog f.params.toList ds).all (· ≤ reachBytes) = true:=by
  have:s.plain.varTypes Tryz.prog = []:=by simp [DataSpec.varTypes,ChangeSpec.plain,hv]
  have h2:=hsz
  rw [show (Rows.OpenSpec.upto s).bare.plain.varTypes Tryz.checked.prog = [] from this,List.append_nil,List.append_nil] at h2
  exact h2
 have hbk':Rows.uptoBulkAll ds ≤ 1048576:=by
  have h2:=of_decide_eq_true hbk
  rwa [List.append_nil] at h2
 rw [List.append_nil] at hW'
 have hA2:DataW.TrodAll enc Tryz.prog W 0 (fun _ => true) true f.params.toList args.toList ds p':=hA
 refine (hwalk W b args ds p' hA hval hsz' hbk').mono ?_
 rintro e W' ⟨rfl,hb⟩
 exact ⟨_,rfl,law_post hW' hA2 hr hres hv (hs ds hl) hb⟩
end Go.Proofs.YtldbpmlgbbomcaaGreatDoor
/- How the arguments of a call, read as data, are things of the plain types. -/
namespace Go.Proofs.YtldbpmlgbbomcaaGreatDoor
open Go.ChangeShapes Go.WideShapes Go.ChangeAt Go.RowKit

def Dec {α:Type} (t:TypeId) (R:World → List Value → α → Prop) (μ:α → Nat):Prop :=
 ∀ {H:Type} {enc:TypeId × Value → H} {w:World} {fuel:Nat} {cs:List Value} {x:DataW H × List MemPlace},
  DataW.trod enc Tryz.prog w 0 (fun _ => true) true fuel t cs = some x → (x.1.weights Tryz.prog t).all (· ≤ reachBytes) = true → ∃ a,R w cs a ∧ μ a ≤ Rows.uptoBulk x.1

theorem Dec.mono {α:Type} {t:TypeId} {R R':World → List Value → α → Prop} {μ μ':α → Nat} (h:Dec t R μ) (hR:∀ w cs a,R w cs a → R' w cs a) (hm:∀ a,μ' a ≤ μ a):Dec t R' μ' :=
 fun h1 h2 => let ⟨a,r,m⟩:=h h1 h2;⟨a,hR _ _ _ r,Nat.le_trans (hm a) m⟩

theorem dec_int {t:TypeId} (ht:Tryz.prog.underlying t = some (.int .i64)):Dec t (fun _ => RInt) (fun _ => 1):=by
 intro H enc w fuel cs x h _
 obtain ⟨n,rfl,rfl,hw⟩:=DataW.trod_int ht h
 exact ⟨n,⟨rfl,hw⟩,by simp [Rows.uptoBulk]⟩
theorem dec_bool {t:TypeId} (ht:Tryz.prog.underlying t = some .bool):Dec t (fun _ cs (b:Bool) => cs = [.bool b]) (fun _ => 1):=by
 intro H enc w fuel cs x h _
 obtain ⟨n,rfl,rfl⟩:=DataW.trod_bool ht h
 exact ⟨n,rfl,by simp [Rows.uptoBulk]⟩
theorem dec_str {t:TypeId} (ht:Tryz.prog.underlying t = some .string):Dec t (fun _ => RStr) (fun s => s.size + 1):=by
 intro H enc w fuel cs x h hw
 obtain ⟨s,rfl,rfl,hs⟩:=DataW.trod_string ht h
 refine ⟨s,⟨rfl,?_⟩,?_⟩
 ·have h1:=hw
  simp only [DataW.weights,List.all_cons,List.all_nil,Bool.and_true] at h1
  have h2:=of_decide_eq_true h1
  unfold inS
  simpa [reachBytes] using h2
 ·simp [Rows.uptoBulk]

theorem weightsEach_at {H:Type}:∀ (ts:List TypeId) (ds:List (DataW H)),(DataW.weightsEach Tryz.prog ts ds).all (· ≤ reachBytes) = true →
  ∀ (i:Nat) (t:TypeId) (d:DataW H),ts[i]? = some t → ds[i]? = some d → (d.weights Tryz.prog t).all (· ≤ reachBytes) = true
 | t :: ts,d :: ds,h,0,t',d',ht,hd => by
  simp only [List.getElem?_cons_zero,Option.some.injEq] at ht hd
  subst ht;subst hd
  simp only [DataW.weightsEach,List.all_append,Bool.and_eq_true] at h
  exact h.1
 | t :: ts,d :: ds,h,i + 1,t',d',ht,hd => by
  simp only [DataW.weightsEach,List.all_append,Bool.and_eq_true] at h
  exact weightsEach_at ts ds h.2 i t' d' (by simpa using ht) (by simpa using hd)
 | [],_,_,_,_,_,ht,_ => by simp at ht
 | _ :: _,[],_,_,_,_,_,hd => by simp at hd
theorem bulkAll_sum {H:Type}:∀ ds:List (DataW H),Rows.uptoBulkAll ds = (ds.map Rows.uptoBulk).sum
 | [] => by simp [Rows.uptoBulkAll]
 | d :: ds => by simp [Rows.uptoBulkAll,bulkAll_sum ds]

theorem struct_parts {H:Type} {enc:TypeId × Value → H} {w:World} {sp:Nat → Bool} {hd:Bool} {fuel:Nat} {t:TypeId} {cs:List Value} {x:DataW H × List MemPlace} {fs:Array Field}
  (ht:Tryz.prog.underlying t = some (.struct fs)) (h:DataW.trod enc Tryz.prog w 0 sp hd fuel t cs = some x) (hw:(x.1.weights Tryz.prog t).all (· ≤ reachBytes) = true) :
  ∃ (xs:List (DataW H × List MemPlace)) (n:Nat),fuel = n + 1 ∧ xs.length = fs.size ∧ cs.length = Tryz.prog.cellsOf t ∧ Rows.uptoBulk x.1 = (xs.map fun y => Rows.uptoBulk y.1).sum + 1 ∧
   ∀ (i:Nat) (f:Field),fs[i]? = some f → ∃ y,xs[i]? = some y ∧ DataW.trod enc Tryz.prog w 0 sp hd n f.type ((cs.drop f.offset).take (Tryz.prog.cellsOf f.type)) = some y ∧ (y.1.weights Tryz.prog f.type).all (· ≤ reachBytes) = true:=by
 obtain ⟨xs,n,rfl,rfl,hl,hlen,hf⟩:=DataW.trod_struct ht h
 refine ⟨xs,n,rfl,hlen,hl,by simp [Rows.uptoBulk,bulkAll_sum,Function.comp_def],fun i f hi => ?_⟩
 have hi':i < fs.size:=(Array.getElem?_eq_some_iff.1 hi).1
 have hx:xs[i]? = some (xs[i]'(by omega)):=List.getElem?_eq_getElem (by omega)
 refine ⟨_,hx,(hf i f hi).trans hx,?_⟩
 simp only [DataW.weights,ht] at hw
 exact weightsEach_at _ _ hw i _ _ (by simp [List.getElem?_map,hi]) (by simp [List.getElem?_map,hx])

theorem cells_int:Tryz.prog.cellsOf 3 = 1:=by kernel_rfl
theorem cells_string:Tryz.prog.cellsOf 9 = 1:=by kernel_rfl
theorem cells_Val:Tryz.prog.cellsOf 23 = 3:=by kernel_rfl
set_option maxRecDepth 100000 in
theorem dec_Val:Dec 23 (fun _ => RVal) (fun v => v.s.size + 1):=by
 intro H enc w fuel cs x h hw
 obtain ⟨xs,n,hfu,hlen,hl,hb,hf⟩:=struct_parts Tryz.underlying23 h hw
 rw [cells_Val] at hl
 match cs,hl with
 | [c0,c1,c2],_ =>
  match xs,hlen with
  | [y0,y1,y2],_ =>
   obtain ⟨z0,e0,g0,q0⟩:=hf 0 _ rfl
   cases e0
   change DataW.trod enc Tryz.prog w 0 (fun _ => true) true n 3 (List.take (Tryz.prog.cellsOf 3) [c0,c1,c2]) = some y0 at g0
   rw [cells_int] at g0
   change DataW.trod enc Tryz.prog w 0 (fun _ => true) true n 3 [c0] = some y0 at g0
   obtain ⟨a0,⟨r0,i0⟩,m0⟩:=dec_int Tryz.underlying3 g0 q0
   simp only [List.cons.injEq,and_true] at r0
   subst r0
   obtain ⟨z1,e1,g1,q1⟩:=hf 1 _ rfl
   cases e1
   change DataW.trod enc Tryz.prog w 0 (fun _ => true) true n 3 (List.take (Tryz.prog.cellsOf 3) [c1,c2]) = some y1 at g1
   rw [cells_int] at g1
   change DataW.trod enc Tryz.prog w 0 (fun _ => true) true n 3 [c1] = some y1 at g1
   obtain ⟨a1,⟨r1,i1⟩,m1⟩:=dec_int Tryz.underlying3 g1 q1
   simp only [List.cons.injEq,and_true] at r1
   subst r1
   obtain ⟨z2,e2,g2,q2⟩:=hf 2 _ rfl
   cases e2
   change DataW.trod enc Tryz.prog w 0 (fun _ => true) true n 9 (List.take (Tryz.prog.cellsOf 9) [c2]) = some y2 at g2
   rw [cells_string] at g2
   change DataW.trod enc Tryz.prog w 0 (fun _ => true) true n 9 [c2] = some y2 at g2
   obtain ⟨a2,⟨r2,i2⟩,m2⟩:=dec_str Tryz.underlying9 g2 q2
   simp only [List.cons.injEq,and_true] at r2
   subst r2
   simp only [List.map_cons,List.map_nil,List.sum_cons,List.sum_nil] at hb
   exact ⟨⟨a0,a1,a2⟩,⟨rfl,i0,i1,i2⟩,by simp only [] at *;omega⟩
-- STRUCTS END

def c_of (c b:Nat):Nat:=c * b
theorem pick {α β:Type} (f:β → Nat) (μ:α → Nat):∀ (elems:List β) (Q:Nat → α → Prop),(∀ i y,elems[i]? = some y → ∃ a,Q i a ∧ μ a ≤ f y) →
  ∃ l:List α,l.length = elems.length ∧ (∀ i a,l[i]? = some a → Q i a) ∧ (l.map μ).sum ≤ (elems.map f).sum
 | [],_,_ => ⟨[],rfl,fun i a h => by simp at h,by simp⟩
 | y :: ys,Q,h => by
  obtain ⟨a,qa,ma⟩:=h 0 y rfl
  obtain ⟨l,h1,h2,h3⟩:=pick f μ ys (fun i => Q (i + 1)) (fun i y hy => h (i + 1) y (by simpa using hy))
  refine ⟨a :: l,by simp [h1],fun i b hb => ?_,by simp only [List.map_cons,List.sum_cons];omega⟩
  cases i with
  | zero => simp at hb;subst hb;exact qa
  | succ i => exact h2 i b (by simpa using hb)

theorem weightsAll_at {H:Type} {e:TypeId}:∀ (ds:List (DataW H)),(DataW.weightsAll Tryz.prog e ds).all (· ≤ reachBytes) = true → ∀ (i:Nat) (d:DataW H),ds[i]? = some d → (d.weights Tryz.prog e).all (· ≤ reachBytes) = true
 | d :: ds,h,0,d',hd => by
  simp only [List.getElem?_cons_zero,Option.some.injEq] at hd
  subst hd
  simp only [DataW.weightsAll,List.all_append,Bool.and_eq_true] at h
  exact h.1
 | d :: ds,h,i + 1,d',hd => by
  simp only [DataW.weightsAll,List.all_append,Bool.and_eq_true] at h
  exact weightsAll_at ds h.2 i d' (by simpa using hd)
 | [],_,_,_,hd => by simp at hd

theorem block_lt {w:World} {b o:Nat} {v:Value} (h:w.cell? ⟨b,o,none⟩ = some v):b < w.heap.size:=by
 have:=block_lt_of_cell h
 exact this
theorem spot_none {w:World} {a:Addr} {v:Value} (h:w.cell? a = some v):a = ⟨a.block,a.off,none⟩:=by
 obtain ⟨b,o,s⟩:=a
 cases s with
 | none => rfl
 | some s =>
  unfold World.cell? at h
  split at h <;> simp at h

set_option maxRecDepth 100000 in
theorem slice_parts {α:Type} {H:Type} {enc:TypeId × Value → H} {w:World} {sp:Nat → Bool} {hd:Bool} {fuel:Nat} {t e:TypeId} {cs:List Value} {x:DataW H × List MemPlace} {size bytes:Nat} {R:List Value → α → Prop} {μ:α → Nat}
  (ht:Tryz.prog.underlying t = some (.slice e)) (hc:Tryz.prog.cellsOf e = size) (hb:Tryz.prog.bytesOf e = bytes) (hsz:0 < size) (hsp:∀ b,sp b = true)
  (h:DataW.trod enc Tryz.prog w 0 sp hd fuel t cs = some x) (hw:(x.1.weights Tryz.prog t).all (· ≤ reachBytes) = true)
  (hE:∀ n cs x,n < fuel → DataW.trod enc Tryz.prog w 0 sp hd n e cs = some x → (x.1.weights Tryz.prog e).all (· ≤ reachBytes) = true → ∃ a,R cs a ∧ μ a ≤ Rows.uptoBulk x.1) :
  ∃ A n c l,cs = [.slice A n c] ∧ inB bytes n ∧ n ≤ c ∧ c * bytes ≤ reachBytes ∧ Sl w (fun b => b < w.heap.size) size R A n l ∧ (l.map μ).sum + 1 ≤ Rows.uptoBulk x.1:=by
 rcases DataW.trod_slice ht h with ⟨rfl,rfl⟩ | ⟨a,len,cap,elems,rest,n,rfl,rfl,rfl,_,hlc,hcap,hel,hat,hrest,_⟩
 ·exact ⟨none,0,0,[],rfl,by simp [inB],Nat.le_refl _,by simp,Sl.nil,by simp [Rows.uptoBulk]⟩
 ·have hrl:=(hrest (hsp _)).1
  simp only [DataW.weights,ht,List.all_cons,List.all_append,Bool.and_eq_true] at hw
  obtain ⟨hw1,hw2,_⟩:=hw
  have hw1':=of_decide_eq_true hw1
  rw [hb,List.length_map,List.length_map,hrl,hel] at hw1'
  have hcb:c_of cap bytes ≤ reachBytes:=by unfold c_of;rwa [show len + (cap - len) = cap by omega] at hw1'
  have key:∀ i y,elems[i]? = some y → ∃ a',(∃ cs,R cs a' ∧ cs.length = size ∧ ∀ j,j < size → w.cell? ((a.add (i * size)).add j) = cs[j]?) ∧ μ a' ≤ Rows.uptoBulk y.1:=by
   intro i y hy
   have hi:i < len:=by rw [← hel];exact (List.getElem?_eq_some_iff.1 hy).1
   have h1:=(hat i hi).trans hy
   rw [hc] at h1
   obtain ⟨cs',h2,h3⟩:=Option.bind_eq_some_iff.1 h1
   obtain ⟨_,hcl,hcell⟩:=World.cells?_some h2
   obtain ⟨a',r,m⟩:=hE n cs' y (by omega) h3 (weightsAll_at _ hw2 i _ (by simp [List.getElem?_map,hy]))
   exact ⟨a',⟨cs',r,hcl,hcell⟩,m⟩
  obtain ⟨l,l1,l2,l3⟩:=pick (fun y:DataW H × List MemPlace => Rows.uptoBulk y.1) μ elems _ key
  refine ⟨some a,len,cap,l,rfl,?_,hlc,hcb,⟨by rw [l1,hel],fun hn => ?_⟩,?_⟩
  ·unfold inB
   unfold c_of reachBytes at hcb
   exact Nat.le_trans (Nat.mul_le_mul_right _ hlc) hcb
  ·have h0:l[0]? = some (l[0]'(by omega)):=List.getElem?_eq_getElem (by omega)
   obtain ⟨cs0,_,hc0,hcell0⟩:=l2 0 _ h0
   have hv:w.cell? a = cs0[0]?:=by simpa [Addr.add] using hcell0 0 hsz
   rw [List.getElem?_eq_getElem (by omega)] at hv
   have ha:=spot_none hv
   refine ⟨a.block,a.off,by rw [← ha],block_lt_of_cell hv,fun i v hi => ?_⟩
   obtain ⟨cs',r1,r2,r3⟩:=l2 i v hi
   refine ⟨cs',r1,r2,fun j hj => ?_⟩
   rw [← r3 j hj,add_of_add]
   congr 1
   rw [ha]
   unfold Addr.add
   split
   ·rename_i hz;simp [hz]
   ·rfl
  ·simp only [Rows.uptoBulk,bulkAll_sum,List.map_map,Function.comp_def]
   omega

def RSl {α:Type} (size bytes:Nat) (R:World → (Nat → Prop) → List Value → α → Prop) (w:World) (S:Nat → Prop) (cs:List Value) (l:List α):Prop :=
 ∃ A n c,cs = [.slice A n c] ∧ inB bytes n ∧ n ≤ c ∧ Sl w S size (R w S) A n l

theorem dec_sl {α:Type} {t e:TypeId} {size bytes:Nat} {R:World → (Nat → Prop) → List Value → α → Prop} {μ:α → Nat}
  (ht:Tryz.prog.underlying t = some (.slice e)) (hc:Tryz.prog.cellsOf e = size) (hb:Tryz.prog.bytesOf e = bytes) (hsz:0 < size) (hE:Dec e (fun w => R w (old w)) μ) :
  Dec t (fun w => RSl size bytes R w (old w)) (fun l => (l.map μ).sum + 1):=by
 intro H enc w fuel cs x h hw
 obtain ⟨A,n,c,l,h1,h2,h3,_,h4,h5⟩:=slice_parts ht hc hb hsz (fun _ => rfl) h hw (fun n cs x _ h hw => hE h hw)
 exact ⟨l,⟨A,n,c,h1,h2,h3,h4⟩,h5⟩

def Exp.bulk:Exp → Nat
 | .mk _ v name args => v.s.size + name.size + bulks args + 1
where bulks:List Exp → Nat
 | [] => 0
 | a :: l => a.bulk + bulks l
theorem bulks_sum:∀ l:List Exp,Exp.bulk.bulks l = (l.map Exp.bulk).sum
 | [] => by simp [Exp.bulk.bulks]
 | a :: l => by simp [Exp.bulk.bulks,bulks_sum l]

theorem cells_Exp:Tryz.prog.cellsOf 26 = 6:=by kernel_rfl
theorem cells_Exps:Tryz.prog.cellsOf 24 = 1:=by kernel_rfl
theorem bytes_Exp:Tryz.prog.bytesOf 26 = 80:=by kernel_rfl
set_option maxRecDepth 100000 in
theorem dec_Exp_at {H:Type} {enc:TypeId × Value → H} {w:World}:∀ (fuel:Nat) (cs:List Value) (x:DataW H × List MemPlace),
  DataW.trod enc Tryz.prog w 0 (fun _ => true) true fuel 26 cs = some x → (x.1.weights Tryz.prog 26).all (· ≤ reachBytes) = true → ∃ a,XRep w (old w) cs a ∧ a.bulk ≤ Rows.uptoBulk x.1:=by
 intro fuel
 induction fuel using Nat.strongRecOn with
 | ind fuel ih =>
  intro cs x h hw
  obtain ⟨xs,n,hfu,hlen,hl,hb,hf⟩:=struct_parts Tryz.underlying26 h hw
  rw [cells_Exp] at hl
  match cs,hl with
  | [c0,c1,c2,c3,c4,c5],_ =>
   match xs,hlen with
   | [y0,y1,y2,y3],_ =>
    obtain ⟨z0,e0,g0,q0⟩:=hf 0 _ rfl
    obtain ⟨z1,e1,g1,q1⟩:=hf 1 _ rfl
    obtain ⟨z2,e2,g2,q2⟩:=hf 2 _ rfl
    obtain ⟨z3,e3,g3,q3⟩:=hf 3 _ rfl
    cases e0;cases e1;cases e2;cases e3
    change DataW.trod enc Tryz.prog w 0 (fun _ => true) true n 3 (List.take (Tryz.prog.cellsOf 3) [c0,c1,c2,c3,c4,c5]) = some y0 at g0
    rw [cells_int] at g0
    change DataW.trod enc Tryz.prog w 0 (fun _ => true) true n 3 [c0] = some y0 at g0
    change DataW.trod enc Tryz.prog w 0 (fun _ => true) true n 23 (List.take (Tryz.prog.cellsOf 23) [c1,c2,c3,c4,c5]) = some y1 at g1
    rw [cells_Val] at g1
    change DataW.trod enc Tryz.prog w 0 (fun _ => true) true n 23 [c1,c2,c3] = some y1 at g1
    change DataW.trod enc Tryz.prog w 0 (fun _ => true) true n 9 (List.take (Tryz.prog.cellsOf 9) [c4,c5]) = some y2 at g2
    rw [cells_string] at g2
    change DataW.trod enc Tryz.prog w 0 (fun _ => true) true n 9 [c4] = some y2 at g2
    change DataW.trod enc Tryz.prog w 0 (fun _ => true) true n 24 (List.take (Tryz.prog.cellsOf 24) [c5]) = some y3 at g3
    rw [cells_Exps] at g3
    change DataW.trod enc Tryz.prog w 0 (fun _ => true) true n 24 [c5] = some y3 at g3
    obtain ⟨a0,⟨r0,i0⟩,m0⟩:=dec_int Tryz.underlying3 g0 q0
    obtain ⟨a1,⟨r1,i1⟩,m1⟩:=dec_Val g1 q1
    obtain ⟨a2,⟨r2,i2⟩,m2⟩:=dec_str Tryz.underlying9 g2 q2
    obtain ⟨A,k,c,l,r3,i3,k3,_,hs,m3⟩:=slice_parts (R:=XRep w (old w)) (μ:=Exp.bulk) Tryz.underlying24 cells_Exp bytes_Exp (by decide) (fun _ => rfl) g3 q3
     (fun n' cs' x' hn h' hw' => ih n' (by omega) cs' x' h' hw')
    simp only [List.cons.injEq,and_true] at r0 r1 r2 r3
    obtain ⟨rfl,rfl,rfl⟩:=r1
    subst r0;subst r2;subst r3
    simp only [List.map_cons,List.map_nil,List.sum_cons,List.sum_nil] at hb
    refine ⟨.mk a0 a1 a2 l,XRep.shut i0 i1 i2 i3 k3 hs,?_⟩
    simp only [Exp.bulk,bulks_sum]
    have m1':a1.s.size + 1 ≤ _:=m1
    have m2':a2.size + 1 ≤ _:=m2
    omega
theorem dec_Exp:Dec 26 (fun w => XRep w (old w)) Exp.bulk:=fun h hw => dec_Exp_at _ _ _ h hw

theorem cells_Fld:Tryz.prog.cellsOf 65 = 9:=by kernel_rfl
theorem bytes_Fld:Tryz.prog.bytesOf 65 = 112:=by kernel_rfl
def Fld.bulk (f:Fld):Nat:=f.name.size + f.source.bulk + 1
set_option maxRecDepth 100000 in
theorem dec_Fld:Dec 65 (fun w => RFld w (old w)) Fld.bulk:=by
 intro H enc w fuel cs x h hw
 obtain ⟨xs,n,hfu,hlen,hl,hb,hf⟩:=struct_parts Tryz.underlying65 h hw
 rw [cells_Fld] at hl
 match cs,hl with
 | [c0,c1,c2,c3,c4,c5,c6,c7,c8],_ =>
  match xs,hlen with
  | [y0,y1,y2,y3],_ =>
   obtain ⟨z0,e0,g0,q0⟩:=hf 0 _ rfl
   obtain ⟨z1,e1,g1,q1⟩:=hf 1 _ rfl
   obtain ⟨z2,e2,g2,q2⟩:=hf 2 _ rfl
   obtain ⟨z3,e3,g3,q3⟩:=hf 3 _ rfl
   cases e0;cases e1;cases e2;cases e3
   change DataW.trod enc Tryz.prog w 0 (fun _ => true) true n 9 (List.take (Tryz.prog.cellsOf 9) [c0,c1,c2,c3,c4,c5,c6,c7,c8]) = some y0 at g0
   rw [cells_string] at g0
   change DataW.trod enc Tryz.prog w 0 (fun _ => true) true n 9 [c0] = some y0 at g0
   change DataW.trod enc Tryz.prog w 0 (fun _ => true) true n 3 (List.take (Tryz.prog.cellsOf 3) [c1,c2,c3,c4,c5,c6,c7,c8]) = some y1 at g1
   rw [cells_int] at g1
   change DataW.trod enc Tryz.prog w 0 (fun _ => true) true n 3 [c1] = some y1 at g1
   change DataW.trod enc Tryz.prog w 0 (fun _ => true) true n 3 (List.take (Tryz.prog.cellsOf 3) [c2,c3,c4,c5,c6,c7,c8]) = some y2 at g2
   rw [cells_int] at g2
   change DataW.trod enc Tryz.prog w 0 (fun _ => true) true n 3 [c2] = some y2 at g2
   change DataW.trod enc Tryz.prog w 0 (fun _ => true) true n 26 (List.take (Tryz.prog.cellsOf 26) [c3,c4,c5,c6,c7,c8]) = some y3 at g3
   rw [cells_Exp] at g3
   change DataW.trod enc Tryz.prog w 0 (fun _ => true) true n 26 [c3,c4,c5,c6,c7,c8] = some y3 at g3
   obtain ⟨a0,⟨r0,i0⟩,m0⟩:=dec_str Tryz.underlying9 g0 q0
   obtain ⟨a1,⟨r1,i1⟩,m1⟩:=dec_int Tryz.underlying3 g1 q1
   obtain ⟨a2,⟨r2,i2⟩,m2⟩:=dec_int Tryz.underlying3 g2 q2
   obtain ⟨a3,r3,m3⟩:=dec_Exp g3 q3
   simp only [List.cons.injEq,and_true] at r0 r1 r2
   subst r0;subst r1;subst r2
   simp only [List.map_cons,List.map_nil,List.sum_cons,List.sum_nil] at hb
   have m0':a0.size + 1 ≤ _:=m0
   exact ⟨⟨a0,a1,a2,a3⟩,⟨i0,i1,i2,_,rfl,r3⟩,by simp only [Fld.bulk];omega⟩
theorem dec_Flds:Dec 32 (fun w => RSl 9 112 RFld w (old w)) (fun l => (l.map Fld.bulk).sum + 1) :=
 dec_sl Tryz.underlying32 cells_Fld bytes_Fld (by decide) dec_Fld
theorem bytes_string:Tryz.prog.bytesOf 9 = 16:=by kernel_rfl
theorem dec_Strs:Dec 63 (fun w => RSl 1 16 (fun _ _ => RStr) w (old w)) (fun l => (l.map fun s => s.size + 1).sum + 1) :=
 dec_sl (R:=fun _ _ => RStr) Tryz.underlying63 cells_string bytes_string (by decide) (dec_str Tryz.underlying9)
theorem cells_Strs:Tryz.prog.cellsOf 63 = 1:=by kernel_rfl
theorem cells_Pag:Tryz.prog.cellsOf 68 = 8:=by kernel_rfl
theorem bytes_Pag:Tryz.prog.bytesOf 68 = 120:=by kernel_rfl
def Pag.bulk (p:Pag):Nat:=p.name.size + (p.fields.map fun s => s.size + 1).sum + p.skip.bulk + 1
set_option maxRecDepth 100000 in
theorem dec_Pag:Dec 68 (fun w => RPag w (old w)) Pag.bulk:=by
 intro H enc w fuel cs x h hw
 obtain ⟨xs,n,hfu,hlen,hl,hb,hf⟩:=struct_parts Tryz.underlying68 h hw
 rw [cells_Pag] at hl
 match cs,hl with
 | [c0,c1,c2,c3,c4,c5,c6,c7],_ =>
  match xs,hlen with
  | [y0,y1,y2],_ =>
   obtain ⟨z0,e0,g0,q0⟩:=hf 0 _ rfl
   obtain ⟨z1,e1,g1,q1⟩:=hf 1 _ rfl
   obtain ⟨z2,e2,g2,q2⟩:=hf 2 _ rfl
   cases e0;cases e1;cases e2
   change DataW.trod enc Tryz.prog w 0 (fun _ => true) true n 9 (List.take (Tryz.prog.cellsOf 9) [c0,c1,c2,c3,c4,c5,c6,c7]) = some y0 at g0
   rw [cells_string] at g0
   change DataW.trod enc Tryz.prog w 0 (fun _ => true) true n 9 [c0] = some y0 at g0
   change DataW.trod enc Tryz.prog w 0 (fun _ => true) true n 63 (List.take (Tryz.prog.cellsOf 63) [c1,c2,c3,c4,c5,c6,c7]) = some y1 at g1
   rw [cells_Strs] at g1
   change DataW.trod enc Tryz.prog w 0 (fun _ => true) true n 63 [c1] = some y1 at g1
   change DataW.trod enc Tryz.prog w 0 (fun _ => true) true n 26 (List.take (Tryz.prog.cellsOf 26) [c2,c3,c4,c5,c6,c7]) = some y2 at g2
   rw [cells_Exp] at g2
   change DataW.trod enc Tryz.prog w 0 (fun _ => true) true n 26 [c2,c3,c4,c5,c6,c7] = some y2 at g2
   obtain ⟨a0,⟨r0,i0⟩,m0⟩:=dec_str Tryz.underlying9 g0 q0
   obtain ⟨a1,⟨A,k,c,r1,hl1,hc1,hs1⟩,m1⟩:=dec_Strs g1 q1
   obtain ⟨a2,r2,m2⟩:=dec_Exp g2 q2
   simp only [List.cons.injEq,and_true] at r0 r1
   subst r0;subst r1
   simp only [List.map_cons,List.map_nil,List.sum_cons,List.sum_nil] at hb
   have m0':a0.size + 1 ≤ _:=m0
   have m1':(a1.map fun s => s.size + 1).sum + 1 ≤ _:=m1
   exact ⟨⟨a0,a1,a2⟩,⟨i0,A,k,c,_,rfl,hl1,hc1,hs1,r2⟩,by simp only [Pag.bulk];omega⟩
theorem dec_Pags:Dec 33 (fun w => RSl 8 120 RPag w (old w)) (fun l => (l.map Pag.bulk).sum + 1) :=
 dec_sl Tryz.underlying33 cells_Pag bytes_Pag (by decide) dec_Pag

section
variable {H:Type} {enc:TypeId × Value → H} {W:World} {b:Nat} {t:TypeId} {v:Value} {d:DataW H} {p:List MemPlace}
set_option maxRecDepth 100000 in
theorem arg_struct {α:Type} {R:World → List Value → α → Prop} {μ:α → Nat} (D:Dec t R μ) {fs:Array Field} (hu:Tryz.prog.underlying t = some (.struct fs)) (hv:Value.okWide Tryz.prog W .any b t v)
  (h:DataW.Trod enc Tryz.prog W 0 (fun _ => true) true t v d p) (hw:(d.weights Tryz.prog t).all (· ≤ reachBytes) = true):∃ (cs:List Value) (a:α),v = .agg cs.toArray ∧ R W cs a ∧ μ a ≤ Rows.uptoBulk d:=by
 obtain ⟨cs,rfl,_⟩:=okWide_struct hu hv
 obtain ⟨fuel,hf⟩:=h
 obtain ⟨a,r,m⟩:=D hf hw
 exact ⟨cs.toList,a,by simp,r,m⟩
set_option maxRecDepth 100000 in
theorem arg_sl {α:Type} {size bytes:Nat} {R:World → (Nat → Prop) → List Value → α → Prop} {μ:List α → Nat} (D:Dec t (fun w => RSl size bytes R w (old w)) μ) {e:TypeId} (hu:Tryz.prog.underlying t = some (.slice e)) (hv:Value.okWide Tryz.prog W .any b t v)
  (h:DataW.Trod enc Tryz.prog W 0 (fun _ => true) true t v d p) (hw:(d.weights Tryz.prog t).all (· ≤ reachBytes) = true) :
  ∃ (A:Option Addr) (n c:Nat) (l:List α),v = .slice A n c ∧ inB bytes n ∧ n ≤ c ∧ Sl W (old W) size (R W (old W)) A n l ∧ μ l ≤ Rows.uptoBulk d:=by
 obtain ⟨A,n,c,rfl⟩:=okWide_slice hu hv
 obtain ⟨fuel,hf⟩:=h
 obtain ⟨l,⟨A',n',c',e',h1,h2,h3⟩,m⟩:=D hf hw
 simp only [Value.cells,List.cons.injEq,Value.slice.injEq,and_true] at e'
 obtain ⟨rfl,rfl,rfl⟩:=e'
 exact ⟨A,n,c,l,rfl,h1,h2,h3,m⟩
set_option maxRecDepth 100000 in
theorem arg_int (hu:Tryz.prog.underlying t = some (.int .i64)) (hv:Value.okWide Tryz.prog W .any b t v) (h:DataW.Trod enc Tryz.prog W 0 (fun _ => true) true t v d p):∃ x,v = .int .i64 x ∧ inI x:=by
 obtain ⟨x,rfl,rfl,rfl,w⟩:=open_int hu hv h
 exact ⟨x,rfl,w⟩
set_option maxRecDepth 100000 in
theorem arg_str (hu:Tryz.prog.underlying t = some .string) (hv:Value.okWide Tryz.prog W .any b t v) (h:DataW.Trod enc Tryz.prog W 0 (fun _ => true) true t v d p) (hw:(d.weights Tryz.prog t).all (· ≤ reachBytes) = true) :
  ∃ x,v = .string x ∧ inS x ∧ x.size + 1 ≤ Rows.uptoBulk d:=by
 obtain ⟨x,rfl,rfl,rfl,w⟩:=ChangeMaps.open_string hu hv h
 refine ⟨x,rfl,?_,by simp [Rows.uptoBulk]⟩
 simp only [DataW.weights,List.all_cons,List.all_nil,Bool.and_true] at hw
 have h2:=of_decide_eq_true hw
 unfold inS
 simpa [reachBytes] using h2
end
end Go.Proofs.YtldbpmlgbbomcaaGreatDoor
/- More readings: slices of flat things, and forms. -/
namespace Go.Proofs.YtldbpmlgbbomcaaGreatDoor
open Go.ChangeShapes Go.WideShapes Go.ChangeAt Go.RowKit

theorem bytes_Val:Tryz.prog.bytesOf 23 = 32:=by kernel_rfl
def RFrm (w:World) (S:Nat → Prop) (cs:List Value) (f:Frm):Prop :=
 ∃ A n c A2 n2 c2,cs = [.slice A n c,.slice A2 n2 c2] ∧ inB 112 n ∧ n ≤ c ∧ inB 120 n2 ∧ n2 ≤ c2 ∧ Sl w S 9 (RFld w S) A n f.fields ∧ Sl w S 8 (RPag w S) A2 n2 f.pages
def Frm.bulk (f:Frm):Nat:=(f.fields.map Fld.bulk).sum + (f.pages.map Pag.bulk).sum + 1
theorem cells_Frm:Tryz.prog.cellsOf 35 = 2:=by kernel_rfl
theorem cells_Flds:Tryz.prog.cellsOf 32 = 1:=by kernel_rfl
theorem cells_Pags:Tryz.prog.cellsOf 33 = 1:=by kernel_rfl
set_option maxRecDepth 100000 in
theorem dec_Frm:Dec 35 (fun w => RFrm w (old w)) Frm.bulk:=by
 intro H enc w fuel cs x h hw
 obtain ⟨xs,n,hfu,hlen,hl,hb,hf⟩:=struct_parts Tryz.underlying35 h hw
 rw [cells_Frm] at hl
 match cs,hl with
 | [c0,c1],_ =>
  match xs,hlen with
  | [y0,y1],_ =>
   obtain ⟨z0,e0,g0,q0⟩:=hf 0 _ rfl
   cases e0
   change DataW.trod enc Tryz.prog w 0 (fun _ => true) true n 32 (List.take (Tryz.prog.cellsOf 32) [c0,c1]) = some y0 at g0
   rw [cells_Flds] at g0
   change DataW.trod enc Tryz.prog w 0 (fun _ => true) true n 32 [c0] = some y0 at g0
   obtain ⟨a0,⟨A,k,c,r0,i0,i0',s0⟩,m0⟩:=dec_Flds g0 q0
   simp only [List.cons.injEq,and_true] at r0
   subst r0
   obtain ⟨z1,e1,g1,q1⟩:=hf 1 _ rfl
   cases e1
   change DataW.trod enc Tryz.prog w 0 (fun _ => true) true n 33 (List.take (Tryz.prog.cellsOf 33) [c1]) = some y1 at g1
   rw [cells_Pags] at g1
   change DataW.trod enc Tryz.prog w 0 (fun _ => true) true n 33 [c1] = some y1 at g1
   obtain ⟨a1,⟨A1,k1,c1',r1,i1,i1',s1⟩,m1⟩:=dec_Pags g1 q1
   simp only [List.cons.injEq,and_true] at r1
   subst r1
   simp only [List.map_cons,List.map_nil,List.sum_cons,List.sum_nil] at hb
   exact ⟨⟨a0,a1⟩,⟨A,k,c,A1,k1,c1',rfl,i0,i0',i1,i1',s0,s1⟩,by unfold Frm.bulk;simp only [] at *;omega⟩
end Go.Proofs.YtldbpmlgbbomcaaGreatDoor
