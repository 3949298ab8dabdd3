/- What fields are, by their names, as a map: eval.facts; and the small functions of eval. -/
import Derived.Test.YtbhkpepinogigaaGreatEv
import Derived.Test.YtbhkpepinogigaaGreatAsk
import Derived.Test.YtbhkpepinogigaaGreatTypes
import Derived.Test.YtbhkpepinogigaaGreatRul
namespace Go.Proofs.YtbhkpepinogigaaGreat
open Go.RowKit Go.Maps

abbrev Val.ag (v:Val):Value:=.agg #[.int .i64 v.k,.int .i64 v.n,.string v.s]
abbrev keyL (s:ByteArray):Lit:=.string s.data.toList
def stepMap (f:Lit → Option Value) (x:Fct):Lit → Option Value:=if (f (keyL x.name)).isSome then f else putAt f (keyL x.name) x.has.ag
def factMap (l:List Fct):Lit → Option Value:=l.foldl stepMap (fun _ => none)
theorem factMap_next {l:List Fct} {k:Nat} {x:Fct} (h:l[k]? = some x):factMap (l.take (k + 1)) = stepMap (factMap (l.take k)) x:=by
 unfold factMap;rw [List.take_add_one,h,List.foldl_append];rfl
theorem stepMap_none {f:Lit → Option Value} {x:Fct} (h:f (keyL x.name) = none):stepMap f x = putAt f (keyL x.name) x.has.ag:=by unfold stepMap;rw [h];rfl
theorem stepMap_some {f:Lit → Option Value} {x:Fct} {v:Value} (h:f (keyL x.name) = some v):stepMap f x = f:=by unfold stepMap;rw [h];rfl
theorem factMap_from (nm:ByteArray):∀ (l:List Fct) (f:Lit → Option Value),(l.foldl stepMap f) (keyL nm) = match f (keyL nm) with | some v => some v | none => (factV l nm).map Val.ag
 | [],f => by
  show f (keyL nm) = _
  cases f (keyL nm) <;> rfl
 | a :: r,f => by
  rw [List.foldl_cons,factMap_from nm r]
  cases hs:sameName nm a
  ·have hne:keyL nm ≠ keyL a.name:=by
    unfold sameName at hs
    rw [ByteArray.toList_eq,ByteArray.toList_eq] at hs
    intro e
    injection e with e
    simp [e] at hs
   have e1:stepMap f a (keyL nm) = f (keyL nm):=by
    unfold stepMap;split
    ·rfl
    ·exact putAt_other hne
   have e2:factV (a :: r) nm = factV r nm:=by unfold factV;rw [List.find?_cons_of_neg (by simp [hs])]
   rw [e1,e2]
  ·have he:keyL nm = keyL a.name:=by
    unfold sameName at hs
    rw [ByteArray.toList_eq,ByteArray.toList_eq] at hs
    show Lit.string _ = Lit.string _
    rw [show nm.data.toList = a.name.data.toList from (by simpa using hs:_ = _).symm]
   have e2:factV (a :: r) nm = some a.has:=by unfold factV;rw [List.find?_cons_of_pos (by simp [hs])];rfl
   rw [e2,he]
   cases hf:f (keyL a.name) with
   | some v => rw [stepMap_some hf,hf]
   | none => rw [stepMap_none hf,putAt_same (by simp [WideAt.IsKeyLit])];rfl
theorem factMap_at (nm:ByteArray) (l:List Fct):factMap l (keyL nm) = (factV l nm).map Val.ag:=factMap_from nm l _
def hasErr (l:List Fct) (i:Nat):Int:=match l[i]? with
 | some x => valCheck x.has
 | none => 0
def factsErr (l:List Fct):Int:=firstErr (hasErr l) l.length
theorem hasErr_at {l:List Fct} {k:Nat} {x:Fct} (h:l[k]? = some x):hasErr l k = valCheck x.has:=by unfold hasErr;rw [h]
theorem factsErr_hit {l:List Fct} {k:Nat} {x:Fct} (h:firstErr (hasErr l) k = 0) (hx:l[k]? = some x) (he:valCheck x.has ≠ 0):factsErr l = valCheck x.has:=by
 unfold factsErr
 rw [firstErr_hit h (by rw [hasErr_at hx];exact he) _ (List.getElem?_eq_some_iff.1 hx).1,hasErr_at hx]
theorem factsErr_ok {l:List Fct} (h:factsErr l = 0):factsOk l:=by
 intro f hf
 obtain ⟨i,hi⟩:=List.mem_iff_getElem?.1 hf
 rw [← hasErr_at hi]
 exact firstErr_all h i (List.getElem?_eq_some_iff.1 hi).1
section
variable {P:Program} (w:World) {ops:Array Oper} {rest:List Oper} {o:Oper} {a:Act} {Q:Exit → Act → World → Prop}
theorem wpList_insert_Is (hg:o.guard = none) (m x v:Operand) (t:TypeId) (hop:o.op = Op.insert t m x v) (k e:TypeId) (K:Keyed P k) (ht:P.underlying t = some (.map k e))
  (b n:Nat) (f:Lit → Option Value) (hm:a.eval m = .map (some b)) (hown:MapIs w P k b n f) (hn:n < maxLen) (key val:Value) (kl:Lit) (hx:a.eval x = key) (hv:a.eval v = val) (hkey:keyOf P k key = some kl)
  (hK:∀ w',MapIs w' P k b (n + 1) (putAt f kl val) → w.grownBy w' (some b) → wpList P ops Q rest (a.put o.dst undef) w'):wpList P ops Q (o :: rest) a w :=
 wpList_plain hg fun _ hK' => wp_insert_Is m x v t hop k e K ht b n f hm hown hn key val kl hx hv hkey fun w' h1 h2 => hK' _ _ (hK w' h1 h2)
end
theorem Tryz.zeroVal (w:World):(zeroValue 73).run Tryz.prog w = .ok (.agg #[.int .i64 0,.int .i64 0,.string ⟨#[]⟩]) w:=by kernel_rfl
theorem Tryz.keyStr' (s:ByteArray) (h:inS s):keyOf Tryz.prog 9 (.string s) = some (keyL s):=Tryz.keyStr s h
theorem val_wf {v:Val} (h:valCheck v = 0):v.wf:=by
 have hs:=val_size h
 have hb:∀ n:Int,-1099511627776 ≤ n → n ≤ 1099511627776 → inI n:=by
  intro n h1 h2
  unfold inI
  rw [Lit.wf]
  have e:IntKind.i64.min = -9223372036854775808:=by decide
  have e':IntKind.i64.max = 9223372036854775807:=by decide
  simp only [e,e',Bool.and_eq_true,decide_eq_true_eq]
  omega
 have hk:=valCheck_kind h
 refine ⟨hb _ (by omega) (by omega),?_,by unfold inS;omega⟩
 rcases (by omega:v.k = 1 ∨ v.k = 2 ∨ v.k = 3 ∨ v.k = 4 ∨ v.k = 5) with e | e | e | e | e
 ·have:=numCheck_lo (val_int h e).1;exact hb _ (by omega) (by omega)
 ·have:=(val_bool h e).1;exact hb _ (by omega) (by omega)
 ·have:=(val_text h e).1;exact hb _ (by omega) (by omega)
 ·rw [val_pend h e];exact hb _ (by decide) (by decide)
 ·unfold valCheck at h
  rw [if_neg (by omega),if_neg (by omega),if_neg (by omega),if_neg (by omega),if_pos e] at h
  split at h
  ·cases h
  ·exact hb _ (by omega) (by omega)

def RetF (w:World) (l:List Fct) (n:Nat) (e:Ending) (w':World):Prop :=
 (if factsErr l = 0 then e = .returned (.tuple #[.map (some w.heap.size),.int .i64 0]) ∧ MapIs w' Tryz.prog 9 w.heap.size n (factMap l) else e = .returned (.tuple #[.map none,.int .i64 (factsErr l)])) ∧ Below w.heap.size w w'
set_option maxRecDepth 100000 in
set_option maxHeartbeats 2000000 in
theorem eval_facts (A:Option Addr) (n c:Nat) (l:List Fct) (w:World) (hn:inL n) (h:Sl w (old w) 7 RFct A n l):Calls Tryz.prog 179 #[.slice A n c] w (RetF w l n):=by
 unfold inL at hn
 have hmm:=@run_makeMap Tryz.prog
 have HH:=Lib.hid (And.intro h h.len)
 clear h
 go_enter Tryz.func179,Tryz.ntmps179
 go_wp2_with fail
 have HW0:=Lib.hid (Below.refl w.heap.size w)
 go_loopw [13] (fun i wr => ∃ k:Nat,k ≤ n ∧ i = .int .i64 k ∧ Hid (firstErr (hasErr l) k = 0) ∧ Hid (MapIs wr Tryz.prog 9 w.heap.size k (factMap (l.take k))) ∧ Below w.heap.size w wr ∧ w.heap.size < wr.heap.size) (fun i _ => n - (intOf i).toNat)
 case atStart => exact ⟨0,by omega,rfl,Lib.hid rfl,Lib.hid (MapIs.made _ _ _),bel,by simp⟩
 case round =>
  obtain ⟨k,hk,rfl,hz,hm,hbr,hsz⟩:=hrel
  by_cases hlt:k < n
  ·obtain ⟨b,o,x,rfl,hbl,hl,hwf,x0,x1,x2,x3,x4,x5,x6⟩:=Fct_at (HH.out.1.now hbr) hlt
   have hbl':b < wr.heap.size:=hbl
   have hks:=Tryz.keyStr' x.name hwf.1
   have hch:=fun w => value_Check x.has.k x.has.n x.has.s w (inS_max hwf.2.2.2.2)
   rw [show (⟨x.has.k,x.has.n,x.has.s⟩:Val) = x.has from rfl] at hch
   have HL:=Lib.hid (And.intro hl hks)
   clear hl hwf hbl hks
   by_cases hv:valCheck x.has = 0
   ·have HV:=Lib.hid hv
    rw [hv] at hch
    have hlk:w.heap.size < wr.heap.size:=hsz
    clear hv
    cases hg0:factV (l.take k) x.name with
    | some u =>
     have hg:factMap (l.take k) (keyL x.name) = some u.ag:=by rw [factMap_at,hg0];rfl
     have HG:=Lib.hid hg
     have hnx:=(factMap_next HL.out.1).trans (stepMap_some hg)
     have HN:=Lib.hid hnx
     clear hg hnx hg0
     go_wp2_with (first
      | (go_at_call 67;refine (hch _).mono ?_;rintro e w1 ⟨rfl,hb1⟩;obtain ⟨hc1,hf1⟩:=bcell hb1;(try simp only [bqh,bqc,bqf] at hc1 hf1);have hz1:=hb1.size;(try simp at hz1);(try have hy1:=nl1 hz1);(try have hx1:=nl2 hy1);refine szz w1 wr ?_;intros)
      | (at_lookup;refine wpList_lookup_Is _ rfl _ _ 194 rfl 9 73 (Maps.string_keyed Tryz.underlying9) Tryz.underlying194 (Tryz.zeroVal _) w.heap.size k _ rfl (hm.out.below (show Below wr.heap.size wr _ from bel) hlk) _ _ rfl HL.out.2 ?_;rw [HG.out];simp only [Option.getD_some,Option.isSome_some]))
     go_roundw
     case rel => exact ⟨k + 1,by omega,by go_num,Lib.hid (firstErr_next hz.out ((hasErr_at HL.out.1).trans HV.out)),Lib.hid (HN.out ▸ (hm.out.below (show Below wr.heap.size wr _ from bel) hlk).mono (Nat.le_succ _)),below_step hbr (show Below wr.heap.size wr _ from bel) (by omega),by have:=hb1.size;simp at this ⊢;omega⟩
     case measure => simp [intOf];omega
    | none =>
     have hg:factMap (l.take k) (keyL x.name) = none:=by rw [factMap_at,hg0];rfl
     have HG:=Lib.hid hg
     have hnx:=(factMap_next HL.out.1).trans (stepMap_none hg)
     have HN:=Lib.hid hnx
     clear hg hnx hg0
     go_wp2_with (first
      | (go_at_call 67;refine (hch _).mono ?_;rintro e w1 ⟨rfl,hb1⟩;obtain ⟨hc1,hf1⟩:=bcell hb1;(try simp only [bqh,bqc,bqf] at hc1 hf1);have hz1:=hb1.size;(try simp at hz1);(try have hy1:=nl1 hz1);(try have hx1:=nl2 hy1);refine szz w1 wr ?_;intros)
      | (at_lookup;refine wpList_lookup_Is _ rfl _ _ 194 rfl 9 73 (Maps.string_keyed Tryz.underlying9) Tryz.underlying194 (Tryz.zeroVal _) w.heap.size k _ rfl (hm.out.below (show Below wr.heap.size wr _ from bel) hlk) _ _ rfl HL.out.2 ?_;rw [HG.out];simp only [Option.getD_none,Option.isSome_none])
      | (at_mapUpdate;refine wpList_mapUpdate_Is _ rfl _ _ _ 194 rfl 9 73 (Maps.string_keyed Tryz.underlying9) Tryz.underlying194 w.heap.size k _ rfl (hm.out.below (show Below wr.heap.size wr _ from bel) hlk) (by unfold maxLen;omega) _ _ _ rfl rfl HL.out.2 ?_;intro w5 hm5 hg5))
     go_roundw
     case rel => exact ⟨k + 1,by omega,by go_num,Lib.hid (firstErr_next hz.out ((hasErr_at HL.out.1).trans HV.out)),Lib.hid (HN.out ▸ hm5),(below_step hbr (show Below wr.heap.size wr _ from bel) (by omega)).grown hg5 (by have:=hb1.size;simp at this ⊢;omega) (fun j e => by cases e;exact Nat.le_refl _),by have:=hb1.size;have:=hg5.size;simp at *;omega⟩
     case measure => simp [intOf];omega
   ·have HR:=Lib.hid (factsErr_hit hz.out HL.out.1 hv)
    generalize valCheck x.has = ve at hch hv HR
    have hv':(ve != 0) = true:=by simpa using hv
    have HF:=Lib.hid (show factsErr l ≠ 0 by rw [HR.out];exact hv)
    clear hv
    go_wp2_with (go_at_call 67;refine (hch _).mono ?_;rintro e w1 ⟨rfl,hb1⟩;obtain ⟨hc1,hf1⟩:=bcell hb1;(try simp only [bqh,bqc,bqf] at hc1 hf1);have hz1:=hb1.size;(try simp at hz1);(try have hy1:=nl1 hz1);(try have hx1:=nl2 hy1);refine szz w1 wr ?_;intros)
    go_ret2
    unfold RetF
    rw [if_neg HF.out,HR.out]
    exact ⟨rfl,below_step hbr (show Below wr.heap.size wr _ from bel) (by omega)⟩
  ·have hke:k = n:=by omega
   subst hke
   have HE:=Lib.hid (show factsErr l = 0 by unfold factsErr;rw [HH.out.2];exact hz.out)
   have HM:=hm.out
   rw [List.take_of_length_le (by rw [HH.out.2];exact Nat.le_refl _)] at HM
   have HM2:=Lib.hid HM
   clear HM
   go_wp2_with fail
   go_ret2
   unfold RetF
   rw [if_pos HE.out]
   exact ⟨⟨rfl,HM2.out⟩,hbr⟩

theorem eval_fault (e:Int) (w:World):Calls Tryz.prog 221 #[.int .i64 e] w (RetV w (faultV e)):=by
 go_enter Tryz.func221,Tryz.ntmps221
 go_wp2_with fail
 exact bodyPost_ret (v:=.agg #[.int .i64 5,.int .i64 e,.string ⟨#[]⟩]) (by first | (simp [results,Tryz.results221,go_sem];done) | (simp [results,Tryz.results221,go_sem, *];done)) rfl ⟨rfl,bel⟩
theorem eval_truth (b:Bool) (w:World):Calls Tryz.prog 238 #[.bool b] w (RetV w (truthV b)):=by
 cases b
 ·go_enter Tryz.func238,Tryz.ntmps238
  go_wp2_with fail
  exact bodyPost_ret (v:=.agg #[.int .i64 2,.int .i64 0,.string ⟨#[]⟩]) (by first | (simp [results,Tryz.results238,go_sem];done) | (simp [results,Tryz.results238,go_sem, *];done)) rfl ⟨rfl,bel⟩
 ·go_enter Tryz.func238,Tryz.ntmps238
  go_wp2_with fail
  exact bodyPost_ret (v:=.agg #[.int .i64 2,.int .i64 1,.string ⟨#[]⟩]) (by first | (simp [results,Tryz.results238,go_sem];done) | (simp [results,Tryz.results238,go_sem, *];done)) rfl ⟨rfl,bel⟩
def RetTB (w:World) (b:Bool) (e:Ending) (w':World):Prop:=e = .returned (.bool b) ∧ Below w.heap.size w w'
set_option maxRecDepth 100000 in
set_option maxHeartbeats 1000000 in
theorem eval_kinds (A:Option Addr) (n c:Nat) (l:List Val) (S:Nat → Prop) (t:Int) (w:World) (hn:inL n) (h:Sl w S 3 RVal A n l) (hS:∀ b,S b → b < w.heap.size):Calls Tryz.prog 239 #[.slice A n c,.int .i64 t] w (RetTB w (l.all fun v => v.k == t)):=by
 unfold inL at hn
 have HH:=Lib.hid (And.intro (h.mono hS) h.len)
 clear h
 obtain ⟨r,hr⟩:∃ r,(l.all fun v => v.k == t) = r:=⟨_,rfl⟩
 have HR:=Lib.hid hr
 rw [hr]
 clear hr
 go_enter Tryz.func239,Tryz.ntmps239
 go_wp2_with fail
 go_loopw [9] (fun i wr => ∃ k:Nat,k ≤ n ∧ i = .int .i64 k ∧ Hid ((l.take k).all (fun v => v.k == t) = true) ∧ Below w.heap.size w wr) (fun i _ => n - (intOf i).toNat)
 case atStart => exact ⟨0,by omega,rfl,Lib.hid (by simp),Below.refl _ _⟩
 case round =>
  obtain ⟨k,hk,rfl,hz,hbr⟩:=hrel
  by_cases hlt:k < n
  ·obtain ⟨b,o,v,rfl,hbl,hl,hwf,x0,x1,x2⟩:=Val_at (HH.out.1.now hbr) hlt
   have hbl':b < wr.heap.size:=hbl
   have HL:=Lib.hid hl
   clear hl hwf hbl
   cases hp:(v.k == t)
   ·have hp':(v.k != t) = true:=by simp only [bne,hp,Bool.not_false]
    have HP:=Lib.hid (show r = false by
     rw [← HR.out,List.all_eq_false]
     exact ⟨v,List.mem_of_getElem? HL.out,by rw [hp];decide⟩)
    clear hp
    go_wp2_with fail
    go_ret
    exact ⟨by rw [HP.out];rfl,bel⟩
   ·have hp':(v.k != t) = false:=by simp only [bne,hp,Bool.not_true]
    have HP:=Lib.hid hp
    clear hp
    go_wp2_with fail
    go_roundw
    case rel => exact ⟨k + 1,by omega,by go_num,Lib.hid (by rw [List.take_add_one,HL.out,List.all_append,hz.out];simp [HP.out]),bel⟩
    case measure => simp [intOf];omega
  ·have hke:k = n:=by omega
   subst hke
   have HE:=Lib.hid (show r = true by rw [← HR.out];have:=hz.out;rwa [List.take_of_length_le (by rw [HH.out.2];exact Nat.le_refl _)] at this)
   go_wp2_with fail
   go_ret
   exact ⟨by rw [HE.out];rfl,hbr⟩
end Go.Proofs.YtbhkpepinogigaaGreat
