/- delta.facts; the names that have changed, as a map; the test of asked names over it. -/
import Derived.Test.YtbhkpepinogigaaGreatWhlG
import Derived.Test.YtbhkpepinogigaaGreatNamP
import Derived.Test.YtbhkpepinogigaaGreatEvF
namespace Go.Proofs.YtbhkpepinogigaaGreat
open Go.RowKit Go.Maps

set_option maxRecDepth 100000 in
set_option maxHeartbeats 4000000 in
theorem delta_facts (B:Option Addr) (m d:Nat) (F:List Fld) (Vb:Option Addr) (cv:Nat) (V:List Val) (w:World) (h14:m ≤ 14) (hF:Sl w (old w) 9 (RFld w (old w)) B m F) (hV:Sl w (old w) 3 RVal Vb m V) :
  Calls Tryz.prog 90 #[.slice B m d,.slice Vb m cv] w (OwnRow Fct.cs 109 7 w (namedF F V)):=by
 have hml:=hF.len
 have hvl:=hV.len
 have HX:=Lib.hid (And.intro hF (And.intro hV (And.intro hml hvl)))
 obtain ⟨i0,ei,ez0,ez1,ez2⟩:=info_parts Tryz.infoFct
 clear hF hV hml hvl
 go_enter Tryz.func90,Tryz.ntmps90
 go_wp2_with fail
 go_loopw [5,10] (fun v i wr => ∃ k:Nat,k ≤ m ∧ i = .int .i64 k ∧ Hid (wr.ownsRow w.heap.size 109 7 v k (((namedF F V).take k).flatMap Fct.cs)) ∧ Below w.heap.size w wr) (fun _ i _ => m - (intOf i).toNat)
 case atStart => exact ⟨0,by omega,rfl,Lib.hid (by simpa using World.ownsRow_nil _ _ _ _),Below.refl _ _⟩
 case round =>
  obtain ⟨k,hk,rfl,hown,hbr⟩:=hrel
  by_cases hlt:k < m
  ·obtain ⟨b,o,f,X,C,hAe,hbl,hlf,hrep,x0,x1,x2,x3,x4,x5,x6,x7,x8⟩:=Fld_at (HX.out.1.nowN keeps_Fld hbr) hlt
   obtain ⟨b3,o3,v,hVe,hbl3,hlv,hwf,z0,z1,z2⟩:=Val_at (HX.out.2.1.now hbr) hlt
   have HAE:=Lib.hid (And.intro hAe hVe)
   subst hAe
   subst hVe
   have hbl':b < wr.heap.size:=hbl
   have hbl3':b3 < wr.heap.size:=hbl3
   have hki:(k:Int) < (m:Int):=by omega
   have hzr:=hbr.size
   have HT:=Lib.hid (named_next hlf hlv)
   clear hbl hlf hrep hbl3 hlv hwf HAE
   go_wp2_with fail
   refine wp_world ?_;intro W0 hW0
   have hB0:Below wr.heap.size wr W0:=by rw [hW0];exact bel
   have k0:W0.cell? ⟨wr.heap.size,0,none⟩ = some (.string f.name):=by rw [hW0];go_simp
   have hs0:wr.heap.size < W0.heap.size:=by rw [hW0];simp
   replace z0:=cell_keep z0 hB0
   replace z1:=cell_keep z1 hB0
   replace z2:=cell_keep z2 hB0
   have hb30:b3 < W0.heap.size:=by omega
   clear hW0 x0 x1 x2 x3 x4 x5 x6 x7 x8
   go_region_law (refine step_append_sl rfl (.tmp 15) (.tmp 23) 42 rfl w.heap.size 109 i0 _ 7 80 Tryz.underlying42 ei ez0 ez1 ez2 rfl (by decide) _ k _ rfl (ownsRow_keep (ownsRow_keep hown.out hB0) bel) _ 1 1 (Fct.mk f.name noVal v).cs rfl rfl (fun p hp j u hj => by cases hp;exact news_new _ _ _ j u hj) (by simp) (by simp [Value.oneCell']) (by unfold maxLen;omega) (by omega) (by first | omega | (simp;omega)) ?_;intro v6 w6 hown6 hb6 hz6)
   all_goals
    go_wp2_with fail
    go_roundw
    case rel => exact ⟨k + 1,by omega,by go_num,Lib.hid (by rw [HT.out,List.flatMap_append];simpa using hown6),below_step (below_step hbr (below_step hB0 (show Below W0.heap.size W0 _ from (Below.refl W0.heap.size W0).drew.alloc (Nat.le_refl _) (.cells (Fct.mk f.name noVal v).cs.toArray 109)) (by omega)) (by omega)) hb6 (by omega)⟩
    case measure => simp [intOf];omega
  ·have hke:k = m:=by omega
   subst hke
   have ho:=hown.out
   rw [List.take_of_length_le (by rw [namedF_len (by rw [HX.out.2.2.2,HX.out.2.2.1]),HX.out.2.2.1];exact Nat.le_refl _)] at ho
   have HO:=Lib.hid ho
   clear hown ho
   go_wp2_with fail
   go_ret
   refine ⟨_,rfl,?_,hbr⟩
   rw [namedF_len (by rw [HX.out.2.2.2,HX.out.2.2.1]),HX.out.2.2.1]
   exact HO.out
def ChgIs (g:Lit → Option Value) (chg:List ByteArray):Prop:=∀ s:ByteArray,(g (keyL s)).getD (.bool false) = .bool (chg.any (isStr s))
theorem ChgIs.start:ChgIs (fun _ => none) []:=fun _ => rfl
theorem isStr_self (s:ByteArray):isStr s s = true:=by simp [isStr]
theorem isStr_eq {s t:ByteArray} (h:isStr s t = true):s = t:=toList_inj (by simpa [isStr] using h)
theorem ChgIs.put {g:Lit → Option Value} {chg:List ByteArray} (h:ChgIs g chg) (x:ByteArray) (b:Bool) (hx:chg.any (isStr x) = false):ChgIs (putAt g (keyL x) (.bool b)) (if b = true then chg ++ [x] else chg):=by
 intro s
 by_cases he:isStr s x = true
 ·obtain rfl:=isStr_eq he
  rw [putAt_same (by simp [WideAt.IsKeyLit])]
  cases b
  ·rw [if_neg (by decide),hx];rfl
  ·rw [if_pos rfl,List.any_append];simp [isStr_self]
 ·have hne:keyL s ≠ keyL x:=by
   intro e
   injection e with e
   apply he
   unfold isStr
   rw [ByteArray.toList_eq,ByteArray.toList_eq,e]
   simp
  rw [putAt_other hne,h s]
  cases b
  ·rw [if_neg (by decide)]
  ·rw [if_pos rfl,List.any_append];simp [he]
section
variable {F:List Fld} {ins orc:List Fct} {old:List Val} {nm:ByteArray}
theorem dTo_chg {ord:List Nat}:∀ j,∀ s ∈ (dTo F ins orc old nm ord j).chg,∃ k ∈ ord.take j,∃ f,(F)[k]? = some f ∧ f.name = s
 | 0 => fun s h => absurd h List.not_mem_nil
 | j + 1 => fun s hs => by
  have ih:=dTo_chg (ord:=ord) j s
  have hup:(∃ k ∈ ord.take j,∃ f,(F)[k]? = some f ∧ f.name = s) → ∃ k ∈ ord.take (j + 1),∃ f,(F)[k]? = some f ∧ f.name = s:=by
   rintro ⟨k,hk,h⟩
   exact ⟨k,by rw [List.take_add_one];exact List.mem_append.2 (.inl hk),h⟩
  cases hi:ord[j]? with
  | none => rw [dTo,hi] at hs;exact hup (ih hs)
  | some i =>
   cases hx:(F)[i]? with
   | none => rw [dTo,hi] at hs;change s ∈ (dStep F ins orc old nm _ i).chg at hs;unfold dStep at hs;rw [hx] at hs;exact hup (ih hs)
   | some x =>
    rw [dTo_step hi hx] at hs
    split at hs
    ·change s ∈ (if _ then _ else _:List ByteArray) at hs
     split at hs
     ·exact hup (ih hs)
     ·rcases List.mem_append.1 hs with hs | hs
      ·exact hup (ih hs)
      ·rw [List.mem_singleton.1 hs]
       exact ⟨i,by rw [List.take_add_one,hi];exact List.mem_append.2 (.inr (by simp)),x,hx,rfl⟩
    ·exact hup (ih hs)
theorem ord_new {j i:Nat} (h:(ordF F)[j]? = some i):i ∉ (ordF F).take j:=by
 intro hm
 obtain ⟨k,hk,he⟩:=List.mem_iff_getElem.1 hm
 rw [List.getElem_take] at he
 rw [List.length_take] at hk
 obtain ⟨hj,he2⟩:=List.getElem?_eq_some_iff.1 h
 have h1:=List.pairwise_iff_getElem.1 (ordK_sorted (outAt (rankO F)) F.length) k j (by unfold ordF at hk;omega) hj (by omega)
 change ltR _ ((ordF F)[k]'(by omega)) ((ordF F)[j]'hj) at h1
 rw [he,he2] at h1
 exact ltR_irr _ _ h1
theorem dTo_new {j i:Nat} {x:Fld} (he:fieldsErr F = 0) (hi:(ordF F)[j]? = some i) (hx:(F)[i]? = some x):(dTo F ins orc old nm (ordF F) j).chg.any (isStr x.name) = false:=by
 rw [List.any_eq_false]
 intro s hs h
 obtain rfl:=isStr_eq h
 obtain ⟨k,hk,f,hf,hn⟩:=dTo_chg j _ hs
 have e1:=fieldAt_name he hf
 have e2:=fieldAt_name he hx
 rw [hn] at e1
 obtain rfl:k = i:=e1.symm.trans e2
 exact ord_new hi hk
end
theorem Tryz.zeroBoD (w:World):(zeroValue 4).run Tryz.prog w = .ok (.bool false) w:=by kernel_rfl
set_option maxHeartbeats 1000000 in
theorem delta_Run1 (f:Lit → Option Value) (chg:List ByteArray) (g gb m:Nat) (s:ByteArray) (w:World) (hs:inS s) (hb:w.cell? ⟨gb,0,none⟩ = some (.map (some g))) (hm:MapIs w Tryz.prog 9 g m f) (hc:ChgIs f chg) :
  Calls Tryz.prog 89 #[.string s,.pointer (some ⟨gb,0,none⟩)] w (RetB w (chg.any (isStr s))):=by
 have hgl:=block_lt_of_cell hb
 simp only at hgl
 have HM:=Lib.hid (And.intro hm (And.intro (Tryz.keyStr s hs) (hc s)))
 clear hm hc
 go_enter Tryz.func89,Tryz.ntmps89
 go_wp2_with (at_lookup;refine wpList_lookup1_Is _ rfl _ _ 120 rfl 9 4 (Maps.string_keyed Tryz.underlying9) Tryz.underlying120 (Tryz.zeroBoD _) g m _ rfl HM.out.1 _ _ rfl HM.out.2.1 ?_;rw [HM.out.2.2])
 go_ret
 exact ⟨rfl,bel⟩
set_option maxHeartbeats 1000000 in
theorem strs_IdxChg (p:ByteArray → Bool) (gb:Nat) (A:Option Addr) (n c:Nat) (l:List ByteArray) (w:World) (hn:inL n) (h:Sl w (old w) 1 RStr A n l)
  (hcall:∀ wr s,Below w.heap.size w wr → inS s → Calls Tryz.prog 89 #[.string s,.pointer (some ⟨gb,0,none⟩)] wr (RetB wr (p s))) :
  Calls Tryz.prog 150 #[.slice A n c,.func (.func 89) #[] #[.pointer (some ⟨gb,0,none⟩)]] w (RetI w (idxOf p l)):=by
 unfold inL at hn
 have HH:=Lib.hid (And.intro h hcall)
 clear h hcall
 go_enter Tryz.func150,Tryz.ntmps150
 go_wp2_with fail
 go_loopw [8] (fun i wr => ∃ k:Nat,k ≤ n ∧ i = .int .i64 k ∧ (l.take k).any p = false ∧ Below w.heap.size w wr) (fun i _ => n - (intOf i).toNat)
 case atStart => exact ⟨0,by omega,rfl,by simp,Below.refl _ _⟩
 case round =>
  obtain ⟨k,hk,rfl,hv,hb⟩:=hrel
  by_cases hlt:k < n
  ·obtain ⟨b,o,x,rfl,hbl,hl,hix,h0⟩:=Str_at (HH.out.1.now hb) hlt
   have hbl':b < wr.heap.size:=hbl
   have hcl:=HH.out.2 wr x hb hix
   have HL:=Lib.hid (And.intro hl hv)
   clear hl hv hbl
   cases hp:p x
   ·rw [hp] at hcl
    have HP:=Lib.hid hp
    clear hp
    go_wp2_with (refine hcl.mono ?_;rintro e w1 ⟨rfl,hb1⟩)
    go_roundw
    case rel =>
     refine ⟨k + 1,by omega,by go_num,?_,bel⟩
     rw [List.take_add_one,HL.out.1,List.any_append,HL.out.2]
     simp [HP.out]
    case measure => simp [intOf];omega
   ·rw [hp] at hcl
    have HP:=Lib.hid hp
    clear hp
    go_wp2_with (refine hcl.mono ?_;rintro e w1 ⟨rfl,hb1⟩)
    go_ret
    refine ⟨ret_int ?_,bel⟩
    have e2:l.any p = true:=by
     rw [List.any_eq_true]
     exact ⟨x,List.mem_of_getElem? HL.out.1,HP.out⟩
    rw [idxOf,if_pos e2,firstAt_hit p l k x HL.out.1 HP.out HL.out.2]
  ·have hke:k = n:=by omega
   subst hke
   have hl:l.take k = l:=by rw [List.take_of_length_le (by rw [HH.out.1.len];exact Nat.le_refl _)]
   rw [hl] at hv
   have HV:=Lib.hid hv
   clear hl hv
   go_wp2_with fail
   go_ret
   exact ⟨ret_int (by rw [idxOf,HV.out];rfl),hb⟩
set_option maxHeartbeats 400000 in
theorem strs_ContChg (p:ByteArray → Bool) (gb:Nat) (A:Option Addr) (n c:Nat) (l:List ByteArray) (w:World) (hn:inL n) (h:Sl w (old w) 1 RStr A n l)
  (hcall:∀ wr s,Below w.heap.size w wr → inS s → Calls Tryz.prog 89 #[.string s,.pointer (some ⟨gb,0,none⟩)] wr (RetB wr (p s))) :
  Calls Tryz.prog 88 #[.slice A n c,.func (.func 89) #[] #[.pointer (some ⟨gb,0,none⟩)]] w (RetB w (l.any p)):=by
 have hcl:=strs_IdxChg p gb A n c l w hn h hcall
 cases hany:l.any p
 ·have h1:idxOf p l = -1:=by rw [idxOf,hany];rfl
  rw [h1] at hcl
  clear hany h1 h hcall
  go_enter Tryz.func88,Tryz.ntmps88
  go_wp2_with (go_at_call 150;refine hcl.mono ?_;rintro e w1 ⟨rfl,hb1⟩)
  go_ret
  exact ⟨rfl,bel⟩
 ·have h1:idxOf p l = (firstAt p l:Int):=by rw [idxOf,hany];rfl
  rw [h1] at hcl
  have hlt:=firstAt_le p l
  rw [h.len] at hlt
  unfold inL at hn
  clear hany h1 h hcall
  go_enter Tryz.func88,Tryz.ntmps88
  go_wp2_with (go_at_call 150;refine hcl.mono ?_;rintro e w1 ⟨rfl,hb1⟩)
  go_ret
  exact ⟨rfl,bel⟩
end Go.Proofs.YtbhkpepinogigaaGreat
