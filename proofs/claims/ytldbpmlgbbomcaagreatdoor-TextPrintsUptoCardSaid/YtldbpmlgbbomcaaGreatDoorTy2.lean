/- Texts merged: TyO TyR Ty2. -/
import Derived.Test.YtldbpmlgbbomcaaGreatDoorTy
import Derived.Test.YtldbpmlgbbomcaaGreatDoorTypes
import Derived.Test.YtldbpmlgbbomcaaGreatDoorPrt3
import Derived.Test.YtldbpmlgbbomcaaGreatDoorShelf
import Derived.Test.YtldbpmlgbbomcaaGreatDoorPrt4
import Derived.Deep.RegionLaw
/- The walk of typing.of. -/
namespace Go.Proofs.YtldbpmlgbbomcaaGreatDoor
open Go.RowKit

def RN (cs:List Value) (t:Int):Prop:=cs = [.int .i64 t]
theorem Tryz.infoInt:(Tryz.prog.info? 3).map (fun i => (i.zero,i.size,i.bytes)) = some (some (.int .i64 0),1,8):=by kernel_rfl
theorem Tryz.zeroRule (w:World):(zeroValue 219).run Tryz.prog w = .ok (.agg #[.slice none 0 0,.int .i64 0]) w:=by kernel_rfl
theorem Tryz.zeroInt (w:World):(zeroValue 3).run Tryz.prog w = .ok (.int .i64 0) w:=by kernel_rfl
theorem row_cell {w:World} {base:Nat} {A:Option Addr} {n c:Nat} {ts:List Int} (h:Own w base 3 1 (fun _ _ => RN) (.slice A n c) ts) {k:Nat} {t:Int} (hk:ts[k]? = some t) :
  ∃ g,A = some ⟨g,0,none⟩ ∧ base ≤ g ∧ g < w.heap.size ∧ ∀ (j:Nat) (u:Int),ts[j]? = some u → w.cell? ⟨g,j,none⟩ = some (.int .i64 u):=by
 obtain ⟨A',c',e,_,hs⟩:=h.sl (keeps_flat _)
 have hlt:=h.lt
 cases e
 have hkl:k < ts.length:=(List.getElem?_eq_some_iff.1 hk).1
 obtain ⟨b,o,e1,e2,e3⟩:=hs.2 (by omega)
 subst e1
 have ho:o = 0:=by
  obtain ⟨C,⟨_,h2⟩,_⟩:=h
  rcases h2 with ⟨e,_⟩ | ⟨g,cap,cur,e,_⟩
  ·cases e
  ·cases e;rfl
 subst ho
 refine ⟨b,rfl,(hlt b rfl).1,(hlt b rfl).2,fun j u hj => ?_⟩
 obtain ⟨cs,e4,_,e5⟩:=e3 j u hj
 have e6:=e5 0 (by decide)
 rw [show cs = [.int .i64 u] from e4] at e6
 simpa using e6

set_option maxRecDepth 100000 in
set_option maxHeartbeats 2000000 in
theorem typing_of (l:List Fld) (fb kb g n:Nat) (N:Nat):∀ (x:Exp) (A:Option Addr) (c:Nat) (w:World),x.nodes ≤ N → prtN x = 0 →
  XRep w (old w) [.int .i64 x.op,.int .i64 x.v.k,.int .i64 x.v.n,.string x.v.s,.string x.name,.slice A x.args.length c] x → MapIs w Tryz.prog 9 fb n (typeMap l.reverse) → Rules w kb g →
  Calls Tryz.prog 171 #[.agg #[.int .i64 x.op,.int .i64 x.v.k,.int .i64 x.v.n,.string x.v.s,.string x.name,.slice A x.args.length c],.map (some fb),.map (some kb)] w (RetP w (tyX l x)):=by
 induction N with
 | zero =>
  intro x A c w hN
  obtain ⟨op,v,nm,args⟩:=x
  simp [Exp.nodes] at hN
 | succ N ih =>
  intro x A c w hN hp hx hf hr
  have HI:=Lib.hid ih
  clear ih
  obtain ⟨i1,i2,i3,i4,i5,hsl,hch⟩:=hx.kids
  obtain ⟨p1,p2,p3,p4⟩:=prt_ok hp
  have HH:=Lib.hid (And.intro hsl (And.intro (fun i a h => by have:=hch i a h;omega:∀ (i:Nat) (a:Exp),x.args[i]? = some a → a.nodes ≤ N) (And.intro hf (And.intro hr p4))))
  have hlen:x.args.length ≤ 1759218604416:=by unfold inB at i4;omega
  have hks:=Tryz.keyStr x.name i3
  have hki:=Tryz.keyInt x.op i1
  have HP3:=Lib.hid p3
  clear hsl hch hx hN i1 i2 i3 i4 i5 hf hr p4 hp p3
  rcases (by omega:x.op = 1 ∨ x.op = 2 ∨ (x.op ≠ 1 ∧ x.op ≠ 2)) with ho | ho | ⟨ho1,ho2⟩
  ·rw [tyX_const l ho]
   go_enter Tryz.func171,Tryz.ntmps171
   go_wp2_with fail
   go_ret2
   exact ⟨rfl,bel⟩
  ·rw [tyX_ref l ho]
   have hm:=typeMap_at x.name l
   cases hft:fieldTy l x.name with
   | none =>
    rw [hft] at hm
    have HM:=Lib.hid (And.intro hm hks)
    clear hm hks
    go_enter Tryz.func171,Tryz.ntmps171
    go_wp2_with (at_lookup;refine wpList_lookup_Is _ rfl _ _ 151 rfl 9 3 (Maps.string_keyed Tryz.underlying9) Tryz.underlying151 (Tryz.zeroInt _) fb n _ rfl (HH.out.2.2.1.below (Below.alloc (Below.refl _ w) (Nat.le_refl _) _) HH.out.2.2.1.lt) _ _ rfl HM.out.2 ?_;rw [HM.out.1];simp only [Option.map_none,Option.getD_none,Option.isSome_none])
    go_ret2
    exact ⟨rfl,bel⟩
   | some t =>
    rw [hft] at hm
    have HM:=Lib.hid (And.intro hm hks)
    clear hm hks
    go_enter Tryz.func171,Tryz.ntmps171
    go_wp2_with (at_lookup;refine wpList_lookup_Is _ rfl _ _ 151 rfl 9 3 (Maps.string_keyed Tryz.underlying9) Tryz.underlying151 (Tryz.zeroInt _) fb n _ rfl (HH.out.2.2.1.below (Below.alloc (Below.refl _ w) (Nat.le_refl _) _) HH.out.2.2.1.lt) _ _ rfl HM.out.2 ?_;rw [HM.out.1];simp only [Option.map_some,Option.getD_some,Option.isSome_some])
    go_ret2
    exact ⟨rfl,bel⟩
  ·have ho1':(x.op == 1) = false:=by simpa using ho1
   have ho2':(x.op == 2) = false:=by simpa using ho2
   obtain ⟨j0,hj0,iz0,iz1,iz2⟩:=info_parts Tryz.infoInt
   clear hks
   go_enter Tryz.func171,Tryz.ntmps171
   go_wp2_with fail
   go_loopw [10,39] (fun out i wr => ∃ (k:Nat) (A':Option Addr) (c':Nat),k ≤ x.args.length ∧ i = .int .i64 k ∧ out = .slice A' k c' ∧ Hid (Own wr (w.heap.size + 1) 3 1 (fun _ _ => RN) (.slice A' k c') ((x.args.take k).map fun a => (tyX l a).1)) ∧ Hid (∀ a ∈ x.args.take k,(tyX l a).2 = 0) ∧ wr.cell? ⟨w.heap.size,0,none⟩ = some (.int .i64 x.op) ∧ Below w.heap.size w wr ∧ w.heap.size + 1 ≤ wr.heap.size) (fun _ i _ => x.args.length - (intOf i).toNat)
   case atStart => exact ⟨0,none,0,by omega,rfl,rfl,Lib.hid Own.nil,Lib.hid (by simp),by go_simp,bel,by simp⟩
   case round =>
    obtain ⟨k,A',c',hk,rfl,rfl,hown,hz,hop,hbr,hsz⟩:=hrel
    by_cases hlt:k < x.args.length
    ·obtain ⟨b,o,a,X,C,hAe,hbl,hl,hxa,x0,x1,x2,x3,x4,x5⟩:=Exp_at (HH.out.1.nowN keeps_Exp hbr) hlt
     subst hAe
     have hbl':b < wr.heap.size:=hbl
     have hia:=fun w h h' h'' => HI.out a X C w (HH.out.2.1 k a hl) (HH.out.2.2.2.2 a (List.mem_of_getElem? hl)) h h' h''
     have hlk:((x.args.take k).map fun a => (tyX l a).1).length = k:=by rw [List.length_map,List.length_take];omega
     have HO:=Lib.hid (And.intro hxa (And.intro hl hlk))
     have hlw:w.heap.size < wr.heap.size:=by omega
     clear hxa hl hbl hlk
     by_cases hq:(tyX l a).2 = 0
     ·have HQ:=Lib.hid hq
      rw [show tyX l a = ((tyX l a).1,0) from Prod.ext rfl hq] at hia
      obtain ⟨t,ht⟩:∃ t,(tyX l a).1 = t:=⟨_,rfl⟩
      rw [ht] at hia
      have HT:=Lib.hid ht
      clear hq ht
      go_wp2_with (first
       | (go_at_call 171;refine (hia _ (HO.out.1.keep (old_keep bel)) ((HH.out.2.2.1.below hbr HH.out.2.2.1.lt).below (Below.alloc (Below.refl _ wr) (Nat.le_refl _) _) (Nat.lt_of_lt_of_le HH.out.2.2.1.lt hbr.size)) ((HH.out.2.2.2.1.now hbr).now (Below.alloc (Below.refl _ wr) (Nat.le_refl _) _))).mono ?_;rintro e w3 ⟨rfl,hb3⟩;have hw3:Below wr.heap.size wr w3:=below_step bel hb3 (by simp);have hz3:wr.heap.size < w3.heap.size:=(by have:=hb3.size;simp at this;omega);dsimp only)
       | (at_builtin;refine wpList_append_Own (keeps_flat RN) rfl (.tmp 53) (.tmp 55) 101 rfl (w.heap.size + 1) 3 j0 _ 1 8 Tryz.underlying101 hj0 iz0 iz1 iz2 rfl (by decide) (.slice A' k c') ((x.args.take k).map fun a => (tyX l a).1) rfl (hown.out.keep (keeps_flat _) hw3) [.int .i64 t] 3 rfl _ rfl rfl rfl (by simp [Value.oneCell']) (by rw [HO.out.2.2];omega) (by rw [HO.out.2.2];unfold maxLen;omega) (by omega) t rfl ?_;intro g' cap w5 hown5 hb5 hz5 hk5 _;rw [HO.out.2.2] at hown5 ⊢))
      go_roundw
      case rel =>
       have hke:=hk5 w.heap.size (by omega) (fun e => by have:=(hown.out.lt _ e.symm).1;omega)
       have etk:((x.args.take k).map fun a => (tyX l a).1) ++ [t] = (x.args.take (k + 1)).map fun a => (tyX l a).1:=by rw [List.take_add_one,HO.out.2.1,List.map_append,← HT.out];rfl
       rw [etk] at hown5
       refine ⟨k + 1,some ⟨g',0,none⟩,cap,by omega,by go_num,rfl,Lib.hid hown5,Lib.hid ?_,?_,below_step (below_step hbr hw3 (by omega)) hb5 (by omega),by omega⟩
       ·rw [List.take_add_one,HO.out.2.1]
        intro b hb
        rcases List.mem_append.1 hb with hb | hb
        ·exact hz.out b hb
        ·simp at hb;subst hb;exact HQ.out
       ·exact (World.cell?_of_block (w:=w3) (a:=⟨w.heap.size,0,none⟩) hke).trans ((hw3.cell (p:=⟨w.heap.size,0,none⟩) hlw).trans hop)
      case measure => simp [intOf];omega
     ·have hE:=tyX_err l ho1 ho2 hz.out HO.out.2.1 hq
      rw [hE]
      have hq':((tyX l a).2 != 0) = true:=by simpa using hq
      obtain ⟨t,ht⟩:∃ t,(tyX l a).1 = t:=⟨_,rfl⟩
      obtain ⟨u,hu⟩:∃ u,(tyX l a).2 = u:=⟨_,rfl⟩
      rw [show tyX l a = (t,u) from Prod.ext ht hu] at hia
      rw [hu] at hq' ⊢
      clear ht hu hq hE
      go_wp2_with (go_at_call 171;refine (hia _ (HO.out.1.keep (old_keep bel)) ((HH.out.2.2.1.below hbr HH.out.2.2.1.lt).below (Below.alloc (Below.refl _ wr) (Nat.le_refl _) _) (Nat.lt_of_lt_of_le HH.out.2.2.1.lt hbr.size)) ((HH.out.2.2.2.1.now hbr).now (Below.alloc (Below.refl _ wr) (Nat.le_refl _) _))).mono ?_;rintro e w3 ⟨rfl,hb3⟩;have hw3:Below wr.heap.size wr w3:=below_step bel hb3 (by simp);have hz3:wr.heap.size < w3.heap.size:=(by have:=hb3.size;simp at this;omega);dsimp only)
      go_ret2
      exact ⟨rfl,below_step hbr hw3 (by omega)⟩
    ·have hkn:k = x.args.length:=by omega
     have hlw:w.heap.size < wr.heap.size:=by omega
     subst hkn
     rw [List.take_length] at hown hz
     have hty:=tyX_all l ho1 ho2 hz.out
     obtain ⟨ts,hts⟩:∃ ts,(x.args.map fun a => (tyX l a).1) = ts:=⟨_,rfl⟩
     have htl:ts.length = x.args.length:=by rw [← hts,List.length_map]
     rw [hts] at hown hty
     clear hts hz
     obtain ⟨hgl,_,_,_,F,hF,hfo⟩:=HH.out.2.2.2.1.now hbr
     have hfo':=hfo x.op
     have hRow:=fun wt hw => (HH.out.2.2.2.1.now hbr).row (wt:=wt) hw
     clear hfo
     cases hwt:wantOf x.op with
     | some q =>
      obtain ⟨wt,m,own⟩:=q
      obtain ⟨hm0,hwr,hm⟩:=wantOf_some hwt
      have hnm:x.args.length = m:=by have p3:=HP3.out;omega
      rw [tyApp_known hwt (by rw [htl,hnm]),← hnm] at hty
      rw [hwt,Option.map_some,← hnm] at hfo'
      obtain ⟨g',rfl,hg1,hg2,hgc⟩:=row_cell hown.out (List.getElem?_eq_getElem (by omega:0 < ts.length))
      have hrc:=hRow wt hwr
      have HG:=Lib.hid (And.intro hgc (And.intro hrc (And.intro hF (And.intro hfo' hki))))
      have hgw:g + (wt.toNat - 1) < wr.heap.size:=by rcases hwr with h | h | h <;> subst h <;> simp <;> omega
      clear hgc hrc hF hfo' hki hown hRow hwt
      have hml:x.args.length ≤ 2:=by omega
      have hmm:x.args.length ≤ ([wt,wt]:List Int).length:=hml
      have hEq:∀ W:World,Below wr.heap.size wr W → Calls Tryz.prog 190 #[.slice (some ⟨g',0,none⟩) x.args.length c',.slice (some ⟨g + (wt.toNat - 1),0,none⟩) x.args.length 2] W fun e w' => e = .returned (.bool (ts.take x.args.length == [wt,wt].take x.args.length)) ∧ ∃ q,w' = W.drewN q:=by
       intro W hW
       refine Tryz.slices_Equal_int g' 0 x.args.length c' (g + (wt.toNat - 1)) 0 x.args.length 2 ts [wt,wt] W (by rw [htl];exact Nat.le_refl _) hmm (by omega) (by omega) (fun j hj => ?_) (fun j hj => ?_)
       ·rw [Nat.zero_add,hW.cell (p:=⟨g',j,none⟩) hg2,HG.out.1 j _ (List.getElem?_eq_getElem hj),List.getD_eq_getElem?_getD,List.getElem?_eq_getElem hj];rfl
       ·rw [Nat.zero_add,hW.cell (p:=⟨g + (wt.toNat - 1),j,none⟩) hgw]
        have hj2:j < 2:=hj
        rcases (by omega:j = 0 ∨ j = 1) with rfl | rfl
        ·exact HG.out.2.1.1
        ·exact HG.out.2.1.2
      obtain ⟨B,hB⟩:∃ B,(ts.take x.args.length == [wt,wt].take x.args.length) = B:=⟨_,rfl⟩
      rw [hB] at hEq hty
      clear hB
      have HTY:=Lib.hid hty
      clear hty
      simp only [hnm] at hEq
      cases B
      all_goals
       go_wp2_with (first
        | (at_lookup;refine wpList_lookup_Is _ rfl _ _ 205 rfl 3 219 (Maps.int_keyed Tryz.underlying3) Tryz.underlying205 (Tryz.zeroRule _) kb 11 F rfl HG.out.2.2.1 _ _ rfl HG.out.2.2.2.2 ?_;rw [HG.out.2.2.2.1];simp only [Option.getD_some,Option.isSome_some])
        | (go_at_call 190;refine (hEq _ bel).mono ?_;rintro e w4 ⟨rfl,q4,rfl⟩))
       go_ret2
       rw [HTY.out]
       exact ⟨rfl,bel⟩
     | none =>
      rw [hwt,Option.map_none] at hfo'
      have HG:=Lib.hid (And.intro hF (And.intro hfo' hki))
      have hon:=wantOf_none hwt (by omega) p2
      have p3:=HP3.out
      have hnx:(x.args.length = 1 ∨ x.args.length = 2 ∨ x.args.length = 3) ∧ (x.op = 17 → x.args.length = 3) ∧ (11 ≤ x.op ∧ x.op ≤ 14 → x.args.length = 2):=by unfold argsN at p3;split at p3 <;> first | (exfalso;omega) | (split at p3 <;> first | (refine ⟨?_,fun _ => ?_,fun _ => ?_⟩ <;> omega) | (split at p3 <;> (refine ⟨?_,fun _ => ?_,fun _ => ?_⟩ <;> omega)))
      clear hF hfo' hki hRow p3
      have HON:=Lib.hid (And.intro hon (And.intro hnx hty))
      clear hon hnx hty p1 p2 hwt
      go_wp2_with (at_lookup;refine wpList_lookup_Is _ rfl _ _ 205 rfl 3 219 (Maps.int_keyed Tryz.underlying3) Tryz.underlying205 (Tryz.zeroRule _) kb 11 F rfl HG.out.1 _ _ rfl HG.out.2.2 ?_;rw [HG.out.2.1];simp only [Option.getD_none,Option.isSome_none])
      obtain ⟨hon,hnx,hty⟩:=HON.out
      rcases hon with h17 | h14
      ·have h3:ts.length = 3:=by rw [htl];exact hnx.2.1 h17
       clear hnx
       match ts,h3 with
       | [a,b,c0],_ =>
        obtain ⟨g',rfl,hg1,hg2,hgc⟩:=row_cell hown.out (k:=0) (t:=a) rfl
        have hc0:=hgc 0 a rfl
        have hc1:=hgc 1 b rfl
        have hc2:=hgc 2 c0 rfl
        have hx3:x.args.length = 3:=htl.symm
        rw [tyApp_if h17] at hty
        have h17':(x.op == 17) = true:=by simpa using h17
        have h17'':(x.op != 17) = false:=by simpa using h17
        clear hown h17 hgc htl
        obtain ⟨bA,hA⟩:∃ bA,(a == 2) = bA:=⟨_,rfl⟩
        obtain ⟨bB,hB⟩:∃ bB,(b == c0) = bB:=⟨_,rfl⟩
        rw [hA,hB] at hty
        cases bA
        ·have HTY:=Lib.hid hty
         clear hty
         go_quiet (fail)
         go_wp2_with fail
         go_quiet (fail)
         go_wp2_with fail
         go_ret2
         rw [HTY.out]
         exact ⟨rfl,bel⟩
        ·cases bB
         ·have HTY:=Lib.hid hty
          clear hty
          go_quiet (fail)
          go_wp2_with fail
          go_quiet (fail)
          go_wp2_with fail
          go_ret2
          rw [HTY.out]
          exact ⟨rfl,bel⟩
         ·have HTY:=Lib.hid hty
          clear hty
          go_quiet (fail)
          go_wp2_with fail
          go_ret2
          rw [HTY.out]
          exact ⟨rfl,bel⟩
      ·have h3:ts.length = 2:=by rw [htl];exact hnx.2.2 h14
       clear hnx
       match ts,h3 with
       | [a,b],_ =>
        obtain ⟨g',rfl,hg1,hg2,hgc⟩:=row_cell hown.out (k:=0) (t:=a) rfl
        have hc0:=hgc 0 a rfl
        have hc1:=hgc 1 b rfl
        have hx3:x.args.length = 2:=htl.symm
        rw [tyApp_cmp h14] at hty
        have h17':(x.op == 17) = false:=by simp;omega
        have h17'':(x.op != 17) = true:=by simp;omega
        clear hown hgc htl h14
        obtain ⟨bA,hA⟩:∃ bA,(a == b) = bA:=⟨_,rfl⟩
        rw [hA] at hty
        cases bA
        ·have HTY:=Lib.hid hty
         clear hty
         go_quiet (fail)
         go_wp2_with fail
         go_quiet (fail)
         go_wp2_with fail
         go_ret2
         rw [HTY.out]
         exact ⟨rfl,bel⟩
        ·have HTY:=Lib.hid hty
         clear hty
         go_quiet (fail)
         go_wp2_with fail
         go_quiet (fail)
         go_wp2_with fail
         go_ret2
         rw [HTY.out]
         exact ⟨rfl,bel⟩
end Go.Proofs.YtldbpmlgbbomcaaGreatDoor
/- The walk of the reference typeOf. -/
namespace Go.Proofs.YtldbpmlgbbomcaaGreatDoor
open Go.RowKit

theorem wantOf_ops {op wt own:Int} {m:Nat} (h:wantOf op = some (wt,m,own)):(op = 3 ∧ wt = 1 ∧ own = 1) ∨ (op = 4 ∧ wt = 2 ∧ own = 2) ∨ (op = 5 ∧ wt = 1 ∧ own = 1) ∨ (op = 6 ∧ wt = 1 ∧ own = 1) ∨ (op = 7 ∧ wt = 1 ∧ own = 1) ∨ (op = 8 ∧ wt = 1 ∧ own = 1) ∨ (op = 9 ∧ wt = 1 ∧ own = 1) ∨
  (op = 10 ∧ wt = 3 ∧ own = 3) ∨ (op = 15 ∧ wt = 2 ∧ own = 2) ∨ (op = 16 ∧ wt = 2 ∧ own = 2) ∨ (op = 18 ∧ wt = 3 ∧ own = 1):=by
 unfold wantOf at h
 split at h
 ·cases h;simp [*]
 split at h
 ·cases h;simp [*]
 split at h
 ·cases h;simp [*]
 split at h
 ·rename_i h4;cases h;rcases h4 with h4 | h4 | h4 | h4 | h4 <;> subst h4 <;> simp
 split at h
 ·cases h;simp [*]
 split at h
 ·rename_i h6;cases h;rcases h6 with h6 | h6 <;> subst h6 <;> simp
 ·cases h
theorem tyApp_want {op wt own:Int} {m:Nat} {ts:List Int} (h:wantOf op = some (wt,m,own)):tyApp op ts = if ts.all (· == wt) then (own,0) else (0,9):=by
 unfold tyApp;rw [h]
theorem fieldTy_hit {l:List Fld} {name:ByteArray} {k:Nat} {f:Fld} (h0:(l.take k).any (hasName name) = false) (h1:l[k]? = some f) (h2:hasName name f = true):fieldTy l name = some f.type:=by
 have hk:k < l.length:=(List.getElem?_eq_some_iff.1 h1).1
 have hf:l[k] = f:=by rw [List.getElem?_eq_getElem hk] at h1;exact Option.some.inj h1
 have e1:l = l.take k ++ f :: l.drop (k + 1):=by rw [← hf,← List.drop_eq_getElem_cons hk,List.take_append_drop]
 unfold fieldTy
 rw [e1,List.find?_append,List.find?_eq_none.2 (fun r hr hh => by
  have:(l.take k).any (hasName name) = true:=List.any_eq_true.2 ⟨r,hr,hh⟩
  rw [h0] at this;cases this)]
 simp [h2]
theorem fieldTy_none {l:List Fld} {name:ByteArray} (h0:l.any (hasName name) = false):fieldTy l name = none:=by
 unfold fieldTy
 rw [List.find?_eq_none.2 (fun r hr hh => by
  have:l.any (hasName name) = true:=List.any_eq_true.2 ⟨r,hr,hh⟩
  rw [h0] at this;cases this)]
 rfl

set_option maxRecDepth 100000 in
set_option maxHeartbeats 2000000 in
theorem ref_typeOf_ref (l:List Fld) (L:Option Addr) (n d:Nat) (x:Exp) (A:Option Addr) (c:Nat) (w:World) (hn:inB 112 n) (hl:Sl w (old w) 9 (RFld w (old w)) L n l) (ho:x.op = 2) :
  Calls Tryz.prog 176 #[.agg #[.int .i64 x.op,.int .i64 x.v.k,.int .i64 x.v.n,.string x.v.s,.string x.name,.slice A x.args.length c],.slice L n d] w (RetP w (tyX l x)):=by
 have hLL:=hl.len
 have HH:=Lib.hid hl
 unfold inB at hn
 clear hl
 have hty:=tyX_ref l ho
 have HTY:=Lib.hid hty
 clear hty
 go_enter Tryz.func176,Tryz.ntmps176
 go_wp2_with fail
 go_loopw [28] (fun i wr => ∃ k:Nat,k ≤ n ∧ i = .int .i64 k ∧ Hid ((l.take k).any (hasName x.name) = false) ∧ wr.cell? ⟨w.heap.size,4,none⟩ = some (.string x.name) ∧ Below w.heap.size w wr ∧ w.heap.size + 1 ≤ wr.heap.size) (fun i _ => n - (intOf i).toNat)
 case atStart => exact ⟨0,by omega,rfl,Lib.hid (by simp),by go_simp,bel,by simp⟩
 case round =>
  obtain ⟨k,hk,rfl,hz,hnm,hbr,hsz⟩:=hrel
  have hlw:w.heap.size < wr.heap.size:=by omega
  by_cases hlt:k < n
  ·obtain ⟨b,o,f,X,C,hAe,hbl,hl,_,x0,x1,x2,x3,x4,x5,x6,x7,x8⟩:=Fld_at (HH.out.nowN keeps_Fld hbr) hlt
   subst hAe
   have hbl':b < wr.heap.size:=hbl
   have HO:=Lib.hid hl
   clear hl hbl
   cases hp:hasName x.name f
   ·have hp':(f.name.toList == x.name.toList) = false:=hp
    have HP:=Lib.hid hp
    clear hp
    go_wp2_with fail
    go_roundw
    case rel =>
     refine ⟨k + 1,by omega,by go_num,Lib.hid ?_,by go_simp,bel,by simp;omega⟩
     rw [List.take_add_one,HO.out,List.any_append,hz.out]
     simp [HP.out]
    case measure => simp [intOf];omega
   ·have hp':(f.name.toList == x.name.toList) = true:=hp
    have HP:=Lib.hid (fieldTy_hit hz.out HO.out hp)
    clear hp
    go_wp2_with fail
    go_ret2
    rw [HTY.out,HP.out]
    exact ⟨rfl,bel⟩
  ·have hkn:k = n:=by omega
   subst hkn
   have hh:=hz.out
   rw [List.take_of_length_le (by omega)] at hh
   have HP:=Lib.hid (fieldTy_none hh)
   clear hh
   go_wp2_with fail
   go_ret2
   rw [HTY.out,HP.out]
   exact ⟨rfl,hbr⟩
set_option maxRecDepth 100000 in
set_option maxHeartbeats 2000000 in
theorem ref_typeOf (l:List Fld) (L:Option Addr) (n d:Nat) (hn:inB 112 n) (N:Nat):∀ (x:Exp) (A:Option Addr) (c:Nat) (w:World),x.nodes ≤ N → prtN x = 0 →
  XRep w (old w) [.int .i64 x.op,.int .i64 x.v.k,.int .i64 x.v.n,.string x.v.s,.string x.name,.slice A x.args.length c] x → Sl w (old w) 9 (RFld w (old w)) L n l →
  Calls Tryz.prog 176 #[.agg #[.int .i64 x.op,.int .i64 x.v.k,.int .i64 x.v.n,.string x.v.s,.string x.name,.slice A x.args.length c],.slice L n d] w (RetP w (tyX l x)):=by
 induction N with
 | zero =>
  intro x A c w hN
  obtain ⟨op,v,nm,args⟩:=x
  simp [Exp.nodes] at hN
 | succ N ih =>
  intro x A c w hN hp hx hf
  have HI:=Lib.hid ih
  clear ih
  obtain ⟨i1,i2,i3,i4,i5,hsl,hch⟩:=hx.kids
  obtain ⟨p1,p2,p3,p4⟩:=prt_ok hp
  have HH:=Lib.hid (And.intro hsl (And.intro (fun i a h => by have:=hch i a h;omega:∀ (i:Nat) (a:Exp),x.args[i]? = some a → a.nodes ≤ N) (And.intro hf p4)))
  have hlen:x.args.length ≤ 1759218604416:=by unfold inB at i4;omega
  have HP3:=Lib.hid p3
  clear hsl hch hx hN i1 i2 i3 i4 i5 hf p4 hp p3
  rcases (by omega:x.op = 1 ∨ x.op = 2 ∨ (x.op ≠ 1 ∧ x.op ≠ 2)) with ho | ho | ⟨ho1,ho2⟩
  ·rw [tyX_const l ho]
   go_enter Tryz.func176,Tryz.ntmps176
   go_wp2_with fail
   go_ret2
   exact ⟨rfl,bel⟩
  ·exact ref_typeOf_ref l L n d x A c w hn HH.out.2.2.1 ho
  ·have ho1':(x.op == 1) = false:=by simpa using ho1
   have ho2':(x.op == 2) = false:=by simpa using ho2
   obtain ⟨j0,hj0,iz0,iz1,iz2⟩:=info_parts Tryz.infoInt
   go_enter Tryz.func176,Tryz.ntmps176
   go_wp2_with fail
   go_loopw [8,43] (fun out i wr => ∃ (k:Nat) (A':Option Addr) (c':Nat),k ≤ x.args.length ∧ i = .int .i64 k ∧ out = .slice A' k c' ∧ Hid (Own wr (w.heap.size + 1) 3 1 (fun _ _ => RN) (.slice A' k c') ((x.args.take k).map fun a => (tyX l a).1)) ∧ Hid (∀ a ∈ x.args.take k,(tyX l a).2 = 0) ∧ wr.cell? ⟨w.heap.size,0,none⟩ = some (.int .i64 x.op) ∧ Below w.heap.size w wr ∧ w.heap.size + 1 ≤ wr.heap.size) (fun _ i _ => x.args.length - (intOf i).toNat)
   case atStart => exact ⟨0,none,0,by omega,rfl,rfl,Lib.hid Own.nil,Lib.hid (by simp),by go_simp,bel,by simp⟩
   case round =>
    obtain ⟨k,A',c',hk,rfl,rfl,hown,hz,hop,hbr,hsz⟩:=hrel
    by_cases hlt:k < x.args.length
    ·obtain ⟨b,o,a,X,C,hAe,hbl,hl,hxa,x0,x1,x2,x3,x4,x5⟩:=Exp_at (HH.out.1.nowN keeps_Exp hbr) hlt
     subst hAe
     have hbl':b < wr.heap.size:=hbl
     have hia:=fun w h h' => HI.out a X C w (HH.out.2.1 k a hl) (HH.out.2.2.2 a (List.mem_of_getElem? hl)) h h'
     have hlk:((x.args.take k).map fun a => (tyX l a).1).length = k:=by rw [List.length_map,List.length_take];omega
     have HO:=Lib.hid (And.intro hxa (And.intro hl hlk))
     have hlw:w.heap.size < wr.heap.size:=by omega
     clear hxa hl hbl hlk
     by_cases hq:(tyX l a).2 = 0
     ·have HQ:=Lib.hid hq
      rw [show tyX l a = ((tyX l a).1,0) from Prod.ext rfl hq] at hia
      obtain ⟨t,ht⟩:∃ t,(tyX l a).1 = t:=⟨_,rfl⟩
      rw [ht] at hia
      have HT:=Lib.hid ht
      clear hq ht
      go_wp2_with (first
       | (go_at_call 176;refine (hia _ (HO.out.1.keep (old_keep bel)) ((HH.out.2.2.1.nowN keeps_Fld hbr).nowN keeps_Fld (Below.alloc (Below.refl _ wr) (Nat.le_refl _) _))).mono ?_;rintro e w3 ⟨rfl,hb3⟩;have hw3:Below wr.heap.size wr w3:=below_step bel hb3 (by simp);have hz3:wr.heap.size < w3.heap.size:=(by have:=hb3.size;simp at this;omega);dsimp only)
       | (at_builtin;refine wpList_append_Own (keeps_flat RN) rfl (.tmp 56) (.tmp 58) 101 rfl (w.heap.size + 1) 3 j0 _ 1 8 Tryz.underlying101 hj0 iz0 iz1 iz2 rfl (by decide) (.slice A' k c') ((x.args.take k).map fun a => (tyX l a).1) rfl (hown.out.keep (keeps_flat _) hw3) [.int .i64 t] 3 rfl _ rfl rfl rfl (by simp [Value.oneCell']) (by rw [HO.out.2.2];omega) (by rw [HO.out.2.2];unfold maxLen;omega) (by omega) t rfl ?_;intro g' cap w5 hown5 hb5 hz5 hk5 _;rw [HO.out.2.2] at hown5 ⊢))
      go_roundw
      case rel =>
       have hke:=hk5 w.heap.size (by omega) (fun e => by have:=(hown.out.lt _ e.symm).1;omega)
       have etk:((x.args.take k).map fun a => (tyX l a).1) ++ [t] = (x.args.take (k + 1)).map fun a => (tyX l a).1:=by rw [List.take_add_one,HO.out.2.1,List.map_append,← HT.out];rfl
       rw [etk] at hown5
       refine ⟨k + 1,some ⟨g',0,none⟩,cap,by omega,by go_num,rfl,Lib.hid hown5,Lib.hid ?_,?_,below_step (below_step hbr hw3 (by omega)) hb5 (by omega),by omega⟩
       ·rw [List.take_add_one,HO.out.2.1]
        intro b hb
        rcases List.mem_append.1 hb with hb | hb
        ·exact hz.out b hb
        ·simp at hb;subst hb;exact HQ.out
       ·exact (World.cell?_of_block (w:=w3) (a:=⟨w.heap.size,0,none⟩) hke).trans ((hw3.cell (p:=⟨w.heap.size,0,none⟩) hlw).trans hop)
      case measure => simp [intOf];omega
     ·have hE:=tyX_err l ho1 ho2 hz.out HO.out.2.1 hq
      rw [hE]
      have hq':((tyX l a).2 != 0) = true:=by simpa using hq
      obtain ⟨t,ht⟩:∃ t,(tyX l a).1 = t:=⟨_,rfl⟩
      obtain ⟨u,hu⟩:∃ u,(tyX l a).2 = u:=⟨_,rfl⟩
      rw [show tyX l a = (t,u) from Prod.ext ht hu] at hia
      rw [hu] at hq' ⊢
      clear ht hu hq hE
      go_wp2_with (go_at_call 176;refine (hia _ (HO.out.1.keep (old_keep bel)) ((HH.out.2.2.1.nowN keeps_Fld hbr).nowN keeps_Fld (Below.alloc (Below.refl _ wr) (Nat.le_refl _) _))).mono ?_;rintro e w3 ⟨rfl,hb3⟩;have hw3:Below wr.heap.size wr w3:=below_step bel hb3 (by simp);have hz3:wr.heap.size < w3.heap.size:=(by have:=hb3.size;simp at this;omega);dsimp only)
      go_ret2
      exact ⟨rfl,below_step hbr hw3 (by omega)⟩
    ·have hkn:k = x.args.length:=by omega
     have hlw:w.heap.size < wr.heap.size:=by omega
     subst hkn
     rw [List.take_length] at hown hz
     have hty:=tyX_all l ho1 ho2 hz.out
     obtain ⟨ts,hts⟩:∃ ts,(x.args.map fun a => (tyX l a).1) = ts:=⟨_,rfl⟩
     have htl:ts.length = x.args.length:=by rw [← hts,List.length_map]
     rw [hts] at hown hty
     clear hts hz
     cases hwt:wantOf x.op with
     | some q =>
      obtain ⟨wt,m,own⟩:=q
      rw [tyApp_want hwt] at hty
      have HTY:=Lib.hid hty
      have hops:=wantOf_ops hwt
      clear hty hwt p1 p2
      obtain ⟨A9,c9,e9,_,hs9⟩:=hown.out.sl (keeps_flat _)
      have e9':A' = A9 ∧ c' = c9:=by rw [htl] at e9;cases e9;exact ⟨rfl,rfl⟩
      obtain ⟨rfl,rfl⟩:=e9'
      rw [htl] at hs9
      have HS:=Lib.hid (And.intro hs9 htl)
      clear hown hs9 e9 htl
      rcases hops with ⟨ho,hw,hw'⟩ | ⟨ho,hw,hw'⟩ | ⟨ho,hw,hw'⟩ | ⟨ho,hw,hw'⟩ | ⟨ho,hw,hw'⟩ | ⟨ho,hw,hw'⟩ | ⟨ho,hw,hw'⟩ | ⟨ho,hw,hw'⟩ | ⟨ho,hw,hw'⟩ | ⟨ho,hw,hw'⟩ | ⟨ho,hw,hw'⟩
      all_goals
       go_wp2_with fail
       generalize hwq:wr = wq at *
       clear hwq
       go_loopw [105] (fun i wr => ∃ k:Nat,k ≤ x.args.length ∧ i = .int .i64 k ∧ Hid ((ts.take k).all (· == wt) = true) ∧ wr = wq) (fun i _ => x.args.length - (intOf i).toNat)
       case atStart => exact ⟨0,by omega,rfl,Lib.hid (by simp),by first | rfl | trivial⟩
       case round =>
        obtain ⟨k,hk,rfl,hz,hwe⟩:=hrel
        subst hwe
        by_cases hlt:k < x.args.length
        ·obtain ⟨b,o,t,cs,rfl,hbl,hl,hcs,_,hc⟩:=HS.out.1.at_ hlt
         have hc0:=hc 0 (by decide)
         rw [show cs = [.int .i64 t] from hcs,Nat.add_zero,Nat.mul_one] at hc0
         have hc1:wr.cell? ⟨b,o + k,none⟩ = some (.int .i64 t):=hc0
         have hbl':b < wr.heap.size:=hbl.2
         have HO:=Lib.hid hl
         clear hl hbl hc hc0 hcs
         obtain ⟨bt,hbt⟩:∃ bt,(t == wt) = bt:=⟨_,rfl⟩
         cases bt
         ·have hbt':(t != wt) = true:=by simp at hbt ⊢;exact hbt
          have hno:ts.all (· == wt) = false:=by
           rw [List.all_eq_false]
           exact ⟨t,List.mem_of_getElem? HO.out,by rw [hbt];simp⟩
          have HNO:=Lib.hid hno
          clear hno hbt
          go_wp2_with fail
          go_ret2
          rw [HTY.out,HNO.out]
          exact ⟨rfl,hbr⟩
         ·have hbt':(t != wt) = false:=by simp at hbt ⊢;exact hbt
          have HB:=Lib.hid hbt
          clear hbt
          go_wp2_with fail
          go_roundw
          case rel =>
           refine ⟨k + 1,by omega,by go_num,Lib.hid ?_,by first | rfl | trivial⟩
           rw [List.take_add_one,HO.out,List.all_append,hz.out]
           simp [HB.out]
          case measure => simp [intOf];omega
        ·have hkn:k = x.args.length:=by omega
         subst hkn
         have hall:=hz.out
         rw [List.take_of_length_le (by rw [HS.out.2];exact Nat.le_refl _)] at hall
         have HA:=Lib.hid hall
         clear hall hz
         go_wp2_with fail
         go_ret2
         rw [HTY.out,HA.out]
         subst hw'
         exact ⟨rfl,hbr⟩
     | none =>
      have p3:=HP3.out
      have hnx:(x.args.length = 1 ∨ x.args.length = 2 ∨ x.args.length = 3) ∧ (x.op = 17 → x.args.length = 3) ∧ (11 ≤ x.op ∧ x.op ≤ 14 → x.args.length = 2):=by unfold argsN at p3;split at p3 <;> first | (exfalso;omega) | (split at p3 <;> first | (refine ⟨?_,fun _ => ?_,fun _ => ?_⟩ <;> omega) | (split at p3 <;> (refine ⟨?_,fun _ => ?_,fun _ => ?_⟩ <;> omega)))
      have hon:=wantOf_none hwt (by omega) p2
      clear p1 p2 p3 hwt
      rcases hon with h17 | h14
      ·have h3:ts.length = 3:=by rw [htl];exact hnx.2.1 h17
       match ts,h3 with
       | [a,b,c0],_ =>
        obtain ⟨g',rfl,hg1,hg2,hgc⟩:=row_cell hown.out (k:=0) (t:=a) rfl
        have hc0:=hgc 0 a rfl
        have hc1:=hgc 1 b rfl
        have hc2:=hgc 2 c0 rfl
        rw [tyApp_if h17] at hty
        have HX:=Lib.hid (And.intro hty (htl.symm:x.args.length = 3))
        clear hown hgc htl hty hnx
        go_wp2_with fail
        have hx3:=HX.out.2
        have hty:=HX.out.1
        obtain ⟨bA,hA⟩:∃ bA,(a == 2) = bA:=⟨_,rfl⟩
        obtain ⟨bB,hB⟩:∃ bB,(b == c0) = bB:=⟨_,rfl⟩
        have hA':(a != 2) = !bA:=by rw [← hA];rfl
        have hB':(b != c0) = !bB:=by rw [← hB];rfl
        rw [hA,hB] at hty
        have HTY:=Lib.hid hty
        clear hty hA hB HX
        cases bA
        ·simp only [Bool.not_false] at hA'
         go_quiet (fail)
         go_wp2_with fail
         go_ret2
         rw [HTY.out]
         exact ⟨rfl,bel⟩
        ·simp only [Bool.not_true] at hA'
         cases bB
         all_goals
          simp only [Bool.not_false,Bool.not_true] at hB'
          go_quiet (fail)
          go_wp2_with fail
          go_ret2
          rw [HTY.out]
          exact ⟨rfl,bel⟩
      ·have h3:ts.length = 2:=by rw [htl];exact hnx.2.2 h14
       match ts,h3 with
       | [a,b],_ =>
        obtain ⟨g',rfl,hg1,hg2,hgc⟩:=row_cell hown.out (k:=0) (t:=a) rfl
        have hc0:=hgc 0 a rfl
        have hc1:=hgc 1 b rfl
        rw [tyApp_cmp h14] at hty
        have HX:=Lib.hid (And.intro hty (htl.symm:x.args.length = 2))
        clear hown hgc htl hty hnx
        rcases (by omega:x.op = 11 ∨ x.op = 12 ∨ x.op = 13 ∨ x.op = 14) with h11 | h11 | h11 | h11
        all_goals
         clear h14
         go_wp2_with fail
         have hx3:=HX.out.2
         have hty:=HX.out.1
         obtain ⟨bA,hA⟩:∃ bA,(a == b) = bA:=⟨_,rfl⟩
         have hA':(a != b) = !bA:=by rw [← hA];rfl
         rw [hA] at hty
         have HTY:=Lib.hid hty
         clear hty hA
         cases bA
         all_goals
          simp only [Bool.not_false,Bool.not_true] at hA'
          go_quiet (fail)
          go_wp2_with fail
          go_ret2
          rw [HTY.out]
          exact ⟨rfl,bel⟩
end Go.Proofs.YtldbpmlgbbomcaaGreatDoor
/- typing.Of, typing.Fits and the references TypeOf, TypeFits. -/
namespace Go.Proofs.YtldbpmlgbbomcaaGreatDoor
open Go.RowKit

def tyRes (l:List Fld) (x:Exp):Int × Int:=if exprErr x ≠ 0 then (0,exprErr x) else tyX l x
def fitErr (l:List Fld) (x:Exp) (want:Int):Int:=if (tyRes l x).2 ≠ 0 then (tyRes l x).2 else if (tyRes l x).1 ≠ want then 9 else 0
theorem prt_of_expr {x:Exp} (h:exprErr x = 0):prtN x = 0:=by
 unfold exprErr at h
 split at h
 ·cases h
 split at h
 ·cases h
 ·exact h

set_option maxRecDepth 100000 in
set_option maxHeartbeats 2000000 in
theorem typing_Of (l:List Fld) (L:Option Addr) (n d:Nat) (x:Exp) (A:Option Addr) (c:Nat) (w:World) (hn:inB 112 n)
  (hx:XRep w (old w) [.int .i64 x.op,.int .i64 x.v.k,.int .i64 x.v.n,.string x.v.s,.string x.name,.slice A x.args.length c] x) (hl:Sl w (old w) 9 (RFld w (old w)) L n l) :
  Calls Tryz.prog 146 #[.agg #[.int .i64 x.op,.int .i64 x.v.k,.int .i64 x.v.n,.string x.v.s,.string x.name,.slice A x.args.length c],.slice L n d] w (RetP w (tyRes l x)):=by
 have HX:=Lib.hid (And.intro hx hl)
 clear hx hl
 have hck:=fun w h => expr_Check x A c w h
 by_cases he:exprErr x = 0
 ·have hp:=prt_of_expr he
  have hr:tyRes l x = tyX l x:=by unfold tyRes;rw [if_neg (by simpa using he)]
  rw [hr]
  simp only [he] at hck
  have HP:=Lib.hid hp
  clear he hp hr
  go_enter Tryz.func146,Tryz.ntmps146
  go_wp2_with (go_at_call 19;refine (hck _ (HX.out.1.keep (old_keep bel))).mono ?_;rintro e w1 ⟨rfl,hb1⟩;obtain ⟨hc1,hf1⟩:=bcell hb1;(try simp only [bqh,bqc,bqf] at hc1 hf1);have hz1:=hb1.size;(try simp at hz1);(try have hy1:=nl1 hz1);(try have hx1:=nl2 hy1);refine szz w1 w ?_;intros)
  have hB1:Below w.heap.size w w1:=bel
  have hB1d:Below w.heap.size w w1.drew:=bel
  have hl1:w.heap.size < w1.heap.size:=by have:=hb1.size;simp at this;omega
  have hr1:w1.cell? ⟨w.heap.size,0,none⟩ = some (.int .i64 x.op) ∧ w1.cell? ⟨w.heap.size,1,none⟩ = some (.int .i64 x.v.k) ∧ w1.cell? ⟨w.heap.size,2,none⟩ = some (.int .i64 x.v.n) ∧ w1.cell? ⟨w.heap.size,3,none⟩ = some (.string x.v.s) ∧ w1.cell? ⟨w.heap.size,4,none⟩ = some (.string x.name) ∧ w1.cell? ⟨w.heap.size,5,none⟩ = some (.slice A x.args.length c):=⟨by go_simp,by go_simp,by go_simp,by go_simp,by go_simp,by go_simp⟩
  have HR1:=Lib.hid hr1
  clear hr1
  go_region_law (first
   | (go_simp;go_at_call 172;refine (typing_types L n d l _ hn (HX.out.2.nowN keeps_Fld bel)).mono ?_;rintro e w2 ⟨rfl,hM2,hb2⟩;obtain ⟨a0,a1,a2,a3,a4,a5⟩:=rows6c (w:=w1.drew) HR1.out hb2)
   | (go_simp;go_at_call 173;refine (typing_rules _).mono ?_;rintro e w3 ⟨rfl,hR3,hb3⟩;obtain ⟨b0,b1,b2,b3,b4,b5⟩:=rows6c (rows6c (w:=w1.drew) HR1.out hb2) hb3)
   | (go_simp;go_at_call 171;refine (typing_of l w1.heap.size (w2.heap.size + 3) w2.heap.size n _ x A c _ (Nat.le_refl _) HP.out (HX.out.1.keep (old_keep (below_step (below_step hB1d hb2 hB1.size) hb3 (Nat.le_trans hB1.size hb2.size)))) (show MapIs w3 Tryz.prog 9 w1.heap.size n _ from hM2.below hb3 hM2.lt) hR3).mono ?_;rintro e w4 ⟨rfl,hb4⟩;dsimp only))
  all_goals
   go_wp2_with fail
   go_ret2
   exact ⟨rfl,below_step (below_step (below_step hB1d hb2 hB1.size) hb3 (Nat.le_trans hB1.size hb2.size)) hb4 (Nat.le_trans hB1.size (Nat.le_trans hb2.size hb3.size))⟩
 ·have he':(exprErr x != 0) = true:=by simpa using he
  have hr:tyRes l x = (0,exprErr x):=by unfold tyRes;rw [if_pos he]
  rw [hr]
  generalize exprErr x = ex at hck he' ⊢
  clear he hr
  go_enter Tryz.func146,Tryz.ntmps146
  go_wp2_with (go_at_call 19;refine (hck _ (HX.out.1.keep (old_keep bel))).mono ?_;rintro e w1 ⟨rfl,hb1⟩;obtain ⟨hc1,hf1⟩:=bcell hb1;(try simp only [bqh,bqc,bqf] at hc1 hf1);have hz1:=hb1.size;(try simp at hz1);(try have hy1:=nl1 hz1);(try have hx1:=nl2 hy1);refine szz w1 w ?_;intros)
  go_ret2
  exact ⟨rfl,bel⟩

set_option maxRecDepth 100000 in
set_option maxHeartbeats 2000000 in
theorem ref_TypeOf (l:List Fld) (L:Option Addr) (n d:Nat) (x:Exp) (A:Option Addr) (c:Nat) (w:World) (hn:inB 112 n)
  (hx:XRep w (old w) [.int .i64 x.op,.int .i64 x.v.k,.int .i64 x.v.n,.string x.v.s,.string x.name,.slice A x.args.length c] x) (hl:Sl w (old w) 9 (RFld w (old w)) L n l) :
  Calls Tryz.prog 151 #[.agg #[.int .i64 x.op,.int .i64 x.v.k,.int .i64 x.v.n,.string x.v.s,.string x.name,.slice A x.args.length c],.slice L n d] w (RetP w (tyRes l x)):=by
 have HX:=Lib.hid (And.intro hx hl)
 clear hx hl
 have hck:=fun w h => ref_ExprFault x A c w h
 by_cases he:exprErr x = 0
 ·have hp:=prt_of_expr he
  have hr:tyRes l x = tyX l x:=by unfold tyRes;rw [if_neg (by simpa using he)]
  rw [hr]
  simp only [he] at hck
  have HP:=Lib.hid hp
  clear he hp hr
  go_enter Tryz.func151,Tryz.ntmps151
  go_wp2_with (first | (go_at_call 22;refine (hck _ (HX.out.1.keep (old_keep bel))).mono ?_;rintro e w1 ⟨rfl,hb1⟩;obtain ⟨hc1,hf1⟩:=bcell hb1;(try simp only [bqh,bqc,bqf] at hc1 hf1);have hz1:=hb1.size;(try simp at hz1);(try have hy1:=nl1 hz1);(try have hx1:=nl2 hy1);refine szz w1 w ?_;intros) | (go_at_call 176;refine (ref_typeOf l L n d hn _ x A c _ (Nat.le_refl _) HP.out (HX.out.1.keep (old_keep bel)) (HX.out.2.nowN keeps_Fld bel)).mono ?_;rintro e w4 ⟨rfl,hb4⟩;dsimp only))
  go_ret2
  exact ⟨rfl,bel⟩
 ·have he':(exprErr x != 0) = true:=by simpa using he
  have hr:tyRes l x = (0,exprErr x):=by unfold tyRes;rw [if_pos he]
  rw [hr]
  generalize exprErr x = ex at hck he' ⊢
  clear he hr
  go_enter Tryz.func151,Tryz.ntmps151
  go_wp2_with (go_at_call 22;refine (hck _ (HX.out.1.keep (old_keep bel))).mono ?_;rintro e w1 ⟨rfl,hb1⟩;obtain ⟨hc1,hf1⟩:=bcell hb1;(try simp only [bqh,bqc,bqf] at hc1 hf1);have hz1:=hb1.size;(try simp at hz1);(try have hy1:=nl1 hz1);(try have hx1:=nl2 hy1);refine szz w1 w ?_;intros)
  go_ret2
  exact ⟨rfl,bel⟩
theorem fitErr_cases (l:List Fld) (x:Exp) (want:Int) (t e:Int) (h:tyRes l x = (t,e)):((e != 0) = true ∧ (e == 0) = false ∧ fitErr l x want = e) ∨ (e = 0 ∧ (t != want) = true ∧ fitErr l x want = 9) ∨ (e = 0 ∧ (t != want) = false ∧ fitErr l x want = 0):=by
 unfold fitErr
 rw [h]
 by_cases h1:e = 0
 ·by_cases h2:t = want <;> simp [h1,h2]
 ·simp [h1]
set_option maxRecDepth 100000 in
set_option maxHeartbeats 2000000 in
theorem typing_Fits (l:List Fld) (L:Option Addr) (n d:Nat) (x:Exp) (A:Option Addr) (c:Nat) (want:Int) (w:World) (hn:inB 112 n)
  (hx:XRep w (old w) [.int .i64 x.op,.int .i64 x.v.k,.int .i64 x.v.n,.string x.v.s,.string x.name,.slice A x.args.length c] x) (hl:Sl w (old w) 9 (RFld w (old w)) L n l) :
  Calls Tryz.prog 105 #[.agg #[.int .i64 x.op,.int .i64 x.v.k,.int .i64 x.v.n,.string x.v.s,.string x.name,.slice A x.args.length c],.slice L n d,.int .i64 want] w (RetI w (fitErr l x want)):=by
 have HX:=Lib.hid (And.intro hx hl)
 clear hx hl
 have hof:=fun w h h' => typing_Of l L n d x A c w hn h h'
 obtain ⟨⟨t,e⟩,hr⟩:∃ r,tyRes l x = r:=⟨_,rfl⟩
 rw [hr] at hof
 rcases fitErr_cases l x want t e hr with ⟨z1,z2,ze⟩ | ⟨rfl,z2,ze⟩ | ⟨rfl,z2,ze⟩
 all_goals
  rw [ze]
  clear ze hr
  go_enter Tryz.func105,Tryz.ntmps105
  go_wp2_with (go_at_call 146;refine (hof _ (HX.out.1.keep (old_keep bel)) (HX.out.2.nowN keeps_Fld bel)).mono ?_;rintro e w1 ⟨rfl,hb1⟩;obtain ⟨hc1,hf1⟩:=bcell hb1;(try simp only [bqh,bqc,bqf] at hc1 hf1);have hz1:=hb1.size;(try simp at hz1);(try have hy1:=nl1 hz1);(try have hx1:=nl2 hy1);refine szz w1 w ?_;intros;dsimp only)
  go_ret
  exact ⟨rfl,bel⟩
set_option maxRecDepth 100000 in
set_option maxHeartbeats 2000000 in
theorem ref_TypeFits (l:List Fld) (L:Option Addr) (n d:Nat) (x:Exp) (A:Option Addr) (c:Nat) (want:Int) (w:World) (hn:inB 112 n)
  (hx:XRep w (old w) [.int .i64 x.op,.int .i64 x.v.k,.int .i64 x.v.n,.string x.v.s,.string x.name,.slice A x.args.length c] x) (hl:Sl w (old w) 9 (RFld w (old w)) L n l) :
  Calls Tryz.prog 114 #[.agg #[.int .i64 x.op,.int .i64 x.v.k,.int .i64 x.v.n,.string x.v.s,.string x.name,.slice A x.args.length c],.slice L n d,.int .i64 want] w (RetI w (fitErr l x want)):=by
 have HX:=Lib.hid (And.intro hx hl)
 clear hx hl
 have hof:=fun w h h' => ref_TypeOf l L n d x A c w hn h h'
 obtain ⟨⟨t,e⟩,hr⟩:∃ r,tyRes l x = r:=⟨_,rfl⟩
 rw [hr] at hof
 rcases fitErr_cases l x want t e hr with ⟨z1,z2,ze⟩ | ⟨rfl,z2,ze⟩ | ⟨rfl,z2,ze⟩
 all_goals
  rw [ze]
  clear ze hr
  go_enter Tryz.func114,Tryz.ntmps114
  go_wp2_with (go_at_call 151;refine (hof _ (HX.out.1.keep (old_keep bel)) (HX.out.2.nowN keeps_Fld bel)).mono ?_;rintro e w1 ⟨rfl,hb1⟩;obtain ⟨hc1,hf1⟩:=bcell hb1;(try simp only [bqh,bqc,bqf] at hc1 hf1);have hz1:=hb1.size;(try simp at hz1);(try have hy1:=nl1 hz1);(try have hx1:=nl2 hy1);refine szz w1 w ?_;intros;dsimp only)
  go_ret
  exact ⟨rfl,bel⟩
end Go.Proofs.YtldbpmlgbbomcaaGreatDoor
