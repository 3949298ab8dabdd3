/- page.Check and the reference PagesFault. -/
import Derived.Test.YtldbpmlgbbomcaaGreatDoorFCk
import Derived.Test.YtldbpmlgbbomcaaGreatDoorPag2
import Derived.Test.YtldbpmlgbbomcaaGreatDoorTypes
namespace Go.Proofs.YtldbpmlgbbomcaaGreatDoor
open Go.RowKit

theorem nodup_len {α:Type} [BEq α] [LawfulBEq α]:∀ (l m:List α),l.Nodup → (∀ x ∈ l,x ∈ m) → l.length ≤ m.length
 | [],m,_,_ => Nat.zero_le _
 | a :: l,m,hn,hs => by
  have ha:a ∈ m:=hs a (.head _)
  have hn':=List.nodup_cons.1 hn
  have h1:=nodup_len l (m.erase a) hn'.2 (fun x hx => (List.mem_erase_of_ne (fun e => hn'.1 (by rw [← e];exact hx))).2 (hs x (.tail _ hx)))
  rw [List.length_erase_of_mem ha] at h1
  have:=List.length_pos_of_mem ha
  simp only [List.length_cons]
  omega
def Met (lf:List Fld) (met:List ByteArray):Prop:=(met.map ByteArray.toList).Nodup ∧ ∀ s ∈ met,lf.any (hasName s) = true
theorem Met.len {lf:List Fld} {met:List ByteArray} (h:Met lf met):met.length ≤ lf.length:=by
 have h1:=nodup_len (met.map ByteArray.toList) (lf.map fun f => f.name.toList) h.1 (fun x hx => by
  obtain ⟨s,hs,rfl⟩:=List.mem_map.1 hx
  obtain ⟨f,hf,hfs⟩:=List.any_eq_true.1 (h.2 s hs)
  refine List.mem_map.2 ⟨f,hf,?_⟩
  simpa [hasName] using hfs)
 simpa using h1
theorem Met.snoc {lf:List Fld} {met:List ByteArray} {s:ByteArray} (h:Met lf met) (h1:lf.any (hasName s) = true) (h2:met.any (isStr s) = false):Met lf (met ++ [s]):=by
 refine ⟨?_,fun t ht => ?_⟩
 ·rw [List.map_append,List.nodup_append]
  refine ⟨h.1,by simp,fun a ha b hb => ?_⟩
  obtain ⟨t,ht,rfl⟩:=List.mem_map.1 ha
  simp at hb
  subst hb
  have:=List.any_eq_false.1 h2 t ht
  intro e
  apply this
  simp [isStr,e]
 ·rcases List.mem_append.1 ht with ht | ht
  ·exact h.2 t ht
  ·simp at ht;subst ht;exact h1
def ne (lf:List Fld) (met fs:List ByteArray) (j:Nat):Int:=match fs[j]? with
 | some s => if lf.any (hasName s) then (if (met ++ fs.take j).any (isStr s) then 6 else 0) else 5
 | none => 0
theorem ne_some {lf:List Fld} {met fs:List ByteArray} {j:Nat} {s:ByteArray} (h:fs[j]? = some s):(lf.any (hasName s) = false ∧ ne lf met fs j = 5) ∨ (lf.any (hasName s) = true ∧ (met ++ fs.take j).any (isStr s) = true ∧ ne lf met fs j = 6) ∨ (lf.any (hasName s) = true ∧ (met ++ fs.take j).any (isStr s) = false ∧ ne lf met fs j = 0):=by
 have e:ne lf met fs j = if lf.any (hasName s) then (if (met ++ fs.take j).any (isStr s) then 6 else 0) else 5:=by unfold ne;rw [h]
 rw [e]
 cases h1:lf.any (hasName s)
 ·exact .inl ⟨rfl,rfl⟩
 ·cases h2:(met ++ fs.take j).any (isStr s)
  ·exact .inr (.inr ⟨rfl,rfl,rfl⟩)
  ·exact .inr (.inl ⟨rfl,rfl,rfl⟩)
def metOf (lp:List Pag) (k:Nat):List ByteArray:=(lp.take k).flatMap (·.fields)
def pe (lp:List Pag) (lf:List Fld) (k:Nat):Int:=match lp[k]? with
 | some p => if nameCheck p.name ≠ 0 then nameCheck p.name else if (lp.take k).any (hasPage p.name) then 6
   else if firstErr (ne lf (metOf lp k) p.fields) p.fields.length ≠ 0 then firstErr (ne lf (metOf lp k) p.fields) p.fields.length
   else if bareB p.skip.op p.skip.v p.skip.name p.skip.args.length then 0 else fitErr lf p.skip 2
 | none => 0
def pagesErr (lp:List Pag) (lf:List Fld):Int:=if lp.length < 1 ∨ 6 < lp.length then 1 else firstErr (pe lp lf) lp.length
section
variable {lp:List Pag} {lf:List Fld} {k:Nat} {p:Pag}
theorem pe_eq (h:lp[k]? = some p):pe lp lf k = if nameCheck p.name ≠ 0 then nameCheck p.name else if (lp.take k).any (hasPage p.name) then 6
   else if firstErr (ne lf (metOf lp k) p.fields) p.fields.length ≠ 0 then firstErr (ne lf (metOf lp k) p.fields) p.fields.length
   else if bareB p.skip.op p.skip.v p.skip.name p.skip.args.length then 0 else fitErr lf p.skip 2:=by unfold pe;rw [h]
theorem pe_A (h:lp[k]? = some p) (h1:nameCheck p.name ≠ 0):pe lp lf k = nameCheck p.name:=by rw [pe_eq h,if_pos h1]
theorem pe_B (h:lp[k]? = some p) (h1:nameCheck p.name = 0) (h2:(lp.take k).any (hasPage p.name) = true):pe lp lf k = 6:=by rw [pe_eq h,if_neg (by simpa using h1),if_pos h2]
theorem pe_C (h:lp[k]? = some p) (h1:nameCheck p.name = 0) (h2:(lp.take k).any (hasPage p.name) = false) {j:Nat} (h3:firstErr (ne lf (metOf lp k) p.fields) j = 0) (h4:ne lf (metOf lp k) p.fields j ≠ 0) (h5:j < p.fields.length):pe lp lf k = ne lf (metOf lp k) p.fields j:=by
 rw [pe_eq h,if_neg (by simpa using h1),if_neg (by rw [h2];decide),firstErr_hit h3 h4 _ h5,if_pos h4]
theorem pe_D (h:lp[k]? = some p) (h1:nameCheck p.name = 0) (h2:(lp.take k).any (hasPage p.name) = false) (h3:firstErr (ne lf (metOf lp k) p.fields) p.fields.length = 0):pe lp lf k = if bareB p.skip.op p.skip.v p.skip.name p.skip.args.length then 0 else fitErr lf p.skip 2:=by
 rw [pe_eq h,if_neg (by simpa using h1),if_neg (by rw [h2];decide),if_neg (by simpa using h3)]
theorem pagesErr_hit (h0:¬ (lp.length < 1 ∨ 6 < lp.length)) (h:firstErr (pe lp lf) k = 0) (hk:pe lp lf k ≠ 0) (hl:k < lp.length):pagesErr lp lf = pe lp lf k:=by
 unfold pagesErr;rw [if_neg h0,firstErr_hit h hk _ hl]
theorem pagesErr_end (h0:¬ (lp.length < 1 ∨ 6 < lp.length)) (h:firstErr (pe lp lf) lp.length = 0):pagesErr lp lf = 0:=by
 unfold pagesErr;rw [if_neg h0,h]
theorem metOf_next (h:lp[k]? = some p):metOf lp (k + 1) = metOf lp k ++ p.fields:=by
 unfold metOf;rw [List.take_add_one,h,List.flatMap_append];simp
end
theorem own_strs {w:World} {base:Nat} {A:Option Addr} {n c:Nat} {l:List ByteArray} (h:Own w base 9 1 (fun _ _ => RStr) (.slice A n c) l) (hl:l.length = n):Sl w (old w) 1 RStr A n l:=by
 obtain ⟨A',c',e,_,hs⟩:=h.sl (keeps_flat _)
 cases e
 exact hs.mono (fun b hb => hb.2)

set_option maxRecDepth 100000 in
set_option maxHeartbeats 4000000 in
theorem page_Check (lp:List Pag) (A:Option Addr) (n c:Nat) (lf:List Fld) (L:Option Addr) (m d:Nat) (w:World) (hn0:inL n) (hnc:n ≤ c) (hm:inB 112 m) (hp:Sl w (old w) 8 (RPag w (old w)) A n lp) (hl:Sl w (old w) 9 (RFld w (old w)) L m lf) :
  Calls Tryz.prog 54 #[.slice A n c,.slice L m d] w (RetI w (pagesErr lp lf)):=by
 have hn:n ≤ 140737488351232:=hn0
 have hml:m ≤ 1256584717422:=by unfold inB at hm;omega
 have hpl:=hp.len
 have hfl:=hl.len
 have HH:=Lib.hid (And.intro hp (And.intro hl (And.intro hpl (And.intro hfl hm))))
 obtain ⟨k0,hk0,sz0,sz1,sz2⟩:=info_parts Tryz.infoStr'
 clear hp hl hm hfl
 by_cases hsz:n < 1 ∨ 6 < n
 ·have hr:pagesErr lp lf = 1:=by unfold pagesErr;rw [if_pos (by rw [hpl];exact hsz)]
  rw [hr]
  clear hr hpl
  rcases hsz with hs1 | hs1
  ·have hn0':n = 0:=by omega
   subst hn0'
   go_enter Tryz.func54,Tryz.ntmps54
   go_wp2_with fail
   go_ret
   exact ⟨rfl,bel⟩
  ·have hs2:(6:Int) < n:=by omega
   have hs3:¬ (n:Int) < 1:=by omega
   have hs4:((n:Int) == 0) = false:=by simp;omega
   go_enter Tryz.func54,Tryz.ntmps54
   go_wp2_with fail
   go_ret
   exact ⟨rfl,bel⟩
 ·have HSZ:=Lib.hid (show ¬ (lp.length < 1 ∨ 6 < lp.length) by rw [hpl];exact hsz)
  have hs2:¬ (6:Int) < n:=by omega
  have hs3:¬ (n:Int) < 1:=by omega
  have hs4:((n:Int) == 0) = false:=by simp;omega
  clear hpl hsz
  go_enter Tryz.func54,Tryz.ntmps54
  go_wp2_with fail
  go_loopw [5,26] (fun met i wr => ∃ (k:Nat) (A':Option Addr) (M c':Nat),k ≤ n ∧ i = .int .i64 k ∧ met = .slice A' M c' ∧ Hid (firstErr (pe lp lf) k = 0 ∧ Met lf (metOf lp k) ∧ (metOf lp k).length = M ∧ Own wr w.heap.size 9 1 (fun _ _ => RStr) (.slice A' M c') (metOf lp k)) ∧ Below w.heap.size w wr) (fun _ i _ => n - (intOf i).toNat)
  case atStart => exact ⟨0,none,0,0,by omega,rfl,rfl,Lib.hid ⟨rfl,⟨by simp [metOf],by simp [metOf]⟩,rfl,Own.nil⟩,Below.refl _ _⟩
  case round =>
   obtain ⟨k,A',M,c',hk,rfl,rfl,hz,hbr⟩:=hrel
   by_cases hlt:k < n
   ·generalize hwq:wr = wq at *
    clear hwq
    obtain ⟨b,o,p,Y,D,X,C,hAe,hbl,hlk,hrep,v0,v1,v2,v3,v4,v5,v6,v7⟩:=Pag_at HH.out.1 hlt
    subst hAe
    have hbl0:b < w.heap.size:=hbl
    have hbl':b < wq.heap.size:=Nat.lt_of_lt_of_le hbl0 hbr.size
    have x0:=(hbr.cell (p:=⟨b,o + k * 8,none⟩) hbl0).trans v0
    have x1:=(hbr.cell (p:=⟨b,o + k * 8 + 1,none⟩) hbl0).trans v1
    have x2:=(hbr.cell (p:=⟨b,o + k * 8 + 2,none⟩) hbl0).trans v2
    have x3:=(hbr.cell (p:=⟨b,o + k * 8 + 3,none⟩) hbl0).trans v3
    have x4:=(hbr.cell (p:=⟨b,o + k * 8 + 4,none⟩) hbl0).trans v4
    have x5:=(hbr.cell (p:=⟨b,o + k * 8 + 5,none⟩) hbl0).trans v5
    have x6:=(hbr.cell (p:=⟨b,o + k * 8 + 6,none⟩) hbl0).trans v6
    have x7:=(hbr.cell (p:=⟨b,o + k * 8 + 7,none⟩) hbl0).trans v7
    clear v0 v1 v2 v3 v4 v5 v6 v7
    obtain ⟨r1,r2,r3,r4,r5⟩:=hrep.open_
    have hnm:=inS_max r1
    have hln:=fun w => lex_Name p.name w hnm
    have HO:=Lib.hid (And.intro hlk (And.intro r4 (And.intro r5 r2)))
    have HR8:=Lib.hid (show ((wq.alloc (.cells #[.string p.name,.slice Y p.fields.length D,.int .i64 p.skip.op,.int .i64 p.skip.v.k,.int .i64 p.skip.v.n,.string p.skip.v.s,.string p.skip.name,.slice X p.skip.args.length C] 68)).cell? ⟨wq.heap.size,0,none⟩ = some (.string p.name) ∧ (wq.alloc (.cells #[.string p.name,.slice Y p.fields.length D,.int .i64 p.skip.op,.int .i64 p.skip.v.k,.int .i64 p.skip.v.n,.string p.skip.v.s,.string p.skip.name,.slice X p.skip.args.length C] 68)).cell? ⟨wq.heap.size,1,none⟩ = some (.slice Y p.fields.length D) ∧ (wq.alloc (.cells #[.string p.name,.slice Y p.fields.length D,.int .i64 p.skip.op,.int .i64 p.skip.v.k,.int .i64 p.skip.v.n,.string p.skip.v.s,.string p.skip.name,.slice X p.skip.args.length C] 68)).cell? ⟨wq.heap.size,2,none⟩ = some (.int .i64 p.skip.op) ∧ (wq.alloc (.cells #[.string p.name,.slice Y p.fields.length D,.int .i64 p.skip.op,.int .i64 p.skip.v.k,.int .i64 p.skip.v.n,.string p.skip.v.s,.string p.skip.name,.slice X p.skip.args.length C] 68)).cell? ⟨wq.heap.size,3,none⟩ = some (.int .i64 p.skip.v.k) ∧ (wq.alloc (.cells #[.string p.name,.slice Y p.fields.length D,.int .i64 p.skip.op,.int .i64 p.skip.v.k,.int .i64 p.skip.v.n,.string p.skip.v.s,.string p.skip.name,.slice X p.skip.args.length C] 68)).cell? ⟨wq.heap.size,4,none⟩ = some (.int .i64 p.skip.v.n) ∧ (wq.alloc (.cells #[.string p.name,.slice Y p.fields.length D,.int .i64 p.skip.op,.int .i64 p.skip.v.k,.int .i64 p.skip.v.n,.string p.skip.v.s,.string p.skip.name,.slice X p.skip.args.length C] 68)).cell? ⟨wq.heap.size,5,none⟩ = some (.string p.skip.v.s) ∧ (wq.alloc (.cells #[.string p.name,.slice Y p.fields.length D,.int .i64 p.skip.op,.int .i64 p.skip.v.k,.int .i64 p.skip.v.n,.string p.skip.v.s,.string p.skip.name,.slice X p.skip.args.length C] 68)).cell? ⟨wq.heap.size,6,none⟩ = some (.string p.skip.name) ∧ (wq.alloc (.cells #[.string p.name,.slice Y p.fields.length D,.int .i64 p.skip.op,.int .i64 p.skip.v.k,.int .i64 p.skip.v.n,.string p.skip.v.s,.string p.skip.name,.slice X p.skip.args.length C] 68)).cell? ⟨wq.heap.size,7,none⟩ = some (.slice X p.skip.args.length C)) from ⟨by go_simp,by go_simp,by go_simp,by go_simp,by go_simp,by go_simp,by go_simp,by go_simp⟩)
    have hBw0:Below w.heap.size w (wq.alloc (.cells #[.string p.name,.slice Y p.fields.length D,.int .i64 p.skip.op,.int .i64 p.skip.v.k,.int .i64 p.skip.v.n,.string p.skip.v.s,.string p.skip.name,.slice X p.skip.args.length C] 68)):=bel
    have hF1:p.fields.length ≤ 8796093021952:=by unfold inB at r2;omega
    have hS1:inL p.skip.args.length:=r5.kids.2.2.2.1.l (by decide)
    clear hrep hbl r1 r2 r3 r4 r5 hnm
    by_cases hq1:nameCheck p.name = 0
    ·simp only [hq1] at hln
     have hfi:=fun w h => page_Find (some ⟨b,o,none⟩) k c (lp.take k) p.name w (by unfold inL;omega) h
     have hkc:k ≤ c:=by omega
     have HTK:=Lib.hid (HH.out.1.take' (Nat.le_of_lt hlt))
     cases hq2:(lp.take k).any (hasPage p.name)
     ·simp only [hq2,Bool.false_eq_true,if_false] at hfi
      have HQ:=Lib.hid (And.intro hq1 hq2)
      clear hq1 hq2 hlk
      go_wp2_with (go_at_call 68;refine (hln _).mono ?_;rintro e w1 ⟨rfl,rfl⟩)
      have hB1:Below w.heap.size w (wq.alloc (.cells #[.string p.name,.slice Y p.fields.length D,.int .i64 p.skip.op,.int .i64 p.skip.v.k,.int .i64 p.skip.v.n,.string p.skip.v.s,.string p.skip.name,.slice X p.skip.args.length C] 68)).drew:=bel
      go_region_law (go_simp;go_at_call 102;refine (hfi _ (HTK.out.nowN keeps_Pag hB1)).mono ?_;rintro e w2 ⟨rfl,hb2⟩;dsimp only)
      all_goals
       have hbq:Below w.heap.size w w2:=below_step hB1 hb2 hB1.size
       have hzq:wq.heap.size + 1 ≤ w2.heap.size:=by have:=hb2.size;simp [heap_drew] at this;omega
       have hrow:=rows8c (w:=(wq.alloc (.cells #[.string p.name,.slice Y p.fields.length D,.int .i64 p.skip.op,.int .i64 p.skip.v.k,.int .i64 p.skip.v.n,.string p.skip.v.s,.string p.skip.name,.slice X p.skip.args.length C] 68)).drew) HR8.out hb2
       have hbqq:Below wq.heap.size wq w2:=below_step (bel:Below wq.heap.size wq (wq.alloc (.cells #[.string p.name,.slice Y p.fields.length D,.int .i64 p.skip.op,.int .i64 p.skip.v.k,.int .i64 p.skip.v.n,.string p.skip.v.s,.string p.skip.name,.slice X p.skip.args.length C] 68)).drew) hb2 (by simp [heap_drew])
       clear hb2
       obtain ⟨c0,c1,c2,c3,c4,c5,c6,c7⟩:=hrow
       go_wp2_with fail
       have HM:=Lib.hid (And.intro hz.out (And.intro (hz.out.2.2.2.keep (keeps_flat _) (show Below wq.heap.size wq w2 from hbqq)) hzq))
       clear hzq
       go_loopw [5,51] (fun met j wr => ∃ (q:Nat) (A2:Option Addr) (M2 c2:Nat),q ≤ p.fields.length ∧ j = .int .i64 q ∧ met = .slice A2 M2 c2 ∧ Hid (firstErr (ne lf (metOf lp k) p.fields) q = 0 ∧ Met lf (metOf lp k ++ p.fields.take q) ∧ (metOf lp k ++ p.fields.take q).length = M2 ∧ Own wr w.heap.size 9 1 (fun _ _ => RStr) (.slice A2 M2 c2) (metOf lp k ++ p.fields.take q) ∧ some wq.heap.size ≠ (Value.slice A2 M2 c2).ownBlock) ∧ (wr.cell? ⟨wq.heap.size,0,none⟩ = some (.string p.name) ∧ wr.cell? ⟨wq.heap.size,1,none⟩ = some (.slice Y p.fields.length D) ∧ wr.cell? ⟨wq.heap.size,2,none⟩ = some (.int .i64 p.skip.op) ∧ wr.cell? ⟨wq.heap.size,3,none⟩ = some (.int .i64 p.skip.v.k) ∧ wr.cell? ⟨wq.heap.size,4,none⟩ = some (.int .i64 p.skip.v.n) ∧ wr.cell? ⟨wq.heap.size,5,none⟩ = some (.string p.skip.v.s) ∧ wr.cell? ⟨wq.heap.size,6,none⟩ = some (.string p.skip.name) ∧ wr.cell? ⟨wq.heap.size,7,none⟩ = some (.slice X p.skip.args.length C)) ∧ Below w.heap.size w wr ∧ wq.heap.size + 1 ≤ wr.heap.size) (fun _ j _ => p.fields.length - (intOf j).toNat)
       case atStart =>
        refine ⟨0,A',M,c',by omega,rfl,rfl,Lib.hid ⟨rfl,?_,?_,?_,fun e => ?_⟩,⟨by assumption,by assumption,by assumption,by assumption,by assumption,by assumption,by assumption,by assumption⟩,hbq,HM.out.2.2⟩
        ·rw [List.take_zero,List.append_nil];exact hz.out.2.1
        ·rw [List.take_zero,List.append_nil];exact hz.out.2.2.1
        ·rw [List.take_zero,List.append_nil];exact HM.out.2.1
        ·have:=(hz.out.2.2.2.lt _ e.symm).2;omega
       case round =>
        obtain ⟨q,A2,M2,c2',hqk,rfl,rfl,hz2,⟨d0,d1,d2,d3,d4,d5,d6,d7⟩,hb3,hz3⟩:=hrel
        have hbw:Below w.heap.size w wr:=hb3
        have hM2:M2 ≤ 1256584717422:=by have h1:=hz2.out.2.1.len;have h2:=hz2.out.2.2.1;have h3:=HH.out.2.2.2.1;omega
        by_cases hlt2:q < p.fields.length
        ·obtain ⟨b2,o2,s,rfl,hb2l,hls,hins,hcs⟩:=Str_at (HO.out.2.1.now hbw) hlt2
         have hb2l':b2 < wr.heap.size:=hb2l
         have hff:=fun w h => field_Find L m d lf s w (Nat.le_trans hml (by decide)) h
         have hho:=fun w h => strs_Contains s A2 M2 c2' (metOf lp k ++ p.fields.take q) w (Nat.le_trans hM2 (by decide)) h
         have HS:=Lib.hid (And.intro (HH.out.2.1.nowN keeps_Fld hbw) (And.intro (own_strs hz2.out.2.2.2.1 hz2.out.2.2.1) hins))
         have HLS:=Lib.hid hls
         have hpc:=fun h4 => pe_C (lf:=lf) HO.out.1 HQ.out.1 HQ.out.2 hz2.out.1 h4 hlt2
         clear hb2l hins
         rcases ne_some (lf:=lf) (met:=metOf lp k) hls with ⟨e1,e2⟩ | ⟨e1,e2,e3⟩ | ⟨e1,e2,e3⟩
         ·have hv:=hpc (by rw [e2];decide)
          rw [e2] at hv
          have HR:=Lib.hid ((pagesErr_hit HSZ.out hz.out.1 (by rw [hv];decide) (by rw [HH.out.2.2.1];exact hlt)).trans hv)
          simp only [findRes,e1,Bool.false_eq_true,if_false] at hff
          clear e1 e2 hls hpc hv
          go_wp2_with (go_at_call 103;refine (hff _ (HS.out.1.nowN keeps_Fld bel)).mono ?_;rintro e w4 ⟨rfl,hb4⟩;dsimp only)
          go_ret
          rw [HR.out]
          exact ⟨rfl,bel⟩
         ·have hv:=hpc (by rw [e3];decide)
          rw [e3] at hv
          have HR:=Lib.hid ((pagesErr_hit HSZ.out hz.out.1 (by rw [hv];decide) (by rw [HH.out.2.2.1];exact hlt)).trans hv)
          simp only [findRes,e1,if_true] at hff
          rw [e2] at hho
          clear e1 e2 e3 hls hpc hv
          go_wp2_with (first | (go_at_call 103;refine (hff _ (HS.out.1.nowN keeps_Fld bel)).mono ?_;rintro e w4 ⟨rfl,hb4⟩;dsimp only) | (go_at_call 104;refine (hho _ (HS.out.2.1.now bel)).mono ?_;rintro e w5 ⟨rfl,hb5⟩))
          go_ret
          rw [HR.out]
          exact ⟨rfl,bel⟩
         ·have HE:=Lib.hid (And.intro (firstErr_next hz2.out.1 e3) (hz2.out.2.1.snoc e1 e2))
          simp only [findRes,e1,if_true] at hff
          rw [e2] at hho
          clear e1 e2 e3 hls hpc
          go_wp2_with (first
           | (go_at_call 103;refine (hff _ (HS.out.1.nowN keeps_Fld bel)).mono ?_;rintro e w4 ⟨rfl,hb4⟩;dsimp only)
           | (go_at_call 104;refine (hho _ (HS.out.2.1.now bel)).mono ?_;rintro e w5 ⟨rfl,hb5⟩;have hw5:Below wr.heap.size wr w5:=below_chain hb4 hb5)
           | (at_builtin;refine wpList_append_Own (keeps_flat RStr) rfl (.tmp 67) (.tmp 69) 63 rfl w.heap.size 9 k0 _ 1 16 Tryz.underlying63 hk0 sz0 sz1 sz2 rfl (by decide) (.slice A2 M2 c2') (metOf lp k ++ p.fields.take q) rfl (hz2.out.2.2.2.1.keep (keeps_flat _) hw5) [.string s] 9 rfl _ rfl rfl rfl (by simp [Value.oneCell']) (by rw [hz2.out.2.2.1];omega) (by rw [hz2.out.2.2.1];unfold maxLen;omega) (by have:=hbw.size;have:=hw5.size;omega) s ⟨rfl,HS.out.2.2⟩ ?_;intro g' cap w6 hown6 hb6 hz6 hk6 hat6;rw [hz2.out.2.2.1] at hown6 ⊢))
          have hke:=hk6 wq.heap.size (by have:=hw5.size;omega) hz2.out.2.2.2.2
          go_roundw
          case rel =>
           have etk:(metOf lp k ++ p.fields.take q) ++ [s] = metOf lp k ++ p.fields.take (q + 1):=by rw [List.append_assoc,List.take_add_one,HLS.out];rfl
           rw [etk] at hown6
           have HE2:=HE.out.2
           rw [etk] at HE2
           have hlen2:(metOf lp k ++ p.fields.take (q + 1)).length = M2 + 1:=by rw [← etk,List.length_append,hz2.out.2.2.1];rfl
           refine ⟨q + 1,some ⟨g',0,none⟩,M2 + 1,cap,by omega,by go_num,rfl,Lib.hid ⟨HE.out.1,HE2,hlen2,hown6,fun e => ?_⟩,rows8b (rows8c ⟨d0,d1,d2,d3,d4,d5,d6,d7⟩ hw5) hke,below_step (below_step hbw hw5 hbw.size) hb6 (Nat.le_refl _),by have:=hw5.size;omega⟩
           ·have e':wq.heap.size = g':=by simpa [Value.ownBlock] using e
            rcases hat6 with h | h
            ·exact hz2.out.2.2.2.2 (by rw [h,e'])
            ·have:=hw5.size;omega
          case measure => simp [intOf];omega
        ·have hqn:q = p.fields.length:=by omega
         subst hqn
         have hz4:=hz2.out
         rw [List.take_length,← metOf_next HO.out.1] at hz4
         have hpd:=pe_D (lf:=lf) HO.out.1 HQ.out.1 HQ.out.2 hz4.1
         have HZ4:=Lib.hid hz4
         have nn9:wq.heap.size < wr.heap.size:=by omega
         have hnv:=fun w => page_Never p Y D X C w hS1
         have hft:=fun w h h' => typing_Fits lf L m d p.skip X C 2 w HH.out.2.2.2.2 h h'
         clear hz4
         cases hbb:bareB p.skip.op p.skip.v p.skip.name p.skip.args.length
         ·rw [hbb] at hnv hpd
          by_cases hfe:fitErr lf p.skip 2 = 0
          ·have HZ:=Lib.hid (firstErr_next hz.out.1 (hpd.trans hfe))
           simp only [hfe] at hft
           clear hbb hpd hfe
           go_wp2_with (first
            | (go_at_call 57;refine (hnv _).mono ?_;rintro e w7 ⟨rfl,hb7⟩;obtain ⟨hc7,hf7⟩:=bcell hb7;(try simp only [bqh,bqc,bqf] at hc7 hf7);have hz7:=hb7.size;(try simp at hz7);(try have hy7:=nl1 hz7);(try have hx7:=nl2 hy7);refine szz w7 w ?_;intros;refine szz w7 wr ?_;intros)
            | (go_at_call 105;refine (hft _ (HO.out.2.2.1.keep (old_keep bel)) (HH.out.2.1.nowN keeps_Fld bel)).mono ?_;rintro e w8 ⟨rfl,hb8⟩))
           go_roundw
           case rel => exact ⟨k + 1,A2,M2,c2',by omega,by go_num,rfl,Lib.hid ⟨HZ.out,HZ4.out.2.1,HZ4.out.2.2.1,(HZ4.out.2.2.2.1.keep (keeps_flat _) hb7).keep (keeps_flat _) hb8⟩,bel⟩
           case measure => simp [intOf];omega
          ·have hv:pe lp lf k = fitErr lf p.skip 2:=hpd
           have HR:=Lib.hid ((pagesErr_hit HSZ.out hz.out.1 (by rw [hv];exact hfe) (by rw [HH.out.2.2.1];exact hlt)).trans hv)
           have hfe':(fitErr lf p.skip 2 != 0) = true:=by simpa using hfe
           clear hbb hpd hfe hv
           generalize fitErr lf p.skip 2 = ex at hft hfe' HR
           go_wp2_with (first
            | (go_at_call 57;refine (hnv _).mono ?_;rintro e w7 ⟨rfl,hb7⟩;obtain ⟨hc7,hf7⟩:=bcell hb7;(try simp only [bqh,bqc,bqf] at hc7 hf7);have hz7:=hb7.size;(try simp at hz7);(try have hy7:=nl1 hz7);(try have hx7:=nl2 hy7);refine szz w7 w ?_;intros;refine szz w7 wr ?_;intros)
            | (go_at_call 105;refine (hft _ (HO.out.2.2.1.keep (old_keep bel)) (HH.out.2.1.nowN keeps_Fld bel)).mono ?_;rintro e w8 ⟨rfl,hb8⟩))
           go_ret
           rw [HR.out]
           exact ⟨rfl,bel⟩
         ·rw [hbb] at hnv hpd
          have HZ:=Lib.hid (firstErr_next hz.out.1 (hpd.trans rfl))
          clear hbb hpd hft
          go_wp2_with (go_at_call 57;refine (hnv _).mono ?_;rintro e w7 ⟨rfl,hb7⟩)
          go_roundw
          case rel => exact ⟨k + 1,A2,M2,c2',by omega,by go_num,rfl,Lib.hid ⟨HZ.out,HZ4.out.2.1,HZ4.out.2.2.1,HZ4.out.2.2.2.1.keep (keeps_flat _) hb7⟩,bel⟩
          case measure => simp [intOf];omega
     ·simp only [hq2,if_true] at hfi
      have HR:=Lib.hid ((pagesErr_hit HSZ.out hz.out.1 (by rw [pe_B hlk hq1 hq2];decide) (by rw [HH.out.2.2.1];exact hlt)).trans (pe_B hlk hq1 hq2))
      clear hq1 hq2 hlk
      go_wp2_with (go_at_call 68;refine (hln _).mono ?_;rintro e w1 ⟨rfl,rfl⟩)
      have hB1:Below w.heap.size w (wq.alloc (.cells #[.string p.name,.slice Y p.fields.length D,.int .i64 p.skip.op,.int .i64 p.skip.v.k,.int .i64 p.skip.v.n,.string p.skip.v.s,.string p.skip.name,.slice X p.skip.args.length C] 68)).drew:=bel
      go_region_law (go_simp;go_at_call 102;refine (hfi _ (HTK.out.nowN keeps_Pag hB1)).mono ?_;rintro e w2 ⟨rfl,hb2⟩;dsimp only)
      all_goals
       have hbq:Below w.heap.size w w2:=below_step hB1 hb2 hB1.size
       go_wp2_with fail
       go_ret
       rw [HR.out]
       exact ⟨rfl,hbq⟩
    ·have HR:=Lib.hid ((pagesErr_hit HSZ.out hz.out.1 (by rw [pe_A hlk hq1];exact hq1) (by rw [HH.out.2.2.1];exact hlt)).trans (pe_A hlk hq1))
     have hq1':(nameCheck p.name != 0) = true:=by simpa using hq1
     clear hq1 hlk
     generalize nameCheck p.name = ex at hln hq1' HR
     go_wp2_with (go_at_call 68;refine (hln _).mono ?_;rintro e w1 ⟨rfl,rfl⟩)
     go_ret
     rw [HR.out]
     exact ⟨rfl,bel⟩
   ·have hkn:k = n:=by omega
    subst hkn
    have HR:=Lib.hid (pagesErr_end HSZ.out (by rw [HH.out.2.2.1];exact hz.out.1))
    go_wp2_with fail
    go_ret
    rw [HR.out]
    exact ⟨rfl,hbr⟩
theorem firstAt_lt2 {α:Type} (p:α → Bool):∀ (l:List α),l.any p = true → firstAt p l < l.length
 | [],h => by simp at h
 | a :: l,h => by
  unfold firstAt
  cases hp:p a
  ·have:=firstAt_lt2 p l (by simpa [hp] using h)
   simp;omega
  ·simp

set_option maxRecDepth 100000 in
set_option maxHeartbeats 4000000 in
theorem ref_PagesFault (lp:List Pag) (A:Option Addr) (n c:Nat) (lf:List Fld) (L:Option Addr) (m d:Nat) (w:World) (hn0:inL n) (hnc:n ≤ c) (hm:inB 112 m) (hp:Sl w (old w) 8 (RPag w (old w)) A n lp) (hl:Sl w (old w) 9 (RFld w (old w)) L m lf) :
  Calls Tryz.prog 62 #[.slice A n c,.slice L m d] w (RetI w (pagesErr lp lf)):=by
 have hn:n ≤ 140737488351232:=hn0
 have hml:m ≤ 1256584717422:=by unfold inB at hm;omega
 have hpl:=hp.len
 have hfl:=hl.len
 have HH:=Lib.hid (And.intro hp (And.intro hl (And.intro hpl (And.intro hfl hm))))
 obtain ⟨k0,hk0,sz0,sz1,sz2⟩:=info_parts Tryz.infoStr'
 clear hp hl hm hfl
 by_cases hsz:n < 1 ∨ 6 < n
 ·have hr:pagesErr lp lf = 1:=by unfold pagesErr;rw [if_pos (by rw [hpl];exact hsz)]
  rw [hr]
  clear hr hpl
  rcases hsz with hs1 | hs1
  ·have hn0':n = 0:=by omega
   subst hn0'
   go_enter Tryz.func62,Tryz.ntmps62
   go_wp2_with fail
   go_ret
   exact ⟨rfl,bel⟩
  ·have hs2:(6:Int) < n:=by omega
   have hs3:¬ (n:Int) < 1:=by omega
   have hs4:((n:Int) == 0) = false:=by simp;omega
   go_enter Tryz.func62,Tryz.ntmps62
   go_wp2_with fail
   go_ret
   exact ⟨rfl,bel⟩
 ·have HSZ:=Lib.hid (show ¬ (lp.length < 1 ∨ 6 < lp.length) by rw [hpl];exact hsz)
  have hs2:¬ (6:Int) < n:=by omega
  have hs3:¬ (n:Int) < 1:=by omega
  have hs4:((n:Int) == 0) = false:=by simp;omega
  clear hpl hsz
  go_enter Tryz.func62,Tryz.ntmps62
  go_wp2_with fail
  go_loopw [5,22] (fun met i wr => ∃ (k:Nat) (A':Option Addr) (M c':Nat),k ≤ n ∧ i = .int .i64 k ∧ met = .slice A' M c' ∧ Hid (firstErr (pe lp lf) k = 0 ∧ Met lf (metOf lp k) ∧ (metOf lp k).length = M ∧ Own wr w.heap.size 9 1 (fun _ _ => RStr) (.slice A' M c') (metOf lp k)) ∧ Below w.heap.size w wr) (fun _ i _ => n - (intOf i).toNat)
  case atStart => exact ⟨0,none,0,0,by omega,rfl,rfl,Lib.hid ⟨rfl,⟨by simp [metOf],by simp [metOf]⟩,rfl,Own.nil⟩,Below.refl _ _⟩
  case round =>
   obtain ⟨k,A',M,c',hk,rfl,rfl,hz,hbr⟩:=hrel
   by_cases hlt:k < n
   ·generalize hwq:wr = wq at *
    clear hwq
    obtain ⟨b,o,p,Y,D,X,C,hAe,hbl,hlk,hrep,v0,v1,v2,v3,v4,v5,v6,v7⟩:=Pag_at HH.out.1 hlt
    subst hAe
    have hbl0:b < w.heap.size:=hbl
    have hbl':b < wq.heap.size:=Nat.lt_of_lt_of_le hbl0 hbr.size
    have x0:=(hbr.cell (p:=⟨b,o + k * 8,none⟩) hbl0).trans v0
    have x1:=(hbr.cell (p:=⟨b,o + k * 8 + 1,none⟩) hbl0).trans v1
    have x2:=(hbr.cell (p:=⟨b,o + k * 8 + 2,none⟩) hbl0).trans v2
    have x3:=(hbr.cell (p:=⟨b,o + k * 8 + 3,none⟩) hbl0).trans v3
    have x4:=(hbr.cell (p:=⟨b,o + k * 8 + 4,none⟩) hbl0).trans v4
    have x5:=(hbr.cell (p:=⟨b,o + k * 8 + 5,none⟩) hbl0).trans v5
    have x6:=(hbr.cell (p:=⟨b,o + k * 8 + 6,none⟩) hbl0).trans v6
    have x7:=(hbr.cell (p:=⟨b,o + k * 8 + 7,none⟩) hbl0).trans v7
    clear v0 v1 v2 v3 v4 v5 v6 v7
    obtain ⟨r1,r2,r3,r4,r5⟩:=hrep.open_
    have hnm:=inS_max r1
    have hln:=fun w => ref_LexName p.name w hnm
    have HO:=Lib.hid (And.intro hlk (And.intro r4 (And.intro r5 r2)))
    have HR8:=Lib.hid (show ((wq.alloc (.cells #[.string p.name,.slice Y p.fields.length D,.int .i64 p.skip.op,.int .i64 p.skip.v.k,.int .i64 p.skip.v.n,.string p.skip.v.s,.string p.skip.name,.slice X p.skip.args.length C] 68)).cell? ⟨wq.heap.size,0,none⟩ = some (.string p.name) ∧ (wq.alloc (.cells #[.string p.name,.slice Y p.fields.length D,.int .i64 p.skip.op,.int .i64 p.skip.v.k,.int .i64 p.skip.v.n,.string p.skip.v.s,.string p.skip.name,.slice X p.skip.args.length C] 68)).cell? ⟨wq.heap.size,1,none⟩ = some (.slice Y p.fields.length D) ∧ (wq.alloc (.cells #[.string p.name,.slice Y p.fields.length D,.int .i64 p.skip.op,.int .i64 p.skip.v.k,.int .i64 p.skip.v.n,.string p.skip.v.s,.string p.skip.name,.slice X p.skip.args.length C] 68)).cell? ⟨wq.heap.size,2,none⟩ = some (.int .i64 p.skip.op) ∧ (wq.alloc (.cells #[.string p.name,.slice Y p.fields.length D,.int .i64 p.skip.op,.int .i64 p.skip.v.k,.int .i64 p.skip.v.n,.string p.skip.v.s,.string p.skip.name,.slice X p.skip.args.length C] 68)).cell? ⟨wq.heap.size,3,none⟩ = some (.int .i64 p.skip.v.k) ∧ (wq.alloc (.cells #[.string p.name,.slice Y p.fields.length D,.int .i64 p.skip.op,.int .i64 p.skip.v.k,.int .i64 p.skip.v.n,.string p.skip.v.s,.string p.skip.name,.slice X p.skip.args.length C] 68)).cell? ⟨wq.heap.size,4,none⟩ = some (.int .i64 p.skip.v.n) ∧ (wq.alloc (.cells #[.string p.name,.slice Y p.fields.length D,.int .i64 p.skip.op,.int .i64 p.skip.v.k,.int .i64 p.skip.v.n,.string p.skip.v.s,.string p.skip.name,.slice X p.skip.args.length C] 68)).cell? ⟨wq.heap.size,5,none⟩ = some (.string p.skip.v.s) ∧ (wq.alloc (.cells #[.string p.name,.slice Y p.fields.length D,.int .i64 p.skip.op,.int .i64 p.skip.v.k,.int .i64 p.skip.v.n,.string p.skip.v.s,.string p.skip.name,.slice X p.skip.args.length C] 68)).cell? ⟨wq.heap.size,6,none⟩ = some (.string p.skip.name) ∧ (wq.alloc (.cells #[.string p.name,.slice Y p.fields.length D,.int .i64 p.skip.op,.int .i64 p.skip.v.k,.int .i64 p.skip.v.n,.string p.skip.v.s,.string p.skip.name,.slice X p.skip.args.length C] 68)).cell? ⟨wq.heap.size,7,none⟩ = some (.slice X p.skip.args.length C)) from ⟨by go_simp,by go_simp,by go_simp,by go_simp,by go_simp,by go_simp,by go_simp,by go_simp⟩)
    have hBw0:Below w.heap.size w (wq.alloc (.cells #[.string p.name,.slice Y p.fields.length D,.int .i64 p.skip.op,.int .i64 p.skip.v.k,.int .i64 p.skip.v.n,.string p.skip.v.s,.string p.skip.name,.slice X p.skip.args.length C] 68)):=bel
    have hF1:p.fields.length ≤ 8796093021952:=by unfold inB at r2;omega
    have hS1:inL p.skip.args.length:=r5.kids.2.2.2.1.l (by decide)
    clear hrep hbl r1 r2 r3 r4 r5 hnm
    by_cases hq1:nameCheck p.name = 0
    ·simp only [hq1] at hln
     have hfi:=fun w h => ref_PageAt (some ⟨b,o,none⟩) n c lp p.name w hn0 h
     have ht1:=firstAt_take (hasPage p.name) lp k
     have ht2:=firstAt_take' (hasPage p.name) lp k
     cases hq2:(lp.take k).any (hasPage p.name)
     ·have hlt':¬ (firstAt (hasPage p.name) lp:Int) < (k:Int):=by have:=ht2 hq2 (by rw [HH.out.2.2.1];omega);omega
      have hltn:¬ firstAt (hasPage p.name) lp < k:=by omega
      have HQ:=Lib.hid (And.intro hq1 hq2)
      clear hq1 hq2 hlk ht1 ht2
      generalize firstAt (hasPage p.name) lp = fa at hfi hlt' hltn
      go_wp2_with (first | (go_at_call 74;refine (hln _).mono ?_;rintro e w1 ⟨rfl,hb1⟩;obtain ⟨hc1,hf1⟩:=bcell hb1;(try simp only [bqh,bqc,bqf] at hc1 hf1);have hz1:=hb1.size;(try simp at hz1);(try have hy1:=nl1 hz1);(try have hx1:=nl2 hy1);refine szz w1 w ?_;intros;refine szz w1 wq ?_;intros) | (go_at_call 113;refine (hfi _ (HH.out.1.nowN keeps_Pag bel)).mono ?_;rintro e w2 ⟨rfl,hb2⟩;have hbq:Below w.heap.size w w2:=bel;have hbqq:Below wq.heap.size wq w2:=below_step (below_step (bel:Below wq.heap.size wq (wq.alloc (.cells #[.string p.name,.slice Y p.fields.length D,.int .i64 p.skip.op,.int .i64 p.skip.v.k,.int .i64 p.skip.v.n,.string p.skip.v.s,.string p.skip.name,.slice X p.skip.args.length C] 68))) hb1 (by simp)) hb2 (by have h1:=hb1.size;simp at h1;omega);have hzq:wq.heap.size + 1 ≤ w2.heap.size:=(by have h1:=hb1.size;have h2:=hb2.size;simp at h1;omega);obtain ⟨c0,c1,c2,c3,c4,c5,c6,c7⟩:=rows8c (rows8c (w:=(wq.alloc (.cells #[.string p.name,.slice Y p.fields.length D,.int .i64 p.skip.op,.int .i64 p.skip.v.k,.int .i64 p.skip.v.n,.string p.skip.v.s,.string p.skip.name,.slice X p.skip.args.length C] 68))) HR8.out hb1) hb2))
      have HM:=Lib.hid (And.intro hz.out (And.intro (hz.out.2.2.2.keep (keeps_flat _) (show Below wq.heap.size wq w2 from hbqq)) hzq))
      clear hzq
      go_loopw [5,42] (fun met j wr => ∃ (q:Nat) (A2:Option Addr) (M2 c2:Nat),q ≤ p.fields.length ∧ j = .int .i64 q ∧ met = .slice A2 M2 c2 ∧ Hid (firstErr (ne lf (metOf lp k) p.fields) q = 0 ∧ Met lf (metOf lp k ++ p.fields.take q) ∧ (metOf lp k ++ p.fields.take q).length = M2 ∧ Own wr w.heap.size 9 1 (fun _ _ => RStr) (.slice A2 M2 c2) (metOf lp k ++ p.fields.take q) ∧ some wq.heap.size ≠ (Value.slice A2 M2 c2).ownBlock) ∧ (wr.cell? ⟨wq.heap.size,0,none⟩ = some (.string p.name) ∧ wr.cell? ⟨wq.heap.size,1,none⟩ = some (.slice Y p.fields.length D) ∧ wr.cell? ⟨wq.heap.size,2,none⟩ = some (.int .i64 p.skip.op) ∧ wr.cell? ⟨wq.heap.size,3,none⟩ = some (.int .i64 p.skip.v.k) ∧ wr.cell? ⟨wq.heap.size,4,none⟩ = some (.int .i64 p.skip.v.n) ∧ wr.cell? ⟨wq.heap.size,5,none⟩ = some (.string p.skip.v.s) ∧ wr.cell? ⟨wq.heap.size,6,none⟩ = some (.string p.skip.name) ∧ wr.cell? ⟨wq.heap.size,7,none⟩ = some (.slice X p.skip.args.length C)) ∧ Below w.heap.size w wr ∧ wq.heap.size + 1 ≤ wr.heap.size) (fun _ j _ => p.fields.length - (intOf j).toNat)
      case atStart =>
       refine ⟨0,A',M,c',by omega,rfl,rfl,Lib.hid ⟨rfl,?_,?_,?_,fun e => ?_⟩,⟨by assumption,by assumption,by assumption,by assumption,by assumption,by assumption,by assumption,by assumption⟩,hbq,HM.out.2.2⟩
       ·rw [List.take_zero,List.append_nil];exact hz.out.2.1
       ·rw [List.take_zero,List.append_nil];exact hz.out.2.2.1
       ·rw [List.take_zero,List.append_nil];exact HM.out.2.1
       ·have:=(hz.out.2.2.2.lt _ e.symm).2;omega
      case round =>
       obtain ⟨q,A2,M2,c2',hqk,rfl,rfl,hz2,⟨d0,d1,d2,d3,d4,d5,d6,d7⟩,hb3,hz3⟩:=hrel
       have hbw:Below w.heap.size w wr:=hb3
       have hM2:M2 ≤ 1256584717422:=by have h1:=hz2.out.2.1.len;have h2:=hz2.out.2.2.1;have h3:=HH.out.2.2.2.1;omega
       by_cases hlt2:q < p.fields.length
       ·obtain ⟨b2,o2,s,rfl,hb2l,hls,hins,hcs⟩:=Str_at (HO.out.2.1.now hbw) hlt2
        have hb2l':b2 < wr.heap.size:=hb2l
        have hff:=fun w h => ref_FieldAt L m d lf s w (Nat.le_trans hml (by decide)) h
        have hho:=fun w h => ref_holds s A2 M2 c2' (metOf lp k ++ p.fields.take q) w (Nat.le_trans hM2 (by decide)) h
        have HS:=Lib.hid (And.intro (HH.out.2.1.nowN keeps_Fld hbw) (And.intro (own_strs hz2.out.2.2.2.1 hz2.out.2.2.1) hins))
        have HLS:=Lib.hid hls
        have hpc:=fun h4 => pe_C (lf:=lf) HO.out.1 HQ.out.1 HQ.out.2 hz2.out.1 h4 hlt2
        clear hb2l hins
        rcases ne_some (lf:=lf) (met:=metOf lp k) hls with ⟨e1,e2⟩ | ⟨e1,e2,e3⟩ | ⟨e1,e2,e3⟩
        ·have hv:=hpc (by rw [e2];decide)
         rw [e2] at hv
         have HR:=Lib.hid ((pagesErr_hit HSZ.out hz.out.1 (by rw [hv];decide) (by rw [HH.out.2.2.1];exact hlt)).trans hv)
         rw [firstAt_none _ _ e1,HH.out.2.2.2.1] at hff
         clear e1 e2 hls hpc hv
         go_wp2_with (go_at_call 112;refine (hff _ (HS.out.1.nowN keeps_Fld bel)).mono ?_;rintro e w4 ⟨rfl,hb4⟩;dsimp only)
         go_ret
         rw [HR.out]
         exact ⟨rfl,bel⟩
        ·have hv:=hpc (by rw [e3];decide)
         rw [e3] at hv
         have HR:=Lib.hid ((pagesErr_hit HSZ.out hz.out.1 (by rw [hv];decide) (by rw [HH.out.2.2.1];exact hlt)).trans hv)
         have hfl':(firstAt (hasName s) lf:Int) ≠ (m:Int):=by have:=firstAt_lt2 (hasName s) lf e1;have h3:=HH.out.2.2.2.1;omega
         have hfl'':((firstAt (hasName s) lf:Int) == (m:Int)) = false:=by simpa using hfl'
         clear hfl'
         generalize firstAt (hasName s) lf = fa2 at hff hfl''
         rw [e2] at hho
         clear e1 e2 e3 hls hpc hv
         go_wp2_with (first | (go_at_call 112;refine (hff _ (HS.out.1.nowN keeps_Fld bel)).mono ?_;rintro e w4 ⟨rfl,hb4⟩;dsimp only) | (go_at_call 111;refine (hho _ (HS.out.2.1.now bel)).mono ?_;rintro e w5 ⟨rfl,hb5⟩))
         go_ret
         rw [HR.out]
         exact ⟨rfl,bel⟩
        ·have HE:=Lib.hid (And.intro (firstErr_next hz2.out.1 e3) (hz2.out.2.1.snoc e1 e2))
         have hfl':(firstAt (hasName s) lf:Int) ≠ (m:Int):=by have:=firstAt_lt2 (hasName s) lf e1;have h3:=HH.out.2.2.2.1;omega
         have hfl'':((firstAt (hasName s) lf:Int) == (m:Int)) = false:=by simpa using hfl'
         clear hfl'
         generalize firstAt (hasName s) lf = fa2 at hff hfl''
         rw [e2] at hho
         clear e1 e2 e3 hls hpc
         go_wp2_with (first
          | (go_at_call 112;refine (hff _ (HS.out.1.nowN keeps_Fld bel)).mono ?_;rintro e w4 ⟨rfl,hb4⟩;dsimp only)
          | (go_at_call 111;refine (hho _ (HS.out.2.1.now bel)).mono ?_;rintro e w5 ⟨rfl,hb5⟩;have hw5:Below wr.heap.size wr w5:=below_chain hb4 hb5)
          | (at_builtin;refine wpList_append_Own (keeps_flat RStr) rfl (.tmp 55) (.tmp 57) 63 rfl w.heap.size 9 k0 _ 1 16 Tryz.underlying63 hk0 sz0 sz1 sz2 rfl (by decide) (.slice A2 M2 c2') (metOf lp k ++ p.fields.take q) rfl (hz2.out.2.2.2.1.keep (keeps_flat _) hw5) [.string s] 9 rfl _ rfl rfl rfl (by simp [Value.oneCell']) (by rw [hz2.out.2.2.1];omega) (by rw [hz2.out.2.2.1];unfold maxLen;omega) (by have:=hbw.size;have:=hw5.size;omega) s ⟨rfl,HS.out.2.2⟩ ?_;intro g' cap w6 hown6 hb6 hz6 hk6 hat6;rw [hz2.out.2.2.1] at hown6 ⊢))
         have hke:=hk6 wq.heap.size (by have:=hw5.size;omega) hz2.out.2.2.2.2
         go_roundw
         case rel =>
          have etk:(metOf lp k ++ p.fields.take q) ++ [s] = metOf lp k ++ p.fields.take (q + 1):=by rw [List.append_assoc,List.take_add_one,HLS.out];rfl
          rw [etk] at hown6
          have HE2:=HE.out.2
          rw [etk] at HE2
          have hlen2:(metOf lp k ++ p.fields.take (q + 1)).length = M2 + 1:=by rw [← etk,List.length_append,hz2.out.2.2.1];rfl
          refine ⟨q + 1,some ⟨g',0,none⟩,M2 + 1,cap,by omega,by go_num,rfl,Lib.hid ⟨HE.out.1,HE2,hlen2,hown6,fun e => ?_⟩,rows8b (rows8c ⟨d0,d1,d2,d3,d4,d5,d6,d7⟩ hw5) hke,below_step (below_step hbw hw5 hbw.size) hb6 (Nat.le_refl _),by have:=hw5.size;omega⟩
          ·have e':wq.heap.size = g':=by simpa [Value.ownBlock] using e
           rcases hat6 with h | h
           ·exact hz2.out.2.2.2.2 (by rw [h,e'])
           ·have:=hw5.size;omega
         case measure => simp [intOf];omega
       ·have hqn:q = p.fields.length:=by omega
        subst hqn
        have hz4:=hz2.out
        rw [List.take_length,← metOf_next HO.out.1] at hz4
        have hpd:=pe_D (lf:=lf) HO.out.1 HQ.out.1 HQ.out.2 hz4.1
        have HZ4:=Lib.hid hz4
        have nn9:wq.heap.size < wr.heap.size:=by omega
        have hnv:=fun w => ref_bare p.skip.op p.skip.v.k p.skip.v.n p.skip.v.s p.skip.name X p.skip.args.length C w hS1
        rw [show (⟨p.skip.v.k,p.skip.v.n,p.skip.v.s⟩:Val) = p.skip.v from rfl] at hnv
        have hft:=fun w h h' => ref_TypeFits lf L m d p.skip X C 2 w HH.out.2.2.2.2 h h'
        clear hz4
        cases hbb:bareB p.skip.op p.skip.v p.skip.name p.skip.args.length
        ·rw [hbb] at hnv hpd
         by_cases hfe:fitErr lf p.skip 2 = 0
         ·have HZ:=Lib.hid (firstErr_next hz.out.1 (hpd.trans hfe))
          simp only [hfe] at hft
          clear hbb hpd hfe
          go_wp2_with (first
           | (go_at_call 30;refine (hnv _).mono ?_;rintro e w7 ⟨rfl,hb7⟩;obtain ⟨hc7,hf7⟩:=bcell hb7;(try simp only [bqh,bqc,bqf] at hc7 hf7);have hz7:=hb7.size;(try simp at hz7);(try have hy7:=nl1 hz7);(try have hx7:=nl2 hy7);refine szz w7 w ?_;intros;refine szz w7 wr ?_;intros)
           | (go_at_call 114;refine (hft _ (HO.out.2.2.1.keep (old_keep bel)) (HH.out.2.1.nowN keeps_Fld bel)).mono ?_;rintro e w8 ⟨rfl,hb8⟩))
          go_roundw
          case rel => exact ⟨k + 1,A2,M2,c2',by omega,by go_num,rfl,Lib.hid ⟨HZ.out,HZ4.out.2.1,HZ4.out.2.2.1,(HZ4.out.2.2.2.1.keep (keeps_flat _) hb7).keep (keeps_flat _) hb8⟩,bel⟩
          case measure => simp [intOf];omega
         ·have hv:pe lp lf k = fitErr lf p.skip 2:=hpd
          have HR:=Lib.hid ((pagesErr_hit HSZ.out hz.out.1 (by rw [hv];exact hfe) (by rw [HH.out.2.2.1];exact hlt)).trans hv)
          have hfe':(fitErr lf p.skip 2 != 0) = true:=by simpa using hfe
          clear hbb hpd hfe hv
          generalize fitErr lf p.skip 2 = ex at hft hfe' HR
          go_wp2_with (first
           | (go_at_call 30;refine (hnv _).mono ?_;rintro e w7 ⟨rfl,hb7⟩;obtain ⟨hc7,hf7⟩:=bcell hb7;(try simp only [bqh,bqc,bqf] at hc7 hf7);have hz7:=hb7.size;(try simp at hz7);(try have hy7:=nl1 hz7);(try have hx7:=nl2 hy7);refine szz w7 w ?_;intros;refine szz w7 wr ?_;intros)
           | (go_at_call 114;refine (hft _ (HO.out.2.2.1.keep (old_keep bel)) (HH.out.2.1.nowN keeps_Fld bel)).mono ?_;rintro e w8 ⟨rfl,hb8⟩))
          go_ret
          rw [HR.out]
          exact ⟨rfl,bel⟩
        ·rw [hbb] at hnv hpd
         have HZ:=Lib.hid (firstErr_next hz.out.1 (hpd.trans rfl))
         clear hbb hpd hft
         go_wp2_with (go_at_call 30;refine (hnv _).mono ?_;rintro e w7 ⟨rfl,hb7⟩)
         go_roundw
         case rel => exact ⟨k + 1,A2,M2,c2',by omega,by go_num,rfl,Lib.hid ⟨HZ.out,HZ4.out.2.1,HZ4.out.2.2.1,HZ4.out.2.2.2.1.keep (keeps_flat _) hb7⟩,bel⟩
         case measure => simp [intOf];omega
     ·have hlt':(firstAt (hasPage p.name) lp:Int) < (k:Int):=by rcases ht1 with h | h;omega;rw [hq2] at h;cases h
      have HR:=Lib.hid ((pagesErr_hit HSZ.out hz.out.1 (by rw [pe_B hlk hq1 hq2];decide) (by rw [HH.out.2.2.1];exact hlt)).trans (pe_B hlk hq1 hq2))
      clear hq1 hq2 hlk ht1 ht2
      generalize firstAt (hasPage p.name) lp = fa at hfi hlt'
      go_wp2_with (first | (go_at_call 74;refine (hln _).mono ?_;rintro e w1 ⟨rfl,hb1⟩;obtain ⟨hc1,hf1⟩:=bcell hb1;(try simp only [bqh,bqc,bqf] at hc1 hf1);have hz1:=hb1.size;(try simp at hz1);(try have hy1:=nl1 hz1);(try have hx1:=nl2 hy1);refine szz w1 w ?_;intros;refine szz w1 wq ?_;intros) | (go_at_call 113;refine (hfi _ (HH.out.1.nowN keeps_Pag bel)).mono ?_;rintro e w2 ⟨rfl,hb2⟩;obtain ⟨hc2,hf2⟩:=bcell hb2;(try simp only [bqh,bqc,bqf] at hc2 hf2);have hz2:=hb2.size;(try simp at hz2);(try have hy2:=nl1 hz2);(try have hx2:=nl2 hy2);refine szz w2 w ?_;intros;refine szz w2 wq ?_;intros;refine szz w2 w1 ?_;intros))
      go_ret
      rw [HR.out]
      exact ⟨rfl,bel⟩
    ·have HR:=Lib.hid ((pagesErr_hit HSZ.out hz.out.1 (by rw [pe_A hlk hq1];exact hq1) (by rw [HH.out.2.2.1];exact hlt)).trans (pe_A hlk hq1))
     have hq1':(nameCheck p.name != 0) = true:=by simpa using hq1
     clear hq1 hlk
     generalize nameCheck p.name = ex at hln hq1' HR
     go_wp2_with (go_at_call 74;refine (hln _).mono ?_;rintro e w1 ⟨rfl,hb1⟩)
     go_ret
     rw [HR.out]
     exact ⟨rfl,bel⟩
   ·have hkn:k = n:=by omega
    subst hkn
    have HR:=Lib.hid (pagesErr_end HSZ.out (by rw [HH.out.2.2.1];exact hz.out.1))
    go_wp2_with fail
    go_ret
    rw [HR.out]
    exact ⟨rfl,hbr⟩
end Go.Proofs.YtldbpmlgbbomcaaGreatDoor
