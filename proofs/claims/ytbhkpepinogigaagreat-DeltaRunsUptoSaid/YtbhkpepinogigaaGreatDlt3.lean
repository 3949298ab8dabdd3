/- The reference DeltaOf. (printed by mkdlt3.py) -/
import Derived.Test.YtbhkpepinogigaaGreatDlt2
namespace Go.Proofs.YtbhkpepinogigaaGreat
open Go.RowKit Go.Maps

theorem ownsRow_blocks {w w':World} {base:Nat} {e:TypeId} {size:Nat} {v:Value} {n:Nat} {xs:List Value} (h:w.ownsRow base e size v n xs) (hk:∀ q,v.ownBlock = some q → q < w.heap.size → w'.heap[q]? = w.heap[q]?):w'.ownsRow base e size v n xs:=by
 refine ⟨h.1,?_⟩
 rcases h.2 with hn | ⟨g,cap,cur,rfl,hbg,hgg,rest⟩
 ·exact .inl hn
 ·refine .inr ⟨g,cap,cur,rfl,hbg,?_,rest⟩
  rw [hk g rfl (Array.getElem?_eq_some_iff.1 hgg).1]
  exact hgg
theorem stop9 {G:Prop} (h:Hid G):G:=h.out
set_option maxRecDepth 100000 in
set_option maxHeartbeats 8000000 in
theorem ref_DeltaOf (B:Option Addr) (m d:Nat) (F:List Fld) (A:Option Addr) (n c:Nat) (P:List Pag) (A1:Option Addr) (n1 c1:Nat) (ins:List Fct) (A2:Option Addr) (n2 c2:Nat) (orc:List Fct) (Vb:Option Addr) (nv cv:Nat) (V:List Val) (nm:ByteArray) (w:World)
  (hX:RFo w B m d F A n c P) (hO:FldsOk F) (hY:RIO w A1 n1 c1 ins A2 n2 c2 orc) (hnv:inB 32 nv) (hcv:nv ≤ cv) (hV:Sl w (old w) 3 RVal Vb nv V) :
  Calls Tryz.prog 38 #[.agg #[.slice B m d,.slice A n c],.slice A1 n1 c1,.slice A2 n2 c2,.slice Vb nv cv,.string nm] w (RetVS w (deltaR F P ins orc V nm)):=by
 have h1:=fun w h h' => ref_ToldFault B m d F A n c P A1 n1 c1 ins A2 n2 c2 orc w h hO h'
 have h2:=fun w (h:RFo w B m d F A n c P) => ref_FieldAt B m d F nm w (h.1.l (by decide)) h.2.2.2.2.1
 have hml:=hX.2.2.2.2.1.len
 have hvl:=hV.len
 have hn1:=hX.1.l (by decide)
 have hn2:=hnv.l (by decide)
 unfold inL at hn1 hn2
 have HX:=Lib.hid (And.intro hX (And.intro hY hV))
 obtain ⟨rr,hrr⟩:∃ rr,rr = deltaR F P ins orc V nm:=⟨_,rfl⟩
 rw [← hrr]
 by_cases he:toldErr F P ins orc = 0
 ·rw [he] at h1
  cases ha:F.any (hasName nm)
  ·rw [deltaR_none he ha] at hrr
   subst hrr
   have hfa:firstAt (hasName nm) F = m:=by rw [firstAt_none _ _ ha,hml]
   rw [hfa] at h2
   have gfa:((m:Int) == (m:Int)) = true:=by simp
   clear hX hY hO he ha hfa hnv hcv hV
   go_enter Tryz.func38,Tryz.ntmps38
   go_upto_region 4 with (go_at_call 34;refine (h1 _ (HX.out.1.now bel) (HX.out.2.1.now bel)).mono ?_;rintro e w1 ⟨rfl,hb1⟩;obtain ⟨hc1,hf1⟩:=bcell hb1;(try simp only [bqh,bqc,bqf] at hc1 hf1);have hz1:=hb1.size;(try simp at hz1);(try have hy1:=nl1 hz1);(try have hx1:=nl2 hy1);refine szz w1 w ?_;intros)
   have hB1:Below w.heap.size w w1:=bel
   have hlw1:w.heap.size < w1.heap.size:=by have:=hb1.size;simp at this;omega
   have p0:w1.cell? ⟨w.heap.size,0,none⟩ = some (.slice B m d):=by go_simp
   clear hb1 hc1 hf1 h1
   go_cut [42] (fun s42 wx => s42 = .bool true ∧ Below w1.heap.size w1 wx)
   case first =>
    go_region_law (first | (go_simp;go_at_call 62;refine (h2 _ (HX.out.1.now (show Below w.heap.size w _ from bel))).mono ?_;rintro e w2 ⟨rfl,hb2⟩;have hb2':=hb2;(try simp only [heap_drew] at hb2');obtain ⟨hc2,hf2⟩:=bcell hb2;(try simp only [bqh,bqc,bqf] at hc2 hf2);have hz2:=hb2.size;(try simp at hz2);(try have hy2:=nl1 hz2);(try have hx2:=nl2 hy2);refine szz w2 w1 ?_;intros;(try simp only [heap_drew,World.cell?_drew] at hc2 hz2)))
    all_goals
     go_wp2_with fail
     go_meet
     exact ⟨by first | rfl | (simp [gfa];done) | (rw [gfa]),by exact bel⟩
   case rest =>
    obtain ⟨rfl,hb2⟩:=hcut
    rename World => w2
    have hB2:Below w.heap.size w w2:=below_step hB1 hb2 hB1.size
    have hlw:w.heap.size < w2.heap.size:=by have:=hb2.size;omega
    have q0:=cell_keep p0 hb2
    clear hb2 p0 h2
    go_wp2_with fail
    refine bodyPost_ret (v:=.tuple #[.slice none 0 0,.slice none 0 0,.int .i64 5]) (by first | (simp [results,Tryz.results38,go_sem];done) | (simp [results,Tryz.results38,go_sem, *];done)) rfl ?_
    exact RetVS.err _ rfl hB2
  ·have hfl:=(fieldAt_some ha).1
   have hff:fieldAt F nm = firstAt (hasName nm) F:=rfl
   rw [hff,hml] at hfl
   generalize firstAt (hasName nm) F = fa at *
   have gfa:((fa:Int) == (m:Int)) = false:=by rw [beq_eq_false_iff_ne];omega
   by_cases hl:V.length = F.length
   ·obtain rfl:nv = m:=by omega
    have g0:((nv:Int) != (nv:Int)) = false:=by simp
    have hok:=toldErr_ok he
    have HE:=Lib.hid (And.intro he (And.intro ha (And.intro hl (And.intro hrr (And.intro hml (And.intro hvl (And.intro hok hO)))))))
    clear hX hY he hl hrr hml hvl hO ha hV hok hff
    go_enter Tryz.func38,Tryz.ntmps38
    go_upto_region 4 with (go_at_call 34;refine (h1 _ (HX.out.1.now bel) (HX.out.2.1.now bel)).mono ?_;rintro e w1 ⟨rfl,hb1⟩;obtain ⟨hc1,hf1⟩:=bcell hb1;(try simp only [bqh,bqc,bqf] at hc1 hf1);have hz1:=hb1.size;(try simp at hz1);(try have hy1:=nl1 hz1);(try have hx1:=nl2 hy1);refine szz w1 w ?_;intros)
    have hB1:Below w.heap.size w w1:=bel
    have hlw1:w.heap.size < w1.heap.size:=by have:=hb1.size;simp at this;omega
    have p0:w1.cell? ⟨w.heap.size,0,none⟩ = some (.slice B nv d):=by go_simp
    clear hb1 hc1 hf1 h1
    go_cut [42] (fun s42 wx => s42 = .bool false ∧ Below w1.heap.size w1 wx)
    case first =>
     go_region_law (first | (go_simp;go_at_call 62;refine (h2 _ (HX.out.1.now (show Below w.heap.size w _ from bel))).mono ?_;rintro e w2 ⟨rfl,hb2⟩;have hb2':=hb2;(try simp only [heap_drew] at hb2');obtain ⟨hc2,hf2⟩:=bcell hb2;(try simp only [bqh,bqc,bqf] at hc2 hf2);have hz2:=hb2.size;(try simp at hz2);(try have hy2:=nl1 hz2);(try have hx2:=nl2 hy2);refine szz w2 w1 ?_;intros;(try simp only [heap_drew,World.cell?_drew] at hc2 hz2)))
     all_goals
      go_wp2_with fail
      go_meet
      exact ⟨by first | rfl | (simp [gfa];done) | (rw [gfa]),by exact bel⟩
    case rest =>
     obtain ⟨rfl,hb2⟩:=hcut
     rename World => w2
     have hB2:Below w.heap.size w w2:=below_step hB1 hb2 hB1.size
     have hlw:w.heap.size < w2.heap.size:=by have:=hb2.size;omega
     have q0:=cell_keep p0 hb2
     clear hb2 p0 h2
     go_wp2_with fail
     go_loopw [51] (fun i wr => ∃ k:Nat,k ≤ nv ∧ i = .int .i64 k ∧ Hid (firstErr (valErr V) k = 0) ∧ Below w2.heap.size w2 wr) (fun i _ => nv - (intOf i).toNat)
     case atStart => exact ⟨0,by omega,rfl,Lib.hid rfl,Below.refl _ _⟩
     case round =>
      obtain ⟨k,hk,rfl,hz,hbr⟩:=hrel
      have hBr:Below w.heap.size w wr:=below_step hB2 hbr (by omega)
      have hlr:w.heap.size < wr.heap.size:=Nat.lt_of_lt_of_le hlw hbr.size
      by_cases hlt:k < nv
      ·obtain ⟨b,o,v,hAe,hbl,hlv,hwf,x0,x1,x2⟩:=Val_at (HX.out.2.2.now hBr) hlt
       subst hAe
       have hbl':b < wr.heap.size:=hbl
       have hch:=fun w => ref_ValueFault v.k v.n v.s w (inS_max hwf.2.2)
       rw [show (⟨v.k,v.n,v.s⟩:Val) = v from rfl] at hch
       by_cases hv:valCheck v = 0
       ·rw [hv] at hch
        have HL:=Lib.hid (And.intro hlv hv)
        clear hlv hwf hbl hv
        go_wp2_with (go_at_call 71;refine (hch _).mono ?_;rintro e w3 ⟨rfl,hb3⟩;obtain ⟨hc3,hf3⟩:=bcell hb3;(try simp only [bqh,bqc,bqf] at hc3 hf3);have hz3:=hb3.size;(try simp at hz3);(try have hy3:=nl1 hz3);(try have hx3:=nl2 hy3);refine szz w3 wr ?_;intros)
        go_roundw
        case rel => exact ⟨k + 1,by omega,by go_num,Lib.hid (firstErr_next hz.out ((valErr_at HL.out.1).trans HL.out.2)),below_step hbr (show Below wr.heap.size wr w3 from bel) hbr.size⟩
        case measure => simp [intOf];omega
       ·have gv:(valCheck v != 0) = true:=by simpa using hv
        have HL:=Lib.hid (And.intro hlv hv)
        clear hlv hwf hbl hv
        obtain ⟨ve,hve⟩:∃ ve,ve = valCheck v:=⟨_,rfl⟩
        rw [← hve] at gv
        simp only [← hve] at hch
        have HV:=Lib.hid hve
        clear hve
        go_wp2_with (go_at_call 71;refine (hch _).mono ?_;rintro e w3 ⟨rfl,hb3⟩;obtain ⟨hc3,hf3⟩:=bcell hb3;(try simp only [bqh,bqc,bqf] at hc3 hf3);have hz3:=hb3.size;(try simp at hz3);(try have hy3:=nl1 hz3);(try have hx3:=nl2 hy3);refine szz w3 wr ?_;intros)
        refine bodyPost_ret (v:=.tuple #[.slice none 0 0,.slice none 0 0,.int .i64 ve]) (by first | (simp [results,Tryz.results38,go_sem];done) | (simp [results,Tryz.results38,go_sem, *];done)) rfl ?_
        have hh:=valsErr_hit hz.out HL.out.1 HL.out.2
        rw [HE.out.2.2.2.1,deltaR_vals HE.out.1 HE.out.2.1 HE.out.2.2.1 (by rw [hh];exact HL.out.2),hh,← HV.out]
        exact RetVS.err _ rfl (below_step hBr (show Below wr.heap.size wr w3 from bel) hBr.size)
      ·have hke:k = nv:=by omega
       subst hke
       have hval:valsErr V = 0:=by unfold valsErr;rw [HE.out.2.2.2.2.2.1];exact hz.out
       have hra:=deltaR_ok (P:=P) HE.out.1 HE.out.2.1 HE.out.2.2.1 hval
       rw [← HE.out.2.2.2.1,HE.out.2.2.2.2.1] at hra
       have hok:=HE.out.2.2.2.2.2.2.1
       have hfn:=HE.out.2.2.2.2.2.2.2
       have hfe:=(rankR_zero hok.1).1
       have h14:k ≤ 14:=by rw [← HE.out.2.2.2.2.1];exact (fieldsErr_all hfe).1
       have h3:=fun w (h:RFo w B k d F A n c P) => ref_FieldOrder F B k d w h.1 h.2.2.2.2.1 hfn.1 hfn.2
       have hor:orderR F = (toI (ordF F),0):=by unfold orderR;rw [if_pos hok.1]
       have hol:(ordF F).length = k:=by unfold ordF;rw [ordK_len,HE.out.2.2.2.2.1]
       have hil:(toI (ordF F)).length = k:=by unfold toI;rw [List.length_map,hol]
       have h3':∀ w (h:RFo w B k d F A n c P),Calls Tryz.prog 16 #[.slice B k d] w (fun e w' => ∃ A c,e = .returned (.tuple #[.slice A k c,.int .i64 0]) ∧ k ≤ c ∧ Sl w' (fun b => w.heap.size ≤ b ∧ b < w'.heap.size) 1 RInt A k (toI (ordF F)) ∧ Below w.heap.size w w'):=by
        intro w h
        refine (h3 w h).mono ?_
        rintro e w' ⟨A,c,q1,q2,q3,q4⟩
        rw [hor] at q1 q2 q3
        dsimp only at q1 q2 q3
        rw [hil] at q1 q2 q3
        exact ⟨A,c,q1,q2,q3,q4⟩
       obtain ⟨j0,ev,vz0,vz1,vz2⟩:=info_parts Tryz.infoValR
       have HVL:=Lib.hid HE.out.2.2.2.2.2.1
       have hvo:∀ v ∈ V,valCheck v = 0:=valsErr_ok hval
       have hout:∀ j,(dTo F ins orc V nm (ordF F) j).out.length = k:=fun j => by rw [dTo_len HE.out.2.2.1,HE.out.2.2.2.2.1]
       have hoo:=fun j => dTo_ok (nm:=nm) (ord:=ordF F) hok hvo j
       have hsl:=fun j => dTo_seen (F:=F) (ins:=ins) (orc:=orc) (old:=V) (nm:=nm) (ord:=ordF F) j
       have hsn:=fun j => dTo_in (ins:=ins) (orc:=orc) (old:=V) (nm:=nm) (ord:=ordF F) (p:=inS) (fun f hf => (hfn.2 f hf).1) j
       have HD:=Lib.hid (And.intro hra (And.intro hok (And.intro hfn (And.intro hfe (And.intro hol (And.intro hil (And.intro hout (And.intro hoo (And.intro hsl hsn)))))))))
       have r0:=cell_keep q0 hbr
       clear hval hra hok hfn hfe h3 hor hol hil hvo hout hoo hsl hsn q0 hz HE
       generalize hwq:wr = wq at *
       clear hwq
       go_wp2_with (first
        | (at_builtin;refine wpList_append_sl rfl (.tmp 61) (.tmp 62) 33 rfl wq.heap.size 73 j0 _ 3 32 Tryz.underlying33 ev vz0 vz1 vz2 rfl (by decide) _ 0 [] rfl (World.ownsRow_made wq #[] 0 (Nat.le_refl _) (Nat.zero_le _) (by simp)) Vb k cv (V.flatMap Val.cs) rfl (by rw [flat_len _ 3 lenValR,HVL.out]) ((HX.out.2.2.now (show Below w.heap.size w _ from bel)).cellsValR) (fun e => by have h7:=HX.out.2.2;rw [e] at h7;exact h7.of_none.1) (oneValR _) (by unfold maxLen;omega) (by omega) (by simp) ?_;intro v4 w3 ho4 hb4 hz4;(try simp at hz4);have hq3:Below wq.heap.size wq w3:=Below.trans (below_alloc0 (Below.refl _ _)) hb4;have hl3:w.heap.size < w3.heap.size:=(by omega);have r03:w3.cell? ⟨w.heap.size,0,none⟩ = some (.slice B k d):=cell_keep r0 hq3)
        | (go_at_call 16;refine (h3' _ (HX.out.1.now (below_step hBr hq3 hBr.size))).mono ?_;rintro e w4 ⟨A5,c5,rfl,hc5,hs5,hb3⟩;obtain ⟨hc3,hf3⟩:=bcell hb3;(try simp only [bqh,bqc,bqf] at hc3 hf3);have hz3:=hb3.size;(try simp at hz3);(try have hy3:=nl1 hz3);(try have hx3:=nl2 hy3);refine szz w3 w3 ?_;intros))
       rw [Nat.zero_add,List.nil_append] at ho4
       have hB34:=hb3
       have hB3:Below w.heap.size w w3:=below_step hBr hq3 hBr.size
       have hq4:Below wq.heap.size wq w4:=below_step hq3 hb3 hq3.size
       have hB4:Below w.heap.size w w4:=below_step hBr hq4 hBr.size
       have hlw4:w.heap.size < w4.heap.size:=by have:=hb3.size;omega
       have hz34:=hb3.size
       obtain ⟨Ao,co,rfl,hco,hs4⟩:=ownValR ho4 HVL.out (Sl.all_wf HX.out.2.2 fun _ _ h => h.2)
       have HS5:=Lib.hid hs5
       have HS4:=Lib.hid hs4
       obtain ⟨D,hDq⟩:∃ D,D = dTo F ins orc V nm (ordF F):=⟨_,rfl⟩
       simp only [← hDq] at HD
       have hDst:=fun (j i:Nat) (x:Fld) (h:(ordF F)[j]? = some i) (hx:(F)[i]? = some x) => dTo_step (ins:=ins) (orc:=orc) (old:=V) (nm:=nm) h hx
       have hDnw:=fun (j i:Nat) (x:Fld) (h:(ordF F)[j]? = some i) (hx:(F)[i]? = some x) => dTo_new (ins:=ins) (orc:=orc) (old:=V) (nm:=nm) HD.out.2.2.2.1 h hx
       simp only [← hDq] at hDst hDnw
       have hD0:D 0 = ⟨V,[],[]⟩:=by rw [hDq,dTo]
       have HDD:=Lib.hid (And.intro hDst (And.intro hDnw hD0))
       have HDQ:=Lib.hid hDq
       clear hDq hDst hDnw hD0 hs5 hs4
       have ho5:=Lib.hid (ownsRow_keep ho4 hb3)
       clear ho4 hb3 hb4 hc3 hf3 r03 h3'
       have h6:=fun (Vb:Option Addr) (cv:Nat) (V:List Val) (w:World) h h' => ref_named B k d F Vb cv V w h14 h h'
       obtain ⟨i0,ei,ez0,ez1,ez2⟩:=info_parts Tryz.infoStr'
       go_loopw [20,21,72] (fun sn cg i wr => ∃ j:Nat,j ≤ k ∧ i = .int .i64 j ∧ Hid (wr.ownsRow w4.heap.size 9 1 sn (D j).seen.length ((D j).seen.flatMap strCs)) ∧ Hid (wr.ownsRow w4.heap.size 9 1 cg (D j).chg.length ((D j).chg.flatMap strCs)) ∧
        Hid (∀ q,sn.ownBlock = some q → cg.ownBlock ≠ some q) ∧ Hid (wr.ownsRow wq.heap.size 73 3 (.slice Ao k co) k ((D j).out.flatMap Val.cs)) ∧ w4.heap.size ≤ wr.heap.size ∧ Hid (∀ b,w3.heap.size ≤ b → b < w4.heap.size → wr.heap[b]? = w4.heap[b]?) ∧ Below wq.heap.size wq wr) (fun _ _ i _ => k - (intOf i).toNat)
       case atStart =>
        refine ⟨0,by omega,rfl,Lib.hid (by rw [HDD.out.2.2];simpa using World.ownsRow_nil _ _ _ _),Lib.hid (by rw [HDD.out.2.2];simpa using World.ownsRow_nil _ _ _ _),Lib.hid (fun q h => by cases h),Lib.hid (by rw [HDD.out.2.2];exact ho5.out),Nat.le_refl _,Lib.hid (fun _ _ _ => rfl),hq4⟩
       case round =>
        clear ho5
        obtain ⟨j,hj,rfl,hown,hcg,hdis,hout,hlr4,hfr,hb3r⟩:=hrel
        have hBr2:Below w.heap.size w wr:=below_step hBr hb3r hBr.size
        have r0:=cell_keep r0 hb3r
        have hlr2:w.heap.size < wr.heap.size:=by omega
        by_cases hlt2:j < k
        ·obtain ⟨b,o,pi,hAe,hbl,hlp,hpi,y0⟩:=Int_at (HS5.out.keep (w':=wr) (fun b hb => hfr.out b hb.1 hb.2) (fun _ _ h => h)) hlt2
         subst hAe
         have hbl':b < wr.heap.size:=by have:=hbl.2;omega
         obtain ⟨x,hx,rfl,hxF⟩:=ord_at hlp
         have hFl:F.length = k:=HX.out.1.2.2.2.2.1.len
         have hxm:x < k:=by omega
         have hxi:(x:Int) < (k:Int):=by omega
         have hji:(j:Int) < (k:Int):=by omega
         obtain ⟨b2,o2,f,X,C,hBe,hbl2,hlf,hrep,x0,x1,x2,x3,x4,x5,x6,x7,x8⟩:=Fld_at HX.out.1.2.2.2.2.1 hxm
         have HBE:=Lib.hid hBe
         subst hBe
         have hbl3:b2 < w.heap.size:=hbl2
         have hbl2':b2 < wr.heap.size:=Nat.lt_of_lt_of_le hbl3 hBr2.size
         replace x0:=cell_keep x0 hBr2
         replace x1:=cell_keep x1 hBr2
         replace x2:=cell_keep x2 hBr2
         replace x3:=cell_keep x3 hBr2
         replace x4:=cell_keep x4 hBr2
         replace x5:=cell_keep x5 hBr2
         replace x6:=cell_keep x6 hBr2
         replace x7:=cell_keep x7 hBr2
         replace x8:=cell_keep x8 hBr2
         obtain ⟨g,cap,e9,hg3,_⟩:=hout.out.form (by omega)
         cases e9
         have hg4:g < w3.heap.size:=by
          obtain ⟨_,_,_,e8,h8,_⟩:=Val_at HS4.out hxm
          cases e8;exact h8
         have hg44:g < w4.heap.size:=by omega
         have hst:=HDD.out.1 j x f hx hlf
         have hnw:=HDD.out.2.1 j x f hx hlf
         obtain ⟨_,_,_,hxr⟩:=hrep.parts
         have HXR:=Lib.hid hxr
         have hfo:=HD.out.2.1.2.1 f (List.mem_of_getElem? hlf)
         have hfN:=HD.out.2.2.1.1 f (List.mem_of_getElem? hlf)
         have hfS:=(HD.out.2.2.1.2 f (List.mem_of_getElem? hlf))
         have HFF:=Lib.hid (And.intro hst (And.intro hnw (And.intro hfo (And.intro hfN (And.intro hfS (And.intro hlf hrep))))))
         clear hlp hpi hbl hbl2 hlf hrep hx hst hnw hfo hfN hfS hxr
         go_upto_region 22 with fail
         refine wp_world ?_;intro W0 hW0
         have hB0:Below wr.heap.size wr W0:=by rw [hW0];exact bel
         have b0:W0.cell? ⟨wr.heap.size,0,none⟩ = some (.string f.name):=by rw [hW0];go_simp
         have b1:W0.cell? ⟨wr.heap.size,1,none⟩ = some (.int .i64 f.kind):=by rw [hW0];go_simp
         have b2':W0.cell? ⟨wr.heap.size,2,none⟩ = some (.int .i64 f.type):=by rw [hW0];go_simp
         have b3:W0.cell? ⟨wr.heap.size,3,none⟩ = some (.int .i64 f.source.op):=by rw [hW0];go_simp
         have b4:W0.cell? ⟨wr.heap.size,4,none⟩ = some (.int .i64 f.source.v.k):=by rw [hW0];go_simp
         have b5:W0.cell? ⟨wr.heap.size,5,none⟩ = some (.int .i64 f.source.v.n):=by rw [hW0];go_simp
         have b6:W0.cell? ⟨wr.heap.size,6,none⟩ = some (.string f.source.v.s):=by rw [hW0];go_simp
         have b7:W0.cell? ⟨wr.heap.size,7,none⟩ = some (.string f.source.name):=by rw [hW0];go_simp
         have b8:W0.cell? ⟨wr.heap.size,8,none⟩ = some (.slice X f.source.args.length C):=by rw [hW0];go_simp
         have hz0:W0.heap.size = wr.heap.size + 1:=by rw [hW0];simp
         have hzl0:wr.heap.size < W0.heap.size:=by omega
         have hlW:w.heap.size < W0.heap.size:=by omega
         have r00:=cell_keep r0 hB0
         have hB0w:Below w.heap.size w W0:=below_step hBr2 hB0 hBr2.size
         clear hW0 x0 x1 x2 x3 x4 x5 x6 x7 x8 r0 y0
         have h7:=fun w h => ref_sources f X C w HFF.out.2.2.2.1 HFF.out.2.2.2.2.1.2 h
         have hrw:∀ a ∈ srcN f,inS a:=fun a ha => by
          unfold srcN at ha
          split at ha
          ·cases ha
          ·exact HFF.out.2.2.2.2.1.2 a ((rise_mem _ _).1 ha)
         have hrl:(srcN f).length ≤ 1048576:=by
          unfold srcN
          split
          ·exact Nat.zero_le _
          ·exact Nat.le_trans (rise_len _) (Nat.le_trans (askN_nodes _) HFF.out.2.2.2.1)
         obtain ⟨nb,hnb⟩:∃ nb,nb = (f.name.toList == nm.toList):=⟨_,rfl⟩
         have hdl:dLooks nm (D j).chg f = (nb || (srcN f).any (fun s => (D j).chg.any (isStr s))):=by unfold dLooks;rw [hnb]
         generalize srcN f = ss at *
         obtain ⟨A10,c10,e10,hc10,hs10⟩:=ownStr hcg.out rfl (HD.out.2.2.2.2.2.2.2.2.2 j).2
         subst e10
         have HRS:=Lib.hid (And.intro hdl (And.intro hrw (And.intro hs10 hdis.out)))
         have hcl10:=(HD.out.2.2.2.2.2.2.2.2.1 j).2
         have HNB:=Lib.hid hnb
         clear hdl hrw hs10 hdis
         go_wp2_with (go_at_call 63;refine (h7 _ (HFF.out.2.2.2.2.2.2.now (show Below w.heap.size w _ from bel))).mono ?_;rintro e w6 ⟨v6,rfl,ho6,hb6⟩;obtain ⟨A6,c6,rfl,hc6,hs6⟩:=ownStr ho6 rfl HRS.out.2.1;obtain ⟨hc6,hf6⟩:=bcell hb6;(try simp only [bqh,bqc,bqf] at hc6 hf6);have hz6:=hb6.size;(try simp at hz6);(try have hy6:=nl1 hz6);(try have hx6:=nl2 hy6);refine szz w6 W0 ?_;intros)
         rw [← hnb]
         have HS6:=Lib.hid hs6
         have hb06:Below W0.heap.size W0 w6:=bel
         clear hs6 ho6 hb6 hc6 hf6 h7 hnb
         generalize hwp:wr = wp at *
         clear hwp
         go_loopw [25,88] (fun lk i wr => ∃ p:Nat,p ≤ ss.length ∧ i = .int .i64 p ∧ lk = .bool (nb || (ss.take p).any (fun s => (D j).chg.any (isStr s))) ∧ Below w6.heap.size w6 wr) (fun _ i _ => ss.length - (intOf i).toNat)
         case atStart => exact ⟨0,Nat.zero_le _,rfl,by simp,Below.refl _ _⟩
         case round =>
          obtain ⟨p,hp,rfl,rfl,hbz⟩:=hrel
          have hb0z:Below W0.heap.size W0 wr:=below_step hb06 hbz hb06.size
          by_cases hltp:p < ss.length
          ·obtain ⟨b9,o9,s9,hAe,hbl9,hls,hsi,ys⟩:=Str_at (HS6.out.now hbz) hltp
           subst hAe
           have hbl9':b9 < wr.heap.size:=hbl9
           have h9:=ref_holds s9 A10 (D j).chg.length c10 (D j).chg wr (by unfold inL;omega) (HRS.out.2.2.1.now (below_step hB0 hb0z hB0.size))
           have hnx:(nb || (ss.take (p + 1)).any (fun s => (D j).chg.any (isStr s))) = ((nb || (ss.take p).any (fun s => (D j).chg.any (isStr s))) || (D j).chg.any (isStr s9)):=by
            rw [List.take_add_one,hls,List.any_append,Bool.or_assoc];simp
           have HNX:=Lib.hid hnx
           clear hnx hls hsi hbl9
           cases hlk:(nb || (ss.take p).any (fun s => (D j).chg.any (isStr s)))
           ·rw [hlk] at HNX
            clear hlk
            go_wp2_with (go_at_call 64;refine h9.mono ?_;rintro e w7 ⟨rfl,hb7⟩;obtain ⟨hc7,hf7⟩:=bcell hb7;(try simp only [bqh,bqc,bqf] at hc7 hf7);have hz7:=hb7.size;(try simp at hz7);(try have hy7:=nl1 hz7);(try have hx7:=nl2 hy7);refine szz w7 wr ?_;intros)
            go_roundw
            case rel => exact ⟨p + 1,by omega,by go_num,by rw [HNX.out,Bool.false_or],below_step hbz (show Below wr.heap.size wr w7 from bel) hbz.size⟩
            case measure => simp [intOf];omega
           ·rw [hlk] at HNX
            clear hlk
            go_wp2_with fail
            go_roundw
            case rel => exact ⟨p + 1,by omega,by go_num,by rw [HNX.out,Bool.true_or],hbz⟩
            case measure => simp [intOf];omega
          ·have hpe:p = ss.length:=by omega
           subst hpe
           rw [List.take_length,← HRS.out.1]
           generalize hwc:wr = wc at *
           clear hwc
           have hbc:=hb0z
           clear hb0z hbz
           have hzc:=hbc.size
           have hbrc:Below wp.heap.size wp wc:=below_step hB0 hbc hB0.size
           have hown1:=ownsRow_keep hown.out hbrc
           have hout1:=ownsRow_keep hout.out hbrc
           have hcg1:=ownsRow_keep hcg.out hbrc
           have hfr1:∀ b,w3.heap.size ≤ b → b < w4.heap.size → wc.heap[b]? = w4.heap[b]?:=fun b h h' => (hbrc.block b (by omega)).trans (hfr.out b h h')
           have r01:=cell_keep r00 hbc
           have hb3c:Below wq.heap.size wq wc:=below_step hb3r hbrc hb3r.size
           cases hdl:dLooks nm (D j).chg f
           ·have hD1:D (j + 1) = D j:=by rw [HFF.out.1,if_neg (by rw [hdl];decide)]
            have HD1:=Lib.hid hD1
            clear hdl hD1
            go_wp2_with fail
            go_roundw
            case rel => exact ⟨j + 1,by omega,by go_num,Lib.hid (by rw [HD1.out];exact hown1),Lib.hid (by rw [HD1.out];exact hcg1),Lib.hid HRS.out.2.2.2,Lib.hid (by rw [HD1.out];exact hout1),by omega,Lib.hid hfr1,hb3c⟩
            case measure => simp [intOf];omega
           ·obtain ⟨vq,hvq⟩:∃ vq,vq = dNew F ins orc (D j) f:=⟨_,rfl⟩
            have hD1:D (j + 1) = ⟨(D j).out.set x vq,(D j).seen ++ [f.name],if valEq vq (V[x]?.getD noVal) = true then (D j).chg else (D j).chg ++ [f.name]⟩:=by rw [HFF.out.1,if_pos hdl,hvq]
            have hvv:vq = oneV f ins orc (namedF F (D j).out):=hvq
            have HV:=Lib.hid (And.intro hD1 hvv)
            have hsz:=(HD.out.2.2.2.2.2.2.2.2.1 j).1
            have hnot:∀ q,u20.ownBlock = some q → q < wp.heap.size:=fun q hq => (hown.out.lt q hq).2
            have b0c:=cell_keep b0 hbc
            have hzlc:wp.heap.size < wc.heap.size:=by omega
            clear hdl hD1 hvq hvv
            go_upto_region 30 with (at_builtin;refine wpList_append1d rfl _ _ 37 rfl w4.heap.size 9 i0 (.string ⟨#[]⟩) 1 16 Tryz.underlying37 ei ez0 ez1 ez2 rfl (by decide) _ (D j).seen.length _ rfl hown1 [.string f.name] 9 rfl _ rfl rfl rfl (by simp [Value.oneCell']) (by omega) (by unfold maxLen;omega) (by omega) ?_;intro v6 w7 hown6 hb6 hz6 hk6 hv6)
            have hbk:w7.heap[wp.heap.size]? = wc.heap[wp.heap.size]?:=hk6 _ (by omega) (fun e => by have:=hnot _ e.symm;omega)
            have cb0:w7.cell? ⟨wp.heap.size,0,none⟩ = some (.string f.name):=(World.cell?_of_block (a:=⟨wp.heap.size,0,none⟩) hbk).trans (cell_keep b0 hbc)
            have cb1:w7.cell? ⟨wp.heap.size,1,none⟩ = some (.int .i64 f.kind):=(World.cell?_of_block (a:=⟨wp.heap.size,1,none⟩) hbk).trans (cell_keep b1 hbc)
            have cb2:w7.cell? ⟨wp.heap.size,2,none⟩ = some (.int .i64 f.type):=(World.cell?_of_block (a:=⟨wp.heap.size,2,none⟩) hbk).trans (cell_keep b2' hbc)
            have cb3:w7.cell? ⟨wp.heap.size,3,none⟩ = some (.int .i64 f.source.op):=(World.cell?_of_block (a:=⟨wp.heap.size,3,none⟩) hbk).trans (cell_keep b3 hbc)
            have cb4:w7.cell? ⟨wp.heap.size,4,none⟩ = some (.int .i64 f.source.v.k):=(World.cell?_of_block (a:=⟨wp.heap.size,4,none⟩) hbk).trans (cell_keep b4 hbc)
            have cb5:w7.cell? ⟨wp.heap.size,5,none⟩ = some (.int .i64 f.source.v.n):=(World.cell?_of_block (a:=⟨wp.heap.size,5,none⟩) hbk).trans (cell_keep b5 hbc)
            have cb6:w7.cell? ⟨wp.heap.size,6,none⟩ = some (.string f.source.v.s):=(World.cell?_of_block (a:=⟨wp.heap.size,6,none⟩) hbk).trans (cell_keep b6 hbc)
            have cb7:w7.cell? ⟨wp.heap.size,7,none⟩ = some (.string f.source.name):=(World.cell?_of_block (a:=⟨wp.heap.size,7,none⟩) hbk).trans (cell_keep b7 hbc)
            have cb8:w7.cell? ⟨wp.heap.size,8,none⟩ = some (.slice X f.source.args.length C):=(World.cell?_of_block (a:=⟨wp.heap.size,8,none⟩) hbk).trans (cell_keep b8 hbc)
            have r06:w7.cell? ⟨w.heap.size,0,none⟩ = some (.slice (some ⟨b2,o2,none⟩) k d):=(hb6.cell (p:=⟨w.heap.size,0,none⟩) (show w.heap.size < w4.heap.size by omega)).trans r01
            have hout6:=ownsRow_under hout1 (by omega) hb6
            have hdq:=HRS.out.2.2.2
            have hcg6:w7.ownsRow w4.heap.size 9 1 (.slice A10 (D j).chg.length c10) (D j).chg.length ((D j).chg.flatMap strCs):=ownsRow_blocks hcg1 (fun q hq hl => hk6 q hl (fun e => hdq q e.symm hq))
            have hfr6:∀ b,w3.heap.size ≤ b → b < w4.heap.size → w7.heap[b]? = w4.heap[b]?:=fun b h h' => (hb6.block b h').trans (hfr1 b h h')
            have hb36:Below wq.heap.size wq w7:=below_step hb3c hb6 (by omega)
            have hdis6:∀ q,v6.ownBlock = some q → (Value.slice A10 (D j).chg.length c10).ownBlock ≠ some q:=fun q hq => by
             rcases hv6 with h | ⟨kk,h,hkk⟩
             ·exact hdq q (h.symm.trans hq)
             ·intro e;have e1:=(hcg1.lt q e).2;rw [h] at hq;have:=Option.some.inj hq;omega
            have hBw6:Below w.heap.size w w7:=below_step hBr hb36 hBr.size
            have hlb:wp.heap.size < w7.heap.size:=by omega
            have hlw6:w.heap.size < w7.heap.size:=by omega
            clear b0c b0 b1 b2' b3 b4 b5 b6 b7 b8 hbk r01 r00 hout1 hout hown1 hown hcg1 hcg hnot hk6 hfr1 hfr hv6 hdq
            obtain ⟨Aq,cq,eq9,_,hsq⟩:=ownValR hout6 (HD.out.2.2.2.2.2.2.1 j) (fun v hv => val_wf (HD.out.2.2.2.2.2.2.2.1 j v hv))
            cases eq9
            have hnfl:(namedF F (D j).out).length = k:=by rw [namedF_len (by rw [HD.out.2.2.2.2.2.2.1 j,hFl]),hFl]
            have hnfw:∀ a ∈ namedF F (D j).out,a.wf:=namedF_wfD (fun f hf => (HD.out.2.2.1.2 f hf).1) (fun v hv => val_wf (HD.out.2.2.2.2.2.2.2.1 j v hv))
            have h8:=fun A9 c9 w hr k1 k2 k3 => ref_OneOf f X C A1 n1 c1 ins A2 n2 c2 orc A9 k c9 (namedF F (D j).out) w (HX.out.2.1.1.l (by decide)) (HX.out.2.1.2.2.1.l (by decide)) (by unfold inL;omega) hr k1 k2 k3
            rw [← HV.out.2] at h8
            obtain ⟨o9,ho9⟩:∃ o9,(D j).out[x]? = some o9:=⟨_,List.getElem?_eq_getElem (by rw [HD.out.2.2.2.2.2.2.1 j];exact hxm)⟩
            have hset:=flat_setV (D j).out x vq (by rw [HD.out.2.2.2.2.2.2.1 j];exact hxm)
            have hnv2:((D j).out.set x vq)[x]? = some vq:=by rw [List.getElem?_set,if_pos rfl,if_pos (by rw [HD.out.2.2.2.2.2.2.1 j];exact hxm)]
            have HN:=Lib.hid (And.intro hsq (And.intro hnfl (And.intro hnfw (And.intro ho9 (And.intro hset hnv2)))))
            have HO6:=Lib.hid (And.intro hout6 (And.intro hown6 (And.intro hcg6 (And.intro hfr6 hdis6))))
            clear hsq hnfl hnfw ho9 hset hnv2 hout6 hown6 hcg6 hfr6 hdis6
            refine wp_world ?_;intro y0' hy0'
            obtain ⟨y0,hy0⟩:∃ y,y = y0'.drew:=⟨_,rfl⟩
            have hY0:Below w7.heap.size w7 y0:=by rw [hy0,hy0'];exact (Below.refl _ _).drew
            have hSS:∀ y:World,Below w7.heap.size w7 y → (y.cell? ⟨wp.heap.size,0,none⟩ = some (.string f.name) ∧ (y.cell? ⟨wp.heap.size,1,none⟩ = some (.int .i64 f.kind) ∧ (y.cell? ⟨wp.heap.size,2,none⟩ = some (.int .i64 f.type) ∧ (y.cell? ⟨wp.heap.size,3,none⟩ = some (.int .i64 f.source.op) ∧ (y.cell? ⟨wp.heap.size,4,none⟩ = some (.int .i64 f.source.v.k) ∧ (y.cell? ⟨wp.heap.size,5,none⟩ = some (.int .i64 f.source.v.n) ∧ (y.cell? ⟨wp.heap.size,6,none⟩ = some (.string f.source.v.s) ∧ (y.cell? ⟨wp.heap.size,7,none⟩ = some (.string f.source.name) ∧ (y.cell? ⟨wp.heap.size,8,none⟩ = some (.slice X f.source.args.length C) ∧ y.cell? ⟨w.heap.size,0,none⟩ = some (.slice (some ⟨b2,o2,none⟩) k d)))))))))):=fun y h => ⟨cell_keep cb0 h,cell_keep cb1 h,cell_keep cb2 h,cell_keep cb3 h,cell_keep cb4 h,cell_keep cb5 h,cell_keep cb6 h,cell_keep cb7 h,cell_keep cb8 h,cell_keep r06 h⟩
            have HSS:=Lib.hid hSS
            have hS0:=hSS y0 hY0
            clear hSS cb0 cb1 cb2 cb3 cb4 cb5 cb6 cb7 cb8 r06
            refine wp_region_T (fun w' => w'.cell? ⟨wp.heap.size,0,none⟩ = some (.string f.name) ∧ (w'.cell? ⟨wp.heap.size,1,none⟩ = some (.int .i64 f.kind) ∧ (w'.cell? ⟨wp.heap.size,2,none⟩ = some (.int .i64 f.type) ∧ (w'.cell? ⟨wp.heap.size,3,none⟩ = some (.int .i64 f.source.op) ∧ (w'.cell? ⟨wp.heap.size,4,none⟩ = some (.int .i64 f.source.v.k) ∧ (w'.cell? ⟨wp.heap.size,5,none⟩ = some (.int .i64 f.source.v.n) ∧ (w'.cell? ⟨wp.heap.size,6,none⟩ = some (.string f.source.v.s) ∧ (w'.cell? ⟨wp.heap.size,7,none⟩ = some (.string f.source.name) ∧ (w'.cell? ⟨wp.heap.size,8,none⟩ = some (.slice X f.source.args.length C) ∧ w'.cell? ⟨w.heap.size,0,none⟩ = some (.slice (some ⟨b2,o2,none⟩) k d)))))))))) 11 (by kernel_rfl) ?_
            rw [← hy0]
            clear hy0' hy0
            refine wpAnyT_take (i:=0) (oi:=_) (v:=?_) rfl (by kernel_rfl) (fun _ _ _ h => h) hS0 (by rfl) ?_ ?_
            rotate_left
            ·intro w' hS';(try dsimp only at hS');(try go_split_ands);go_simp;(try rw [if_neg (by omega)]);try with_reducible rfl
            simp only [Act.put,List.setIfInBounds_toArray,List.set_cons_zero,List.set_cons_succ]
            refine wpAnyT_take (i:=1) (oi:=_) (v:=?_) rfl (by kernel_rfl) (fun _ _ _ h => h) hS0 (by rfl) ?_ ?_
            rotate_left
            ·intro w' hS';(try dsimp only at hS');(try go_split_ands);go_simp;(try rw [if_neg (by omega)]);try with_reducible rfl
            simp only [Act.put,List.setIfInBounds_toArray,List.set_cons_zero,List.set_cons_succ]
            refine wpAnyT_take (i:=2) (oi:=_) (v:=?_) rfl (by kernel_rfl) (fun _ _ _ h => h) hS0 (by rfl) ?_ ?_
            rotate_left
            ·intro w' hS';(try dsimp only at hS');(try go_split_ands);go_simp;(try rw [if_neg (by omega)]);try with_reducible rfl
            simp only [Act.put,List.setIfInBounds_toArray,List.set_cons_zero,List.set_cons_succ]
            refine wpAnyT_take (i:=3) (oi:=_) (v:=?_) rfl (by kernel_rfl) (fun _ _ _ h => h) hS0 (by rfl) ?_ ?_
            rotate_left
            ·intro w' hS';(try dsimp only at hS');(try go_split_ands);go_simp;(try rw [if_neg (by omega)]);try with_reducible rfl
            simp only [Act.put,List.setIfInBounds_toArray,List.set_cons_zero,List.set_cons_succ]
            refine wpAnyT_take (i:=4) (oi:=_) (v:=?_) rfl (by kernel_rfl) (fun _ _ _ h => h) hS0 (by rfl) ?_ ?_
            rotate_left
            ·intro w' hS';(try dsimp only at hS');(try go_split_ands);go_simp;(try rw [if_neg (by omega)]);try with_reducible rfl
            simp only [Act.put,List.setIfInBounds_toArray,List.set_cons_zero,List.set_cons_succ]
            refine wpAnyT_take (i:=5) (oi:=_) (v:=?_) rfl (by kernel_rfl) (fun _ _ _ h => h) hS0 (by rfl) ?_ ?_
            rotate_left
            ·intro w' hS';(try dsimp only at hS');(try go_split_ands);go_simp;(try rw [if_neg (by omega)]);try with_reducible rfl
            simp only [Act.put,List.setIfInBounds_toArray,List.set_cons_zero,List.set_cons_succ]
            refine wpAnyT_take (i:=6) (oi:=_) (v:=?_) rfl (by kernel_rfl) (fun _ _ _ h => h) hS0 (by rfl) ?_ ?_
            rotate_left
            ·intro w' hS';(try dsimp only at hS');(try go_split_ands);go_simp;(try rw [if_neg (by omega)]);try with_reducible rfl
            simp only [Act.put,List.setIfInBounds_toArray,List.set_cons_zero,List.set_cons_succ]
            refine wpAnyT_take (i:=7) (oi:=_) (v:=?_) rfl (by kernel_rfl) (fun _ _ _ h => h) hS0 (by rfl) ?_ ?_
            rotate_left
            ·intro w' hS';(try dsimp only at hS');(try go_split_ands);go_simp;(try rw [if_neg (by omega)]);try with_reducible rfl
            simp only [Act.put,List.setIfInBounds_toArray,List.set_cons_zero,List.set_cons_succ]
            refine wpAnyT_one (i:=8) (o:=_) rfl (by kernel_rfl) (fun K hK => ?_)
            go_simp
            go_at_call 78;refine (h6 _ _ _ _ (HX.out.1.2.2.2.2.1.nowN keeps_Fld (below_step hBw6 hY0 hBw6.size)) (HN.out.1.now hY0)).mono ?_;rintro e y1 ⟨v7,rfl,ho7,hb7⟩
            rw [HN.out.2.1] at ho7
            obtain ⟨A7,c7,rfl,_,hs7⟩:=ownFct ho7 HN.out.2.1 HN.out.2.2.1
            have hY1:=below_step hY0 hb7 hY0.size
            have hS1:=HSS.out _ hY1
            refine hK.out _ _ (fun _ => hS1) ?_
            clear hK K
            try simp only [Act.put,List.setIfInBounds_toArray,List.set_cons_zero,List.set_cons_succ]
            refine wpAnyT_one (i:=9) (o:=_) rfl (by kernel_rfl) (fun K hK => ?_)
            go_simp
            go_at_call 84;refine (h8 A7 c7 _ (HFF.out.2.2.2.2.2.2.now (below_step hBw6 hY1 hBw6.size)) (HX.out.2.1.2.2.2.2.1.now (below_step hBw6 hY1 hBw6.size)) (HX.out.2.1.2.2.2.2.2.now (below_step hBw6 hY1 hBw6.size)) hs7).mono ?_;rintro e y2 ⟨rfl,hb8⟩
            have hY2:=below_step hY1 hb8 hY1.size
            have hS2:=HSS.out _ hY2
            refine hK.out _ _ (fun _ => hS2) ?_
            clear hK K
            try simp only [Act.put,List.setIfInBounds_toArray,List.set_cons_zero,List.set_cons_succ]
            refine wpAnyT_take (i:=10) (oi:=_) (v:=?_) rfl (by kernel_rfl) (fun _ _ _ h => h) hS2 (by rfl) ?_ ?_
            rotate_left
            ·intro w' hS';(try dsimp only at hS');(try go_split_ands);go_simp;(try rw [if_neg (by omega)]);try with_reducible rfl
            simp only [Act.put,List.setIfInBounds_toArray,List.set_cons_zero,List.set_cons_succ]
            refine wpAnyT_one (i:=11) (o:=_) rfl (by kernel_rfl) (fun K hK => ?_)
            have ho2:=ownsRow_keep HO6.out.1 hY2
            obtain ⟨e0,e1,e2⟩:=cells_ownV ho2 HN.out.2.2.2.1 hxm
            have z0:=ho2.frozenAt (x * 3)
            have z1:=ho2.frozenAt (x * 3 + 1)
            have z2:=ho2.frozenAt (x * 3 + 2)
            have hgy:g < y2.heap.size:=block_lt_of_cell e0
            go_simp
            refine hK.out _ _ (fun h => absurd h (by decide)) ?_
            clear hK K
            refine wpAnyT_done (by kernel_rfl) ?_ _
            try simp only [Act.put,List.setIfInBounds_toArray,List.set_cons_zero,List.set_cons_succ]
            go_upto_region 31 with fail
            refine wp_world ?_;intro W8 hW8
            obtain ⟨bV,oV,ov,hVe,hblV,hlV,hwfV,q0,q1,q2⟩:=Val_at HX.out.2.2 hxm
            subst hVe
            have hbV:bV < w.heap.size:=hblV
            have hBw2:Below w.heap.size w y2:=below_step hBw6 hY2 hBw6.size
            replace q0:=cell_keep q0 hBw2
            replace q1:=cell_keep q1 hBw2
            replace q2:=cell_keep q2 hBw2
            have hcb2:=hS2.1
            have hst:=(((ho2.stored (x * 3) (.int .i64 vq.k)).1.stored (x * 3 + 1) (.int .i64 vq.n)).1.stored (x * 3 + 2) (.string vq.s)).1
            rw [HN.out.2.2.2.2.1,← hW8] at hst
            have hzy:=hY2.size
            have hsn8:W8.ownsRow w4.heap.size 9 1 v6 ((D j).seen.length + 1) ((D j).seen.flatMap strCs ++ [.string f.name]):=by
             rw [hW8]
             exact ownsRow_setCell_below (ownsRow_setCell_below (ownsRow_setCell_below (ownsRow_keep HO6.out.2.1 hY2) (by show g < _;omega) _) (by show g < _;omega) _) (by show g < _;omega) _
            have hcg8:W8.ownsRow w4.heap.size 9 1 (.slice A10 (D j).chg.length c10) (D j).chg.length ((D j).chg.flatMap strCs):=by
             rw [hW8]
             exact ownsRow_setCell_below (ownsRow_setCell_below (ownsRow_setCell_below (ownsRow_keep HO6.out.2.2.1 hY2) (by show g < _;omega) _) (by show g < _;omega) _) (by show g < _;omega) _
            have hblk:∀ bb:Nat,bb ≠ g → W8.heap[bb]? = y2.heap[bb]?:=fun bb hne => by
             rw [hW8,Below.heap_setCell _ _ _ _ (by exact hne),Below.heap_setCell _ _ _ _ (by exact hne),Below.heap_setCell _ _ _ _ (by exact hne)]
            have hfr8:∀ b,w3.heap.size ≤ b → b < w4.heap.size → W8.heap[b]? = w4.heap[b]?:=fun b h h' => (hblk b (by omega)).trans ((hY2.block b (by omega)).trans (HO6.out.2.2.2.1 b h h'))
            obtain ⟨e0',e1',e2'⟩:=cells_ownV hst HN.out.2.2.2.2.2 hxm
            have t1:=(World.cell?_of_block (a:=⟨wp.heap.size,0,none⟩) (hblk wp.heap.size (by omega))).trans hcb2
            have t2:=(World.cell?_of_block (a:=⟨bV,oV + x * 3,none⟩) (hblk bV (by omega))).trans q0
            have t3:=(World.cell?_of_block (a:=⟨bV,oV + x * 3 + 1,none⟩) (hblk bV (by omega))).trans q1
            have t4:=(World.cell?_of_block (a:=⟨bV,oV + x * 3 + 2,none⟩) (hblk bV (by omega))).trans q2
            have hbW8:Below wq.heap.size wq W8:=by
             rw [hW8]
             exact below_set (below_set (below_set (below_step hb36 hY2 hb36.size) hg3) hg3) hg3
            have hz8:W8.heap.size = y2.heap.size:=by rw [hW8];simp
            have HS8:=Lib.hid (And.intro hst (And.intro hsn8 (And.intro hcg8 (And.intro hfr8 HO6.out.2.2.2.2))))
            have hov:V[x]?.getD noVal = ov:=by rw [hlV];rfl
            have hneq:=fun w => run_neq_Val w vq.k vq.n ov.k ov.n vq.s ov.s
            rw [show (⟨vq.k,vq.n,vq.s⟩:Val) = vq from rfl,show (⟨ov.k,ov.n,ov.s⟩:Val) = ov from rfl] at hneq
            have hgW:g < W8.heap.size:=by omega
            have hbVW:bV < W8.heap.size:=by omega
            have hlbW:wp.heap.size < W8.heap.size:=by omega
            have hlc8:=(HD.out.2.2.2.2.2.2.2.2.1 j).2
            clear hW8 hst hsn8 hcg8 hfr8 hlV hblk q0 q1 q2 hcb2 e0 e1 e2 z0 z1 z2 ho2 hS2 hS1 hS0 HSS h8 hwfV
            cases hbq:valEq vq ov
            ·have hD9:=HV.out.1
             rw [hov,hbq,if_neg (by decide)] at hD9
             rw [hbq] at hneq
             have HD9:=Lib.hid hD9
             clear hbq hD9 hov
             generalize Value.slice A10 (D j).chg.length c10 = cgv at HS8 ⊢
             go_quiet (fail)
             go_upto_region 32 with fail
             refine wp_world ?_;intro W9 hW9
             have hb89:Below W8.heap.size W8 W9:=by rw [hW9];exact bel
             have hz89:W9.heap.size = W8.heap.size:=by rw [hW9];simp
             have t1':=cell_keep t1 hb89
             have HS9:=Lib.hid (And.intro (ownsRow_keep HS8.out.1 hb89) (And.intro (ownsRow_keep HS8.out.2.1 hb89) (And.intro (ownsRow_keep HS8.out.2.2.1 hb89) (And.intro (show ∀ b,w3.heap.size ≤ b → b < w4.heap.size → W9.heap[b]? = w4.heap[b]? from fun b h h' => (hb89.block b (by omega)).trans (HS8.out.2.2.2.1 b h h')) HS8.out.2.2.2.2))))
             have hbW9:Below wq.heap.size wq W9:=below_step hbW8 hb89 hbW8.size
             have hlbW9:wp.heap.size < W9.heap.size:=by omega
             have hz49:w4.heap.size ≤ W9.heap.size:=by omega
             clear hW9 t1 t2 t3 t4 e0' e1' e2' hz89 hz8
             have hcg9:=HS9.out.2.2.1
             go_wp2_with (at_builtin;refine stop9 ?_)
             refine Lib.hid ?_
             refine wpList_append1d rfl _ _ 37 rfl w4.heap.size 9 i0 (.string ⟨#[]⟩) 1 16 Tryz.underlying37 ei ez0 ez1 ez2 rfl (by decide) _ (D j).chg.length _ rfl hcg9 [.string f.name] 9 rfl _ rfl rfl rfl (by simp [Value.oneCell']) (by omega) (by unfold maxLen;omega) (by omega) ?_
             intro v9 w9 hown9 hb9 hz9 hk9 hv9
             go_wp2_with fail
             go_roundw
             case rel =>
              refine ⟨j + 1,by omega,by go_num,Lib.hid ?_,Lib.hid ?_,Lib.hid ?_,Lib.hid ?_,by omega,Lib.hid (fun b h h' => (hb9.block b h').trans (HS9.out.2.2.2.1 b h h')),below_step hbW9 hb9 (by omega)⟩
              ·rw [HD9.out]
               show w9.ownsRow _ _ 1 v6 ((D j).seen ++ [f.name]).length (((D j).seen ++ [f.name]).flatMap strCs)
               rw [List.length_append,List.flatMap_append]
               exact ownsRow_blocks HS9.out.2.1 (fun q hq hl => hk9 q hl (fun e => HS9.out.2.2.2.2 q hq e.symm))
              ·rw [HD9.out]
               show w9.ownsRow _ _ 1 v9 ((D j).chg ++ [f.name]).length (((D j).chg ++ [f.name]).flatMap strCs)
               rw [List.length_append,List.flatMap_append]
               exact hown9
              ·intro q hq e
               rcases hv9 with h | ⟨kk,h,hkk⟩
               ·exact HS9.out.2.2.2.2 q hq (h.symm.trans e)
               ·have e1:=(HS9.out.2.1.lt q hq).2
                rw [h] at e
                have:=Option.some.inj e
                omega
              ·rw [HD9.out]
               exact ownsRow_under HS9.out.1 (by omega) hb9
             case measure => simp [intOf];omega
            ·have hD9:=HV.out.1
             rw [hov,hbq,if_pos rfl] at hD9
             rw [hbq] at hneq
             have HD9:=Lib.hid hD9
             clear hbq hD9 hov
             go_quiet (fail)
             go_upto_region 33 with fail
             refine wp_world ?_;intro W9 hW9
             have hb89:Below W8.heap.size W8 W9:=by rw [hW9];exact bel
             have hz89:W9.heap.size = W8.heap.size:=by rw [hW9];simp
             have t1':=cell_keep t1 hb89
             have HS9:=Lib.hid (And.intro (ownsRow_keep HS8.out.1 hb89) (And.intro (ownsRow_keep HS8.out.2.1 hb89) (And.intro (ownsRow_keep HS8.out.2.2.1 hb89) (And.intro (show ∀ b,w3.heap.size ≤ b → b < w4.heap.size → W9.heap[b]? = w4.heap[b]? from fun b h h' => (hb89.block b (by omega)).trans (HS8.out.2.2.2.1 b h h')) HS8.out.2.2.2.2))))
             have hbW9:Below wq.heap.size wq W9:=below_step hbW8 hb89 hbW8.size
             have hlbW9:wp.heap.size < W9.heap.size:=by omega
             have hz49:w4.heap.size ≤ W9.heap.size:=by omega
             clear hW9 t1 t2 t3 t4 e0' e1' e2' hz89 hz8
             go_wp2_with fail
             go_roundw
             case rel =>
              refine ⟨j + 1,by omega,by go_num,Lib.hid ?_,Lib.hid ?_,Lib.hid HS9.out.2.2.2.2,Lib.hid ?_,by omega,Lib.hid HS9.out.2.2.2.1,hbW9⟩
              ·rw [HD9.out]
               show W9.ownsRow _ _ 1 v6 ((D j).seen ++ [f.name]).length (((D j).seen ++ [f.name]).flatMap strCs)
               rw [List.length_append,List.flatMap_append]
               exact HS9.out.2.1
              ·rw [HD9.out]
               exact HS9.out.2.2.1
              ·rw [HD9.out]
               exact HS9.out.1
             case measure => simp [intOf];omega
        ·have hke2:j = k:=by omega
         subst hke2
         have hD:=HD.out.1
         obtain ⟨A8,c8,e8,hc8,hs8⟩:=ownStr hown.out rfl (HD.out.2.2.2.2.2.2.2.2.2 j).1
         subst e8
         obtain ⟨A9,c9,e9,hc9,hs9⟩:=ownValR hout.out (HD.out.2.2.2.2.2.2.1 j) (fun v hv => val_wf (HD.out.2.2.2.2.2.2.2.1 j v hv))
         cases e9
         have HZ:=Lib.hid (And.intro hs8 (And.intro hs9 (And.intro hc8 hD)))
         clear hs8 hs9 hc8 hD hown hout hcg hdis
         go_wp2_with fail
         refine bodyPost_ret (v:=.tuple #[.slice Ao j co,.slice A8 (D j).seen.length c8,.int .i64 0]) (by first | (simp [results,Tryz.results38,go_sem];done) | (simp [results,Tryz.results38,go_sem, *];done)) rfl ?_
         rw [HZ.out.2.2.2]
         refine ⟨Ao,co,A8,c8,by rw [HD.out.2.2.2.2.2.2.1 j],by rw [HD.out.2.2.2.2.2.2.1 j];exact hco,HZ.out.2.2.1,?_,HZ.out.1,hBr2⟩
         rw [HD.out.2.2.2.2.2.2.1 j]
         exact HZ.out.2.1
   ·have g0:((nv:Int) != (m:Int)) = true:=by simp;omega
    rw [deltaR_size he ha hl] at hrr
    subst hrr
    clear hX hY hO he ha hnv hcv hV hl hff
    go_enter Tryz.func38,Tryz.ntmps38
    go_upto_region 4 with (go_at_call 34;refine (h1 _ (HX.out.1.now bel) (HX.out.2.1.now bel)).mono ?_;rintro e w1 ⟨rfl,hb1⟩;obtain ⟨hc1,hf1⟩:=bcell hb1;(try simp only [bqh,bqc,bqf] at hc1 hf1);have hz1:=hb1.size;(try simp at hz1);(try have hy1:=nl1 hz1);(try have hx1:=nl2 hy1);refine szz w1 w ?_;intros)
    have hB1:Below w.heap.size w w1:=bel
    have hlw1:w.heap.size < w1.heap.size:=by have:=hb1.size;simp at this;omega
    have p0:w1.cell? ⟨w.heap.size,0,none⟩ = some (.slice B m d):=by go_simp
    clear hb1 hc1 hf1 h1
    go_cut [42] (fun s42 wx => s42 = .bool false ∧ Below w1.heap.size w1 wx)
    case first =>
     go_region_law (first | (go_simp;go_at_call 62;refine (h2 _ (HX.out.1.now (show Below w.heap.size w _ from bel))).mono ?_;rintro e w2 ⟨rfl,hb2⟩;have hb2':=hb2;(try simp only [heap_drew] at hb2');obtain ⟨hc2,hf2⟩:=bcell hb2;(try simp only [bqh,bqc,bqf] at hc2 hf2);have hz2:=hb2.size;(try simp at hz2);(try have hy2:=nl1 hz2);(try have hx2:=nl2 hy2);refine szz w2 w1 ?_;intros;(try simp only [heap_drew,World.cell?_drew] at hc2 hz2)))
     all_goals
      go_wp2_with fail
      go_meet
      exact ⟨by first | rfl | (simp [gfa];done) | (rw [gfa]),by exact bel⟩
    case rest =>
     obtain ⟨rfl,hb2⟩:=hcut
     rename World => w2
     have hB2:Below w.heap.size w w2:=below_step hB1 hb2 hB1.size
     have hlw:w.heap.size < w2.heap.size:=by have:=hb2.size;omega
     have q0:=cell_keep p0 hb2
     clear hb2 p0 h2
     go_wp2_with fail
     refine bodyPost_ret (v:=.tuple #[.slice none 0 0,.slice none 0 0,.int .i64 1]) (by first | (simp [results,Tryz.results38,go_sem];done) | (simp [results,Tryz.results38,go_sem, *];done)) rfl ?_
     exact RetVS.err _ rfl hB2
 ·rw [deltaR_told he] at hrr
  subst hrr
  have g0:(toldErr F P ins orc != 0) = true:=by simpa using he
  generalize toldErr F P ins orc = er at *
  clear hX hY hO he hnv hcv hV h2
  go_enter Tryz.func38,Tryz.ntmps38
  go_wp2_with (go_at_call 34;refine (h1 _ (HX.out.1.now bel) (HX.out.2.1.now bel)).mono ?_;rintro e w1 ⟨rfl,hb1⟩;obtain ⟨hc1,hf1⟩:=bcell hb1;(try simp only [bqh,bqc,bqf] at hc1 hf1);have hz1:=hb1.size;(try simp at hz1);(try have hy1:=nl1 hz1);(try have hx1:=nl2 hy1);refine szz w1 w ?_;intros)
  refine bodyPost_ret (v:=.tuple #[.slice none 0 0,.slice none 0 0,.int .i64 er]) (by first | (simp [results,Tryz.results38,go_sem];done) | (simp [results,Tryz.results38,go_sem, *];done)) rfl ?_
  exact RetVS.err _ rfl bel
end Go.Proofs.YtbhkpepinogigaaGreat
