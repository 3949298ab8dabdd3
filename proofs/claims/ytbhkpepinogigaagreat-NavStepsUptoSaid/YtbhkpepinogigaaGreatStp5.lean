/- The reference WalkNext. (printed by mkstr.py) -/
import Derived.Test.YtbhkpepinogigaaGreatStp4
namespace Go.Proofs.YtbhkpepinogigaaGreat
open Go.RowKit

set_option maxRecDepth 100000 in
set_option maxHeartbeats 8000000 in
theorem ref_WalkNext (B:Option Addr) (m d:Nat) (F:List Fld) (A:Option Addr) (n c:Nat) (P:List Pag) (Vb:Option Addr) (nv cv:Nat) (V:List Val) (x:Wlk) (Q:Option Addr) (q cq:Nat) (w:World)
  (hX:RFo w B m d F A n c P) (hO:FldsOk F) (hY:RVp w Vb nv cv V Q q cq x.path) (hia:inI x.at_) :
  Calls Tryz.prog 29 #[.agg #[.slice B m d,.slice A n c],.slice Vb nv cv,.agg #[.int .i64 x.at_,.slice Q q cq,.bool x.done]] w (RetWlk w (nextR F P V x)):=by
 have h1:=fun w h h' => ref_WalkFault B m d F A n c P Vb nv cv V x Q q cq w h hO h' hia
 have h2:=fun w h h' => ref_WalkLacks B m d F A n c P Vb nv cv V x.at_ w h hO h'
 have hql:=hY.2.2.2.2.2.len
 have hpl:=hX.2.2.2.2.2.len
 have hml:=hX.2.2.2.2.1.len
 have hn4:=hY.2.2.1
 unfold inB at hn4
 have HX:=Lib.hid (And.intro hX hY)
 have HLI:=Lib.hid (lackR_wf (F:=F) (V:=V) (at_:=x.at_) (pag_fields hX.2.2.2.2.2))
 by_cases he:walkErr F P V x = 0
 ·rw [he] at h1
  cases hd:x.done
  ·rw [hd] at h1
   by_cases hpos:0 < (lackR F P V x.at_).1.length
   ·rw [nextR_lack he hd hpos]
    clear hX hY hO he hql hpl hml hd
    generalize (lackR F P V x.at_).2 = e2 at *
    generalize (lackR F P V x.at_).1 = ll at *
    go_enter Tryz.func29,Tryz.ntmps29
    go_wp2_with (first
     | (go_at_call 21;refine (h1 _ (HX.out.1.now bel) (HX.out.2.now bel)).mono ?_;rintro e w1 ⟨rfl,hb1⟩;obtain ⟨hc1,hf1⟩:=bcell hb1;(try simp only [bqh,bqc,bqf] at hc1 hf1);have hz1:=hb1.size;(try simp at hz1);(try have hy1:=nl1 hz1);(try have hx1:=nl2 hy1);refine szz w1 w ?_;intros)
     | (go_at_call 22;refine (h2 _ (HX.out.1.now bel) (HX.out.2.noPath.now bel)).mono ?_;rintro e w2 ⟨v2,rfl,ho2,hb2⟩;obtain ⟨A2,c2,rfl,_,_⟩:=ownStr ho2 rfl HLI.out;clear ho2;obtain ⟨hc2,hf2⟩:=bcell hb2;(try simp only [bqh,bqc,bqf] at hc2 hf2);have hz2:=hb2.size;(try simp at hz2);(try have hy2:=nl1 hz2);(try have hx2:=nl2 hy2);refine szz w2 w ?_;intros;refine szz w2 w1 ?_;intros))
    refine bodyPost_ret (v:=.tuple #[.agg #[.int .i64 0,.slice none 0 0,.bool false],.int .i64 11]) (by first | (simp [results,Tryz.results29,go_sem];done) | (simp [results,Tryz.results29,go_sem, *];done)) rfl ?_
    exact ⟨none,0,rfl,Sl.nil,bel⟩
   ·obtain ⟨rr,hrr⟩:∃ rr,rr = nextR F P V x:=⟨_,rfl⟩
    rw [← hrr]
    have hz:=walkErr_zero he
    have hwp:=walkOk_path hz.2.2.2
    have hq6:q ≤ 6:=by have h1:=walkOk_len hz.2.2.2;have h2:=(pagesErr_len (formErr_pages hz.1)).2;omega
    have hm14:m ≤ 14:=by rw [← hml];exact (fieldsErr_all (formErr_flds hz.1)).1
    have hn6:n ≤ 6:=by have h2:=(pagesErr_len (formErr_pages hz.1)).2;omega
    obtain ⟨k0,hk0⟩:∃ k0:Nat,x.at_ = k0:=⟨x.at_.toNat,by omega⟩
    have hk0n:k0 < n:=by
     have h3:=hwp.2.2.1
     rw [hd] at h3
     have h4:=hwp.2.1
     have h5:¬ x.at_ = (P.length:Int):=fun e => by rw [decide_eq_true e] at h3;cases h3
     omega
    have HR:=Lib.hid (And.intro hrr (And.intro he (And.intro hd (And.intro hpos (And.intro hz (And.intro hk0 (And.intro hml (And.intro hpl hql))))))))
    have hvl:nv = m:=by have:=hz.2.1;have:=hY.2.2.2.2.1.len;omega
    subst hvl
    obtain ⟨i0,ei,ez0,ez1,ez2⟩:=info_parts Tryz.infoIn9
    generalize hll:(lackR F P V x.at_).1 = ll at *
    generalize hle:(lackR F P V x.at_).2 = le at *
    have HLL:=Lib.hid hll
    clear hX hY hO he hql hpl hml hd hrr hz hwp hk0 hll hle
    go_enter Tryz.func29,Tryz.ntmps29
    go_upto_region 9 with (first
     | (go_at_call 21;refine (h1 _ (HX.out.1.now bel) (HX.out.2.now bel)).mono ?_;rintro e w1 ⟨rfl,hb1⟩;obtain ⟨hc1,hf1⟩:=bcell hb1;(try simp only [bqh,bqc,bqf] at hc1 hf1);have hz1:=hb1.size;(try simp at hz1);(try have hy1:=nl1 hz1);(try have hx1:=nl2 hy1);refine szz w1 w ?_;intros)
     | (go_at_call 22;refine (h2 _ (HX.out.1.now bel) (HX.out.2.noPath.now bel)).mono ?_;rintro e w2 ⟨v2,rfl,ho2,hb2⟩;obtain ⟨A2,c2,rfl,_,_⟩:=ownStr ho2 rfl HLI.out;clear ho2;obtain ⟨hc2,hf2⟩:=bcell hb2;(try simp only [bqh,bqc,bqf] at hc2 hf2);have hz2:=hb2.size;(try simp at hz2);(try have hy2:=nl1 hz2);(try have hx2:=nl2 hy2);refine szz w2 w ?_;intros;refine szz w2 w1 ?_;intros))
    have hBW:Below w.heap.size w w2:=bel
    have hlw:w.heap.size + 2 < w2.heap.size:=by have:=hb1.size;have:=hb2.size;simp at *;omega
    have q0:w2.cell? ⟨w.heap.size,0,none⟩ = some (.slice B nv d):=by go_simp
    have q1:w2.cell? ⟨w.heap.size,1,none⟩ = some (.slice A n c):=by go_simp
    have p0:w2.cell? ⟨w.heap.size + 1,0,none⟩ = some (.int .i64 x.at_):=by go_simp
    have p1:w2.cell? ⟨w.heap.size + 1,1,none⟩ = some (.slice Q q cq):=by go_simp
    have CR:Cel3 w2 (w.heap.size + 1 + 1) (.int .i64 0) (.slice none 0 0) (.bool false):=⟨by go_simp,by go_simp,by go_simp,by go_simp,by go_simp,by go_simp⟩
    have hwk:IntKind.i64.wrap (x.at_ + 1) = x.at_ + 1:=IntWalk.i64_in _ (by have h7:=HR.out.2.2.2.2.2.1;rw [h7];omega)
    have hnx0:Hid (nextG F P V x = goTo (pSt F V) (P.drop (k0 + 1)) (k0 + 1)):=Lib.hid (by unfold nextG;rw [HR.out.2.2.2.2.2.1,Int.toNat_natCast])
    have hkA:x.at_ + 1 = ((k0 + 1:Nat):Int):=by rw [HR.out.2.2.2.2.2.1];rfl
    clear h1 h2
    go_wp2_with fail
    go_loopw [11] (fun s11 wr => ∃ j:Nat,k0 + 1 ≤ j ∧ j ≤ n ∧ s11 = .int .i64 (j:Int) ∧ Hid (nextG F P V x = goTo (pSt F V) (P.drop j) j) ∧ Below w2.heap.size w2 wr) (fun s11 _ => n - (intOf s11).toNat)
    case atStart => exact ⟨k0 + 1,Nat.le_refl _,by omega,by first | rfl | rw [← hkA],hnx0,Below.refl _ _⟩
    case round =>
     obtain ⟨j,hj1,hj2,rfl,hgt,hbr⟩:=hrel
     have hBr:Below w.heap.size w wr:=below_step hBW hbr (by omega)
     have r0:=cell_keep q0 hbr
     have r1:=cell_keep q1 hbr
     have hzr:=hbr.size
     have hlr:w.heap.size + 2 < wr.heap.size:=by omega
     have hlr0:w.heap.size < wr.heap.size:=by omega
     have hlr1:w.heap.size + 1 < wr.heap.size:=by omega
     by_cases hlt:j < n
     ·have hji:(j:Int) < (n:Int):=by omega
      obtain ⟨b2,o2,p,Y,D,X,C,hAe,hbl2,hlp,hrep,x0,x1,x2,x3,x4,x5,x6,x7⟩:=Pag_at HX.out.1.2.2.2.2.2 hlt
      have HAE:=Lib.hid hAe
      subst hAe
      obtain ⟨_,_,_,_,r5⟩:=hrep.open_
      obtain ⟨A0,c0,e0',i1',i2',i3',i4',i5',_⟩:=r5.open_
      simp only [List.cons.injEq,Value.slice.injEq,and_true,true_and] at e0'
      have hn0:inL p.skip.args.length:=i4'.l (by decide)
      have HR5:=Lib.hid (And.intro r5 (And.intro hlp hn0))
      have hbl2':b2 < wr.heap.size:=Nat.lt_of_lt_of_le hbl2 hBr.size
      replace x2:=cell_keep x2 hBr
      replace x3:=cell_keep x3 hBr
      replace x4:=cell_keep x4 hBr
      replace x5:=cell_keep x5 hBr
      replace x6:=cell_keep x6 hBr
      replace x7:=cell_keep x7 hBr
      have hba:=fun w => ref_bare p.skip.op p.skip.v.k p.skip.v.n p.skip.v.s p.skip.name X p.skip.args.length C w hn0
      rw [show (⟨p.skip.v.k,p.skip.v.n,p.skip.v.s⟩:Val) = p.skip.v from rfl] at hba
      have hga:=goTo_at (st:=pSt F V) hlp
      cases hbb:bareB p.skip.op p.skip.v p.skip.name p.skip.args.length
      ·rw [hbb] at hba
       have hfa:=fun w h h' => ref_named B nv d F Vb cv V w hm14 h h'
       have hnl:(namedF F V).length = nv:=by rw [namedF_len HR.out.2.2.2.2.1.2.1,HR.out.2.2.2.2.2.2.1]
       have hnw:∀ a ∈ namedF F V,a.wf:=by
        intro a ha
        obtain ⟨i,f,v,hf,hq,rfl⟩:=namedF_mem ha
        exact ⟨(flds_inS HX.out.1.2.2.2.2.1 f (List.mem_of_getElem? hf)).1,nv_wf,(Sl.all_wf HX.out.2.2.2.2.2.1 fun _ _ h => h.2) v (List.mem_of_getElem? hq)⟩
       have HNW:=Lib.hid (And.intro hnl hnw)
       obtain ⟨vk,vn,vs,ve,hev⟩:∃ vk vn vs ve,evalRes (namedF F V) p.skip = (⟨vk,vn,vs⟩,ve):=⟨_,_,_,_,rfl⟩
       have hvb:=fun A9 c9 w h h' => ref_ValueBy (namedF F V) A9 nv c9 p.skip X C w (HX.out.1.1.l (by decide)) h h'
       rw [hev] at hvb
       have hps:pSt F V p = if vk ≠ 2 then 1 else if vn = 1 then 2 else 0:=by unfold pSt passV;rw [hbb,hev];rfl
       have hpb:=pass_bool (F:=F) (V:=V) (p:=p)
       unfold passV at hpb
       rw [hev] at hpb
       have HPS:=Lib.hid (And.intro hps (And.intro hga hpb))
       clear hps hga hpb hev hbb hbl2 hlp hrep r5 hnl hnw hn0 i1' i2' i3' i4' i5' e0' x0 x1
       go_upto_region 11 with (go_at_call 76;refine (hba _).mono ?_;rintro e w3 ⟨rfl,hb3⟩;obtain ⟨hc3,hf3⟩:=bcell hb3;(try simp only [bqh,bqc,bqf] at hc3 hf3);have hz3:=hb3.size;(try simp at hz3);(try have hy3:=nl1 hz3);(try have hx3:=nl2 hy3);refine szz w3 wr ?_;intros)
       have hbl3:b2 < w3.heap.size:=by omega
       have hlr3:w.heap.size < w3.heap.size:=by omega
       have r03:=cell_keep r0 hb3
       have r13:=cell_keep r1 hb3
       replace x2:=cell_keep x2 hb3
       replace x3:=cell_keep x3 hb3
       replace x4:=cell_keep x4 hb3
       replace x5:=cell_keep x5 hb3
       replace x6:=cell_keep x6 hb3
       replace x7:=cell_keep x7 hb3
       have hB3:Below w.heap.size w w3:=below_step hBr hb3 hBr.size
       have hb23:Below w2.heap.size w2 w3:=below_step hbr hb3 hbr.size
       clear hc3 hf3 hb3 r0 r1 hba
       go_cut [12] (fun s12 wx => ∃ g:Nat,s12 = .pointer (some ⟨g,0,none⟩) ∧ w3.heap.size ≤ g ∧ Cel3 wx g (.int .i64 vk) (.int .i64 vn) (.string vs) ∧ Below w3.heap.size w3 wx)
       case first =>
        go_region_law (first
         | (go_simp;go_at_call 78;refine (hfa _ (HX.out.1.2.2.2.2.1.nowN keeps_Fld (show Below w.heap.size w _ from bel)) (HX.out.2.2.2.2.2.1.now (show Below w.heap.size w _ from bel))).mono ?_;rintro e w4 ⟨v4,rfl,ho4,hb4⟩;rw [HNW.out.1] at ho4;obtain ⟨A4,c4,rfl,_,hs4⟩:=ownFct ho4 HNW.out.1 HNW.out.2;clear ho4;have hb4':=hb4;(try simp only [heap_drew] at hb4');have hz4':=hb4'.size;(try simp at hz4');obtain ⟨hc4,hf4⟩:=bcell hb4;(try simp only [bqh,bqc,bqf] at hc4 hf4);have hz4:=hb4.size;(try simp at hz4);(try have hy4:=nl1 hz4);(try have hx4:=nl2 hy4);refine szz w4 w3 ?_;intros;(try simp only [heap_drew,World.cell?_drew] at hc4 hz4);have hl4:w.heap.size < w4.heap.size:=(by omega);have hl6:b2 < w4.heap.size:=(by omega);(try have hl7:w3.heap.size < w4.heap.size:=(by omega)))
         | (go_simp;go_at_call 77;refine (hvb A4 c4 _ (HR5.out.1.keep (old_keep (show Below w.heap.size w _ from bel))) (hs4.now bel)).mono ?_;rintro e w5 ⟨rfl,hb5⟩;have hb5':=hb5;(try simp only [heap_drew] at hb5');have hz5':=hb5'.size;(try simp at hz5');(try have hl8:w3.heap.size < w5.heap.size:=(by omega));(try have hl9:w4.heap.size < w5.heap.size:=(by omega));obtain ⟨hc5,hf5⟩:=bcell hb5;(try simp only [bqh,bqc,bqf] at hc5 hf5);have hz5:=hb5.size;(try simp at hz5);(try have hy5:=nl1 hz5);(try have hx5:=nl2 hy5);refine szz w5 w4 ?_;intros;dsimp only))
        all_goals
         go_wp2_with fail
         go_meet
         refine ⟨_,rfl,by omega,⟨by go_simp,by go_simp,by go_simp,by go_simp,by go_simp,by go_simp⟩,?_⟩
         exact bel
       case rest =>
        obtain ⟨g,rfl,hgw,hC,hbc⟩:=hcut
        obtain ⟨d0,d1,d2,e0,e1,e2⟩:=hC
        have hbW:Below w2.heap.size w2 wc:=below_step hb23 hbc hb23.size
        have hBc:Below w.heap.size w wc:=below_step hB3 hbc hB3.size
        have hgc:g < wc.heap.size:=block_lt_of_cell d0
        have r04:=cell_keep r03 hbc
        have r14:=cell_keep r13 hbc
        have hlr4:w.heap.size < wc.heap.size:=by have:=hbc.size;omega
        have hgt2:=hgt.out.trans HPS.out.2.1
        clear x2 x3 x4 x5 x6 x7 hfa hvb r03 r13
        by_cases hk:vk = 2
        ·have g1:(vk != 2) = false:=by simpa using hk
         rcases HPS.out.2.2 hk with hn | hn
         ·have hn':vn = 0:=hn
          have g2:(vn == 0) = true:=by rw [hn'];rfl
          have hp0:pSt F V p = 0:=by rw [HPS.out.1,if_neg (by simpa using hk),if_neg (by omega)]
          have hnG:nextG F P V x = (j,false):=by rw [hgt2,hp0];rfl
          have HK:=Lib.hid (And.intro hk hn')
          clear hk hn hn' hgt2 hp0
          rename World => wk
          have hrr:rr = (⟨(j:Nat),x.path ++ [x.at_],decide (j = P.length)⟩,0):=by
           rw [HR.out.1,nextR_ok HR.out.2.1 HR.out.2.2.1 (by rw [HLL.out];exact HR.out.2.2.2.1) (by rw [hnG]),hnG]
          have hlq:(x.path ++ [x.at_]).length = q + 1:=by rw [List.length_append,HR.out.2.2.2.2.2.2.2.2];rfl
          have hwf9:∀ a ∈ x.path ++ [x.at_],inI a:=by
           intro a ha
           rcases List.mem_append.1 ha with ha | ha
           ·exact HX.out.2.2.2.2.2.2.wfInt a ha
           ·rw [List.mem_singleton.1 ha];exact hia
          have HRR:=Lib.hid (And.intro hrr (And.intro hlq hwf9))
          have hjd:decide (j = P.length) = ((j:Int) == (n:Int)):=by rw [HR.out.2.2.2.2.2.2.2.1,Bool.eq_iff_iff,decide_eq_true_iff,beq_iff_eq];omega
          have HJ:=Lib.hid hjd
          clear hrr hlq hwf9 hjd hnG
          go_upto_region 17 with fail
          have CRW:=CR.block (hbW.block _ CR.lt)
          have hwz:w.heap.size + 1 + 1 < wk.heap.size:=CRW.lt
          have HCR:=Lib.hid CRW
          have p0':=cell_keep p0 hbW
          have p1':=cell_keep p1 hbW
          have hBwk:Below w.heap.size w wk:=below_step hBW hbW (by omega)
          clear CRW
          refine wp_world ?_;intro W1 hW1
          have hb1w:Below wk.heap.size wk W1:=by rw [hW1];exact bel
          have hC1:Cel3 W1 wk.heap.size (.int .i64 (j:Int)) (.slice none 0 0) (.bool ((j:Int) == (n:Int))):=by rw [hW1];exact ⟨by go_simp,by go_simp,by go_simp,by go_simp,by go_simp,by go_simp⟩
          have hz1:W1.heap.size = wk.heap.size + 1:=by rw [hW1];simp
          have y0':=cell_keep p0' hb1w
          have y1':=cell_keep p1' hb1w
          have hCR1:Cel3 W1 (w.heap.size + 1 + 1) (.int .i64 0) (.slice none 0 0) (.bool false):=HCR.out.keep hb1w
          have hB1W:Below w.heap.size w W1:=below_step hBwk hb1w (by omega)
          have HK1:=Lib.hid (And.intro hC1 hCR1)
          clear hW1 hC1 hCR1
          go_cut [] (fun wx => ∃ (A9:Option Addr) (c9:Nat),Cel3 wx wk.heap.size (.int .i64 (j:Int)) (.slice A9 (q + 1) c9) (.bool ((j:Int) == (n:Int))) ∧ Cel3 wx (w.heap.size + 1 + 1) (.int .i64 0) (.slice none 0 0) (.bool false) ∧ Hid (wx.ownsRow W1.heap.size 3 1 (.slice A9 (q + 1) c9) (q + 1) ((x.path ++ [x.at_]).flatMap intCs)) ∧ Below w.heap.size w wx)
          case first =>
           refine wp_world ?_;intro u0' hu0'
           obtain ⟨u0,hu0⟩:∃ y,y = u0'.drew:=⟨_,rfl⟩
           have hB0:Below W1.heap.size W1 u0:=by rw [hu0,hu0'];exact (Below.refl _ _).drew
           have hSS:∀ {y:World},Below W1.heap.size W1 y → (y.cell? ⟨w.heap.size + 1,0,none⟩ = some (.int .i64 x.at_) ∧ y.cell? ⟨w.heap.size + 1,1,none⟩ = some (.slice Q q cq)) ∧ y.cell? ⟨wk.heap.size,1,none⟩ = some (.slice none 0 0):=fun h => ⟨⟨cell_keep y0' h,cell_keep y1' h⟩,cell_keep HK1.out.1.2.1 h⟩
           have hS0:=hSS hB0
           refine wp_region_T (fun w' => (w'.cell? ⟨w.heap.size + 1,0,none⟩ = some (.int .i64 x.at_) ∧ w'.cell? ⟨w.heap.size + 1,1,none⟩ = some (.slice Q q cq)) ∧ w'.cell? ⟨wk.heap.size,1,none⟩ = some (.slice none 0 0)) 10 (by kernel_rfl) ?_
           rw [← hu0]
           clear hu0' hu0
           refine wpAnyT_take (i:=0) (oi:=_) (v:=?_) rfl (by kernel_rfl) (fun _ _ _ h => h) hS0 (by rfl) ?_ ?_
           rotate_left
           ·intro w' hS';(try dsimp only at hS');(try go_split_ands);go_simp;(try rw [if_neg (by omega)]);try with_reducible rfl
           simp only [Act.put,List.setIfInBounds_toArray,List.set_cons_zero,List.set_cons_succ]
           refine wpAnyT_take (i:=1) (oi:=_) (v:=?_) rfl (by kernel_rfl) (fun _ _ _ h => h) hS0 (by rfl) ?_ ?_
           rotate_left
           ·intro w' hS';(try dsimp only at hS');(try go_split_ands);go_simp;(try rw [if_neg (by omega)]);try with_reducible rfl
           simp only [Act.put,List.setIfInBounds_toArray,List.set_cons_zero,List.set_cons_succ]
           refine wpAnyT_take (i:=2) (oi:=_) (v:=?_) rfl (by kernel_rfl) (fun _ _ _ h => h) hS0 (by rfl) ?_ ?_
           rotate_left
           ·intro w' hS';(try dsimp only at hS');(try go_split_ands);go_simp;(try rw [if_neg (by omega)]);try with_reducible rfl
           simp only [Act.put,List.setIfInBounds_toArray,List.set_cons_zero,List.set_cons_succ]
           refine wpAnyT_take (i:=3) (oi:=_) (v:=?_) rfl (by kernel_rfl) (fun _ _ _ h => h) hS0 (by rfl) ?_ ?_
           rotate_left
           ·intro w' hS';(try dsimp only at hS');(try go_split_ands);go_simp;(try rw [if_neg (by omega)]);try with_reducible rfl
           simp only [Act.put,List.setIfInBounds_toArray,List.set_cons_zero,List.set_cons_succ]
           refine wpAnyT_take (i:=5) (oi:=_) (v:=?_) rfl (by kernel_rfl) (fun _ _ _ h => h) hS0 (by rfl) ?_ ?_
           rotate_left
           ·intro w' hS';(try dsimp only at hS');(try go_split_ands);go_simp;(try rw [if_neg (by omega)]);try with_reducible rfl
           simp only [Act.put,List.setIfInBounds_toArray,List.set_cons_zero,List.set_cons_succ]
           refine wpAnyT_take (i:=6) (oi:=_) (v:=?_) rfl (by kernel_rfl) (fun _ _ _ h => h) hS0 (by rfl) ?_ ?_
           rotate_left
           ·intro w' hS';(try dsimp only at hS');(try go_split_ands);go_simp;(try rw [if_neg (by omega)]);try with_reducible rfl
           simp only [Act.put,List.setIfInBounds_toArray,List.set_cons_zero,List.set_cons_succ]
           refine wpAnyT_two (i:=4) (j:=7) (o:=_) (p:=_) rfl rfl (by kernel_rfl) (fun K hK => ?_) (fun K hK => ?_)
           ·refine step_append_g rfl (.tmp 87) (.tmp 89) 23 rfl W1.heap.size 3 i0 (.int .i64 0) 1 8 Tryz.underlying23 ei ez0 ez1 ez2 rfl (by decide) (.slice none 0 0) 0 [] rfl (World.ownsRow_nil _ _ _ _) Q q cq (x.path.flatMap intCs) rfl (by rw [flat_len _ 1 (fun _ => rfl),HR.out.2.2.2.2.2.2.2.2,Nat.mul_one]) ((HX.out.2.2.2.2.2.2.now (below_step hB1W (show Below W1.heap.size W1 u0 from by first | exact hB0 | exact hB1) hB1W.size)).cellsInt) (fun e => by have h7:=HX.out.2.2.2.2.2.2;rw [e] at h7;exact h7.of_none.1) (oneInt _) (by unfold maxLen;omega) (by omega) (by first | exact hB0.size | exact hB1.size) ?_
            intro v1 u1 HO1 hgr hob
            have hB1:Below W1.heap.size W1 u1:=below_step hB0 ((Below.refl W1.heap.size u0).grown hgr (by have:=hB0.size;omega) (fun kk hk => by cases hk)) (Nat.le_refl _)
            have hS1:=hSS hB1
            refine hK.out _ _ (fun _ => hS1) ?_
            clear hK K
            try simp only [Act.put,List.setIfInBounds_toArray,List.set_cons_zero,List.set_cons_succ]
            refine wpAnyT_one (i:=7) (o:=_) rfl (by kernel_rfl) (fun K hK => ?_)
            go_simp
            obtain ⟨u2,hu2⟩:∃ y,y = u1.alloc (.cells #[.int .i64 x.at_] 3):=⟨_,rfl⟩
            rw [← hu2]
            have hb2:Below u1.heap.size u1 u2:=by rw [hu2];exact (Below.refl _ _).alloc (Nat.le_refl _) _
            have hG2:u2.cell? ⟨u1.heap.size,0,none⟩ = some (.int .i64 x.at_):=by rw [hu2];go_simp
            clear hu2
            have hB2:Below W1.heap.size W1 u2:=below_step hB1 hb2 hB1.size
            have HO2:=ownsRow_keep HO1 hb2
            have hS2:=hSS hB2
            refine hK.out _ _ (fun _ => hS2) ?_
            clear hK K
            try simp only [Act.put,List.setIfInBounds_toArray,List.set_cons_zero,List.set_cons_succ]
            refine wpAnyT_one (i:=8) (o:=_) rfl (by kernel_rfl) (fun K hK => ?_)
            refine step_append_g rfl (.tmp 90) (.tmp 93) 23 rfl W1.heap.size 3 i0 (.int .i64 0) 1 8 Tryz.underlying23 ei ez0 ez1 ez2 rfl (by decide) v1 (0 + q) _ rfl HO2 _ 1 1 [.int .i64 x.at_] rfl rfl (news1 hG2) (by simp) (by simp [Value.oneCell']) (by unfold maxLen;omega) (by omega) hB2.size ?_
            intro v2 u3 HO3 hgr3 hob3
            have hB3:Below W1.heap.size W1 u3:=below_step hB2 ((Below.refl W1.heap.size u2).grown hgr3 (by have:=hB2.size;omega) (fun kk hk => (HO2.lt kk hk).1)) (Nat.le_refl _)
            obtain ⟨g4,cap4,rfl,_,_⟩:=HO3.form (by omega)
            rw [List.nil_append,show x.path.flatMap intCs ++ [Value.int .i64 x.at_] = (x.path ++ [x.at_]).flatMap intCs by rw [List.flatMap_append];rfl,Nat.zero_add] at HO3
            have hS3:=hSS hB3
            refine hK.out _ _ (fun _ => hS3) ?_
            clear hK K
            try simp only [Act.put,List.setIfInBounds_toArray,List.set_cons_zero,List.set_cons_succ]
            refine wpAnyT_take (i:=9) (oi:=_) (v:=?_) rfl (by kernel_rfl) (fun _ _ _ h => h) hS3 (by rfl) ?_ ?_
            rotate_left
            ·intro w' hS';(try dsimp only at hS');(try go_split_ands);go_simp;(try rw [if_neg (by omega)]);try with_reducible rfl
            simp only [Act.put,List.setIfInBounds_toArray,List.set_cons_zero,List.set_cons_succ]
            have CA:Cel3 u3 wk.heap.size (.int .i64 (j:Int)) (.slice none 0 0) (.bool ((j:Int) == (n:Int))):=HK1.out.1.block (hB3.block _ HK1.out.1.lt)
            have CB:Cel3 u3 (w.heap.size + 1 + 1) (.int .i64 0) (.slice none 0 0) (.bool false):=HK1.out.2.block (hB3.block _ HK1.out.2.lt)
            obtain ⟨d0,d1,d2,e0,e1,e2⟩:=CA
            obtain ⟨f0,f1,f2,g0,g1,g2⟩:=CB
            have hl3:wk.heap.size < u3.heap.size:=block_lt_of_cell d0
            have hl4:w.heap.size + 1 + 1 < u3.heap.size:=by omega
            refine wpAnyT_one (i:=10) (o:=_) rfl (by kernel_rfl) (fun K hK => ?_)
            go_simp
            refine hK.out _ _ (fun h => absurd h (by decide)) ?_
            clear hK K
            refine wpAnyT_done (by kernel_rfl) ?_ _
            try simp only [Act.put,List.setIfInBounds_toArray,List.set_cons_zero,List.set_cons_succ]
            go_wp2_with fail
            go_meet
            refine ⟨some ⟨g4,0,none⟩,cap4,⟨by go_simp,by go_simp,by go_simp,by go_simp,by go_simp,by go_simp⟩,⟨by go_simp,by go_simp,by go_simp,by go_simp,by go_simp,by go_simp⟩,Lib.hid ?_,?_⟩
            ·exact ownsRow_setCell_below HO3 (a:=⟨wk.heap.size,1,none⟩) (show wk.heap.size < W1.heap.size by omega) _
            ·exact below_set (below_step hB1W hB3 hB1W.size) (show w.heap.size ≤ wk.heap.size by omega)
           ·go_simp
            obtain ⟨u1,hu1⟩:∃ y,y = u0.alloc (.cells #[.int .i64 x.at_] 3):=⟨_,rfl⟩
            rw [← hu1]
            have hb1:Below u0.heap.size u0 u1:=by rw [hu1];exact (Below.refl _ _).alloc (Nat.le_refl _) _
            have hG1:u1.cell? ⟨u0.heap.size,0,none⟩ = some (.int .i64 x.at_):=by rw [hu1];go_simp
            have hzq:u0.heap.size < u1.heap.size:=by rw [hu1];simp
            clear hu1
            have hB1:Below W1.heap.size W1 u1:=below_step hB0 hb1 hB0.size
            have hS1:=hSS hB1
            refine hK.out _ _ (fun _ => hS1) ?_
            clear hK K
            try simp only [Act.put,List.setIfInBounds_toArray,List.set_cons_zero,List.set_cons_succ]
            refine wpAnyT_one (i:=4) (o:=_) rfl (by kernel_rfl) (fun K hK => ?_)
            refine step_append_g rfl (.tmp 87) (.tmp 89) 23 rfl W1.heap.size 3 i0 (.int .i64 0) 1 8 Tryz.underlying23 ei ez0 ez1 ez2 rfl (by decide) (.slice none 0 0) 0 [] rfl (World.ownsRow_nil _ _ _ _) Q q cq (x.path.flatMap intCs) rfl (by rw [flat_len _ 1 (fun _ => rfl),HR.out.2.2.2.2.2.2.2.2,Nat.mul_one]) ((HX.out.2.2.2.2.2.2.now (below_step hB1W (show Below W1.heap.size W1 u1 from by first | exact hB0 | exact hB1) hB1W.size)).cellsInt) (fun e => by have h7:=HX.out.2.2.2.2.2.2;rw [e] at h7;exact h7.of_none.1) (oneInt _) (by unfold maxLen;omega) (by omega) (by first | exact hB0.size | exact hB1.size) ?_
            intro v1 u2 HO2 hgr hob
            have hB2:Below W1.heap.size W1 u2:=below_step hB1 ((Below.refl W1.heap.size u1).grown hgr (by have:=hB1.size;omega) (fun kk hk => by cases hk)) (Nat.le_refl _)
            have hG2:u2.cell? ⟨u0.heap.size,0,none⟩ = some (.int .i64 x.at_):=(World.cell?_of_block (a:=⟨u0.heap.size,0,none⟩) (hgr.block _ hzq (fun e => by cases e))).trans hG1
            have hS2:=hSS hB2
            refine hK.out _ _ (fun _ => hS2) ?_
            clear hK K
            try simp only [Act.put,List.setIfInBounds_toArray,List.set_cons_zero,List.set_cons_succ]
            refine wpAnyT_one (i:=8) (o:=_) rfl (by kernel_rfl) (fun K hK => ?_)
            refine step_append_g rfl (.tmp 90) (.tmp 93) 23 rfl W1.heap.size 3 i0 (.int .i64 0) 1 8 Tryz.underlying23 ei ez0 ez1 ez2 rfl (by decide) v1 (0 + q) _ rfl HO2 _ 1 1 [.int .i64 x.at_] rfl rfl (news1 hG2) (by simp) (by simp [Value.oneCell']) (by unfold maxLen;omega) (by omega) hB2.size ?_
            intro v2 u3 HO3 hgr3 hob3
            have hB3:Below W1.heap.size W1 u3:=below_step hB2 ((Below.refl W1.heap.size u2).grown hgr3 (by have:=hB2.size;omega) (fun kk hk => (HO2.lt kk hk).1)) (Nat.le_refl _)
            obtain ⟨g4,cap4,rfl,_,_⟩:=HO3.form (by omega)
            rw [List.nil_append,show x.path.flatMap intCs ++ [Value.int .i64 x.at_] = (x.path ++ [x.at_]).flatMap intCs by rw [List.flatMap_append];rfl,Nat.zero_add] at HO3
            have hS3:=hSS hB3
            refine hK.out _ _ (fun _ => hS3) ?_
            clear hK K
            try simp only [Act.put,List.setIfInBounds_toArray,List.set_cons_zero,List.set_cons_succ]
            refine wpAnyT_take (i:=9) (oi:=_) (v:=?_) rfl (by kernel_rfl) (fun _ _ _ h => h) hS3 (by rfl) ?_ ?_
            rotate_left
            ·intro w' hS';(try dsimp only at hS');(try go_split_ands);go_simp;(try rw [if_neg (by omega)]);try with_reducible rfl
            simp only [Act.put,List.setIfInBounds_toArray,List.set_cons_zero,List.set_cons_succ]
            have CA:Cel3 u3 wk.heap.size (.int .i64 (j:Int)) (.slice none 0 0) (.bool ((j:Int) == (n:Int))):=HK1.out.1.block (hB3.block _ HK1.out.1.lt)
            have CB:Cel3 u3 (w.heap.size + 1 + 1) (.int .i64 0) (.slice none 0 0) (.bool false):=HK1.out.2.block (hB3.block _ HK1.out.2.lt)
            obtain ⟨d0,d1,d2,e0,e1,e2⟩:=CA
            obtain ⟨f0,f1,f2,g0,g1,g2⟩:=CB
            have hl3:wk.heap.size < u3.heap.size:=block_lt_of_cell d0
            have hl4:w.heap.size + 1 + 1 < u3.heap.size:=by omega
            refine wpAnyT_one (i:=10) (o:=_) rfl (by kernel_rfl) (fun K hK => ?_)
            go_simp
            refine hK.out _ _ (fun h => absurd h (by decide)) ?_
            clear hK K
            refine wpAnyT_done (by kernel_rfl) ?_ _
            try simp only [Act.put,List.setIfInBounds_toArray,List.set_cons_zero,List.set_cons_succ]
            go_wp2_with fail
            go_meet
            refine ⟨some ⟨g4,0,none⟩,cap4,⟨by go_simp,by go_simp,by go_simp,by go_simp,by go_simp,by go_simp⟩,⟨by go_simp,by go_simp,by go_simp,by go_simp,by go_simp,by go_simp⟩,Lib.hid ?_,?_⟩
            ·exact ownsRow_setCell_below HO3 (a:=⟨wk.heap.size,1,none⟩) (show wk.heap.size < W1.heap.size by omega) _
            ·exact below_set (below_step hB1W hB3 hB1W.size) (show w.heap.size ≤ wk.heap.size by omega)
          case rest =>
           obtain ⟨A9,c9,⟨v0,v1,v2,s0,s1,s2⟩,⟨z0,z1,z2,r0',r1',r2'⟩,HO7,hB7⟩:=hcut
           have hzw:wk.heap.size < wc.heap.size:=block_lt_of_cell v0
           have hzz:w.heap.size + 1 + 1 < wc.heap.size:=by omega
           go_wp2_with fail
           refine bodyPost_ret (v:=.tuple #[.agg #[.int .i64 (j:Int),.slice A9 (q + 1) c9,.bool ((j:Int) == (n:Int))],.int .i64 0]) (by first | (simp [results,Tryz.results29,go_sem];done) | (simp [results,Tryz.results29,go_sem, *];done)) rfl ?_
           rw [HRR.out.1,HJ.out]
           refine ⟨A9,c9,by rw [HRR.out.2.1],?_,?_⟩
           ·have h9:=ownsRow_setCell_below (ownsRow_setCell_below (ownsRow_setCell_below HO7.out (a:=⟨w.heap.size + 1 + 1,0,none⟩) (show w.heap.size + 1 + 1 < W1.heap.size by omega) (.int .i64 (j:Int))) (a:=⟨w.heap.size + 1 + 1,1,none⟩) (show w.heap.size + 1 + 1 < W1.heap.size by omega) (.slice A9 (q + 1) c9)) (a:=⟨w.heap.size + 1 + 1,2,none⟩) (show w.heap.size + 1 + 1 < W1.heap.size by omega) (.bool ((j:Int) == (n:Int)))
            obtain ⟨A7,c7,e7,_,hs7⟩:=ownInt h9 HRR.out.2.1 HRR.out.2.2
            cases e7
            rw [HRR.out.2.1]
            exact hs7
           ·exact below_set (below_set (below_set hB7 (by show w.heap.size ≤ w.heap.size + 1 + 1;omega)) (by show w.heap.size ≤ w.heap.size + 1 + 1;omega)) (by show w.heap.size ≤ w.heap.size + 1 + 1;omega)
         ·have hn':vn = 1:=hn
          have g2:(vn == 0) = false:=by rw [hn'];rfl
          have hp2:pSt F V p = 2:=by rw [HPS.out.1,if_neg (by simpa using hk),if_pos hn']
          have hnG:nextG F P V x = goTo (pSt F V) (P.drop (j + 1)) (j + 1):=by rw [hgt2,hp2];rfl
          clear hp2
          have HG:=Lib.hid hnG
          have hwj:IntKind.i64.wrap ((j:Int) + 1) = (j:Int) + 1:=IntWalk.i64_in _ (by omega)
          clear hk hn hn' hgt2 hnG
          go_wp2_with fail
          go_roundw
          case rel => exact ⟨j + 1,by omega,by omega,rfl,HG,hbW⟩
          case measure =>
           have hq2:((j:Int) + 1).toNat = j + 1:=Int.toNat_natCast (j + 1)
           simp only [intOf,hq2,Int.toNat_natCast]
           exact Nat.sub_lt_sub_left hlt (Nat.lt_succ_self j)
        ·have g1:(vk != 2) = true:=by simpa using hk
         have hp1:pSt F V p = 1:=by rw [HPS.out.1,if_pos (by simpa using hk)]
         have hnG:(nextG F P V x).2 = true:=by rw [hgt2,hp1];rfl
         clear hp1
         have HRE:=Lib.hid (HR.out.1.trans (nextR_block HR.out.2.1 HR.out.2.2.1 (by rw [HLL.out];exact HR.out.2.2.2.1) hnG))
         have CRW:=CR.block (hbW.block _ CR.lt)
         have hwz:w.heap.size + 1 + 1 < wc.heap.size:=CRW.lt
         obtain ⟨u0,u1,u2,t0,t1,t2⟩:=CRW
         clear hnG hgt2
         go_wp2_with fail
         refine bodyPost_ret (v:=.tuple #[.agg #[.int .i64 0,.slice none 0 0,.bool false],.int .i64 11]) (by first | (simp [results,Tryz.results29,go_sem];done) | (simp [results,Tryz.results29,go_sem, *];done)) rfl ?_
         rw [HRE.out]
         exact ⟨none,0,rfl,Sl.nil,by exact bel⟩
      ·rw [hbb] at hba
       have hps:pSt F V p = 0:=by unfold pSt;rw [hbb];rfl
       rw [hps] at hga
       have hnG:nextG F P V x = (j,false):=hgt.out.trans hga
       clear hps hga hbb x0 x1 i1' i2' i3' i4' i5' e0' hbl2 hlp hrep r5
       go_upto_region 16 with (go_at_call 76;refine (hba _).mono ?_;rintro e w3 ⟨rfl,hb3⟩;obtain ⟨hc3,hf3⟩:=bcell hb3;(try simp only [bqh,bqc,bqf] at hc3 hf3);have hz3:=hb3.size;(try simp at hz3);(try have hy3:=nl1 hz3);(try have hx3:=nl2 hy3);refine szz w3 wr ?_;intros)
       have hbW:Below w2.heap.size w2 w3:=below_step hbr hb3 hbr.size
       have r03:=cell_keep r0 hb3
       have r13:=cell_keep r1 hb3
       have hlr3:w.heap.size < w3.heap.size:=by omega
       clear hc3 hf3 r0 r1 hba
       have hrr:rr = (⟨(j:Nat),x.path ++ [x.at_],decide (j = P.length)⟩,0):=by
        rw [HR.out.1,nextR_ok HR.out.2.1 HR.out.2.2.1 (by rw [HLL.out];exact HR.out.2.2.2.1) (by rw [hnG]),hnG]
       have hlq:(x.path ++ [x.at_]).length = q + 1:=by rw [List.length_append,HR.out.2.2.2.2.2.2.2.2];rfl
       have hwf9:∀ a ∈ x.path ++ [x.at_],inI a:=by
        intro a ha
        rcases List.mem_append.1 ha with ha | ha
        ·exact HX.out.2.2.2.2.2.2.wfInt a ha
        ·rw [List.mem_singleton.1 ha];exact hia
       have HRR:=Lib.hid (And.intro hrr (And.intro hlq hwf9))
       have hjd:decide (j = P.length) = ((j:Int) == (n:Int)):=by rw [HR.out.2.2.2.2.2.2.2.1,Bool.eq_iff_iff,decide_eq_true_iff,beq_iff_eq];omega
       have HJ:=Lib.hid hjd
       clear hrr hlq hwf9 hjd hnG
       go_upto_region 17 with fail
       have CRW:=CR.block (hbW.block _ CR.lt)
       have hwz:w.heap.size + 1 + 1 < w3.heap.size:=CRW.lt
       have HCR:=Lib.hid CRW
       have p0':=cell_keep p0 hbW
       have p1':=cell_keep p1 hbW
       have hBw3:Below w.heap.size w w3:=below_step hBW hbW (by omega)
       clear CRW
       refine wp_world ?_;intro W1 hW1
       have hb1w:Below w3.heap.size w3 W1:=by rw [hW1];exact bel
       have hC1:Cel3 W1 w3.heap.size (.int .i64 (j:Int)) (.slice none 0 0) (.bool ((j:Int) == (n:Int))):=by rw [hW1];exact ⟨by go_simp,by go_simp,by go_simp,by go_simp,by go_simp,by go_simp⟩
       have hz1:W1.heap.size = w3.heap.size + 1:=by rw [hW1];simp
       have y0':=cell_keep p0' hb1w
       have y1':=cell_keep p1' hb1w
       have hCR1:Cel3 W1 (w.heap.size + 1 + 1) (.int .i64 0) (.slice none 0 0) (.bool false):=HCR.out.keep hb1w
       have hB1W:Below w.heap.size w W1:=below_step hBw3 hb1w (by omega)
       have HK1:=Lib.hid (And.intro hC1 hCR1)
       clear hW1 hC1 hCR1
       go_cut [] (fun wx => ∃ (A9:Option Addr) (c9:Nat),Cel3 wx w3.heap.size (.int .i64 (j:Int)) (.slice A9 (q + 1) c9) (.bool ((j:Int) == (n:Int))) ∧ Cel3 wx (w.heap.size + 1 + 1) (.int .i64 0) (.slice none 0 0) (.bool false) ∧ Hid (wx.ownsRow W1.heap.size 3 1 (.slice A9 (q + 1) c9) (q + 1) ((x.path ++ [x.at_]).flatMap intCs)) ∧ Below w.heap.size w wx)
       case first =>
        refine wp_world ?_;intro u0' hu0'
        obtain ⟨u0,hu0⟩:∃ y,y = u0'.drew:=⟨_,rfl⟩
        have hB0:Below W1.heap.size W1 u0:=by rw [hu0,hu0'];exact (Below.refl _ _).drew
        have hSS:∀ {y:World},Below W1.heap.size W1 y → (y.cell? ⟨w.heap.size + 1,0,none⟩ = some (.int .i64 x.at_) ∧ y.cell? ⟨w.heap.size + 1,1,none⟩ = some (.slice Q q cq)) ∧ y.cell? ⟨w3.heap.size,1,none⟩ = some (.slice none 0 0):=fun h => ⟨⟨cell_keep y0' h,cell_keep y1' h⟩,cell_keep HK1.out.1.2.1 h⟩
        have hS0:=hSS hB0
        refine wp_region_T (fun w' => (w'.cell? ⟨w.heap.size + 1,0,none⟩ = some (.int .i64 x.at_) ∧ w'.cell? ⟨w.heap.size + 1,1,none⟩ = some (.slice Q q cq)) ∧ w'.cell? ⟨w3.heap.size,1,none⟩ = some (.slice none 0 0)) 10 (by kernel_rfl) ?_
        rw [← hu0]
        clear hu0' hu0
        refine wpAnyT_take (i:=0) (oi:=_) (v:=?_) rfl (by kernel_rfl) (fun _ _ _ h => h) hS0 (by rfl) ?_ ?_
        rotate_left
        ·intro w' hS';(try dsimp only at hS');(try go_split_ands);go_simp;(try rw [if_neg (by omega)]);try with_reducible rfl
        simp only [Act.put,List.setIfInBounds_toArray,List.set_cons_zero,List.set_cons_succ]
        refine wpAnyT_take (i:=1) (oi:=_) (v:=?_) rfl (by kernel_rfl) (fun _ _ _ h => h) hS0 (by rfl) ?_ ?_
        rotate_left
        ·intro w' hS';(try dsimp only at hS');(try go_split_ands);go_simp;(try rw [if_neg (by omega)]);try with_reducible rfl
        simp only [Act.put,List.setIfInBounds_toArray,List.set_cons_zero,List.set_cons_succ]
        refine wpAnyT_take (i:=2) (oi:=_) (v:=?_) rfl (by kernel_rfl) (fun _ _ _ h => h) hS0 (by rfl) ?_ ?_
        rotate_left
        ·intro w' hS';(try dsimp only at hS');(try go_split_ands);go_simp;(try rw [if_neg (by omega)]);try with_reducible rfl
        simp only [Act.put,List.setIfInBounds_toArray,List.set_cons_zero,List.set_cons_succ]
        refine wpAnyT_take (i:=3) (oi:=_) (v:=?_) rfl (by kernel_rfl) (fun _ _ _ h => h) hS0 (by rfl) ?_ ?_
        rotate_left
        ·intro w' hS';(try dsimp only at hS');(try go_split_ands);go_simp;(try rw [if_neg (by omega)]);try with_reducible rfl
        simp only [Act.put,List.setIfInBounds_toArray,List.set_cons_zero,List.set_cons_succ]
        refine wpAnyT_take (i:=5) (oi:=_) (v:=?_) rfl (by kernel_rfl) (fun _ _ _ h => h) hS0 (by rfl) ?_ ?_
        rotate_left
        ·intro w' hS';(try dsimp only at hS');(try go_split_ands);go_simp;(try rw [if_neg (by omega)]);try with_reducible rfl
        simp only [Act.put,List.setIfInBounds_toArray,List.set_cons_zero,List.set_cons_succ]
        refine wpAnyT_take (i:=6) (oi:=_) (v:=?_) rfl (by kernel_rfl) (fun _ _ _ h => h) hS0 (by rfl) ?_ ?_
        rotate_left
        ·intro w' hS';(try dsimp only at hS');(try go_split_ands);go_simp;(try rw [if_neg (by omega)]);try with_reducible rfl
        simp only [Act.put,List.setIfInBounds_toArray,List.set_cons_zero,List.set_cons_succ]
        refine wpAnyT_two (i:=4) (j:=7) (o:=_) (p:=_) rfl rfl (by kernel_rfl) (fun K hK => ?_) (fun K hK => ?_)
        ·refine step_append_g rfl (.tmp 87) (.tmp 89) 23 rfl W1.heap.size 3 i0 (.int .i64 0) 1 8 Tryz.underlying23 ei ez0 ez1 ez2 rfl (by decide) (.slice none 0 0) 0 [] rfl (World.ownsRow_nil _ _ _ _) Q q cq (x.path.flatMap intCs) rfl (by rw [flat_len _ 1 (fun _ => rfl),HR.out.2.2.2.2.2.2.2.2,Nat.mul_one]) ((HX.out.2.2.2.2.2.2.now (below_step hB1W (show Below W1.heap.size W1 u0 from by first | exact hB0 | exact hB1) hB1W.size)).cellsInt) (fun e => by have h7:=HX.out.2.2.2.2.2.2;rw [e] at h7;exact h7.of_none.1) (oneInt _) (by unfold maxLen;omega) (by omega) (by first | exact hB0.size | exact hB1.size) ?_
         intro v1 u1 HO1 hgr hob
         have hB1:Below W1.heap.size W1 u1:=below_step hB0 ((Below.refl W1.heap.size u0).grown hgr (by have:=hB0.size;omega) (fun kk hk => by cases hk)) (Nat.le_refl _)
         have hS1:=hSS hB1
         refine hK.out _ _ (fun _ => hS1) ?_
         clear hK K
         try simp only [Act.put,List.setIfInBounds_toArray,List.set_cons_zero,List.set_cons_succ]
         refine wpAnyT_one (i:=7) (o:=_) rfl (by kernel_rfl) (fun K hK => ?_)
         go_simp
         obtain ⟨u2,hu2⟩:∃ y,y = u1.alloc (.cells #[.int .i64 x.at_] 3):=⟨_,rfl⟩
         rw [← hu2]
         have hb2:Below u1.heap.size u1 u2:=by rw [hu2];exact (Below.refl _ _).alloc (Nat.le_refl _) _
         have hG2:u2.cell? ⟨u1.heap.size,0,none⟩ = some (.int .i64 x.at_):=by rw [hu2];go_simp
         clear hu2
         have hB2:Below W1.heap.size W1 u2:=below_step hB1 hb2 hB1.size
         have HO2:=ownsRow_keep HO1 hb2
         have hS2:=hSS hB2
         refine hK.out _ _ (fun _ => hS2) ?_
         clear hK K
         try simp only [Act.put,List.setIfInBounds_toArray,List.set_cons_zero,List.set_cons_succ]
         refine wpAnyT_one (i:=8) (o:=_) rfl (by kernel_rfl) (fun K hK => ?_)
         refine step_append_g rfl (.tmp 90) (.tmp 93) 23 rfl W1.heap.size 3 i0 (.int .i64 0) 1 8 Tryz.underlying23 ei ez0 ez1 ez2 rfl (by decide) v1 (0 + q) _ rfl HO2 _ 1 1 [.int .i64 x.at_] rfl rfl (news1 hG2) (by simp) (by simp [Value.oneCell']) (by unfold maxLen;omega) (by omega) hB2.size ?_
         intro v2 u3 HO3 hgr3 hob3
         have hB3:Below W1.heap.size W1 u3:=below_step hB2 ((Below.refl W1.heap.size u2).grown hgr3 (by have:=hB2.size;omega) (fun kk hk => (HO2.lt kk hk).1)) (Nat.le_refl _)
         obtain ⟨g4,cap4,rfl,_,_⟩:=HO3.form (by omega)
         rw [List.nil_append,show x.path.flatMap intCs ++ [Value.int .i64 x.at_] = (x.path ++ [x.at_]).flatMap intCs by rw [List.flatMap_append];rfl,Nat.zero_add] at HO3
         have hS3:=hSS hB3
         refine hK.out _ _ (fun _ => hS3) ?_
         clear hK K
         try simp only [Act.put,List.setIfInBounds_toArray,List.set_cons_zero,List.set_cons_succ]
         refine wpAnyT_take (i:=9) (oi:=_) (v:=?_) rfl (by kernel_rfl) (fun _ _ _ h => h) hS3 (by rfl) ?_ ?_
         rotate_left
         ·intro w' hS';(try dsimp only at hS');(try go_split_ands);go_simp;(try rw [if_neg (by omega)]);try with_reducible rfl
         simp only [Act.put,List.setIfInBounds_toArray,List.set_cons_zero,List.set_cons_succ]
         have CA:Cel3 u3 w3.heap.size (.int .i64 (j:Int)) (.slice none 0 0) (.bool ((j:Int) == (n:Int))):=HK1.out.1.block (hB3.block _ HK1.out.1.lt)
         have CB:Cel3 u3 (w.heap.size + 1 + 1) (.int .i64 0) (.slice none 0 0) (.bool false):=HK1.out.2.block (hB3.block _ HK1.out.2.lt)
         obtain ⟨d0,d1,d2,e0,e1,e2⟩:=CA
         obtain ⟨f0,f1,f2,g0,g1,g2⟩:=CB
         have hl3:w3.heap.size < u3.heap.size:=block_lt_of_cell d0
         have hl4:w.heap.size + 1 + 1 < u3.heap.size:=by omega
         refine wpAnyT_one (i:=10) (o:=_) rfl (by kernel_rfl) (fun K hK => ?_)
         go_simp
         refine hK.out _ _ (fun h => absurd h (by decide)) ?_
         clear hK K
         refine wpAnyT_done (by kernel_rfl) ?_ _
         try simp only [Act.put,List.setIfInBounds_toArray,List.set_cons_zero,List.set_cons_succ]
         go_wp2_with fail
         go_meet
         refine ⟨some ⟨g4,0,none⟩,cap4,⟨by go_simp,by go_simp,by go_simp,by go_simp,by go_simp,by go_simp⟩,⟨by go_simp,by go_simp,by go_simp,by go_simp,by go_simp,by go_simp⟩,Lib.hid ?_,?_⟩
         ·exact ownsRow_setCell_below HO3 (a:=⟨w3.heap.size,1,none⟩) (show w3.heap.size < W1.heap.size by omega) _
         ·exact below_set (below_step hB1W hB3 hB1W.size) (show w.heap.size ≤ w3.heap.size by omega)
        ·go_simp
         obtain ⟨u1,hu1⟩:∃ y,y = u0.alloc (.cells #[.int .i64 x.at_] 3):=⟨_,rfl⟩
         rw [← hu1]
         have hb1:Below u0.heap.size u0 u1:=by rw [hu1];exact (Below.refl _ _).alloc (Nat.le_refl _) _
         have hG1:u1.cell? ⟨u0.heap.size,0,none⟩ = some (.int .i64 x.at_):=by rw [hu1];go_simp
         have hzq:u0.heap.size < u1.heap.size:=by rw [hu1];simp
         clear hu1
         have hB1:Below W1.heap.size W1 u1:=below_step hB0 hb1 hB0.size
         have hS1:=hSS hB1
         refine hK.out _ _ (fun _ => hS1) ?_
         clear hK K
         try simp only [Act.put,List.setIfInBounds_toArray,List.set_cons_zero,List.set_cons_succ]
         refine wpAnyT_one (i:=4) (o:=_) rfl (by kernel_rfl) (fun K hK => ?_)
         refine step_append_g rfl (.tmp 87) (.tmp 89) 23 rfl W1.heap.size 3 i0 (.int .i64 0) 1 8 Tryz.underlying23 ei ez0 ez1 ez2 rfl (by decide) (.slice none 0 0) 0 [] rfl (World.ownsRow_nil _ _ _ _) Q q cq (x.path.flatMap intCs) rfl (by rw [flat_len _ 1 (fun _ => rfl),HR.out.2.2.2.2.2.2.2.2,Nat.mul_one]) ((HX.out.2.2.2.2.2.2.now (below_step hB1W (show Below W1.heap.size W1 u1 from by first | exact hB0 | exact hB1) hB1W.size)).cellsInt) (fun e => by have h7:=HX.out.2.2.2.2.2.2;rw [e] at h7;exact h7.of_none.1) (oneInt _) (by unfold maxLen;omega) (by omega) (by first | exact hB0.size | exact hB1.size) ?_
         intro v1 u2 HO2 hgr hob
         have hB2:Below W1.heap.size W1 u2:=below_step hB1 ((Below.refl W1.heap.size u1).grown hgr (by have:=hB1.size;omega) (fun kk hk => by cases hk)) (Nat.le_refl _)
         have hG2:u2.cell? ⟨u0.heap.size,0,none⟩ = some (.int .i64 x.at_):=(World.cell?_of_block (a:=⟨u0.heap.size,0,none⟩) (hgr.block _ hzq (fun e => by cases e))).trans hG1
         have hS2:=hSS hB2
         refine hK.out _ _ (fun _ => hS2) ?_
         clear hK K
         try simp only [Act.put,List.setIfInBounds_toArray,List.set_cons_zero,List.set_cons_succ]
         refine wpAnyT_one (i:=8) (o:=_) rfl (by kernel_rfl) (fun K hK => ?_)
         refine step_append_g rfl (.tmp 90) (.tmp 93) 23 rfl W1.heap.size 3 i0 (.int .i64 0) 1 8 Tryz.underlying23 ei ez0 ez1 ez2 rfl (by decide) v1 (0 + q) _ rfl HO2 _ 1 1 [.int .i64 x.at_] rfl rfl (news1 hG2) (by simp) (by simp [Value.oneCell']) (by unfold maxLen;omega) (by omega) hB2.size ?_
         intro v2 u3 HO3 hgr3 hob3
         have hB3:Below W1.heap.size W1 u3:=below_step hB2 ((Below.refl W1.heap.size u2).grown hgr3 (by have:=hB2.size;omega) (fun kk hk => (HO2.lt kk hk).1)) (Nat.le_refl _)
         obtain ⟨g4,cap4,rfl,_,_⟩:=HO3.form (by omega)
         rw [List.nil_append,show x.path.flatMap intCs ++ [Value.int .i64 x.at_] = (x.path ++ [x.at_]).flatMap intCs by rw [List.flatMap_append];rfl,Nat.zero_add] at HO3
         have hS3:=hSS hB3
         refine hK.out _ _ (fun _ => hS3) ?_
         clear hK K
         try simp only [Act.put,List.setIfInBounds_toArray,List.set_cons_zero,List.set_cons_succ]
         refine wpAnyT_take (i:=9) (oi:=_) (v:=?_) rfl (by kernel_rfl) (fun _ _ _ h => h) hS3 (by rfl) ?_ ?_
         rotate_left
         ·intro w' hS';(try dsimp only at hS');(try go_split_ands);go_simp;(try rw [if_neg (by omega)]);try with_reducible rfl
         simp only [Act.put,List.setIfInBounds_toArray,List.set_cons_zero,List.set_cons_succ]
         have CA:Cel3 u3 w3.heap.size (.int .i64 (j:Int)) (.slice none 0 0) (.bool ((j:Int) == (n:Int))):=HK1.out.1.block (hB3.block _ HK1.out.1.lt)
         have CB:Cel3 u3 (w.heap.size + 1 + 1) (.int .i64 0) (.slice none 0 0) (.bool false):=HK1.out.2.block (hB3.block _ HK1.out.2.lt)
         obtain ⟨d0,d1,d2,e0,e1,e2⟩:=CA
         obtain ⟨f0,f1,f2,g0,g1,g2⟩:=CB
         have hl3:w3.heap.size < u3.heap.size:=block_lt_of_cell d0
         have hl4:w.heap.size + 1 + 1 < u3.heap.size:=by omega
         refine wpAnyT_one (i:=10) (o:=_) rfl (by kernel_rfl) (fun K hK => ?_)
         go_simp
         refine hK.out _ _ (fun h => absurd h (by decide)) ?_
         clear hK K
         refine wpAnyT_done (by kernel_rfl) ?_ _
         try simp only [Act.put,List.setIfInBounds_toArray,List.set_cons_zero,List.set_cons_succ]
         go_wp2_with fail
         go_meet
         refine ⟨some ⟨g4,0,none⟩,cap4,⟨by go_simp,by go_simp,by go_simp,by go_simp,by go_simp,by go_simp⟩,⟨by go_simp,by go_simp,by go_simp,by go_simp,by go_simp,by go_simp⟩,Lib.hid ?_,?_⟩
         ·exact ownsRow_setCell_below HO3 (a:=⟨w3.heap.size,1,none⟩) (show w3.heap.size < W1.heap.size by omega) _
         ·exact below_set (below_step hB1W hB3 hB1W.size) (show w.heap.size ≤ w3.heap.size by omega)
       case rest =>
        obtain ⟨A9,c9,⟨v0,v1,v2,s0,s1,s2⟩,⟨z0,z1,z2,r0',r1',r2'⟩,HO7,hB7⟩:=hcut
        have hzw:w3.heap.size < wc.heap.size:=block_lt_of_cell v0
        have hzz:w.heap.size + 1 + 1 < wc.heap.size:=by omega
        go_wp2_with fail
        refine bodyPost_ret (v:=.tuple #[.agg #[.int .i64 (j:Int),.slice A9 (q + 1) c9,.bool ((j:Int) == (n:Int))],.int .i64 0]) (by first | (simp [results,Tryz.results29,go_sem];done) | (simp [results,Tryz.results29,go_sem, *];done)) rfl ?_
        rw [HRR.out.1,HJ.out]
        refine ⟨A9,c9,by rw [HRR.out.2.1],?_,?_⟩
        ·have h9:=ownsRow_setCell_below (ownsRow_setCell_below (ownsRow_setCell_below HO7.out (a:=⟨w.heap.size + 1 + 1,0,none⟩) (show w.heap.size + 1 + 1 < W1.heap.size by omega) (.int .i64 (j:Int))) (a:=⟨w.heap.size + 1 + 1,1,none⟩) (show w.heap.size + 1 + 1 < W1.heap.size by omega) (.slice A9 (q + 1) c9)) (a:=⟨w.heap.size + 1 + 1,2,none⟩) (show w.heap.size + 1 + 1 < W1.heap.size by omega) (.bool ((j:Int) == (n:Int)))
         obtain ⟨A7,c7,e7,_,hs7⟩:=ownInt h9 HRR.out.2.1 HRR.out.2.2
         cases e7
         rw [HRR.out.2.1]
         exact hs7
        ·exact below_set (below_set (below_set hB7 (by show w.heap.size ≤ w.heap.size + 1 + 1;omega)) (by show w.heap.size ≤ w.heap.size + 1 + 1;omega)) (by show w.heap.size ≤ w.heap.size + 1 + 1;omega)
     ·obtain rfl:j = n:=by omega
      have hnG:nextG F P V x = (j,false):=hgt.out.trans (goTo_end HR.out.2.2.2.2.2.2.2.1.symm)
      have hbW:=hbr
      have hrr:rr = (⟨(j:Nat),x.path ++ [x.at_],decide (j = P.length)⟩,0):=by
       rw [HR.out.1,nextR_ok HR.out.2.1 HR.out.2.2.1 (by rw [HLL.out];exact HR.out.2.2.2.1) (by rw [hnG]),hnG]
      have hlq:(x.path ++ [x.at_]).length = q + 1:=by rw [List.length_append,HR.out.2.2.2.2.2.2.2.2];rfl
      have hwf9:∀ a ∈ x.path ++ [x.at_],inI a:=by
       intro a ha
       rcases List.mem_append.1 ha with ha | ha
       ·exact HX.out.2.2.2.2.2.2.wfInt a ha
       ·rw [List.mem_singleton.1 ha];exact hia
      have HRR:=Lib.hid (And.intro hrr (And.intro hlq hwf9))
      have hjd:decide (j = P.length) = true:=by rw [HR.out.2.2.2.2.2.2.2.1];simp
      have HJ:=Lib.hid hjd
      clear hrr hlq hwf9 hjd hnG
      go_upto_region 17 with fail
      have CRW:=CR.block (hbW.block _ CR.lt)
      have hwz:w.heap.size + 1 + 1 < wr.heap.size:=CRW.lt
      have HCR:=Lib.hid CRW
      have p0':=cell_keep p0 hbW
      have p1':=cell_keep p1 hbW
      have hBwr:Below w.heap.size w wr:=below_step hBW hbW (by omega)
      clear CRW
      refine wp_world ?_;intro W1 hW1
      have hb1w:Below wr.heap.size wr W1:=by rw [hW1];exact bel
      have hC1:Cel3 W1 wr.heap.size (.int .i64 (j:Int)) (.slice none 0 0) (.bool true):=by rw [hW1];exact ⟨by go_simp,by go_simp,by go_simp,by go_simp,by go_simp,by go_simp⟩
      have hz1:W1.heap.size = wr.heap.size + 1:=by rw [hW1];simp
      have y0':=cell_keep p0' hb1w
      have y1':=cell_keep p1' hb1w
      have hCR1:Cel3 W1 (w.heap.size + 1 + 1) (.int .i64 0) (.slice none 0 0) (.bool false):=HCR.out.keep hb1w
      have hB1W:Below w.heap.size w W1:=below_step hBwr hb1w (by omega)
      have HK1:=Lib.hid (And.intro hC1 hCR1)
      clear hW1 hC1 hCR1
      go_cut [] (fun wx => ∃ (A9:Option Addr) (c9:Nat),Cel3 wx wr.heap.size (.int .i64 (j:Int)) (.slice A9 (q + 1) c9) (.bool true) ∧ Cel3 wx (w.heap.size + 1 + 1) (.int .i64 0) (.slice none 0 0) (.bool false) ∧ Hid (wx.ownsRow W1.heap.size 3 1 (.slice A9 (q + 1) c9) (q + 1) ((x.path ++ [x.at_]).flatMap intCs)) ∧ Below w.heap.size w wx)
      case first =>
       refine wp_world ?_;intro u0' hu0'
       obtain ⟨u0,hu0⟩:∃ y,y = u0'.drew:=⟨_,rfl⟩
       have hB0:Below W1.heap.size W1 u0:=by rw [hu0,hu0'];exact (Below.refl _ _).drew
       have hSS:∀ {y:World},Below W1.heap.size W1 y → (y.cell? ⟨w.heap.size + 1,0,none⟩ = some (.int .i64 x.at_) ∧ y.cell? ⟨w.heap.size + 1,1,none⟩ = some (.slice Q q cq)) ∧ y.cell? ⟨wr.heap.size,1,none⟩ = some (.slice none 0 0):=fun h => ⟨⟨cell_keep y0' h,cell_keep y1' h⟩,cell_keep HK1.out.1.2.1 h⟩
       have hS0:=hSS hB0
       refine wp_region_T (fun w' => (w'.cell? ⟨w.heap.size + 1,0,none⟩ = some (.int .i64 x.at_) ∧ w'.cell? ⟨w.heap.size + 1,1,none⟩ = some (.slice Q q cq)) ∧ w'.cell? ⟨wr.heap.size,1,none⟩ = some (.slice none 0 0)) 10 (by kernel_rfl) ?_
       rw [← hu0]
       clear hu0' hu0
       refine wpAnyT_take (i:=0) (oi:=_) (v:=?_) rfl (by kernel_rfl) (fun _ _ _ h => h) hS0 (by rfl) ?_ ?_
       rotate_left
       ·intro w' hS';(try dsimp only at hS');(try go_split_ands);go_simp;(try rw [if_neg (by omega)]);try with_reducible rfl
       simp only [Act.put,List.setIfInBounds_toArray,List.set_cons_zero,List.set_cons_succ]
       refine wpAnyT_take (i:=1) (oi:=_) (v:=?_) rfl (by kernel_rfl) (fun _ _ _ h => h) hS0 (by rfl) ?_ ?_
       rotate_left
       ·intro w' hS';(try dsimp only at hS');(try go_split_ands);go_simp;(try rw [if_neg (by omega)]);try with_reducible rfl
       simp only [Act.put,List.setIfInBounds_toArray,List.set_cons_zero,List.set_cons_succ]
       refine wpAnyT_take (i:=2) (oi:=_) (v:=?_) rfl (by kernel_rfl) (fun _ _ _ h => h) hS0 (by rfl) ?_ ?_
       rotate_left
       ·intro w' hS';(try dsimp only at hS');(try go_split_ands);go_simp;(try rw [if_neg (by omega)]);try with_reducible rfl
       simp only [Act.put,List.setIfInBounds_toArray,List.set_cons_zero,List.set_cons_succ]
       refine wpAnyT_take (i:=3) (oi:=_) (v:=?_) rfl (by kernel_rfl) (fun _ _ _ h => h) hS0 (by rfl) ?_ ?_
       rotate_left
       ·intro w' hS';(try dsimp only at hS');(try go_split_ands);go_simp;(try rw [if_neg (by omega)]);try with_reducible rfl
       simp only [Act.put,List.setIfInBounds_toArray,List.set_cons_zero,List.set_cons_succ]
       refine wpAnyT_take (i:=5) (oi:=_) (v:=?_) rfl (by kernel_rfl) (fun _ _ _ h => h) hS0 (by rfl) ?_ ?_
       rotate_left
       ·intro w' hS';(try dsimp only at hS');(try go_split_ands);go_simp;(try rw [if_neg (by omega)]);try with_reducible rfl
       simp only [Act.put,List.setIfInBounds_toArray,List.set_cons_zero,List.set_cons_succ]
       refine wpAnyT_take (i:=6) (oi:=_) (v:=?_) rfl (by kernel_rfl) (fun _ _ _ h => h) hS0 (by rfl) ?_ ?_
       rotate_left
       ·intro w' hS';(try dsimp only at hS');(try go_split_ands);go_simp;(try rw [if_neg (by omega)]);try with_reducible rfl
       simp only [Act.put,List.setIfInBounds_toArray,List.set_cons_zero,List.set_cons_succ]
       refine wpAnyT_two (i:=4) (j:=7) (o:=_) (p:=_) rfl rfl (by kernel_rfl) (fun K hK => ?_) (fun K hK => ?_)
       ·refine step_append_g rfl (.tmp 87) (.tmp 89) 23 rfl W1.heap.size 3 i0 (.int .i64 0) 1 8 Tryz.underlying23 ei ez0 ez1 ez2 rfl (by decide) (.slice none 0 0) 0 [] rfl (World.ownsRow_nil _ _ _ _) Q q cq (x.path.flatMap intCs) rfl (by rw [flat_len _ 1 (fun _ => rfl),HR.out.2.2.2.2.2.2.2.2,Nat.mul_one]) ((HX.out.2.2.2.2.2.2.now (below_step hB1W (show Below W1.heap.size W1 u0 from by first | exact hB0 | exact hB1) hB1W.size)).cellsInt) (fun e => by have h7:=HX.out.2.2.2.2.2.2;rw [e] at h7;exact h7.of_none.1) (oneInt _) (by unfold maxLen;omega) (by omega) (by first | exact hB0.size | exact hB1.size) ?_
        intro v1 u1 HO1 hgr hob
        have hB1:Below W1.heap.size W1 u1:=below_step hB0 ((Below.refl W1.heap.size u0).grown hgr (by have:=hB0.size;omega) (fun kk hk => by cases hk)) (Nat.le_refl _)
        have hS1:=hSS hB1
        refine hK.out _ _ (fun _ => hS1) ?_
        clear hK K
        try simp only [Act.put,List.setIfInBounds_toArray,List.set_cons_zero,List.set_cons_succ]
        refine wpAnyT_one (i:=7) (o:=_) rfl (by kernel_rfl) (fun K hK => ?_)
        go_simp
        obtain ⟨u2,hu2⟩:∃ y,y = u1.alloc (.cells #[.int .i64 x.at_] 3):=⟨_,rfl⟩
        rw [← hu2]
        have hb2:Below u1.heap.size u1 u2:=by rw [hu2];exact (Below.refl _ _).alloc (Nat.le_refl _) _
        have hG2:u2.cell? ⟨u1.heap.size,0,none⟩ = some (.int .i64 x.at_):=by rw [hu2];go_simp
        clear hu2
        have hB2:Below W1.heap.size W1 u2:=below_step hB1 hb2 hB1.size
        have HO2:=ownsRow_keep HO1 hb2
        have hS2:=hSS hB2
        refine hK.out _ _ (fun _ => hS2) ?_
        clear hK K
        try simp only [Act.put,List.setIfInBounds_toArray,List.set_cons_zero,List.set_cons_succ]
        refine wpAnyT_one (i:=8) (o:=_) rfl (by kernel_rfl) (fun K hK => ?_)
        refine step_append_g rfl (.tmp 90) (.tmp 93) 23 rfl W1.heap.size 3 i0 (.int .i64 0) 1 8 Tryz.underlying23 ei ez0 ez1 ez2 rfl (by decide) v1 (0 + q) _ rfl HO2 _ 1 1 [.int .i64 x.at_] rfl rfl (news1 hG2) (by simp) (by simp [Value.oneCell']) (by unfold maxLen;omega) (by omega) hB2.size ?_
        intro v2 u3 HO3 hgr3 hob3
        have hB3:Below W1.heap.size W1 u3:=below_step hB2 ((Below.refl W1.heap.size u2).grown hgr3 (by have:=hB2.size;omega) (fun kk hk => (HO2.lt kk hk).1)) (Nat.le_refl _)
        obtain ⟨g4,cap4,rfl,_,_⟩:=HO3.form (by omega)
        rw [List.nil_append,show x.path.flatMap intCs ++ [Value.int .i64 x.at_] = (x.path ++ [x.at_]).flatMap intCs by rw [List.flatMap_append];rfl,Nat.zero_add] at HO3
        have hS3:=hSS hB3
        refine hK.out _ _ (fun _ => hS3) ?_
        clear hK K
        try simp only [Act.put,List.setIfInBounds_toArray,List.set_cons_zero,List.set_cons_succ]
        refine wpAnyT_take (i:=9) (oi:=_) (v:=?_) rfl (by kernel_rfl) (fun _ _ _ h => h) hS3 (by rfl) ?_ ?_
        rotate_left
        ·intro w' hS';(try dsimp only at hS');(try go_split_ands);go_simp;(try rw [if_neg (by omega)]);try with_reducible rfl
        simp only [Act.put,List.setIfInBounds_toArray,List.set_cons_zero,List.set_cons_succ]
        have CA:Cel3 u3 wr.heap.size (.int .i64 (j:Int)) (.slice none 0 0) (.bool true):=HK1.out.1.block (hB3.block _ HK1.out.1.lt)
        have CB:Cel3 u3 (w.heap.size + 1 + 1) (.int .i64 0) (.slice none 0 0) (.bool false):=HK1.out.2.block (hB3.block _ HK1.out.2.lt)
        obtain ⟨d0,d1,d2,e0,e1,e2⟩:=CA
        obtain ⟨f0,f1,f2,g0,g1,g2⟩:=CB
        have hl3:wr.heap.size < u3.heap.size:=block_lt_of_cell d0
        have hl4:w.heap.size + 1 + 1 < u3.heap.size:=by omega
        refine wpAnyT_one (i:=10) (o:=_) rfl (by kernel_rfl) (fun K hK => ?_)
        go_simp
        refine hK.out _ _ (fun h => absurd h (by decide)) ?_
        clear hK K
        refine wpAnyT_done (by kernel_rfl) ?_ _
        try simp only [Act.put,List.setIfInBounds_toArray,List.set_cons_zero,List.set_cons_succ]
        go_wp2_with fail
        go_meet
        refine ⟨some ⟨g4,0,none⟩,cap4,⟨by go_simp,by go_simp,by go_simp,by go_simp,by go_simp,by go_simp⟩,⟨by go_simp,by go_simp,by go_simp,by go_simp,by go_simp,by go_simp⟩,Lib.hid ?_,?_⟩
        ·exact ownsRow_setCell_below HO3 (a:=⟨wr.heap.size,1,none⟩) (show wr.heap.size < W1.heap.size by omega) _
        ·exact below_set (below_step hB1W hB3 hB1W.size) (show w.heap.size ≤ wr.heap.size by omega)
       ·go_simp
        obtain ⟨u1,hu1⟩:∃ y,y = u0.alloc (.cells #[.int .i64 x.at_] 3):=⟨_,rfl⟩
        rw [← hu1]
        have hb1:Below u0.heap.size u0 u1:=by rw [hu1];exact (Below.refl _ _).alloc (Nat.le_refl _) _
        have hG1:u1.cell? ⟨u0.heap.size,0,none⟩ = some (.int .i64 x.at_):=by rw [hu1];go_simp
        have hzq:u0.heap.size < u1.heap.size:=by rw [hu1];simp
        clear hu1
        have hB1:Below W1.heap.size W1 u1:=below_step hB0 hb1 hB0.size
        have hS1:=hSS hB1
        refine hK.out _ _ (fun _ => hS1) ?_
        clear hK K
        try simp only [Act.put,List.setIfInBounds_toArray,List.set_cons_zero,List.set_cons_succ]
        refine wpAnyT_one (i:=4) (o:=_) rfl (by kernel_rfl) (fun K hK => ?_)
        refine step_append_g rfl (.tmp 87) (.tmp 89) 23 rfl W1.heap.size 3 i0 (.int .i64 0) 1 8 Tryz.underlying23 ei ez0 ez1 ez2 rfl (by decide) (.slice none 0 0) 0 [] rfl (World.ownsRow_nil _ _ _ _) Q q cq (x.path.flatMap intCs) rfl (by rw [flat_len _ 1 (fun _ => rfl),HR.out.2.2.2.2.2.2.2.2,Nat.mul_one]) ((HX.out.2.2.2.2.2.2.now (below_step hB1W (show Below W1.heap.size W1 u1 from by first | exact hB0 | exact hB1) hB1W.size)).cellsInt) (fun e => by have h7:=HX.out.2.2.2.2.2.2;rw [e] at h7;exact h7.of_none.1) (oneInt _) (by unfold maxLen;omega) (by omega) (by first | exact hB0.size | exact hB1.size) ?_
        intro v1 u2 HO2 hgr hob
        have hB2:Below W1.heap.size W1 u2:=below_step hB1 ((Below.refl W1.heap.size u1).grown hgr (by have:=hB1.size;omega) (fun kk hk => by cases hk)) (Nat.le_refl _)
        have hG2:u2.cell? ⟨u0.heap.size,0,none⟩ = some (.int .i64 x.at_):=(World.cell?_of_block (a:=⟨u0.heap.size,0,none⟩) (hgr.block _ hzq (fun e => by cases e))).trans hG1
        have hS2:=hSS hB2
        refine hK.out _ _ (fun _ => hS2) ?_
        clear hK K
        try simp only [Act.put,List.setIfInBounds_toArray,List.set_cons_zero,List.set_cons_succ]
        refine wpAnyT_one (i:=8) (o:=_) rfl (by kernel_rfl) (fun K hK => ?_)
        refine step_append_g rfl (.tmp 90) (.tmp 93) 23 rfl W1.heap.size 3 i0 (.int .i64 0) 1 8 Tryz.underlying23 ei ez0 ez1 ez2 rfl (by decide) v1 (0 + q) _ rfl HO2 _ 1 1 [.int .i64 x.at_] rfl rfl (news1 hG2) (by simp) (by simp [Value.oneCell']) (by unfold maxLen;omega) (by omega) hB2.size ?_
        intro v2 u3 HO3 hgr3 hob3
        have hB3:Below W1.heap.size W1 u3:=below_step hB2 ((Below.refl W1.heap.size u2).grown hgr3 (by have:=hB2.size;omega) (fun kk hk => (HO2.lt kk hk).1)) (Nat.le_refl _)
        obtain ⟨g4,cap4,rfl,_,_⟩:=HO3.form (by omega)
        rw [List.nil_append,show x.path.flatMap intCs ++ [Value.int .i64 x.at_] = (x.path ++ [x.at_]).flatMap intCs by rw [List.flatMap_append];rfl,Nat.zero_add] at HO3
        have hS3:=hSS hB3
        refine hK.out _ _ (fun _ => hS3) ?_
        clear hK K
        try simp only [Act.put,List.setIfInBounds_toArray,List.set_cons_zero,List.set_cons_succ]
        refine wpAnyT_take (i:=9) (oi:=_) (v:=?_) rfl (by kernel_rfl) (fun _ _ _ h => h) hS3 (by rfl) ?_ ?_
        rotate_left
        ·intro w' hS';(try dsimp only at hS');(try go_split_ands);go_simp;(try rw [if_neg (by omega)]);try with_reducible rfl
        simp only [Act.put,List.setIfInBounds_toArray,List.set_cons_zero,List.set_cons_succ]
        have CA:Cel3 u3 wr.heap.size (.int .i64 (j:Int)) (.slice none 0 0) (.bool true):=HK1.out.1.block (hB3.block _ HK1.out.1.lt)
        have CB:Cel3 u3 (w.heap.size + 1 + 1) (.int .i64 0) (.slice none 0 0) (.bool false):=HK1.out.2.block (hB3.block _ HK1.out.2.lt)
        obtain ⟨d0,d1,d2,e0,e1,e2⟩:=CA
        obtain ⟨f0,f1,f2,g0,g1,g2⟩:=CB
        have hl3:wr.heap.size < u3.heap.size:=block_lt_of_cell d0
        have hl4:w.heap.size + 1 + 1 < u3.heap.size:=by omega
        refine wpAnyT_one (i:=10) (o:=_) rfl (by kernel_rfl) (fun K hK => ?_)
        go_simp
        refine hK.out _ _ (fun h => absurd h (by decide)) ?_
        clear hK K
        refine wpAnyT_done (by kernel_rfl) ?_ _
        try simp only [Act.put,List.setIfInBounds_toArray,List.set_cons_zero,List.set_cons_succ]
        go_wp2_with fail
        go_meet
        refine ⟨some ⟨g4,0,none⟩,cap4,⟨by go_simp,by go_simp,by go_simp,by go_simp,by go_simp,by go_simp⟩,⟨by go_simp,by go_simp,by go_simp,by go_simp,by go_simp,by go_simp⟩,Lib.hid ?_,?_⟩
        ·exact ownsRow_setCell_below HO3 (a:=⟨wr.heap.size,1,none⟩) (show wr.heap.size < W1.heap.size by omega) _
        ·exact below_set (below_step hB1W hB3 hB1W.size) (show w.heap.size ≤ wr.heap.size by omega)
      case rest =>
       obtain ⟨A9,c9,⟨v0,v1,v2,s0,s1,s2⟩,⟨z0,z1,z2,r0',r1',r2'⟩,HO7,hB7⟩:=hcut
       have hzw:wr.heap.size < wc.heap.size:=block_lt_of_cell v0
       have hzz:w.heap.size + 1 + 1 < wc.heap.size:=by omega
       go_wp2_with fail
       refine bodyPost_ret (v:=.tuple #[.agg #[.int .i64 (j:Int),.slice A9 (q + 1) c9,.bool true],.int .i64 0]) (by first | (simp [results,Tryz.results29,go_sem];done) | (simp [results,Tryz.results29,go_sem, *];done)) rfl ?_
       rw [HRR.out.1,HJ.out]
       refine ⟨A9,c9,by rw [HRR.out.2.1],?_,?_⟩
       ·have h9:=ownsRow_setCell_below (ownsRow_setCell_below (ownsRow_setCell_below HO7.out (a:=⟨w.heap.size + 1 + 1,0,none⟩) (show w.heap.size + 1 + 1 < W1.heap.size by omega) (.int .i64 (j:Int))) (a:=⟨w.heap.size + 1 + 1,1,none⟩) (show w.heap.size + 1 + 1 < W1.heap.size by omega) (.slice A9 (q + 1) c9)) (a:=⟨w.heap.size + 1 + 1,2,none⟩) (show w.heap.size + 1 + 1 < W1.heap.size by omega) (.bool true)
        obtain ⟨A7,c7,e7,_,hs7⟩:=ownInt h9 HRR.out.2.1 HRR.out.2.2
        cases e7
        rw [HRR.out.2.1]
        exact hs7
       ·exact below_set (below_set (below_set hB7 (by show w.heap.size ≤ w.heap.size + 1 + 1;omega)) (by show w.heap.size ≤ w.heap.size + 1 + 1;omega)) (by show w.heap.size ≤ w.heap.size + 1 + 1;omega)
  ·rw [nextR_done he hd]
   rw [hd] at h1
   clear hX hY hO he hql hpl hml hd h2 HLI
   go_enter Tryz.func29,Tryz.ntmps29
   go_wp2_with (go_at_call 21;refine (h1 _ (HX.out.1.now bel) (HX.out.2.now bel)).mono ?_;rintro e w1 ⟨rfl,hb1⟩;obtain ⟨hc1,hf1⟩:=bcell hb1;(try simp only [bqh,bqc,bqf] at hc1 hf1);have hz1:=hb1.size;(try simp at hz1);(try have hy1:=nl1 hz1);(try have hx1:=nl2 hy1);refine szz w1 w ?_;intros)
   refine bodyPost_ret (v:=.tuple #[.agg #[.int .i64 0,.slice none 0 0,.bool false],.int .i64 13]) (by first | (simp [results,Tryz.results29,go_sem];done) | (simp [results,Tryz.results29,go_sem, *];done)) rfl ?_
   exact ⟨none,0,rfl,Sl.nil,bel⟩
 ·rw [nextR_err he]
  have g1:(walkErr F P V x != 0) = true:=by simpa using he
  generalize walkErr F P V x = er at *
  clear hX hY hO he hql hpl hml h2 HLI
  go_enter Tryz.func29,Tryz.ntmps29
  go_wp2_with (go_at_call 21;refine (h1 _ (HX.out.1.now bel) (HX.out.2.now bel)).mono ?_;rintro e w1 ⟨rfl,hb1⟩;obtain ⟨hc1,hf1⟩:=bcell hb1;(try simp only [bqh,bqc,bqf] at hc1 hf1);have hz1:=hb1.size;(try simp at hz1);(try have hy1:=nl1 hz1);(try have hx1:=nl2 hy1);refine szz w1 w ?_;intros)
  refine bodyPost_ret (v:=.tuple #[.agg #[.int .i64 0,.slice none 0 0,.bool false],.int .i64 er]) (by first | (simp [results,Tryz.results29,go_sem];done) | (simp [results,Tryz.results29,go_sem, *];done)) rfl ?_
  exact ⟨none,0,rfl,Sl.nil,bel⟩
end Go.Proofs.YtbhkpepinogigaaGreat
