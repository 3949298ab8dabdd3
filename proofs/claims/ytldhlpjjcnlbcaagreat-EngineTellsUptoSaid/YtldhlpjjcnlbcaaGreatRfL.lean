/- The reference's EngineTell. (printed by mkrfl.py) -/
import Derived.Test.YtldhlpjjcnlbcaaGreatRfe3
import Derived.Test.YtldhlpjjcnlbcaaGreatRfe4
import Derived.Test.YtldhlpjjcnlbcaaGreatEngM
import Derived.Test.YtldhlpjjcnlbcaaGreatPrt4
import Derived.Test.YtldhlpjjcnlbcaaGreatRfe1
import Derived.Test.YtldhlpjjcnlbcaaGreatEngL
set_option maxRecDepth 100000
set_option maxHeartbeats 8000000
namespace Go.Proofs.YtldhlpjjcnlbcaaGreat
open Go.RowKit
theorem tell_none {ins:List Fct}{name:ByteArray}{v:Val}(ha:ins.any (z0y name)=false):ins.map (putIn name v)=ins/\tellI name v ins=ins++[⟨name,noVal,v⟩]:=by
 refine⟨?_,by unfold tellI;rw[ha,if_neg (by decide)]⟩
 rw[List.any_eq_false] at ha
 conv=>rhs;rw[<-List.map_id ins]
 refine List.map_congr_left fun x hx=>?_
 unfold putIn
 rw[if_neg (ha x hx)]
 rfl
theorem ref_EngineTell (B:Option Addr)(m d:Nat)(F:List Fld)(A:Option Addr)(n c:Nat)(P:List Pag)(p:Pol)(A1:Option Addr)(n1 c1:Nat)(ins:List Fct)(A2:Option Addr)(n2 c2:Nat)(cs:List Cll)(A3:Option Addr)(n3 c3:Nat)(vs:List Val)(now last:Int)(name:ByteArray)(v:Val)(w:World)
  (hX:REn w B m d F A n c P A1 n1 c1 ins A2 n2 c2 cs A3 n3 c3 vs)(hO:z2i F)(hn:inS name)(hv:v.wf) :
  Calls Tryz.prog 17 #[.agg #[.slice B m d,.slice A n c,.int .i64 p.tries,.int .i64 p.base,.int .i64 p.cap,.slice A1 n1 c1,.slice A2 n2 c2,.slice A3 n3 c3,.int .i64 now,.int .i64 last],.string name,.agg #[.int .i64 v.k,.int .i64 v.n,.string v.s]] w (RetEng w (tellE ⟨F,P,p,ins,cs,vs,now,last⟩ name v)):=by
 have h1:=fun w h=>ref_EngineFault B m d F A n c P p A1 n1 c1 ins A2 n2 c2 cs A3 n3 c3 vs now last w h hO
 have h2:=fun w h=>z7u B m d F name v.k v.n v.s w (hX.1.1.l (by decide)) h (z0s hv.2.2)
 rw[show (⟨v.k,v.n,v.s⟩:Val)=v from rfl] at h2
 have h3:=fun w h=>zcg B m d F A n c P p A1 n1 c1 ins A2 n2 c2 cs A3 n3 c3 vs now last w h
 have hFm:F.length=m:=hX.1.2.2.2.2.1.len
 have hwf:(∀ x∈ins,x.wf)/\(∀ x∈cs,x.wf)/\(∀ x∈vs,x.wf):=⟨Sl.all_wf hX.2.1.2.2 fun _ _ h=>h.2,Sl.all_wf hX.2.2.1.2.2 fun _ _ h=>h.2,Sl.all_wf hX.2.2.2.2.2 fun _ _ h=>h.2⟩
 have hPl:inB 120 P.length:=by rw[hX.1.2.2.2.2.2.len];exact hX.1.2.2.1
 obtain⟨g,hg⟩:∃ g:Eng,g=⟨F,P,p,ins,cs,vs,now,last⟩:=⟨_,rfl⟩
 have hgF:g.F=F:=by rw[hg]
 obtain⟨rr,hrr⟩:∃ rr,rr=tellE g name v:=⟨_,rfl⟩
 rw[<-hg] at h1 ⊢
 rw[<-hrr]
 have HX:=zh hX
 by_cases z1:engErr g=0
 ·rw[z1] at h1
  by_cases z2:z19 F name v=0
  ·rw[z2] at h2
   obtain⟨hset0,hvl⟩:=zf1 (z85 z1)
   obtain⟨hfe,_,hfc,_,_⟩:=zft (z85 z1)
   have h14:=form14 hfe
   have hin:=facts_len hfc
   have hset:=(tell_set (name:=name) (v:=v) z1 (by rw[hgF];exact z2)).1
   have hyes:=hrr.trans (tellE_yes z1 (by rw[hgF];exact z2))
   rw[hg] at hset0 hvl h14 hin hset hyes
   dsimp only at hset0 hvl h14 hin hset hyes
   have hcl:cs.length=F.length:=hset0.2.2.2.1
   have hm14:m<=14:=by omega
   have hi14:ins.length<=14:=by omega
   have HE:=zh (ai hyes (ai hset (ai hvl (ai hcl (ai hO (ai hwf (ai hPl (ai hFm (ai hn hv)))))))))
   clear hX hg hgF hrr z1 z2 hwf hFm hset0 hset hvl hcl hO hyes hfe hfc h14 hin hn hv hPl
   go_enter Tryz.func17,Tryz.ntmps17
   go_upto_region 9 with (first
    | (go_at_call 14;refine (h1 _ (HX.out.now bel)).mono ?_;rintro e w1 ⟨rfl,hb1⟩;refine zb hb1 ?_;rintro ⟨hc1,hf1⟩ hz1 hy1 hx1;refine szz w1 w ?_;intros)
    | (go_at_call 50;refine (h2 _ (HX.out.1.2.2.2.2.1.nowN z02 bel)).mono ?_;rintro e w2 ⟨rfl,hb2⟩;refine zb hb2 ?_;rintro ⟨hc2,hf2⟩ hz2 hy2 hx2;refine szz w2 w ?_;intros;refine szz w2 w1 ?_;intros)
    | (go_at_call 15;refine (h3 _ (HX.out.now bel)).mono ?_;rintro e w4 ⟨A5,c5,A6,c6,A7,c7,A8,c8,A9,c9,N0,N1,N2,rfl,hcop,hb4⟩;refine zb hb4 ?_;rintro ⟨hc4,hf4⟩ hz4 hy4 hx4;refine szz w4 w ?_;intros;refine szz w4 w1 ?_;intros;refine szz w4 w2 ?_;intros))
   refine z0k ?_;intro W1 hW1
   rw[HE.out.2.2.2.1,HE.out.2.2.1,HE.out.2.2.2.2.2.2.2.1] at hW1
   obtain⟨M,hM⟩:∃ M,M=w4.heap.size:=⟨_,rfl⟩
   have hR1:RBOX W1 (w.heap.size+2):=by rw[hW1];and_intros<;>go_simp
   have hC1:EBX W1 M (.slice A5 m c5) (.slice A6 P.length c6) p (.slice A7 ins.length c7) (.slice A8 m c8) (.slice A9 m c9) now last:=by rw[hM,hW1];and_intros<;>go_simp
   have hF1:W1.frozen? ⟨M,5,none⟩=false:=by rw[hM,hW1];go_simp
   have e2:W1.cell? ⟨w.heap.size+1,0,none⟩=some (.int .i64 v.k):=by rw[hW1];go_simp
   have e3:W1.cell? ⟨w.heap.size+1,1,none⟩=some (.int .i64 v.n):=by rw[hW1];go_simp
   have e4:W1.cell? ⟨w.heap.size+1,2,none⟩=some (.string v.s):=by rw[hW1];go_simp
   have hB1:Below w.heap.size w W1:=by rw[hW1];exact bel
   have hb9:Below w4.heap.size w4 W1:=by
    rw[hW1]
    exact (Below.refl _ _).alloc (nr _) _
   have hz1:W1.heap.size=w4.heap.size+1:=by rw[hW1];simp
   have hw2:w.heap.size+3<=w2.heap.size:=by have:=hb1.size;have:=hb2.size;simp at *;omega
   obtain⟨hln,k5,k6,k7,k8,k9,q7,q8,q9',n0,n4⟩:=cop_rows hcop hb9 HE.out.2.2.2.2.2.2.2.1 HE.out.2.2.2.1 HE.out.2.2.1
   rw[<-hM] at q7 q8 q9' n4 ⊢
   have hMl1:M<W1.heap.size:=by omega
   have HM:=zh (ai k5 (ai k6 (ai k8 (ai k9 (ai hR1 (ai hC1 (ai hF1 (ai q7 (ai q8 (ai q9' (ai n0 (ai n4 (ai hB1 (ai hln (ai hw2 (ai hM (ai e2 (ai e3 e4))))))))))))))))))
   have HG0:=zh (show W1.ownsRow N0 72 7 (.slice A7 ins.length c7) ins.length ((mapTo (putIn name v) ins 0).flatMap Fct.cs) from k7)
   have z5:=hC1.2.2.2.2.2.1
   clear hW1 hcop hb1 hb2 hb4 hb9 hc1 hf1 hc2 hf2 hc4 hf4 h1 h2 h3 hC1 hF1 hR1 k5 k6 k7 k8 k9 q7 q8 q9' n0 n4 hB1 hln hM hz1 e2 e3 e4
   go_wp2_with fail
   go_loopw [12,35] (fun mt i wr=>∃ k:Nat,k<=ins.length/\i=.int .i64 k/\mt=.bool ((ins.take k).any (z0y name))/\Hid (wr.ownsRow N0 72 7 (.slice A7 ins.length c7) ins.length ((mapTo (putIn name v) ins k).flatMap Fct.cs))/\Hid (∀ b,b<W1.heap.size->some b≠(Value.slice A7 ins.length c7).ownBlock->wr.heap[b]?=W1.heap[b]?)/\Hid (Below N0 W1 wr)/\W1.heap.size<=wr.heap.size) (fun _ i _=>ins.length-(intOf i).toNat)
   case atStart=>exact⟨0,Nat.zero_le _,rfl,rfl,HG0,zh (fun _ _ _=>rfl),zh (Below.refl _ _),nr _⟩
   case round =>
    obtain⟨k,hk,rfl,rfl,hrow,hfr,hbw,hzr⟩:=hrel
    have hq7:∀ q,(Value.slice A7 ins.length c7).ownBlock=some q->N0<=q/\q<M:=fun q hq=>⟨(HM.out.2.2.2.2.2.2.2.1 q hq).1,(HM.out.2.2.2.2.2.2.2.1 q hq).2.1⟩
    have hMn:some M≠(Value.slice A7 ins.length c7).ownBlock:=fun e=>by have:=(hq7 M e.symm).2;omega
    have hEB:=HM.out.2.2.2.2.2.1.block (hfr.out M hMl1 hMn)
    have hMr:M<wr.heap.size:=by omega
    by_cases hlt:k<ins.length
    ·have hkk:(k:Int)<(ins.length:Int):=by omega
     obtain⟨x,hx⟩:∃ x,ins[k]?=some x:=⟨_,gq hlt⟩
     obtain⟨gi,ki,ei,hgN,_⟩:=hrow.out.form (by omega)
     cases ei
     have hxm:(mapTo (putIn name v) ins k)[k]?=some x:=by rw[mapTo_at];exact hx
     have hnx:=mapTo_next (f:=putIn name v) hx
     have hgi:=hq7 gi rfl
     have ho0:=hrow.out
     obtain⟨e4,e5,e6⟩:=cells_ownF ho0 hxm hlt
     have e0:wr.cell? ⟨gi,k*7,none⟩=some (.string x.name):=by
      have:=z87 Fct.cs 7 (fun _=>rfl) _ k 0 x hxm (by decide)
      rw[Nat.add_zero] at this
      rw[ho0.cellAt _ (by omega),this];rfl
     have f4:=ho0.frozenAt (k*7+4)
     have f5:=ho0.frozenAt (k*7+5)
     have f6:=ho0.frozenAt (k*7+6)
     have hgu:gi<wr.heap.size:=block_lt_of_cell e4
     have hvl:w.heap.size+1<wr.heap.size:=by have:=HM.out.2.2.2.2.2.2.2.2.2.2.1;have:=HM.out.2.2.2.2.2.2.2.2.2.2.2.2.2.2.1;have:=HM.out.2.2.2.2.2.2.2.2.2.2.2.1;omega
     have hvn:wr.heap[w.heap.size+1]?=W1.heap[w.heap.size+1]?:=hfr.out _ (by have:=HM.out.2.2.2.2.2.2.2.2.2.2.1;have:=HM.out.2.2.2.2.2.2.2.2.2.2.2.2.2.2.1;have:=HM.out.2.2.2.2.2.2.2.2.2.2.2.1;omega) (fun e=>by have:=(hq7 _ e.symm).1;have:=HM.out.2.2.2.2.2.2.2.2.2.2.1;have:=HM.out.2.2.2.2.2.2.2.2.2.2.2.2.2.2.1;omega)
     have t2:=(cob (w.heap.size+1) (0) hvn).trans HM.out.2.2.2.2.2.2.2.2.2.2.2.2.2.2.2.2.1
     have t3:=(cob (w.heap.size+1) (1) hvn).trans HM.out.2.2.2.2.2.2.2.2.2.2.2.2.2.2.2.2.2.1
     have t4:=(cob (w.heap.size+1) (2) hvn).trans HM.out.2.2.2.2.2.2.2.2.2.2.2.2.2.2.2.2.2.2
     have y5:=hEB.2.2.2.2.2.1
     have htk:∀ b,z0y name x=b->(ins.take (k+1)).any (z0y name)=((ins.take k).any (z0y name)||b):=fun b hb=>by
      rw[List.take_add_one,hx,List.any_append];simp[hb]
     have HK:=zh (ai hxm (ai hnx htk))
     clear z5 hx hxm hnx htk hEB hvn
     cases hs:z0y name x
     ·have gs:(x.name.toList==name.toList)=false:=hs
      have HS:=zh hs
      clear hs
      go_wp2_with fail
      go_roundw
      case rel =>
       refine⟨k+1,by omega,by go_num,?_,zh ?_,hfr,hbw,by omega⟩
       ·rw[HK.out.2.2 _ HS.out,Bool.or_false]
       rw[HK.out.2.1,show putIn name v x=x by unfold putIn;rw[if_neg (by rw[HS.out];decide)]]
       rw[show (mapTo (putIn name v) ins k).set k x=mapTo (putIn name v) ins k from by
        apply List.ext_getElem?
        intro j
        rw[List.getElem?_set]
        split
        ·rename_i h
         subst h
         rw[HK.out.1]
         split
         ·rfl
         rename_i h
         exact absurd (List.getElem?_eq_some_iff.1 HK.out.1).1 h
        rfl]
       exact hrow.out
      case measure=>simp[intOf];omega
     have gs:(x.name.toList==name.toList)=true:=hs
     have HS:=zh hs
     clear hs
     go_upto_region 15 with fail
     refine z0k ?_;intro W2 hW2
     have hst:W2.ownsRow N0 72 7 (.slice (some ⟨gi,0,none⟩) ins.length c7) ins.length (((mapTo (putIn name v) ins k).set k ⟨x.name,x.key,v⟩).flatMap Fct.cs):=by
      rw[hW2];exact facts_stored ho0 HK.out.1
     have hbk:∀ bb:Nat,bb≠gi->W2.heap[bb]?=wr.heap[bb]?:=fun bb hne=>by
      rw[hW2]
      iterate 3 rw[Below.heap_setCell _ _ _ _ (by exact hne)]
     have hz2:W2.heap.size=wr.heap.size:=by rw[hW2];simp
     have hB2:Below N0 wr W2:=by
      rw[hW2]
      iterate 3 refine z03 ?_ (by show N0<=gi;omega)
      exact Below.refl _ _
     have HQ:=zh (ai hst (ai hbk hB2))
     clear hW2 hst hbk hB2 ho0 e0 e4 e5 e6 f4 f5 f6 t2 t3 t4 y5
     go_wp2_with fail
     go_roundw
     case rel =>
      refine⟨k+1,by omega,by go_num,?_,zh ?_,zh (fun b h h''=>(HQ.out.2.1 b (fun e=>h'' (by rw[e];rfl))).trans (hfr.out b h h'')),zh (hbw.out.trans HQ.out.2.2),by omega⟩
      ·rw[HK.out.2.2 _ HS.out,Bool.or_true]
      rw[HK.out.2.1,show putIn name v x=⟨x.name,x.key,v⟩ by unfold putIn;rw[if_pos HS.out]]
      exact HQ.out.1
     case measure=>simp[intOf];omega
    obtain rfl:k=ins.length:=by omega
    have hmr:=hrow.out
    rw[mapTo_all (nr _)] at hmr
    obtain⟨gq7,gq8,gq9,gn0,gn4,gB,gln,gw2,gM,ge2,ge3,ge4⟩:=HM.out.2.2.2.2.2.2.2
    have hvn:wr.heap[w.heap.size+1]?=W1.heap[w.heap.size+1]?:=hfr.out _ (by omega) (fun e=>by have:=(hq7 _ e.symm).1;omega)
    have t2:=(cob (w.heap.size+1) (0) hvn).trans ge2
    have t3:=(cob (w.heap.size+1) (1) hvn).trans ge3
    have t4:=(cob (w.heap.size+1) (2) hvn).trans ge4
    have hvl:w.heap.size+1<wr.heap.size:=by omega
    have gM1:w4.heap.size<=M:=by omega
    have gM2:M<=w4.heap.size:=by omega
    clear gM
    have y5:=hEB.2.2.2.2.2.1
    have hf5:=(fob M 5 (hfr.out M hMl1 hMn)).trans HM.out.2.2.2.2.2.2.1
    have HEB:=zh hEB
    rw[List.take_of_length_le (nr _)]
    obtain⟨mt,hmt⟩:∃ mt,mt=ins.any (z0y name):=⟨_,rfl⟩
    rw[<-hmt]
    have HMT:=zh hmt
    clear hmt
    clear z5 hvn ge2 ge3 ge4 hEB
    go_upto_if 54 with fail
    go_cut [] from 53 to 67 (fun wx=>∃ (iv:Option Addr) (ci:Nat),Hid (EBX wx M (.slice A5 m c5) (.slice A6 P.length c6) p (.slice iv (tellI name v ins).length ci) (.slice A8 m c8) (.slice A9 m c9) now last)/\Hid (wx.ownsRow N0 72 7 (.slice iv (tellI name v ins).length ci) (tellI name v ins).length ((tellI name v ins).flatMap Fct.cs))/\(tellI name v ins).length<=ci/\Hid (∀ b,b<W1.heap.size->b≠M->some b≠(Value.slice A7 ins.length c7).ownBlock->wx.heap[b]?=W1.heap[b]?)/\Hid (Below N0 W1 wx)/\W1.heap.size<=wx.heap.size)
    case first =>
     cases mt
     ·have hany:=HMT.out.symm
      obtain⟨i0,ei,ez0,ez1,ez2⟩:=info_parts Tryz.infoFct
      have HN:=zh (tell_none (v:=v) hany)
      rw[HN.out.1] at hmr
      clear hany
      go_wp2_with (at_builtin;refine z49 rfl _ _ 28 rfl N0 72 i0 _ 7 80 Tryz.underlying28 ei ez0 ez1 ez2 rfl (by decide) _ ins.length _ rfl hmr (Fct.mk name noVal v).cs 72 rfl _ rfl rfl rfl (by simp[Fct.cs,Value.oneCell']) (by omega) (by unfold maxLen;omega) (by omega) ?_;intro v6 w6 hown6 hb6 hz6 hk6 hv6;obtain⟨A6',c6',rfl,hq6⟩:=z4p hown6;have hkM:w6.heap[M]?=wr.heap[M]?:=hk6 M hMr hMn;have hf6:=(fob M 5 hkM).trans hf5;have hM6:M<w6.heap.size:=(by omega);have hE6:=HEB.out.block hkM;obtain⟨z0,z1,z2,z3,z4,z5,z6,z7,z8,z9⟩:=hE6)
      go_meet
      have hne:(Value.slice A6' (ins.length+1) c6').ownBlock≠some M:=by
       rcases hv6 with h | ⟨k',h,hk'⟩
       ·rw[h];exact fun e=>hMn e.symm
       rw[h];intro e;have:=Option.some.inj e;omega
      have hl:(tellI name v ins).length=ins.length+1:=by rw[HN.out.2,List.length_append,List.length_singleton]
      refine⟨A6',c6',zh ?_,zh ?_,by rw[hl];exact hq6,zh (fun b hb hbM hbl=>?_),zh ?_,by simp;omega⟩
      ·rw[hl];and_intros<;>go_simp
      ·rw[hl,HN.out.2,List.flatMap_append]
       exact ownsRow_setCell_other (by simpa using hown6) hne _
      ·rw[Below.heap_setCell _ _ _ _ (by exact hbM),hk6 b (by omega) hbl]
       exact hfr.out b hb hbl
      exact z03 (hbw.out.trans hb6) gn4
     have hany:=HMT.out.symm
     have hl:(tellI name v ins)=ins.map (putIn name v):=by unfold tellI;rw[if_pos hany]
     have HL:=zh hl
     clear hl hany
     go_wp2_with fail
     go_meet
     rw[HL.out,List.length_map]
     exact⟨A7,c7,zh HEB.out,zh hmr,gln.2.2.1,zh (fun b hb _ hbl=>hfr.out b hb hbl),hbw,hzr⟩
    case rest =>
     obtain⟨iv,ci,hE,hrw7,hlc,hfc,hbc,hzc⟩:=hcut
     have hfb:∀ b,b<N0->wc.heap[b]?=W1.heap[b]?:=fun b hb=>hfc.out b (by omega) (by omega) (fun e=>by have:=(hq7 b e.symm).1;omega)
     have j8:=z09 HM.out.2.2.1 (w':=wc) (fun q hq h=>hfc.out q h (by have:=(gq8 q hq).2.1;omega) (fun e=>(gq7 q e.symm).2.2.1 hq.symm))
     have j9:=z09 HM.out.2.2.2.1 (w':=wc) (fun q hq h=>hfc.out q h (by have:=(gq9 q hq).2;omega) (fun e=>(gq7 q e.symm).2.2.2 hq.symm))
     have j5:=HM.out.1.keepN z02 (w':=wc) (S':=z2u w2.heap.size N0) (fun b hb'=>⟨hb',hfb b hb'.2⟩)
     have j6:=HM.out.2.1.keepN z0d (w':=wc) (S':=z2u w2.heap.size N0) (fun b hb'=>⟨hb',hfb b hb'.2⟩)
     have hset:=HE.out.2.1
     have htl:=tellI_len (name:=name) (v:=v) (l:=ins)
     have hren:=ren_of j5 j6 hrw7.out j8 j9 ⟨gln.1,gln.2.1,hlc,gln.2.2.2.1,gln.2.2.2.2⟩ hm14 HE.out.2.2.2.2.2.2.1 (by omega) (by omega) (HE.out.2.2.2.1.trans HE.out.2.2.2.2.2.2.2.1) (HE.out.2.2.1.trans HE.out.2.2.2.2.2.2.2.1) (tellI_wf HE.out.2.2.2.2.2.2.2.2.1 HE.out.2.2.2.2.2.2.2.2.2 HE.out.2.2.2.2.2.1.1) HE.out.2.2.2.2.2.1.2.1 HE.out.2.2.2.2.2.1.2.2
     have hbec:=ref_becomes A5 m c5 F A6 P.length c6 P p iv (tellI name v ins).length ci (tellI name v ins) A8 m c8 cs A9 m c9 vs now last none 0 [] (w.heap.size+3) wc hren HE.out.2.2.2.2.1 hset HE.out.2.2.1 (World.ownsRow_nil _ _ _ _) (fun x hx=>absurd hx List.not_mem_nil) (Nat.zero_le _) (by omega)
     obtain⟨r4,hr4⟩:∃ r4,r4=becE ⟨F,P,p,tellI name v ins,cs,vs,now,last⟩ []:=⟨_,rfl⟩
     rw[<-hr4] at hbec
     have HR:=zh (HE.out.1.trans hr4.symm)
     clear hr4
     obtain⟨⟨F',P',p',ins',cs',vs',now',last'⟩,ls',er'⟩:=r4
     have hR2:=HM.out.2.2.2.2.1.block (hfb (w.heap.size+2) (by omega))
     have hBW:Below w.heap.size w wc:=gB.trans (hbc.out.mono (by omega))
     have hMc:M<wc.heap.size:=by omega
     obtain⟨z0,z1,z2,z3,z4,z5,z6,z7,z8,z9⟩:=hE.out
     have hS3:w.heap.size+3<=wc.heap.size:=by omega
     clear j5 j6 j8 j9 hset hren hfb hrow hmr hfr hfc y5 t2 t3 t4 hf5
     go_wp2_with (go_at_call 28;refine hbec.mono ?_;rintro e w5 ⟨⟨B',d',A',c',A1',c1',A2',c2',A3',c3',A4',c4',rfl,hrw⟩,hb5⟩;have hz5:=hb5.size;have hl5:w.heap.size+2<w5.heap.size:=(by omega);obtain⟨⟨q0,q1,q2,q3,q4,q5,q6,q7,q8,q9⟩,r0,r1,r2,r3,r4,r5,r6,r7,r8,r9⟩:=hR2.block (hb5.block (w.heap.size+2) (by omega)))
     refine bpr Tryz.results17 (.tuple #[.agg #[.slice B' F'.length d',.slice A' P'.length c',.int .i64 p'.tries,.int .i64 p'.base,.int .i64 p'.cap,.slice A1' ins'.length c1',.slice A2' cs'.length c2',.slice A3' vs'.length c3',.int .i64 now',.int .i64 last'],.slice A4' ls'.length c4',.int .i64 er']) ?_
     generalize hWe:World.setCell _ _ _=We
     rw[HR.out]
     have hrw':=EngRow.put (w':=We) (a:=w.heap.size) (show EngRow (w.heap.size+3) w5 ⟨F',P',p',ins',cs',vs',now',last'⟩ ls' B' d' A' c' A1' c1' A2' c2' A3' c3' A4' c4' from hrw) (by omega) (by rw[<-hWe];simp) (fun b h1 h2=>by
      rw[<-hWe]
      iterate 10 rw[Below.heap_setCell _ _ _ _ (by simp only[ne_eq];omega)])
     refine⟨⟨_,_,_,_,_,_,_,_,_,_,_,_,rfl,hrw'⟩,?_⟩
     rw[<-hWe]
     iterate 10 refine z03 ?_ (by dsimp only;omega)
     exact hBW.trans (hb5.mono (by omega))
  have gz:(z19 F name v != 0)=true:=by simpa using z2
  have HR:=zh (hrr.trans (tellE_out z1 (by rw[hgF];exact z2)))
  rw[hgF] at HR
  generalize z19 F name v=er at h2 gz HR
  clear hX hg hgF hrr z1 z2 hwf hFm h3 hPl
  go_enter Tryz.func17,Tryz.ntmps17
  go_wp2_with (first
   | (go_at_call 14;refine (h1 _ (HX.out.now bel)).mono ?_;rintro e w1 ⟨rfl,hb1⟩;refine zb hb1 ?_;rintro ⟨hc1,hf1⟩ hz1 hy1 hx1;refine szz w1 w ?_;intros)
   | (go_at_call 50;refine (h2 _ (HX.out.1.2.2.2.2.1.nowN z02 bel)).mono ?_;rintro e w2 ⟨rfl,hb2⟩;refine zb hb2 ?_;rintro ⟨hc2,hf2⟩ hz2 hy2 hx2;refine szz w2 w ?_;intros;refine szz w2 w1 ?_;intros))
  refine bpr Tryz.results17 (.tuple #[.agg #[.slice none 0 0,.slice none 0 0,.int .i64 0,.int .i64 0,.int .i64 0,.slice none 0 0,.slice none 0 0,.slice none 0 0,.int .i64 0,.int .i64 0],.slice none 0 0,.int .i64 er]) ?_
  rw[HR.out]
  exact⟨EngIs.nil0 er rfl,bel⟩
 have gz:(engErr g != 0)=true:=by simpa using z1
 have HR:=zh (hrr.trans (tellE_bad z1))
 generalize engErr g=er at h1 gz HR
 clear hX hg hgF hrr z1 hwf hFm h3 h2 hPl
 go_enter Tryz.func17,Tryz.ntmps17
 go_wp2_with (go_at_call 14;refine (h1 _ (HX.out.now bel)).mono ?_;rintro e w1 ⟨rfl,hb1⟩;refine zb hb1 ?_;rintro ⟨hc1,hf1⟩ hz1 hy1 hx1;refine szz w1 w ?_;intros)
 refine bpr Tryz.results17 (.tuple #[.agg #[.slice none 0 0,.slice none 0 0,.int .i64 0,.int .i64 0,.int .i64 0,.slice none 0 0,.slice none 0 0,.slice none 0 0,.int .i64 0,.int .i64 0],.slice none 0 0,.int .i64 er]) ?_
 rw[HR.out]
 exact⟨EngIs.nil0 er rfl,bel⟩
end Go.Proofs.YtldhlpjjcnlbcaaGreat
