/- Texts merged (mergeh.py): Eng9. -/
import Derived.Test.YtldhlpjjcnlbcaaGreatEng7
import Derived.Test.YtldhlpjjcnlbcaaGreatWhlG
import Derived.Test.YtldhlpjjcnlbcaaGreatCall1
/- engine.New. (printed by mkeng9.py) -/
set_option maxRecDepth 100000
set_option maxHeartbeats 8000000
namespace Go.Proofs.YtldhlpjjcnlbcaaGreat
open Go.RowKit
def newE (F:List Fld)(P:List Pag)(p:Pol):Eng×List Ltr×Int :=
 if formErr F P≠0 then (noEng,[],formErr F P) else if gapCheck p≠0 then (noEng,[],gapCheck p)
 else becE ⟨F,P,p,[],List.replicate F.length noCll,List.replicate F.length noVal,0,0⟩ []
theorem new_ok {F:List Fld}{P:List Pag}{p:Pol}(h1:formErr F P=0)(h2:gapCheck p=0):SetOk F p [] 0 (List.replicate F.length noCll) 0 :=
 set_ok_of h1 (by unfold factsCheck;rfl) (by decide) (by simp) (fun c hc=>by rw[List.eq_of_mem_replicate hc];exact zfs h2)
theorem z9d (m:Nat):(madeCells #[.int .i64 0,.int .i64 0,.int .i64 0,.int .i64 0,.int .i64 0,.string ⟨#[]⟩,.int .i64 0,.int .i64 0,.string ⟨#[]⟩,.int .i64 0] (m*10)).toList=(List.replicate m noCll).flatMap Cll.cs:=by
 refine List.ext_getElem? fun j=>?_
 rcases Nat.lt_or_ge j (m*10) with hj | hj
 ·have h1:(List.replicate m noCll)[j / 10]?=some noCll:=by rw[List.getElem?_replicate,if_pos (by omega)]
  have h2:=z87 Cll.cs 10 lenCll (List.replicate m noCll) (j / 10) (j%10) noCll h1 (by omega)
  rw[show j / 10*10+j%10=j by omega] at h2
  rw[h2]
  have h3:(madeCells #[.int .i64 0,.int .i64 0,.int .i64 0,.int .i64 0,.int .i64 0,.string ⟨#[]⟩,.int .i64 0,.int .i64 0,.string ⟨#[]⟩,.int .i64 0] (m*10)).toList[j]?=some (#[(.int .i64 0:Value),.int .i64 0,.int .i64 0,.int .i64 0,.int .i64 0,.string ⟨#[]⟩,.int .i64 0,.int .i64 0,.string ⟨#[]⟩,.int .i64 0][j%10]!):=by
   simp[madeCells,hj]
  rw[h3]
  rcases (by omega:j%10=0\/j%10=1\/j%10=2\/j%10=3\/j%10=4\/j%10=5\/j%10=6\/j%10=7\/j%10=8\/j%10=9) with e | e | e | e | e | e | e | e | e | e<;>rw[e]<;>rfl
 rw[List.getElem?_eq_none (by rw[Array.length_toList,size_madeCells];exact hj),List.getElem?_eq_none (by rw[z0w _ 10 lenCll,List.length_replicate];exact hj)]
theorem engine_New (B:Option Addr)(m d:Nat)(F:List Fld)(A:Option Addr)(n c:Nat)(P:List Pag)(p:Pol)(w:World)(hX:RFo w B m d F A n c P)(hO:z2i F) :
  Calls Tryz.prog 8 #[.agg #[.slice B m d,.slice A n c],.agg #[.int .i64 p.tries,.int .i64 p.base,.int .i64 p.cap]] w (RetEng w (newE F P p)):=by
 have h1:=fun w (h:RFo w B m d F A n c P)=>z5n B m d F A n c P w h hO
 have h2:=fun w=>z3h p.tries p.base p.cap w
 have h3:=fun w (h:RFo w B m d F A n c P)=>zfl B m d F A n c P w h
 have hml:F.length=m:=hX.2.2.2.2.1.len
 have hPl:P.length=n:=hX.2.2.2.2.2.len
 rw[show (⟨p.tries,p.base,p.cap⟩:Pol)=p from rfl] at h2
 have hne:newE F P p=if formErr F P≠0 then (noEng,[],formErr F P) else if gapCheck p≠0 then (noEng,[],gapCheck p) else becE ⟨F,P,p,[],List.replicate F.length noCll,List.replicate F.length noVal,0,0⟩ []:=rfl
 have hok:=fun h h'=>new_ok (F:=F) (P:=P) (p:=p) h h'
 have h14:=fun h=>form14 (F:=F) (P:=P) h
 obtain⟨rr,hrr⟩:∃ rr,rr=newE F P p:=⟨_,rfl⟩
 rw[<-hrr]
 rw[hne] at hrr
 generalize formErr F P=e1 at h1 hrr hok h14
 generalize gapCheck p=e2 at h2 hrr hok
 have HX:=zh hX
 clear hX hne
 by_cases z1:e1=0
 ·have g1:(e1 != 0)=false:=by simpa using z1
  by_cases z2:e2=0
  ·have g2:(e2 != 0)=false:=by simpa using z2
   rw[if_neg (by simpa using z1),if_neg (by simpa using z2)] at hrr
   have hm14:m<=14:=by rw[<-hml];exact h14 z1
   have hmkV:=fun w=>run_make (P:=Tryz.prog) w 30 44
   have hmkC:=fun w=>run_make (P:=Tryz.prog) w 29 62
   obtain⟨i0,ei,ez0,ez1,ez2⟩:=info_parts Tryz.infoValR
   obtain⟨j0,ej,jz0,jz1,jz2⟩:=info_parts Tryz.infoCll
   have hmkV:∀ w,(Instr.makeSlice 30 (.int .i64 (m:Int)) (.int .i64 (m:Int))).run Tryz.prog w=.ok (.slice (some ⟨w.heap.size,0,none⟩) m m) (w.alloc (.cells (madeCells #[.int .i64 0,.int .i64 0,.string ⟨#[]⟩] (m*3)) 44)):=by
    intro w
    have:=run_make (P:=Tryz.prog) w 30 44 i0 _ Tryz.underlying30 ei ez0 .i64 .i64 (m:Int) (m:Int) (by omega) (by omega) (by rw[ez2];omega) (by omega)
    rw[this,ez1]
    rfl
   have hmkC:∀ w,(Instr.makeSlice 29 (.int .i64 (m:Int)) (.int .i64 (m:Int))).run Tryz.prog w=.ok (.slice (some ⟨w.heap.size,0,none⟩) m m) (w.alloc (.cells (madeCells #[.int .i64 0,.int .i64 0,.int .i64 0,.int .i64 0,.int .i64 0,.string ⟨#[]⟩,.int .i64 0,.int .i64 0,.string ⟨#[]⟩,.int .i64 0] (m*10)) 62)):=by
    intro w
    have:=run_make (P:=Tryz.prog) w 29 62 j0 _ Tryz.underlying29 ej jz0 .i64 .i64 (m:Int) (m:Int) (by omega) (by omega) (by rw[jz2];omega) (by omega)
    rw[this,jz1]
    rfl
   have HR:=zh (ai hrr (ai (hok z1 z2) (ai hO (ai hml hPl))))
   clear hrr hok h14 hO hml hPl z1 z2 ei ez0 ez1 ez2 ej jz0 jz1 jz2
   go_enter Tryz.func8,Tryz.ntmps8
   go_upto_region 8 with (first
    | (go_at_call 22;refine (h1 _ (HX.out.now bel)).mono ?_;rintro e w1 ⟨rfl,hb1⟩;refine zb hb1 ?_;rintro ⟨hc1,hf1⟩ hz1 hy1 hx1;refine szz w1 w ?_;intros)
    | (go_at_call 23;refine (h2 _).mono ?_;rintro e w2 ⟨rfl,hb2⟩;refine zb hb2 ?_;rintro ⟨hc2,hf2⟩ hz2 hy2 hx2;refine szz w2 w ?_;intros;refine szz w2 w1 ?_;intros))
   refine z0k ?_;intro W0 hW0
   have hB0:Below w.heap.size w W0:=by rw[hW0];exact bel
   have hz0:w.heap.size+3<=W0.heap.size:=by rw[hW0];(have:=hb1.size;have:=hb2.size;simp at *;omega)
   have b0:W0.cell? ⟨w.heap.size,0,none⟩=some (.slice B m d):=by rw[hW0];go_simp
   have b1:W0.cell? ⟨w.heap.size,1,none⟩=some (.slice A n c):=by rw[hW0];go_simp
   have b2:W0.cell? ⟨w.heap.size+1,0,none⟩=some (.int .i64 p.tries):=by rw[hW0];go_simp
   have b3:W0.cell? ⟨w.heap.size+1,1,none⟩=some (.int .i64 p.base):=by rw[hW0];go_simp
   have b4:W0.cell? ⟨w.heap.size+1,2,none⟩=some (.int .i64 p.cap):=by rw[hW0];go_simp
   have q0:W0.cell? ⟨w.heap.size+2,0,none⟩=some (.slice none 0 0):=by rw[hW0];go_simp
   have q1:W0.cell? ⟨w.heap.size+2,1,none⟩=some (.slice none 0 0):=by rw[hW0];go_simp
   have q2:W0.cell? ⟨w.heap.size+2,2,none⟩=some (.int .i64 0):=by rw[hW0];go_simp
   have q3:W0.cell? ⟨w.heap.size+2,3,none⟩=some (.int .i64 0):=by rw[hW0];go_simp
   have q4:W0.cell? ⟨w.heap.size+2,4,none⟩=some (.int .i64 0):=by rw[hW0];go_simp
   have q5:W0.cell? ⟨w.heap.size+2,5,none⟩=some (.slice none 0 0):=by rw[hW0];go_simp
   have q6:W0.cell? ⟨w.heap.size+2,6,none⟩=some (.slice none 0 0):=by rw[hW0];go_simp
   have q7:W0.cell? ⟨w.heap.size+2,7,none⟩=some (.slice none 0 0):=by rw[hW0];go_simp
   have q8:W0.cell? ⟨w.heap.size+2,8,none⟩=some (.int .i64 0):=by rw[hW0];go_simp
   have q9:W0.cell? ⟨w.heap.size+2,9,none⟩=some (.int .i64 0):=by rw[hW0];go_simp
   have r0:W0.frozen? ⟨w.heap.size+2,0,none⟩=false:=by rw[hW0];go_simp
   have r1:W0.frozen? ⟨w.heap.size+2,1,none⟩=false:=by rw[hW0];go_simp
   have r2:W0.frozen? ⟨w.heap.size+2,2,none⟩=false:=by rw[hW0];go_simp
   have r3:W0.frozen? ⟨w.heap.size+2,3,none⟩=false:=by rw[hW0];go_simp
   have r4:W0.frozen? ⟨w.heap.size+2,4,none⟩=false:=by rw[hW0];go_simp
   have r5:W0.frozen? ⟨w.heap.size+2,5,none⟩=false:=by rw[hW0];go_simp
   have r6:W0.frozen? ⟨w.heap.size+2,6,none⟩=false:=by rw[hW0];go_simp
   have r7:W0.frozen? ⟨w.heap.size+2,7,none⟩=false:=by rw[hW0];go_simp
   have r8:W0.frozen? ⟨w.heap.size+2,8,none⟩=false:=by rw[hW0];go_simp
   have r9:W0.frozen? ⟨w.heap.size+2,9,none⟩=false:=by rw[hW0];go_simp
   clear hW0 hb1 hb2 hc1 hc2 hf1 hf2 h1 h2
   have HSS:=zh (show ∀ y:World,Below W0.heap.size W0 y->(y.cell? ⟨w.heap.size,0,none⟩=some (.slice B m d)/\(y.cell? ⟨w.heap.size,1,none⟩=some (.slice A n c)/\(y.cell? ⟨w.heap.size+1,0,none⟩=some (.int .i64 p.tries)/\(y.cell? ⟨w.heap.size+1,1,none⟩=some (.int .i64 p.base)/\y.cell? ⟨w.heap.size+1,2,none⟩=some (.int .i64 p.cap))))) from fun y h=>⟨z00 b0 h,z00 b1 h,z00 b2 h,z00 b3 h,z00 b4 h⟩)
   have HZ:=zh hz0
   go_cut [10] (fun s10 wx=>∃ (M gC gV:Nat) (A5:Option Addr) (c5:Nat) (A6:Option Addr) (c6:Nat),s10=.pointer (some ⟨M,0,none⟩)/\W0.heap.size<=M/\W0.heap.size<=gC/\W0.heap.size<=gV/\M≠gC/\M≠gV/\gC≠gV/\F.length<=c5/\P.length<=c6 /\
    Hid (MotG wx M A5 m c5 (.slice A6 n c6) p (.slice none 0 0) (some ⟨gC,0,none⟩) m (some ⟨gV,0,none⟩) m 0 W0.heap.size (.slice none 0 0) [] ⟨List.replicate m noCll,List.replicate m noVal,0,[]⟩) /\
    Hid (∃ S:Nat -> Prop,Sl wx S 9 (RFld wx S) A5 m F/\Sl wx S 8 (RPag wx S) A6 n P/\(∀ b,S b->b<wx.heap.size/\W0.heap.size<=b)/\(∀ b,S b->Mfree M (some ⟨gC,0,none⟩) m m (some ⟨gV,0,none⟩) m (.slice none 0 0) b))/\Below W0.heap.size W0 wx)
   case first =>
    refine z0k ?_;intro u0' hu0'
    obtain⟨y0,hy0⟩:∃ y,y=u0'.drew:=⟨_,rfl⟩
    have hY0:Below W0.heap.size W0 y0:=by rw[hy0,hu0'];exact (Below.refl _ _).drew
    have hS0:=HSS.out y0 hY0
    refine z0r (fun w'=>w'.cell? ⟨w.heap.size,0,none⟩=some (.slice B m d)/\(w'.cell? ⟨w.heap.size,1,none⟩=some (.slice A n c)/\(w'.cell? ⟨w.heap.size+1,0,none⟩=some (.int .i64 p.tries)/\(w'.cell? ⟨w.heap.size+1,1,none⟩=some (.int .i64 p.base)/\w'.cell? ⟨w.heap.size+1,2,none⟩=some (.int .i64 p.cap))))) 10 (by kernel_rfl) ?_
    rw[<-hy0]
    clear hy0 hu0' hz0 b0 b1 b2 b3 b4 q0 r0 q1 r1 q2 r2 q3 r3 q4 r4 q5 r5 q6 r6 q7 r7 q8 r8 q9 r9
    refine zt 0 hS0 ?_
    simp only[Act.put,pq]
    refine zt 2 hS0 ?_
    simp only[Act.put,pq]
    refine zt 3 hS0 ?_
    simp only[Act.put,pq]
    refine zt 5 hS0 ?_
    simp only[Act.put,pq]
    refine zgw (i:=1) (j:=4) (k:=6) (o:=_) (p:=_) (r:=_) rfl rfl rfl (by kernel_rfl) (fun K hK=>?_) (fun K hK=>?_) (fun K hK=>?_)
    ·go_simp
     go_at_call 24;refine (h3 _ (HX.out.now (z01 hB0 hY0 hB0.size))).mono ?_;rintro e y1 ⟨A5,c5,A6,c6,rfl,hq5,hq6,hs5,hs6,hb1⟩
     have hY1:=z01 hY0 hb1 hY0.size
     have hS1:=HSS.out y1 hY1
     have hz1:=hb1.size
     refine hK.out _ _ (fun _=>hS1) ?_
     clear hK K
     try simp only[Act.put,pq]
     refine z2s (i:=4) (j:=6) (o:=_) (p:=_) rfl rfl (by kernel_rfl) (fun K hK=>?_) (fun K hK=>?_)
     ·go_simp
      obtain⟨y2,hy2⟩:∃ y,y=y1.alloc (.cells (madeCells #[.int .i64 0,.int .i64 0,.int .i64 0,.int .i64 0,.int .i64 0,.string ⟨#[]⟩,.int .i64 0,.int .i64 0,.string ⟨#[]⟩,.int .i64 0] (m*10)) 62):=⟨_,rfl⟩
      rw[<-hy2]
      have hb2:Below y1.heap.size y1 y2:=by rw[hy2];exact (Below.refl _ _).alloc (nr _) _
      have hY2:=z01 hY1 hb2 hY1.size
      have hS2:=HSS.out y2 hY2
      have hz2:y1.heap.size<y2.heap.size:=by rw[hy2];simp
      have hoC:y2.ownsRow y1.heap.size 62 10 (.slice (some ⟨y1.heap.size,0,none⟩) m m) m ((List.replicate m noCll).flatMap Cll.cs):=by
       have:=World.ownsRow_lit (base:=y1.heap.size) (e:=62) (size:=10) y1 (madeCells #[.int .i64 0,.int .i64 0,.int .i64 0,.int .i64 0,.int .i64 0,.string ⟨#[]⟩,.int .i64 0,.int .i64 0,.string ⟨#[]⟩,.int .i64 0] (m*10)) m (nr _) (by unfold maxLen;omega) (size_madeCells _ _)
       rw[z9d] at this
       rw[hy2]
       exact this
      clear hy2
      refine hK.out _ _ (fun _=>hS2) ?_
      clear hK K
      try simp only[Act.put,pq]
      refine z06 (i:=6) (o:=_) rfl (by kernel_rfl) (fun K hK=>?_)
      go_simp
      obtain⟨y3,hy3⟩:∃ y,y=y2.alloc (.cells (madeCells #[.int .i64 0,.int .i64 0,.string ⟨#[]⟩] (m*3)) 44):=⟨_,rfl⟩
      rw[<-hy3]
      have hb3:Below y2.heap.size y2 y3:=by rw[hy3];exact (Below.refl _ _).alloc (nr _) _
      have hY3:=z01 hY2 hb3 hY2.size
      have hS3:=HSS.out y3 hY3
      have hz3:y2.heap.size<y3.heap.size:=by rw[hy3];simp
      have hoV:y3.ownsRow y2.heap.size 44 3 (.slice (some ⟨y2.heap.size,0,none⟩) m m) m ((List.replicate m noVal).flatMap Val.cs):=by
       have:=World.ownsRow_lit (base:=y2.heap.size) (e:=44) (size:=3) y2 (madeCells #[.int .i64 0,.int .i64 0,.string ⟨#[]⟩] (m*3)) m (nr _) (by unfold maxLen;omega) (size_madeCells _ _)
       rw[z9e] at this
       rw[hy3]
       exact this
      clear hy3
      refine hK.out _ _ (fun _=>hS3) ?_
      clear hK K
      try simp only[Act.put,pq]
      refine zt 7 hS3 ?_
      simp only[Act.put,pq]
      refine zt 8 hS3 ?_
      simp only[Act.put,pq]
      refine z06 (i:=9) (o:=_) rfl (by kernel_rfl) (fun K hK=>?_)
      go_simp
      obtain⟨y4,hy4⟩:∃ y,y=y3.alloc (.cells #[.slice A5 F.length c5,.slice A6 P.length c6,.int .i64 p.tries,.int .i64 p.base,.int .i64 p.cap,.slice none 0 0,.slice (some ⟨y1.heap.size,0,none⟩) m m,.slice (some ⟨y2.heap.size,0,none⟩) m m,.int .i64 0,.int .i64 0,.slice none 0 0] 59):=⟨_,rfl⟩
      rw[<-hy4]
      have hb4:Below y3.heap.size y3 y4:=by rw[hy4];exact (Below.refl _ _).alloc (nr _) _
      have hY4:=z01 hY3 hb4 hY3.size
      have hz4:y3.heap.size<y4.heap.size:=by rw[hy4];simp
      have hmc:MotC y4 y3.heap.size (.slice A5 F.length c5) (.slice A6 P.length c6) p (.slice none 0 0) (.slice (some ⟨y1.heap.size,0,none⟩) m m) (.slice (some ⟨y2.heap.size,0,none⟩) m m) 0 0 (.slice none 0 0):=by rw[hy4];exact⟨by go_simp,by go_simp,by go_simp,by go_simp,by go_simp,by go_simp,by go_simp,by go_simp,by go_simp,by go_simp,by go_simp⟩
      have hmf:MotF y4 y3.heap.size:=by rw[hy4];exact⟨by go_simp,by go_simp,by go_simp,by go_simp⟩
      clear hy4
      have hS4:=HSS.out y4 hY4
      refine hK.out _ _ (fun _=>hS4) ?_
      clear hK K
      try simp only[Act.put,pq]
      refine z06 (i:=10) (o:=_) rfl (by kernel_rfl) (fun K hK=>?_)
      go_simp
      refine hK.out _ _ (fun h=>absurd h (by decide)) ?_
      clear hK K
      try simp only[Act.put,pq]
      refine z0f (by kernel_rfl) ?_ _
      try simp only[Act.put,pq]
      go_wp2_with fail
      go_meet
      have hz00:=hY0.size
      rw[HR.out.2.2.2.1,HR.out.2.2.2.2] at hmc
      rw[HR.out.2.2.2.1] at hs5
      rw[HR.out.2.2.2.2] at hs6
      have hblk:∀ b,since y0.heap.size y1 b->(b<y3.heap.size/\y4.heap[b]?=y1.heap[b]?):=fun b hb=>by
       have h1:=hb.1
       have h2:=hb.2
       exact⟨by omega,(((hb4.block b (by omega)).trans (hb3.block b (by omega))).trans (hb2.block b (by omega)))⟩
      refine⟨y3.heap.size,y1.heap.size,y2.heap.size,A5,c5,A6,c6,rfl,by omega,by omega,by omega,by omega,by omega,by omega,hq5,hq6,zh ⟨hmc,hmf,z0c (z04 (z04 (hoC) hb3) hb4) (by omega),z0c (z04 (hoV) hb4) (by omega),World.ownsRow_nil _ _ _ _⟩,zh ⟨since y0.heap.size y1,hs5.keepN z02 (fun b hb=>⟨hb,(hblk b hb).2⟩),hs6.keepN z0d (fun b hb=>⟨hb,(hblk b hb).2⟩),fun b hb=>by have:=(hblk b hb).1;have:=hb.1;omega,fun b hb=>?_⟩,hY4⟩
      have h1:=hb.1
      have h2:=hb.2
      exact⟨by omega,fun e=>by have e':b=y1.heap.size:=Option.some.inj e;omega,fun e=>by have e':b=y2.heap.size:=Option.some.inj e;omega,fun e=>by cases e⟩
     go_simp
     obtain⟨y2,hy2⟩:∃ y,y=y1.alloc (.cells (madeCells #[.int .i64 0,.int .i64 0,.string ⟨#[]⟩] (m*3)) 44):=⟨_,rfl⟩
     rw[<-hy2]
     have hb2:Below y1.heap.size y1 y2:=by rw[hy2];exact (Below.refl _ _).alloc (nr _) _
     have hY2:=z01 hY1 hb2 hY1.size
     have hS2:=HSS.out y2 hY2
     have hz2:y1.heap.size<y2.heap.size:=by rw[hy2];simp
     have hoV:y2.ownsRow y1.heap.size 44 3 (.slice (some ⟨y1.heap.size,0,none⟩) m m) m ((List.replicate m noVal).flatMap Val.cs):=by
      have:=World.ownsRow_lit (base:=y1.heap.size) (e:=44) (size:=3) y1 (madeCells #[.int .i64 0,.int .i64 0,.string ⟨#[]⟩] (m*3)) m (nr _) (by unfold maxLen;omega) (size_madeCells _ _)
      rw[z9e] at this
      rw[hy2]
      exact this
     clear hy2
     refine hK.out _ _ (fun _=>hS2) ?_
     clear hK K
     try simp only[Act.put,pq]
     refine z06 (i:=4) (o:=_) rfl (by kernel_rfl) (fun K hK=>?_)
     go_simp
     obtain⟨y3,hy3⟩:∃ y,y=y2.alloc (.cells (madeCells #[.int .i64 0,.int .i64 0,.int .i64 0,.int .i64 0,.int .i64 0,.string ⟨#[]⟩,.int .i64 0,.int .i64 0,.string ⟨#[]⟩,.int .i64 0] (m*10)) 62):=⟨_,rfl⟩
     rw[<-hy3]
     have hb3:Below y2.heap.size y2 y3:=by rw[hy3];exact (Below.refl _ _).alloc (nr _) _
     have hY3:=z01 hY2 hb3 hY2.size
     have hS3:=HSS.out y3 hY3
     have hz3:y2.heap.size<y3.heap.size:=by rw[hy3];simp
     have hoC:y3.ownsRow y2.heap.size 62 10 (.slice (some ⟨y2.heap.size,0,none⟩) m m) m ((List.replicate m noCll).flatMap Cll.cs):=by
      have:=World.ownsRow_lit (base:=y2.heap.size) (e:=62) (size:=10) y2 (madeCells #[.int .i64 0,.int .i64 0,.int .i64 0,.int .i64 0,.int .i64 0,.string ⟨#[]⟩,.int .i64 0,.int .i64 0,.string ⟨#[]⟩,.int .i64 0] (m*10)) m (nr _) (by unfold maxLen;omega) (size_madeCells _ _)
      rw[z9d] at this
      rw[hy3]
      exact this
     clear hy3
     refine hK.out _ _ (fun _=>hS3) ?_
     clear hK K
     try simp only[Act.put,pq]
     refine zt 7 hS3 ?_
     simp only[Act.put,pq]
     refine zt 8 hS3 ?_
     simp only[Act.put,pq]
     refine z06 (i:=9) (o:=_) rfl (by kernel_rfl) (fun K hK=>?_)
     go_simp
     obtain⟨y4,hy4⟩:∃ y,y=y3.alloc (.cells #[.slice A5 F.length c5,.slice A6 P.length c6,.int .i64 p.tries,.int .i64 p.base,.int .i64 p.cap,.slice none 0 0,.slice (some ⟨y2.heap.size,0,none⟩) m m,.slice (some ⟨y1.heap.size,0,none⟩) m m,.int .i64 0,.int .i64 0,.slice none 0 0] 59):=⟨_,rfl⟩
     rw[<-hy4]
     have hb4:Below y3.heap.size y3 y4:=by rw[hy4];exact (Below.refl _ _).alloc (nr _) _
     have hY4:=z01 hY3 hb4 hY3.size
     have hz4:y3.heap.size<y4.heap.size:=by rw[hy4];simp
     have hmc:MotC y4 y3.heap.size (.slice A5 F.length c5) (.slice A6 P.length c6) p (.slice none 0 0) (.slice (some ⟨y2.heap.size,0,none⟩) m m) (.slice (some ⟨y1.heap.size,0,none⟩) m m) 0 0 (.slice none 0 0):=by rw[hy4];exact⟨by go_simp,by go_simp,by go_simp,by go_simp,by go_simp,by go_simp,by go_simp,by go_simp,by go_simp,by go_simp,by go_simp⟩
     have hmf:MotF y4 y3.heap.size:=by rw[hy4];exact⟨by go_simp,by go_simp,by go_simp,by go_simp⟩
     clear hy4
     have hS4:=HSS.out y4 hY4
     refine hK.out _ _ (fun _=>hS4) ?_
     clear hK K
     try simp only[Act.put,pq]
     refine z06 (i:=10) (o:=_) rfl (by kernel_rfl) (fun K hK=>?_)
     go_simp
     refine hK.out _ _ (fun h=>absurd h (by decide)) ?_
     clear hK K
     try simp only[Act.put,pq]
     refine z0f (by kernel_rfl) ?_ _
     try simp only[Act.put,pq]
     go_wp2_with fail
     go_meet
     have hz00:=hY0.size
     rw[HR.out.2.2.2.1,HR.out.2.2.2.2] at hmc
     rw[HR.out.2.2.2.1] at hs5
     rw[HR.out.2.2.2.2] at hs6
     have hblk:∀ b,since y0.heap.size y1 b->(b<y3.heap.size/\y4.heap[b]?=y1.heap[b]?):=fun b hb=>by
      have h1:=hb.1
      have h2:=hb.2
      exact⟨by omega,(((hb4.block b (by omega)).trans (hb3.block b (by omega))).trans (hb2.block b (by omega)))⟩
     refine⟨y3.heap.size,y2.heap.size,y1.heap.size,A5,c5,A6,c6,rfl,by omega,by omega,by omega,by omega,by omega,by omega,hq5,hq6,zh ⟨hmc,hmf,z0c (z04 (hoC) hb4) (by omega),z0c (z04 (z04 (hoV) hb3) hb4) (by omega),World.ownsRow_nil _ _ _ _⟩,zh ⟨since y0.heap.size y1,hs5.keepN z02 (fun b hb=>⟨hb,(hblk b hb).2⟩),hs6.keepN z0d (fun b hb=>⟨hb,(hblk b hb).2⟩),fun b hb=>by have:=(hblk b hb).1;have:=hb.1;omega,fun b hb=>?_⟩,hY4⟩
     have h1:=hb.1
     have h2:=hb.2
     exact⟨by omega,fun e=>by have e':b=y2.heap.size:=Option.some.inj e;omega,fun e=>by have e':b=y1.heap.size:=Option.some.inj e;omega,fun e=>by cases e⟩
    ·go_simp
     obtain⟨y1,hy1⟩:∃ y,y=y0.alloc (.cells (madeCells #[.int .i64 0,.int .i64 0,.int .i64 0,.int .i64 0,.int .i64 0,.string ⟨#[]⟩,.int .i64 0,.int .i64 0,.string ⟨#[]⟩,.int .i64 0] (m*10)) 62):=⟨_,rfl⟩
     rw[<-hy1]
     have hb1:Below y0.heap.size y0 y1:=by rw[hy1];exact (Below.refl _ _).alloc (nr _) _
     have hY1:=z01 hY0 hb1 hY0.size
     have hS1:=HSS.out y1 hY1
     have hz1:y0.heap.size<y1.heap.size:=by rw[hy1];simp
     have hoC:y1.ownsRow y0.heap.size 62 10 (.slice (some ⟨y0.heap.size,0,none⟩) m m) m ((List.replicate m noCll).flatMap Cll.cs):=by
      have:=World.ownsRow_lit (base:=y0.heap.size) (e:=62) (size:=10) y0 (madeCells #[.int .i64 0,.int .i64 0,.int .i64 0,.int .i64 0,.int .i64 0,.string ⟨#[]⟩,.int .i64 0,.int .i64 0,.string ⟨#[]⟩,.int .i64 0] (m*10)) m (nr _) (by unfold maxLen;omega) (size_madeCells _ _)
      rw[z9d] at this
      rw[hy1]
      exact this
     clear hy1
     refine hK.out _ _ (fun _=>hS1) ?_
     clear hK K
     try simp only[Act.put,pq]
     refine z2s (i:=1) (j:=6) (o:=_) (p:=_) rfl rfl (by kernel_rfl) (fun K hK=>?_) (fun K hK=>?_)
     ·go_simp
      go_at_call 24;refine (h3 _ (HX.out.now (z01 hB0 hY1 hB0.size))).mono ?_;rintro e y2 ⟨A5,c5,A6,c6,rfl,hq5,hq6,hs5,hs6,hb2⟩
      have hY2:=z01 hY1 hb2 hY1.size
      have hS2:=HSS.out y2 hY2
      have hz2:=hb2.size
      refine hK.out _ _ (fun _=>hS2) ?_
      clear hK K
      try simp only[Act.put,pq]
      refine z06 (i:=6) (o:=_) rfl (by kernel_rfl) (fun K hK=>?_)
      go_simp
      obtain⟨y3,hy3⟩:∃ y,y=y2.alloc (.cells (madeCells #[.int .i64 0,.int .i64 0,.string ⟨#[]⟩] (m*3)) 44):=⟨_,rfl⟩
      rw[<-hy3]
      have hb3:Below y2.heap.size y2 y3:=by rw[hy3];exact (Below.refl _ _).alloc (nr _) _
      have hY3:=z01 hY2 hb3 hY2.size
      have hS3:=HSS.out y3 hY3
      have hz3:y2.heap.size<y3.heap.size:=by rw[hy3];simp
      have hoV:y3.ownsRow y2.heap.size 44 3 (.slice (some ⟨y2.heap.size,0,none⟩) m m) m ((List.replicate m noVal).flatMap Val.cs):=by
       have:=World.ownsRow_lit (base:=y2.heap.size) (e:=44) (size:=3) y2 (madeCells #[.int .i64 0,.int .i64 0,.string ⟨#[]⟩] (m*3)) m (nr _) (by unfold maxLen;omega) (size_madeCells _ _)
       rw[z9e] at this
       rw[hy3]
       exact this
      clear hy3
      refine hK.out _ _ (fun _=>hS3) ?_
      clear hK K
      try simp only[Act.put,pq]
      refine zt 7 hS3 ?_
      simp only[Act.put,pq]
      refine zt 8 hS3 ?_
      simp only[Act.put,pq]
      refine z06 (i:=9) (o:=_) rfl (by kernel_rfl) (fun K hK=>?_)
      go_simp
      obtain⟨y4,hy4⟩:∃ y,y=y3.alloc (.cells #[.slice A5 F.length c5,.slice A6 P.length c6,.int .i64 p.tries,.int .i64 p.base,.int .i64 p.cap,.slice none 0 0,.slice (some ⟨y0.heap.size,0,none⟩) m m,.slice (some ⟨y2.heap.size,0,none⟩) m m,.int .i64 0,.int .i64 0,.slice none 0 0] 59):=⟨_,rfl⟩
      rw[<-hy4]
      have hb4:Below y3.heap.size y3 y4:=by rw[hy4];exact (Below.refl _ _).alloc (nr _) _
      have hY4:=z01 hY3 hb4 hY3.size
      have hz4:y3.heap.size<y4.heap.size:=by rw[hy4];simp
      have hmc:MotC y4 y3.heap.size (.slice A5 F.length c5) (.slice A6 P.length c6) p (.slice none 0 0) (.slice (some ⟨y0.heap.size,0,none⟩) m m) (.slice (some ⟨y2.heap.size,0,none⟩) m m) 0 0 (.slice none 0 0):=by rw[hy4];exact⟨by go_simp,by go_simp,by go_simp,by go_simp,by go_simp,by go_simp,by go_simp,by go_simp,by go_simp,by go_simp,by go_simp⟩
      have hmf:MotF y4 y3.heap.size:=by rw[hy4];exact⟨by go_simp,by go_simp,by go_simp,by go_simp⟩
      clear hy4
      have hS4:=HSS.out y4 hY4
      refine hK.out _ _ (fun _=>hS4) ?_
      clear hK K
      try simp only[Act.put,pq]
      refine z06 (i:=10) (o:=_) rfl (by kernel_rfl) (fun K hK=>?_)
      go_simp
      refine hK.out _ _ (fun h=>absurd h (by decide)) ?_
      clear hK K
      try simp only[Act.put,pq]
      refine z0f (by kernel_rfl) ?_ _
      try simp only[Act.put,pq]
      go_wp2_with fail
      go_meet
      have hz00:=hY0.size
      rw[HR.out.2.2.2.1,HR.out.2.2.2.2] at hmc
      rw[HR.out.2.2.2.1] at hs5
      rw[HR.out.2.2.2.2] at hs6
      have hblk:∀ b,since y1.heap.size y2 b->(b<y3.heap.size/\y4.heap[b]?=y2.heap[b]?):=fun b hb=>by
       have h1:=hb.1
       have h2:=hb.2
       exact⟨by omega,((hb4.block b (by omega)).trans (hb3.block b (by omega)))⟩
      refine⟨y3.heap.size,y0.heap.size,y2.heap.size,A5,c5,A6,c6,rfl,by omega,by omega,by omega,by omega,by omega,by omega,hq5,hq6,zh ⟨hmc,hmf,z0c (z04 (z04 (z04 (hoC) hb2) hb3) hb4) (by omega),z0c (z04 (hoV) hb4) (by omega),World.ownsRow_nil _ _ _ _⟩,zh ⟨since y1.heap.size y2,hs5.keepN z02 (fun b hb=>⟨hb,(hblk b hb).2⟩),hs6.keepN z0d (fun b hb=>⟨hb,(hblk b hb).2⟩),fun b hb=>by have:=(hblk b hb).1;have:=hb.1;omega,fun b hb=>?_⟩,hY4⟩
      have h1:=hb.1
      have h2:=hb.2
      exact⟨by omega,fun e=>by have e':b=y0.heap.size:=Option.some.inj e;omega,fun e=>by have e':b=y2.heap.size:=Option.some.inj e;omega,fun e=>by cases e⟩
     go_simp
     obtain⟨y2,hy2⟩:∃ y,y=y1.alloc (.cells (madeCells #[.int .i64 0,.int .i64 0,.string ⟨#[]⟩] (m*3)) 44):=⟨_,rfl⟩
     rw[<-hy2]
     have hb2:Below y1.heap.size y1 y2:=by rw[hy2];exact (Below.refl _ _).alloc (nr _) _
     have hY2:=z01 hY1 hb2 hY1.size
     have hS2:=HSS.out y2 hY2
     have hz2:y1.heap.size<y2.heap.size:=by rw[hy2];simp
     have hoV:y2.ownsRow y1.heap.size 44 3 (.slice (some ⟨y1.heap.size,0,none⟩) m m) m ((List.replicate m noVal).flatMap Val.cs):=by
      have:=World.ownsRow_lit (base:=y1.heap.size) (e:=44) (size:=3) y1 (madeCells #[.int .i64 0,.int .i64 0,.string ⟨#[]⟩] (m*3)) m (nr _) (by unfold maxLen;omega) (size_madeCells _ _)
      rw[z9e] at this
      rw[hy2]
      exact this
     clear hy2
     refine hK.out _ _ (fun _=>hS2) ?_
     clear hK K
     try simp only[Act.put,pq]
     refine z06 (i:=1) (o:=_) rfl (by kernel_rfl) (fun K hK=>?_)
     go_simp
     go_at_call 24;refine (h3 _ (HX.out.now (z01 hB0 hY2 hB0.size))).mono ?_;rintro e y3 ⟨A5,c5,A6,c6,rfl,hq5,hq6,hs5,hs6,hb3⟩
     have hY3:=z01 hY2 hb3 hY2.size
     have hS3:=HSS.out y3 hY3
     have hz3:=hb3.size
     refine hK.out _ _ (fun _=>hS3) ?_
     clear hK K
     try simp only[Act.put,pq]
     refine zt 7 hS3 ?_
     simp only[Act.put,pq]
     refine zt 8 hS3 ?_
     simp only[Act.put,pq]
     refine z06 (i:=9) (o:=_) rfl (by kernel_rfl) (fun K hK=>?_)
     go_simp
     obtain⟨y4,hy4⟩:∃ y,y=y3.alloc (.cells #[.slice A5 F.length c5,.slice A6 P.length c6,.int .i64 p.tries,.int .i64 p.base,.int .i64 p.cap,.slice none 0 0,.slice (some ⟨y0.heap.size,0,none⟩) m m,.slice (some ⟨y1.heap.size,0,none⟩) m m,.int .i64 0,.int .i64 0,.slice none 0 0] 59):=⟨_,rfl⟩
     rw[<-hy4]
     have hb4:Below y3.heap.size y3 y4:=by rw[hy4];exact (Below.refl _ _).alloc (nr _) _
     have hY4:=z01 hY3 hb4 hY3.size
     have hz4:y3.heap.size<y4.heap.size:=by rw[hy4];simp
     have hmc:MotC y4 y3.heap.size (.slice A5 F.length c5) (.slice A6 P.length c6) p (.slice none 0 0) (.slice (some ⟨y0.heap.size,0,none⟩) m m) (.slice (some ⟨y1.heap.size,0,none⟩) m m) 0 0 (.slice none 0 0):=by rw[hy4];exact⟨by go_simp,by go_simp,by go_simp,by go_simp,by go_simp,by go_simp,by go_simp,by go_simp,by go_simp,by go_simp,by go_simp⟩
     have hmf:MotF y4 y3.heap.size:=by rw[hy4];exact⟨by go_simp,by go_simp,by go_simp,by go_simp⟩
     clear hy4
     have hS4:=HSS.out y4 hY4
     refine hK.out _ _ (fun _=>hS4) ?_
     clear hK K
     try simp only[Act.put,pq]
     refine z06 (i:=10) (o:=_) rfl (by kernel_rfl) (fun K hK=>?_)
     go_simp
     refine hK.out _ _ (fun h=>absurd h (by decide)) ?_
     clear hK K
     try simp only[Act.put,pq]
     refine z0f (by kernel_rfl) ?_ _
     try simp only[Act.put,pq]
     go_wp2_with fail
     go_meet
     have hz00:=hY0.size
     rw[HR.out.2.2.2.1,HR.out.2.2.2.2] at hmc
     rw[HR.out.2.2.2.1] at hs5
     rw[HR.out.2.2.2.2] at hs6
     have hblk:∀ b,since y2.heap.size y3 b->(b<y3.heap.size/\y4.heap[b]?=y3.heap[b]?):=fun b hb=>by
      have h1:=hb.1
      have h2:=hb.2
      exact⟨by omega,(hb4.block b (by omega))⟩
     refine⟨y3.heap.size,y0.heap.size,y1.heap.size,A5,c5,A6,c6,rfl,by omega,by omega,by omega,by omega,by omega,by omega,hq5,hq6,zh ⟨hmc,hmf,z0c (z04 (z04 (z04 (hoC) hb2) hb3) hb4) (by omega),z0c (z04 (z04 (hoV) hb3) hb4) (by omega),World.ownsRow_nil _ _ _ _⟩,zh ⟨since y2.heap.size y3,hs5.keepN z02 (fun b hb=>⟨hb,(hblk b hb).2⟩),hs6.keepN z0d (fun b hb=>⟨hb,(hblk b hb).2⟩),fun b hb=>by have:=(hblk b hb).1;have:=hb.1;omega,fun b hb=>?_⟩,hY4⟩
     have h1:=hb.1
     have h2:=hb.2
     exact⟨by omega,fun e=>by have e':b=y0.heap.size:=Option.some.inj e;omega,fun e=>by have e':b=y1.heap.size:=Option.some.inj e;omega,fun e=>by cases e⟩
    go_simp
    obtain⟨y1,hy1⟩:∃ y,y=y0.alloc (.cells (madeCells #[.int .i64 0,.int .i64 0,.string ⟨#[]⟩] (m*3)) 44):=⟨_,rfl⟩
    rw[<-hy1]
    have hb1:Below y0.heap.size y0 y1:=by rw[hy1];exact (Below.refl _ _).alloc (nr _) _
    have hY1:=z01 hY0 hb1 hY0.size
    have hS1:=HSS.out y1 hY1
    have hz1:y0.heap.size<y1.heap.size:=by rw[hy1];simp
    have hoV:y1.ownsRow y0.heap.size 44 3 (.slice (some ⟨y0.heap.size,0,none⟩) m m) m ((List.replicate m noVal).flatMap Val.cs):=by
     have:=World.ownsRow_lit (base:=y0.heap.size) (e:=44) (size:=3) y0 (madeCells #[.int .i64 0,.int .i64 0,.string ⟨#[]⟩] (m*3)) m (nr _) (by unfold maxLen;omega) (size_madeCells _ _)
     rw[z9e] at this
     rw[hy1]
     exact this
    clear hy1
    refine hK.out _ _ (fun _=>hS1) ?_
    clear hK K
    try simp only[Act.put,pq]
    refine z2s (i:=1) (j:=4) (o:=_) (p:=_) rfl rfl (by kernel_rfl) (fun K hK=>?_) (fun K hK=>?_)
    ·go_simp
     go_at_call 24;refine (h3 _ (HX.out.now (z01 hB0 hY1 hB0.size))).mono ?_;rintro e y2 ⟨A5,c5,A6,c6,rfl,hq5,hq6,hs5,hs6,hb2⟩
     have hY2:=z01 hY1 hb2 hY1.size
     have hS2:=HSS.out y2 hY2
     have hz2:=hb2.size
     refine hK.out _ _ (fun _=>hS2) ?_
     clear hK K
     try simp only[Act.put,pq]
     refine z06 (i:=4) (o:=_) rfl (by kernel_rfl) (fun K hK=>?_)
     go_simp
     obtain⟨y3,hy3⟩:∃ y,y=y2.alloc (.cells (madeCells #[.int .i64 0,.int .i64 0,.int .i64 0,.int .i64 0,.int .i64 0,.string ⟨#[]⟩,.int .i64 0,.int .i64 0,.string ⟨#[]⟩,.int .i64 0] (m*10)) 62):=⟨_,rfl⟩
     rw[<-hy3]
     have hb3:Below y2.heap.size y2 y3:=by rw[hy3];exact (Below.refl _ _).alloc (nr _) _
     have hY3:=z01 hY2 hb3 hY2.size
     have hS3:=HSS.out y3 hY3
     have hz3:y2.heap.size<y3.heap.size:=by rw[hy3];simp
     have hoC:y3.ownsRow y2.heap.size 62 10 (.slice (some ⟨y2.heap.size,0,none⟩) m m) m ((List.replicate m noCll).flatMap Cll.cs):=by
      have:=World.ownsRow_lit (base:=y2.heap.size) (e:=62) (size:=10) y2 (madeCells #[.int .i64 0,.int .i64 0,.int .i64 0,.int .i64 0,.int .i64 0,.string ⟨#[]⟩,.int .i64 0,.int .i64 0,.string ⟨#[]⟩,.int .i64 0] (m*10)) m (nr _) (by unfold maxLen;omega) (size_madeCells _ _)
      rw[z9d] at this
      rw[hy3]
      exact this
     clear hy3
     refine hK.out _ _ (fun _=>hS3) ?_
     clear hK K
     try simp only[Act.put,pq]
     refine zt 7 hS3 ?_
     simp only[Act.put,pq]
     refine zt 8 hS3 ?_
     simp only[Act.put,pq]
     refine z06 (i:=9) (o:=_) rfl (by kernel_rfl) (fun K hK=>?_)
     go_simp
     obtain⟨y4,hy4⟩:∃ y,y=y3.alloc (.cells #[.slice A5 F.length c5,.slice A6 P.length c6,.int .i64 p.tries,.int .i64 p.base,.int .i64 p.cap,.slice none 0 0,.slice (some ⟨y2.heap.size,0,none⟩) m m,.slice (some ⟨y0.heap.size,0,none⟩) m m,.int .i64 0,.int .i64 0,.slice none 0 0] 59):=⟨_,rfl⟩
     rw[<-hy4]
     have hb4:Below y3.heap.size y3 y4:=by rw[hy4];exact (Below.refl _ _).alloc (nr _) _
     have hY4:=z01 hY3 hb4 hY3.size
     have hz4:y3.heap.size<y4.heap.size:=by rw[hy4];simp
     have hmc:MotC y4 y3.heap.size (.slice A5 F.length c5) (.slice A6 P.length c6) p (.slice none 0 0) (.slice (some ⟨y2.heap.size,0,none⟩) m m) (.slice (some ⟨y0.heap.size,0,none⟩) m m) 0 0 (.slice none 0 0):=by rw[hy4];exact⟨by go_simp,by go_simp,by go_simp,by go_simp,by go_simp,by go_simp,by go_simp,by go_simp,by go_simp,by go_simp,by go_simp⟩
     have hmf:MotF y4 y3.heap.size:=by rw[hy4];exact⟨by go_simp,by go_simp,by go_simp,by go_simp⟩
     clear hy4
     have hS4:=HSS.out y4 hY4
     refine hK.out _ _ (fun _=>hS4) ?_
     clear hK K
     try simp only[Act.put,pq]
     refine z06 (i:=10) (o:=_) rfl (by kernel_rfl) (fun K hK=>?_)
     go_simp
     refine hK.out _ _ (fun h=>absurd h (by decide)) ?_
     clear hK K
     try simp only[Act.put,pq]
     refine z0f (by kernel_rfl) ?_ _
     try simp only[Act.put,pq]
     go_wp2_with fail
     go_meet
     have hz00:=hY0.size
     rw[HR.out.2.2.2.1,HR.out.2.2.2.2] at hmc
     rw[HR.out.2.2.2.1] at hs5
     rw[HR.out.2.2.2.2] at hs6
     have hblk:∀ b,since y1.heap.size y2 b->(b<y3.heap.size/\y4.heap[b]?=y2.heap[b]?):=fun b hb=>by
      have h1:=hb.1
      have h2:=hb.2
      exact⟨by omega,((hb4.block b (by omega)).trans (hb3.block b (by omega)))⟩
     refine⟨y3.heap.size,y2.heap.size,y0.heap.size,A5,c5,A6,c6,rfl,by omega,by omega,by omega,by omega,by omega,by omega,hq5,hq6,zh ⟨hmc,hmf,z0c (z04 (hoC) hb4) (by omega),z0c (z04 (z04 (z04 (hoV) hb2) hb3) hb4) (by omega),World.ownsRow_nil _ _ _ _⟩,zh ⟨since y1.heap.size y2,hs5.keepN z02 (fun b hb=>⟨hb,(hblk b hb).2⟩),hs6.keepN z0d (fun b hb=>⟨hb,(hblk b hb).2⟩),fun b hb=>by have:=(hblk b hb).1;have:=hb.1;omega,fun b hb=>?_⟩,hY4⟩
     have h1:=hb.1
     have h2:=hb.2
     exact⟨by omega,fun e=>by have e':b=y2.heap.size:=Option.some.inj e;omega,fun e=>by have e':b=y0.heap.size:=Option.some.inj e;omega,fun e=>by cases e⟩
    go_simp
    obtain⟨y2,hy2⟩:∃ y,y=y1.alloc (.cells (madeCells #[.int .i64 0,.int .i64 0,.int .i64 0,.int .i64 0,.int .i64 0,.string ⟨#[]⟩,.int .i64 0,.int .i64 0,.string ⟨#[]⟩,.int .i64 0] (m*10)) 62):=⟨_,rfl⟩
    rw[<-hy2]
    have hb2:Below y1.heap.size y1 y2:=by rw[hy2];exact (Below.refl _ _).alloc (nr _) _
    have hY2:=z01 hY1 hb2 hY1.size
    have hS2:=HSS.out y2 hY2
    have hz2:y1.heap.size<y2.heap.size:=by rw[hy2];simp
    have hoC:y2.ownsRow y1.heap.size 62 10 (.slice (some ⟨y1.heap.size,0,none⟩) m m) m ((List.replicate m noCll).flatMap Cll.cs):=by
     have:=World.ownsRow_lit (base:=y1.heap.size) (e:=62) (size:=10) y1 (madeCells #[.int .i64 0,.int .i64 0,.int .i64 0,.int .i64 0,.int .i64 0,.string ⟨#[]⟩,.int .i64 0,.int .i64 0,.string ⟨#[]⟩,.int .i64 0] (m*10)) m (nr _) (by unfold maxLen;omega) (size_madeCells _ _)
     rw[z9d] at this
     rw[hy2]
     exact this
    clear hy2
    refine hK.out _ _ (fun _=>hS2) ?_
    clear hK K
    try simp only[Act.put,pq]
    refine z06 (i:=1) (o:=_) rfl (by kernel_rfl) (fun K hK=>?_)
    go_simp
    go_at_call 24;refine (h3 _ (HX.out.now (z01 hB0 hY2 hB0.size))).mono ?_;rintro e y3 ⟨A5,c5,A6,c6,rfl,hq5,hq6,hs5,hs6,hb3⟩
    have hY3:=z01 hY2 hb3 hY2.size
    have hS3:=HSS.out y3 hY3
    have hz3:=hb3.size
    refine hK.out _ _ (fun _=>hS3) ?_
    clear hK K
    try simp only[Act.put,pq]
    refine zt 7 hS3 ?_
    simp only[Act.put,pq]
    refine zt 8 hS3 ?_
    simp only[Act.put,pq]
    refine z06 (i:=9) (o:=_) rfl (by kernel_rfl) (fun K hK=>?_)
    go_simp
    obtain⟨y4,hy4⟩:∃ y,y=y3.alloc (.cells #[.slice A5 F.length c5,.slice A6 P.length c6,.int .i64 p.tries,.int .i64 p.base,.int .i64 p.cap,.slice none 0 0,.slice (some ⟨y1.heap.size,0,none⟩) m m,.slice (some ⟨y0.heap.size,0,none⟩) m m,.int .i64 0,.int .i64 0,.slice none 0 0] 59):=⟨_,rfl⟩
    rw[<-hy4]
    have hb4:Below y3.heap.size y3 y4:=by rw[hy4];exact (Below.refl _ _).alloc (nr _) _
    have hY4:=z01 hY3 hb4 hY3.size
    have hz4:y3.heap.size<y4.heap.size:=by rw[hy4];simp
    have hmc:MotC y4 y3.heap.size (.slice A5 F.length c5) (.slice A6 P.length c6) p (.slice none 0 0) (.slice (some ⟨y1.heap.size,0,none⟩) m m) (.slice (some ⟨y0.heap.size,0,none⟩) m m) 0 0 (.slice none 0 0):=by rw[hy4];exact⟨by go_simp,by go_simp,by go_simp,by go_simp,by go_simp,by go_simp,by go_simp,by go_simp,by go_simp,by go_simp,by go_simp⟩
    have hmf:MotF y4 y3.heap.size:=by rw[hy4];exact⟨by go_simp,by go_simp,by go_simp,by go_simp⟩
    clear hy4
    have hS4:=HSS.out y4 hY4
    refine hK.out _ _ (fun _=>hS4) ?_
    clear hK K
    try simp only[Act.put,pq]
    refine z06 (i:=10) (o:=_) rfl (by kernel_rfl) (fun K hK=>?_)
    go_simp
    refine hK.out _ _ (fun h=>absurd h (by decide)) ?_
    clear hK K
    try simp only[Act.put,pq]
    refine z0f (by kernel_rfl) ?_ _
    try simp only[Act.put,pq]
    go_wp2_with fail
    go_meet
    have hz00:=hY0.size
    rw[HR.out.2.2.2.1,HR.out.2.2.2.2] at hmc
    rw[HR.out.2.2.2.1] at hs5
    rw[HR.out.2.2.2.2] at hs6
    have hblk:∀ b,since y2.heap.size y3 b->(b<y3.heap.size/\y4.heap[b]?=y3.heap[b]?):=fun b hb=>by
     have h1:=hb.1
     have h2:=hb.2
     exact⟨by omega,(hb4.block b (by omega))⟩
    refine⟨y3.heap.size,y1.heap.size,y0.heap.size,A5,c5,A6,c6,rfl,by omega,by omega,by omega,by omega,by omega,by omega,hq5,hq6,zh ⟨hmc,hmf,z0c (z04 (z04 (hoC) hb3) hb4) (by omega),z0c (z04 (z04 (z04 (hoV) hb2) hb3) hb4) (by omega),World.ownsRow_nil _ _ _ _⟩,zh ⟨since y2.heap.size y3,hs5.keepN z02 (fun b hb=>⟨hb,(hblk b hb).2⟩),hs6.keepN z0d (fun b hb=>⟨hb,(hblk b hb).2⟩),fun b hb=>by have:=(hblk b hb).1;have:=hb.1;omega,fun b hb=>?_⟩,hY4⟩
    have h1:=hb.1
    have h2:=hb.2
    exact⟨by omega,fun e=>by have e':b=y1.heap.size:=Option.some.inj e;omega,fun e=>by have e':b=y0.heap.size:=Option.some.inj e;omega,fun e=>by cases e⟩
   case rest =>
    obtain⟨M,gC,gV,A5,c5,A6,c6,rfl,hM0,hC0,hV0,hMC,hMV,hCV,hq5,hq6,hmg,hSS,hbc⟩:=hcut
    have hzc:=hbc.size
    obtain⟨S,gF,gP,gSo,gSf⟩:=hSS.out
    have hBc:Below w.heap.size w wc:=z01 hB0 hbc hB0.size
    have hdn:=motor_done M m c5 F A5 S A6 n c6 P p none 0 0 [] (some ⟨gC,0,none⟩) m (some ⟨gV,0,none⟩) m (List.replicate m noCll) (List.replicate m noVal) 0 0 (.slice none 0 0) [] W0.heap.size wc hmg.out gF gP Sl.nil (by unfold inL;omega) (fun b hb=>(gSo b hb).1) gSf (fun q hq=>by cases hq) (fun e=>hMC (Option.some.inj e)) (fun e=>hMV (Option.some.inj e))
     (fun q hq e=>hCV (by have e1:gC=q:=Option.some.inj hq;have e2:q=gV:=Option.some.inj e;rw[e1,e2])) hzc HR.out.2.2.1 (by have h:=HR.out.2.1;rw[HR.out.2.2.2.1] at h;exact h) (by rw[List.length_replicate];exact HR.out.2.2.2.1.symm) (by simp) (fun l hl=>absurd hl List.not_mem_nil) (by have:=HR.out.2.2.2.1;omega) (by have:=HR.out.2.2.2.2;omega) (nr _) (nr _) (nr _) W0.heap.size (fun b hb=>(gSo b hb).2) (nr _)
    have hrr:=HR.out.1
    rw[HR.out.2.2.2.1] at hrr
    rw[<-hrr] at hdn
    clear hrr
    have HM:=zh hbc
    have hrl:w.heap.size+2<W0.heap.size:=by omega
    have hrc:w.heap.size+2<wc.heap.size:=by omega
    replace q0:=z00 q0 hbc
    replace r0:=(hbc.frozen (p:=⟨w.heap.size+2,0,none⟩) hrl).trans r0
    replace q1:=z00 q1 hbc
    replace r1:=(hbc.frozen (p:=⟨w.heap.size+2,1,none⟩) hrl).trans r1
    replace q2:=z00 q2 hbc
    replace r2:=(hbc.frozen (p:=⟨w.heap.size+2,2,none⟩) hrl).trans r2
    replace q3:=z00 q3 hbc
    replace r3:=(hbc.frozen (p:=⟨w.heap.size+2,3,none⟩) hrl).trans r3
    replace q4:=z00 q4 hbc
    replace r4:=(hbc.frozen (p:=⟨w.heap.size+2,4,none⟩) hrl).trans r4
    replace q5:=z00 q5 hbc
    replace r5:=(hbc.frozen (p:=⟨w.heap.size+2,5,none⟩) hrl).trans r5
    replace q6:=z00 q6 hbc
    replace r6:=(hbc.frozen (p:=⟨w.heap.size+2,6,none⟩) hrl).trans r6
    replace q7:=z00 q7 hbc
    replace r7:=(hbc.frozen (p:=⟨w.heap.size+2,7,none⟩) hrl).trans r7
    replace q8:=z00 q8 hbc
    replace r8:=(hbc.frozen (p:=⟨w.heap.size+2,8,none⟩) hrl).trans r8
    replace q9:=z00 q9 hbc
    replace r9:=(hbc.frozen (p:=⟨w.heap.size+2,9,none⟩) hrl).trans r9
    have hM2:w.heap.size+3<=M:=by omega
    have hW3:w.heap.size+3<=W0.heap.size:=by omega
    clear hmg hSS gF gP gSo gSf hbc b0 b1 b2 b3 b4 hz0
    go_upto_region 9 with fail
    go_wp2_with (go_at_call 25;refine hdn.mono ?_;rintro e w5 ⟨⟨B',d',A',c',A1',c1',A2',c2',A3',c3',A4',c4',rfl,hlen,s1,s2,s3,s4,s5,s6⟩,hb5⟩;have hk5:Below (w.heap.size+3) wc w5:=hb5 _ hM2 hW3;have hl5:w.heap.size+2<w5.heap.size:=(by have:=hk5.size;have:=(hb5 0 (Nat.zero_le _) (Nat.zero_le _)).size;omega);have qq0:=(hk5.cell (p:=⟨w.heap.size+2,0,none⟩) (Nat.lt_succ_self _)).trans q0;have rq0:=(hk5.frozen (p:=⟨w.heap.size+2,0,none⟩) (Nat.lt_succ_self _)).trans r0;have qq1:=(hk5.cell (p:=⟨w.heap.size+2,1,none⟩) (Nat.lt_succ_self _)).trans q1;have rq1:=(hk5.frozen (p:=⟨w.heap.size+2,1,none⟩) (Nat.lt_succ_self _)).trans r1;have qq2:=(hk5.cell (p:=⟨w.heap.size+2,2,none⟩) (Nat.lt_succ_self _)).trans q2;have rq2:=(hk5.frozen (p:=⟨w.heap.size+2,2,none⟩) (Nat.lt_succ_self _)).trans r2;have qq3:=(hk5.cell (p:=⟨w.heap.size+2,3,none⟩) (Nat.lt_succ_self _)).trans q3;have rq3:=(hk5.frozen (p:=⟨w.heap.size+2,3,none⟩) (Nat.lt_succ_self _)).trans r3;have qq4:=(hk5.cell (p:=⟨w.heap.size+2,4,none⟩) (Nat.lt_succ_self _)).trans q4;have rq4:=(hk5.frozen (p:=⟨w.heap.size+2,4,none⟩) (Nat.lt_succ_self _)).trans r4;have qq5:=(hk5.cell (p:=⟨w.heap.size+2,5,none⟩) (Nat.lt_succ_self _)).trans q5;have rq5:=(hk5.frozen (p:=⟨w.heap.size+2,5,none⟩) (Nat.lt_succ_self _)).trans r5;have qq6:=(hk5.cell (p:=⟨w.heap.size+2,6,none⟩) (Nat.lt_succ_self _)).trans q6;have rq6:=(hk5.frozen (p:=⟨w.heap.size+2,6,none⟩) (Nat.lt_succ_self _)).trans r6;have qq7:=(hk5.cell (p:=⟨w.heap.size+2,7,none⟩) (Nat.lt_succ_self _)).trans q7;have rq7:=(hk5.frozen (p:=⟨w.heap.size+2,7,none⟩) (Nat.lt_succ_self _)).trans r7;have qq8:=(hk5.cell (p:=⟨w.heap.size+2,8,none⟩) (Nat.lt_succ_self _)).trans q8;have rq8:=(hk5.frozen (p:=⟨w.heap.size+2,8,none⟩) (Nat.lt_succ_self _)).trans r8;have qq9:=(hk5.cell (p:=⟨w.heap.size+2,9,none⟩) (Nat.lt_succ_self _)).trans q9;have rq9:=(hk5.frozen (p:=⟨w.heap.size+2,9,none⟩) (Nat.lt_succ_self _)).trans r9)
    refine bpr Tryz.results8 (.tuple #[.agg #[.slice B' (rr.1.F.length) d',.slice A' (rr.1.P.length) c',.int .i64 rr.1.p.tries,.int .i64 rr.1.p.base,.int .i64 rr.1.p.cap,.slice A1' rr.1.ins.length c1',.slice A2' rr.1.cs.length c2',.slice A3' rr.1.vs.length c3',.int .i64 rr.1.now,.int .i64 rr.1.last],.slice A4' rr.2.1.length c4',.int .i64 rr.2.2]) ?_
    generalize hW9:World.setCell _ _ _=W9
    have hk:∀ b:Nat,b≠w.heap.size+2->W9.heap[b]?=w5.heap[b]?:=fun b hb=>by
     rw[<-hW9]
     iterate 10 rw[Below.heap_setCell _ _ _ _ (by exact hb)]
    have hz9:W9.heap.size=w5.heap.size:=by rw[<-hW9];simp
    have hkk:∀ b,since W0.heap.size w5 b->since w.heap.size W9 b/\W9.heap[b]?=w5.heap[b]?:=fun b hb=>by
     have h1:=hb.1
     have h2:=hb.2
     exact⟨⟨by omega,by omega⟩,hk b (by omega)⟩
    refine⟨⟨B',d',A',c',A1',c1',A2',c2',A3',c3',A4',c4',rfl,hlen,s1.keepN z02 hkk,s2.keepN z0d hkk,(s3.keep (fun b hb=>(hkk b hb).2) (fun _ _ h=>h)).mono (fun b hb=>(hkk b hb).1),(s4.keep (fun b hb=>(hkk b hb).2) (fun _ _ h=>h)).mono (fun b hb=>(hkk b hb).1),(s5.keep (fun b hb=>(hkk b hb).2) (fun _ _ h=>h)).mono (fun b hb=>(hkk b hb).1),(s6.keep (fun b hb=>(hkk b hb).2) (fun _ _ h=>h)).mono (fun b hb=>(hkk b hb).1)⟩,?_⟩
    rw[<-hW9]
    iterate 10 refine z03 ?_ (by first | (simp;done) | (simp;omega))
    exact hBc.trans (hb5 _ (by omega) (by omega))
  have g2:(e2 != 0)=true:=by simpa using z2
  rw[if_neg (by simpa using z1),if_pos z2] at hrr
  have HR:=zh hrr
  clear hrr hok h14 hO hml hPl z1 z2
  go_enter Tryz.func8,Tryz.ntmps8
  go_wp2_with (first
   | (go_at_call 22;refine (h1 _ (HX.out.now bel)).mono ?_;rintro e w1 ⟨rfl,hb1⟩;refine zb hb1 ?_;rintro ⟨hc1,hf1⟩ hz1 hy1 hx1;refine szz w1 w ?_;intros)
   | (go_at_call 23;refine (h2 _).mono ?_;rintro e w2 ⟨rfl,hb2⟩;refine zb hb2 ?_;rintro ⟨hc2,hf2⟩ hz2 hy2 hx2;refine szz w2 w ?_;intros;refine szz w2 w1 ?_;intros))
  refine bpr Tryz.results8 (.tuple #[.agg #[.slice none 0 0,.slice none 0 0,.int .i64 0,.int .i64 0,.int .i64 0,.slice none 0 0,.slice none 0 0,.slice none 0 0,.int .i64 0,.int .i64 0],.slice none 0 0,.int .i64 e2]) ?_
  rw[HR.out]
  exact⟨EngIs.nil0 _ rfl,bel⟩
 have g1:(e1 != 0)=true:=by simpa using z1
 rw[if_pos z1] at hrr
 have HR:=zh hrr
 clear hrr hok h14 hO hml hPl z1
 go_enter Tryz.func8,Tryz.ntmps8
 go_wp2_with (go_at_call 22;refine (h1 _ (HX.out.now bel)).mono ?_;rintro e w1 ⟨rfl,hb1⟩;refine zb hb1 ?_;rintro ⟨hc1,hf1⟩ hz1 hy1 hx1;refine szz w1 w ?_;intros)
 refine bpr Tryz.results8 (.tuple #[.agg #[.slice none 0 0,.slice none 0 0,.int .i64 0,.int .i64 0,.int .i64 0,.slice none 0 0,.slice none 0 0,.slice none 0 0,.int .i64 0,.int .i64 0],.slice none 0 0,.int .i64 e1]) ?_
 rw[HR.out]
 exact⟨EngIs.nil0 _ rfl,bel⟩
end Go.Proofs.YtldhlpjjcnlbcaaGreat
