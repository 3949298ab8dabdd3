/- Texts merged (mergeh.py): Rfe1. -/
import Derived.Test.YtldhlpjjcnlbcaaGreatEng5
/- The reference EngineCopy. (printed by mkrfe1.py) -/
set_option maxRecDepth 100000
set_option maxHeartbeats 8000000
namespace Go.Proofs.YtldhlpjjcnlbcaaGreat
open Go.RowKit
def apart (a b g:Nat):Nat -> Prop:=fun k=>a<=k/\k<b/\k≠g
theorem zcg (B:Option Addr)(m d:Nat)(F:List Fld)(A:Option Addr)(n c:Nat)(P:List Pag)(p:Pol)(A1:Option Addr)(n1 c1:Nat)(ins:List Fct)(A2:Option Addr)(n2 c2:Nat)(cs:List Cll)(A3:Option Addr)(n3 c3:Nat)(vs:List Val)(now last:Int)(w:World)
  (hX:REn w B m d F A n c P A1 n1 c1 ins A2 n2 c2 cs A3 n3 c3 vs) :
  Calls Tryz.prog 15 #[.agg #[.slice B m d,.slice A n c,.int .i64 p.tries,.int .i64 p.base,.int .i64 p.cap,.slice A1 n1 c1,.slice A2 n2 c2,.slice A3 n3 c3,.int .i64 now,.int .i64 last]] w (RetCop w F P p ins cs vs now last):=by
 have h1:=fun w (h:RFo w B m d F A n c P)=>z8r B m d F A n c P w h.1 h.2.2.2.2.1 h.2.2.1 h.2.2.2.2.2
 obtain⟨i0,ei,ez0,ez1,ez2⟩:=info_parts Tryz.infoFct
 obtain⟨j0,ej,jz0,jz1,jz2⟩:=info_parts Tryz.infoCll
 obtain⟨k0,ek,kz0,kz1,kz2⟩:=info_parts Tryz.infoValR
 have hln:ins.length=n1/\cs.length=n2/\vs.length=n3:=⟨hX.2.1.2.2.len,hX.2.2.1.2.2.len,hX.2.2.2.2.2.len⟩
 have hnb:n1*80<=140737488351232/\n2*96<=140737488351232/\n3*32<=140737488351232:=⟨hX.2.1.1,hX.2.2.1.1,hX.2.2.2.1⟩
 have HX:=zh hX
 clear hX
 go_enter Tryz.func15,Tryz.ntmps15
 go_upto_region 1 with fail
 refine z0k ?_;intro W0 hW0
 have hB0:Below w.heap.size w W0:=by rw[hW0];exact bel
 have hZ0:W0.heap.size=w.heap.size+2:=by rw[hW0];simp
 have b0:W0.cell? ⟨w.heap.size,0,none⟩=some (.slice B m d):=by rw[hW0];go_simp
 have b1:W0.cell? ⟨w.heap.size,1,none⟩=some (.slice A n c):=by rw[hW0];go_simp
 have b2:W0.cell? ⟨w.heap.size,2,none⟩=some (.int .i64 p.tries):=by rw[hW0];go_simp
 have b3:W0.cell? ⟨w.heap.size,3,none⟩=some (.int .i64 p.base):=by rw[hW0];go_simp
 have b4:W0.cell? ⟨w.heap.size,4,none⟩=some (.int .i64 p.cap):=by rw[hW0];go_simp
 have b5:W0.cell? ⟨w.heap.size,5,none⟩=some (.slice A1 n1 c1):=by rw[hW0];go_simp
 have b6:W0.cell? ⟨w.heap.size,6,none⟩=some (.slice A2 n2 c2):=by rw[hW0];go_simp
 have b7:W0.cell? ⟨w.heap.size,7,none⟩=some (.slice A3 n3 c3):=by rw[hW0];go_simp
 have b8:W0.cell? ⟨w.heap.size,8,none⟩=some (.int .i64 now):=by rw[hW0];go_simp
 have b9:W0.cell? ⟨w.heap.size,9,none⟩=some (.int .i64 last):=by rw[hW0];go_simp
 have q0:W0.cell? ⟨w.heap.size+1,0,none⟩=some (.slice none 0 0):=by rw[hW0];go_simp
 have q1:W0.cell? ⟨w.heap.size+1,1,none⟩=some (.slice none 0 0):=by rw[hW0];go_simp
 have q2:W0.cell? ⟨w.heap.size+1,2,none⟩=some (.int .i64 0):=by rw[hW0];go_simp
 have q3:W0.cell? ⟨w.heap.size+1,3,none⟩=some (.int .i64 0):=by rw[hW0];go_simp
 have q4:W0.cell? ⟨w.heap.size+1,4,none⟩=some (.int .i64 0):=by rw[hW0];go_simp
 have q5:W0.cell? ⟨w.heap.size+1,5,none⟩=some (.slice none 0 0):=by rw[hW0];go_simp
 have q6:W0.cell? ⟨w.heap.size+1,6,none⟩=some (.slice none 0 0):=by rw[hW0];go_simp
 have q7:W0.cell? ⟨w.heap.size+1,7,none⟩=some (.slice none 0 0):=by rw[hW0];go_simp
 have q8:W0.cell? ⟨w.heap.size+1,8,none⟩=some (.int .i64 0):=by rw[hW0];go_simp
 have q9:W0.cell? ⟨w.heap.size+1,9,none⟩=some (.int .i64 0):=by rw[hW0];go_simp
 have r0:W0.frozen? ⟨w.heap.size+1,0,none⟩=false:=by rw[hW0];go_simp
 have r1:W0.frozen? ⟨w.heap.size+1,1,none⟩=false:=by rw[hW0];go_simp
 have r2:W0.frozen? ⟨w.heap.size+1,2,none⟩=false:=by rw[hW0];go_simp
 have r3:W0.frozen? ⟨w.heap.size+1,3,none⟩=false:=by rw[hW0];go_simp
 have r4:W0.frozen? ⟨w.heap.size+1,4,none⟩=false:=by rw[hW0];go_simp
 have r5:W0.frozen? ⟨w.heap.size+1,5,none⟩=false:=by rw[hW0];go_simp
 have r6:W0.frozen? ⟨w.heap.size+1,6,none⟩=false:=by rw[hW0];go_simp
 have r7:W0.frozen? ⟨w.heap.size+1,7,none⟩=false:=by rw[hW0];go_simp
 have r8:W0.frozen? ⟨w.heap.size+1,8,none⟩=false:=by rw[hW0];go_simp
 have r9:W0.frozen? ⟨w.heap.size+1,9,none⟩=false:=by rw[hW0];go_simp
 clear hW0
 have HSS:=zh (show ∀ y:World,Below W0.heap.size W0 y->(y.cell? ⟨w.heap.size,0,none⟩=some (.slice B m d)/\(y.cell? ⟨w.heap.size,1,none⟩=some (.slice A n c)/\(y.cell? ⟨w.heap.size,2,none⟩=some (.int .i64 p.tries)/\(y.cell? ⟨w.heap.size,3,none⟩=some (.int .i64 p.base)/\(y.cell? ⟨w.heap.size,4,none⟩=some (.int .i64 p.cap)/\(y.cell? ⟨w.heap.size,8,none⟩=some (.int .i64 now)/\y.cell? ⟨w.heap.size,9,none⟩=some (.int .i64 last))))))) from fun y h=>⟨z00 b0 h,z00 b1 h,z00 b2 h,z00 b3 h,z00 b4 h,z00 b8 h,z00 b9 h⟩)
 have HZ0:=zh hZ0
 go_cut [3] (fun s3 wx=>∃ (g:Nat) (A5:Option Addr) (c5:Nat) (A6:Option Addr) (c6:Nat),s3=.pointer (some ⟨g,0,none⟩)/\W0.heap.size<=g/\g<wx.heap.size/\F.length<=c5/\P.length<=c6/\(wx.cell? ⟨g,0,none⟩=some (.slice A5 F.length c5)/\(wx.cell? ⟨g,1,none⟩=some (.slice A6 P.length c6)/\(wx.cell? ⟨g,2,none⟩=some (.int .i64 p.tries)/\(wx.cell? ⟨g,3,none⟩=some (.int .i64 p.base)/\(wx.cell? ⟨g,4,none⟩=some (.int .i64 p.cap)/\(wx.cell? ⟨g,5,none⟩=some (.slice none 0 0)/\(wx.cell? ⟨g,6,none⟩=some (.slice none 0 0)/\(wx.cell? ⟨g,7,none⟩=some (.slice none 0 0)/\(wx.cell? ⟨g,8,none⟩=some (.int .i64 now)/\wx.cell? ⟨g,9,none⟩=some (.int .i64 last))))))))))/\(wx.frozen? ⟨g,5,none⟩=false/\(wx.frozen? ⟨g,6,none⟩=false/\wx.frozen? ⟨g,7,none⟩=false)) /\
  Hid (Sl wx (apart W0.heap.size wx.heap.size g) 9 (RFld wx (apart W0.heap.size wx.heap.size g)) A5 F.length F/\Sl wx (apart W0.heap.size wx.heap.size g) 8 (RPag wx (apart W0.heap.size wx.heap.size g)) A6 P.length P)/\Below W0.heap.size W0 wx)
 case first =>
  refine z0k ?_;intro u0' hu0'
  obtain⟨y0,hy0⟩:∃ y,y=u0'.drew:=⟨_,rfl⟩
  have hY0:Below W0.heap.size W0 y0:=by rw[hy0,hu0'];exact (Below.refl _ _).drew
  have hS0:=HSS.out y0 hY0
  refine z0r (fun w'=>w'.cell? ⟨w.heap.size,0,none⟩=some (.slice B m d)/\(w'.cell? ⟨w.heap.size,1,none⟩=some (.slice A n c)/\(w'.cell? ⟨w.heap.size,2,none⟩=some (.int .i64 p.tries)/\(w'.cell? ⟨w.heap.size,3,none⟩=some (.int .i64 p.base)/\(w'.cell? ⟨w.heap.size,4,none⟩=some (.int .i64 p.cap)/\(w'.cell? ⟨w.heap.size,8,none⟩=some (.int .i64 now)/\w'.cell? ⟨w.heap.size,9,none⟩=some (.int .i64 last))))))) 11 (by kernel_rfl) ?_
  rw[<-hy0]
  clear hy0 hu0' hZ0 b0 q0 r0 b1 q1 r1 b2 q2 r2 b3 q3 r3 b4 q4 r4 b5 q5 r5 b6 q6 r6 b7 q7 r7 b8 q8 r8 b9 q9 r9
  refine zt 0 hS0 ?_
  simp only[Act.put,pq]
  refine zt 1 hS0 ?_
  simp only[Act.put,pq]
  refine zt 3 hS0 ?_
  simp only[Act.put,pq]
  refine zt 4 hS0 ?_
  simp only[Act.put,pq]
  refine zt 5 hS0 ?_
  simp only[Act.put,pq]
  refine zt 6 hS0 ?_
  simp only[Act.put,pq]
  refine zt 7 hS0 ?_
  simp only[Act.put,pq]
  refine zt 8 hS0 ?_
  simp only[Act.put,pq]
  refine z2s (i:=2) (j:=10) (o:=_) (p:=_) rfl rfl (by kernel_rfl) (fun K hK=>?_) (fun K hK=>?_)
  ·go_simp
   go_at_call 46;refine (h1 _ (HX.out.1.now (z01 hB0 hY0 hB0.size))).mono ?_;rintro e y1 ⟨A5,c5,A6,c6,rfl,hq5,hq6,hs5,hs6,hb1⟩
   have hY1:=z01 hY0 hb1 hY0.size
   have hS1:=HSS.out y1 hY1
   refine hK.out _ _ (fun _=>hS1) ?_
   clear hK K
   try simp only[Act.put,pq]
   refine zt 9 hS1 ?_
   simp only[Act.put,pq]
   refine z06 (i:=10) (o:=_) rfl (by kernel_rfl) (fun K hK=>?_)
   go_simp
   obtain⟨y2,hy2⟩:∃ y,y=y1.alloc (.cells #[.slice none 0 0,.slice none 0 0,.int .i64 0,.int .i64 0,.int .i64 0,.slice none 0 0,.slice none 0 0,.slice none 0 0,.int .i64 0,.int .i64 0] 32):=⟨_,rfl⟩
   rw[<-hy2]
   have hb2:Below y1.heap.size y1 y2:=by rw[hy2];exact (Below.refl _ _).alloc (nr _) _
   have hY2:=z01 hY1 hb2 hY1.size
   have hS2:=HSS.out y2 hY2
   have hgl2:y1.heap.size<y2.heap.size:=by rw[hy2];simp
   have HG:=zh (show y2.heap.size=y1.heap.size+1 by rw[hy2];simp)
   have nc0:y2.cell? ⟨y1.heap.size,0,none⟩=some (.slice none 0 0):=by rw[hy2];go_simp
   have nc1:y2.cell? ⟨y1.heap.size,1,none⟩=some (.slice none 0 0):=by rw[hy2];go_simp
   have nc2:y2.cell? ⟨y1.heap.size,2,none⟩=some (.int .i64 0):=by rw[hy2];go_simp
   have nc3:y2.cell? ⟨y1.heap.size,3,none⟩=some (.int .i64 0):=by rw[hy2];go_simp
   have nc4:y2.cell? ⟨y1.heap.size,4,none⟩=some (.int .i64 0):=by rw[hy2];go_simp
   have nc5:y2.cell? ⟨y1.heap.size,5,none⟩=some (.slice none 0 0):=by rw[hy2];go_simp
   have nc6:y2.cell? ⟨y1.heap.size,6,none⟩=some (.slice none 0 0):=by rw[hy2];go_simp
   have nc7:y2.cell? ⟨y1.heap.size,7,none⟩=some (.slice none 0 0):=by rw[hy2];go_simp
   have nc8:y2.cell? ⟨y1.heap.size,8,none⟩=some (.int .i64 0):=by rw[hy2];go_simp
   have nc9:y2.cell? ⟨y1.heap.size,9,none⟩=some (.int .i64 0):=by rw[hy2];go_simp
   have f0:y2.frozen? ⟨y1.heap.size,0,none⟩=false:=by rw[hy2];go_simp
   have f1:y2.frozen? ⟨y1.heap.size,1,none⟩=false:=by rw[hy2];go_simp
   have f2:y2.frozen? ⟨y1.heap.size,2,none⟩=false:=by rw[hy2];go_simp
   have f3:y2.frozen? ⟨y1.heap.size,3,none⟩=false:=by rw[hy2];go_simp
   have f4:y2.frozen? ⟨y1.heap.size,4,none⟩=false:=by rw[hy2];go_simp
   have f5:y2.frozen? ⟨y1.heap.size,5,none⟩=false:=by rw[hy2];go_simp
   have f6:y2.frozen? ⟨y1.heap.size,6,none⟩=false:=by rw[hy2];go_simp
   have f7:y2.frozen? ⟨y1.heap.size,7,none⟩=false:=by rw[hy2];go_simp
   have f8:y2.frozen? ⟨y1.heap.size,8,none⟩=false:=by rw[hy2];go_simp
   have f9:y2.frozen? ⟨y1.heap.size,9,none⟩=false:=by rw[hy2];go_simp
   clear hy2
   refine hK.out _ _ (fun _=>hS2) ?_
   clear hK K
   try simp only[Act.put,pq]
   refine z06 (i:=11) (o:=_) rfl (by kernel_rfl) (fun K hK=>?_)
   go_simp
   refine hK.out _ _ (fun h=>absurd h (by decide)) ?_
   clear hK K
   refine z0f (by kernel_rfl) ?_ _
   try simp only[Act.put,pq]
   go_wp2_with fail
   go_meet
   have hz9:∀ a b c d e f g' h i j:Value,((((((((((y2.setCell ⟨y1.heap.size,0,none⟩ a).setCell ⟨y1.heap.size,1,none⟩ b).setCell ⟨y1.heap.size,2,none⟩ c).setCell ⟨y1.heap.size,3,none⟩ d).setCell ⟨y1.heap.size,4,none⟩ e).setCell ⟨y1.heap.size,5,none⟩ f).setCell ⟨y1.heap.size,6,none⟩ g').setCell ⟨y1.heap.size,7,none⟩ h).setCell ⟨y1.heap.size,8,none⟩ i).setCell ⟨y1.heap.size,9,none⟩ j).heap.size=y2.heap.size:=by intros;simp
   generalize hW9:World.setCell _ _ _=W9
   have hk9:∀ b:Nat,b≠y1.heap.size->W9.heap[b]?=y2.heap[b]?:=fun b hb=>by
    rw[<-hW9]
    iterate 10 rw[Below.heap_setCell _ _ _ _ (by exact hb)]
   have hs9:W9.heap.size=y2.heap.size:=by rw[<-hW9];exact hz9 _ _ _ _ _ _ _ _ _ _
   have hz0:=hY0.size
   have hg2:=HG.out
   have hz1:=hb1.size
   refine⟨y1.heap.size,A5,c5,A6,c6,rfl,by omega,by omega,hq5,hq6,by rw[<-hW9];clear hW9 hg2;exact⟨by go_simp,by go_simp,by go_simp,by go_simp,by go_simp,by go_simp,by go_simp,by go_simp,by go_simp,by go_simp⟩,by rw[<-hW9];clear hW9 hg2;exact⟨by go_simp,by go_simp,by go_simp⟩,zh ⟨?_,?_⟩,?_⟩
   ·exact hs5.keepN z02 (fun b hb=>by have h8:=hb.1;have h9:=hb.2;exact⟨⟨by omega,by omega,by omega⟩,(hk9 b (by omega)).trans (hb2.block b h9)⟩)
   ·exact hs6.keepN z0d (fun b hb=>by have h8:=hb.1;have h9:=hb.2;exact⟨⟨by omega,by omega,by omega⟩,(hk9 b (by omega)).trans (hb2.block b h9)⟩)
   rw[<-hW9]
   iterate 10 refine z03 ?_ (by simp;omega)
   exact hY2
  go_simp
  obtain⟨y1,hy1⟩:∃ y,y=y0.alloc (.cells #[.slice none 0 0,.slice none 0 0,.int .i64 0,.int .i64 0,.int .i64 0,.slice none 0 0,.slice none 0 0,.slice none 0 0,.int .i64 0,.int .i64 0] 32):=⟨_,rfl⟩
  rw[<-hy1]
  have hb1:Below y0.heap.size y0 y1:=by rw[hy1];exact (Below.refl _ _).alloc (nr _) _
  have hY1:=z01 hY0 hb1 hY0.size
  have hS1:=HSS.out y1 hY1
  have hgl1:y0.heap.size<y1.heap.size:=by rw[hy1];simp
  have HG:=zh (show y1.heap.size=y0.heap.size+1 by rw[hy1];simp)
  have nc0:y1.cell? ⟨y0.heap.size,0,none⟩=some (.slice none 0 0):=by rw[hy1];go_simp
  have nc1:y1.cell? ⟨y0.heap.size,1,none⟩=some (.slice none 0 0):=by rw[hy1];go_simp
  have nc2:y1.cell? ⟨y0.heap.size,2,none⟩=some (.int .i64 0):=by rw[hy1];go_simp
  have nc3:y1.cell? ⟨y0.heap.size,3,none⟩=some (.int .i64 0):=by rw[hy1];go_simp
  have nc4:y1.cell? ⟨y0.heap.size,4,none⟩=some (.int .i64 0):=by rw[hy1];go_simp
  have nc5:y1.cell? ⟨y0.heap.size,5,none⟩=some (.slice none 0 0):=by rw[hy1];go_simp
  have nc6:y1.cell? ⟨y0.heap.size,6,none⟩=some (.slice none 0 0):=by rw[hy1];go_simp
  have nc7:y1.cell? ⟨y0.heap.size,7,none⟩=some (.slice none 0 0):=by rw[hy1];go_simp
  have nc8:y1.cell? ⟨y0.heap.size,8,none⟩=some (.int .i64 0):=by rw[hy1];go_simp
  have nc9:y1.cell? ⟨y0.heap.size,9,none⟩=some (.int .i64 0):=by rw[hy1];go_simp
  have f0:y1.frozen? ⟨y0.heap.size,0,none⟩=false:=by rw[hy1];go_simp
  have f1:y1.frozen? ⟨y0.heap.size,1,none⟩=false:=by rw[hy1];go_simp
  have f2:y1.frozen? ⟨y0.heap.size,2,none⟩=false:=by rw[hy1];go_simp
  have f3:y1.frozen? ⟨y0.heap.size,3,none⟩=false:=by rw[hy1];go_simp
  have f4:y1.frozen? ⟨y0.heap.size,4,none⟩=false:=by rw[hy1];go_simp
  have f5:y1.frozen? ⟨y0.heap.size,5,none⟩=false:=by rw[hy1];go_simp
  have f6:y1.frozen? ⟨y0.heap.size,6,none⟩=false:=by rw[hy1];go_simp
  have f7:y1.frozen? ⟨y0.heap.size,7,none⟩=false:=by rw[hy1];go_simp
  have f8:y1.frozen? ⟨y0.heap.size,8,none⟩=false:=by rw[hy1];go_simp
  have f9:y1.frozen? ⟨y0.heap.size,9,none⟩=false:=by rw[hy1];go_simp
  clear hy1
  refine hK.out _ _ (fun _=>hS1) ?_
  clear hK K
  try simp only[Act.put,pq]
  refine z06 (i:=2) (o:=_) rfl (by kernel_rfl) (fun K hK=>?_)
  go_simp
  go_at_call 46;refine (h1 _ (HX.out.1.now (z01 hB0 hY1 hB0.size))).mono ?_;rintro e y2 ⟨A5,c5,A6,c6,rfl,hq5,hq6,hs5,hs6,hb2⟩
  have hY2:=z01 hY1 hb2 hY1.size
  have hS2:=HSS.out y2 hY2
  refine hK.out _ _ (fun _=>hS2) ?_
  clear hK K
  try simp only[Act.put,pq]
  refine zt 9 hS2 ?_
  simp only[Act.put,pq]
  have hgl:y0.heap.size<y1.heap.size:=hgl1
  have hgl2:y0.heap.size<y2.heap.size:=by have:=hb2.size;omega
  replace nc0:=z00 nc0 hb2
  replace f0:=(hb2.frozen (p:=⟨y0.heap.size,0,none⟩) hgl).trans f0
  replace nc1:=z00 nc1 hb2
  replace f1:=(hb2.frozen (p:=⟨y0.heap.size,1,none⟩) hgl).trans f1
  replace nc2:=z00 nc2 hb2
  replace f2:=(hb2.frozen (p:=⟨y0.heap.size,2,none⟩) hgl).trans f2
  replace nc3:=z00 nc3 hb2
  replace f3:=(hb2.frozen (p:=⟨y0.heap.size,3,none⟩) hgl).trans f3
  replace nc4:=z00 nc4 hb2
  replace f4:=(hb2.frozen (p:=⟨y0.heap.size,4,none⟩) hgl).trans f4
  replace nc5:=z00 nc5 hb2
  replace f5:=(hb2.frozen (p:=⟨y0.heap.size,5,none⟩) hgl).trans f5
  replace nc6:=z00 nc6 hb2
  replace f6:=(hb2.frozen (p:=⟨y0.heap.size,6,none⟩) hgl).trans f6
  replace nc7:=z00 nc7 hb2
  replace f7:=(hb2.frozen (p:=⟨y0.heap.size,7,none⟩) hgl).trans f7
  replace nc8:=z00 nc8 hb2
  replace f8:=(hb2.frozen (p:=⟨y0.heap.size,8,none⟩) hgl).trans f8
  replace nc9:=z00 nc9 hb2
  replace f9:=(hb2.frozen (p:=⟨y0.heap.size,9,none⟩) hgl).trans f9
  refine z06 (i:=11) (o:=_) rfl (by kernel_rfl) (fun K hK=>?_)
  go_simp
  refine hK.out _ _ (fun h=>absurd h (by decide)) ?_
  clear hK K
  refine z0f (by kernel_rfl) ?_ _
  try simp only[Act.put,pq]
  go_wp2_with fail
  go_meet
  have hz9:∀ a b c d e f g' h i j:Value,((((((((((y2.setCell ⟨y0.heap.size,0,none⟩ a).setCell ⟨y0.heap.size,1,none⟩ b).setCell ⟨y0.heap.size,2,none⟩ c).setCell ⟨y0.heap.size,3,none⟩ d).setCell ⟨y0.heap.size,4,none⟩ e).setCell ⟨y0.heap.size,5,none⟩ f).setCell ⟨y0.heap.size,6,none⟩ g').setCell ⟨y0.heap.size,7,none⟩ h).setCell ⟨y0.heap.size,8,none⟩ i).setCell ⟨y0.heap.size,9,none⟩ j).heap.size=y2.heap.size:=by intros;simp
  generalize hW9:World.setCell _ _ _=W9
  have hk9:∀ b:Nat,b≠y0.heap.size->W9.heap[b]?=y2.heap[b]?:=fun b hb=>by
   rw[<-hW9]
   iterate 10 rw[Below.heap_setCell _ _ _ _ (by exact hb)]
  have hs9:W9.heap.size=y2.heap.size:=by rw[<-hW9];exact hz9 _ _ _ _ _ _ _ _ _ _
  have hz0:=hY0.size
  have hg2:=HG.out
  have hz1:=hb2.size
  refine⟨y0.heap.size,A5,c5,A6,c6,rfl,by omega,by omega,hq5,hq6,by rw[<-hW9];clear hW9 hg2;exact⟨by go_simp,by go_simp,by go_simp,by go_simp,by go_simp,by go_simp,by go_simp,by go_simp,by go_simp,by go_simp⟩,by rw[<-hW9];clear hW9 hg2;exact⟨by go_simp,by go_simp,by go_simp⟩,zh ⟨?_,?_⟩,?_⟩
  ·exact hs5.keepN z02 (fun b hb=>by have h8:=hb.1;have h9:=hb.2;exact⟨⟨by omega,by omega,by omega⟩,hk9 b (by omega)⟩)
  ·exact hs6.keepN z0d (fun b hb=>by have h8:=hb.1;have h9:=hb.2;exact⟨⟨by omega,by omega,by omega⟩,hk9 b (by omega)⟩)
  rw[<-hW9]
  iterate 10 refine z03 ?_ (by simp;omega)
  exact hY2
 case rest =>
  obtain⟨g,A5,c5,A6,c6,rfl,hg,hgl,hq5,hq6,hG,hF,hs,hbc⟩:=hcut
  obtain⟨n0,nn1,nn2,nn3,n4,n5,n6,n7,n8,n9⟩:=hG
  obtain⟨f5,f6,f7⟩:=hF
  have hzc:=hbc.size
  replace b5:=z00 b5 hbc
  replace b6:=z00 b6 hbc
  replace b7:=z00 b7 hbc
  replace q0:=z00 q0 hbc
  replace r0:=(hbc.frozen (p:=⟨w.heap.size+1,0,none⟩) (by show w.heap.size+1<_;omega)).trans r0
  replace q1:=z00 q1 hbc
  replace r1:=(hbc.frozen (p:=⟨w.heap.size+1,1,none⟩) (by show w.heap.size+1<_;omega)).trans r1
  replace q2:=z00 q2 hbc
  replace r2:=(hbc.frozen (p:=⟨w.heap.size+1,2,none⟩) (by show w.heap.size+1<_;omega)).trans r2
  replace q3:=z00 q3 hbc
  replace r3:=(hbc.frozen (p:=⟨w.heap.size+1,3,none⟩) (by show w.heap.size+1<_;omega)).trans r3
  replace q4:=z00 q4 hbc
  replace r4:=(hbc.frozen (p:=⟨w.heap.size+1,4,none⟩) (by show w.heap.size+1<_;omega)).trans r4
  replace q5:=z00 q5 hbc
  replace r5:=(hbc.frozen (p:=⟨w.heap.size+1,5,none⟩) (by show w.heap.size+1<_;omega)).trans r5
  replace q6:=z00 q6 hbc
  replace r6:=(hbc.frozen (p:=⟨w.heap.size+1,6,none⟩) (by show w.heap.size+1<_;omega)).trans r6
  replace q7:=z00 q7 hbc
  replace r7:=(hbc.frozen (p:=⟨w.heap.size+1,7,none⟩) (by show w.heap.size+1<_;omega)).trans r7
  replace q8:=z00 q8 hbc
  replace r8:=(hbc.frozen (p:=⟨w.heap.size+1,8,none⟩) (by show w.heap.size+1<_;omega)).trans r8
  replace q9:=z00 q9 hbc
  replace r9:=(hbc.frozen (p:=⟨w.heap.size+1,9,none⟩) (by show w.heap.size+1<_;omega)).trans r9
  have hBc:Below w.heap.size w wc:=z01 hB0 hbc hB0.size
  have hle:w.heap.size<wc.heap.size:=by omega
  have hlr:w.heap.size+1<wc.heap.size:=by omega
  have hgc:=hgl
  have hZl:w.heap.size+2<=W0.heap.size:=by omega
  clear b0 b1 b2 b3 b4 b8 b9 hZ0
  have hcl1:=zh (Sl.cellsFct (HX.out.2.1.2.2.now hBc))
  go_upto_region 3 with (at_builtin;refine z12 rfl _ _ 28 rfl wc.heap.size 72 i0 _ 7 80 Tryz.underlying28 ei ez0 ez1 ez2 rfl (by decide) _ 0 [] rfl (World.ownsRow_nil _ _ _ _) A1 n1 c1 (ins.flatMap Fct.cs) rfl (by rw[z0w _ 7 lenFct,hln.1]) (fun p' hp j u hj=>hcl1.out p' hp j u hj) (fun h=>by subst h;exact HX.out.2.1.2.2.of_none.1) (oneFct ins) (by unfold maxLen;omega) (by omega) (nr _) ?_;intro v1 y1 ho1 hb1 hz1;rw[Nat.zero_add,List.nil_append,<-hln.1] at ho1;obtain⟨A7,c7,rfl,hq7⟩:=z4p ho1;have a5:=z00 n5 hb1;have t5:=(hb1.frozen (p:=⟨g,5,none⟩) hgl).trans f5;have hgy1:g<y1.heap.size:=Nat.lt_of_lt_of_le hgl hb1.size)
  refine z0k ?_;intro W1 hW1
  have hk1:∀ b:Nat,b≠g->W1.heap[b]?=y1.heap[b]?:=fun b hb=>by rw[hW1,Below.heap_setCell _ _ _ _ (by exact hb)]
  have hsz1:W1.heap.size=y1.heap.size:=by rw[hW1];simp
  have hbs1:=hb1.size
  have m0:W1.cell? ⟨g,0,none⟩=some (.slice A5 F.length c5):=by have h:=z00 n0 hb1;rw[hW1];go_simp
  have m1:W1.cell? ⟨g,1,none⟩=some (.slice A6 P.length c6):=by have h:=z00 nn1 hb1;rw[hW1];go_simp
  have m2:W1.cell? ⟨g,2,none⟩=some (.int .i64 p.tries):=by have h:=z00 nn2 hb1;rw[hW1];go_simp
  have m3:W1.cell? ⟨g,3,none⟩=some (.int .i64 p.base):=by have h:=z00 nn3 hb1;rw[hW1];go_simp
  have m4:W1.cell? ⟨g,4,none⟩=some (.int .i64 p.cap):=by have h:=z00 n4 hb1;rw[hW1];go_simp
  have m5:W1.cell? ⟨g,5,none⟩=some (.slice A7 ins.length c7):=by rw[hW1];exact (by first | (go_simp;done) | (go_simp;exact World.cell?_setCell_same' _ _ _ (by go_simp)))
  have m6:W1.cell? ⟨g,6,none⟩=some (.slice none 0 0):=by have h:=z00 n6 hb1;rw[hW1];go_simp
  have m7:W1.cell? ⟨g,7,none⟩=some (.slice none 0 0):=by have h:=z00 n7 hb1;rw[hW1];go_simp
  have m8:W1.cell? ⟨g,8,none⟩=some (.int .i64 now):=by have h:=z00 n8 hb1;rw[hW1];go_simp
  have m9:W1.cell? ⟨g,9,none⟩=some (.int .i64 last):=by have h:=z00 n9 hb1;rw[hW1];go_simp
  have u5:W1.frozen? ⟨g,5,none⟩=false:=by have h:=(hb1.frozen (p:=⟨g,5,none⟩) hgl).trans f5;rw[hW1];go_simp
  have u6:W1.frozen? ⟨g,6,none⟩=false:=by have h:=(hb1.frozen (p:=⟨g,6,none⟩) hgl).trans f6;rw[hW1];go_simp
  have u7:W1.frozen? ⟨g,7,none⟩=false:=by have h:=(hb1.frozen (p:=⟨g,7,none⟩) hgl).trans f7;rw[hW1];go_simp
  have hBW1:Below w.heap.size w W1:=by rw[hW1];exact z03 (z01 hBc hb1 hBc.size) (by simp;omega)
  replace b5:=(cob w.heap.size 5 (hk1 w.heap.size (by omega))).trans (z00 b5 hb1)
  replace b6:=(cob w.heap.size 6 (hk1 w.heap.size (by omega))).trans (z00 b6 hb1)
  replace b7:=(cob w.heap.size 7 (hk1 w.heap.size (by omega))).trans (z00 b7 hb1)
  replace q0:=(cob (w.heap.size+1) (0) (hk1 (w.heap.size+1) (by omega))).trans (z00 q0 hb1)
  replace r0:=(fob (w.heap.size+1) (0) (hk1 (w.heap.size+1) (by omega))).trans ((hb1.frozen (p:=⟨w.heap.size+1,0,none⟩) hlr).trans r0)
  replace q1:=(cob (w.heap.size+1) (1) (hk1 (w.heap.size+1) (by omega))).trans (z00 q1 hb1)
  replace r1:=(fob (w.heap.size+1) (1) (hk1 (w.heap.size+1) (by omega))).trans ((hb1.frozen (p:=⟨w.heap.size+1,1,none⟩) hlr).trans r1)
  replace q2:=(cob (w.heap.size+1) (2) (hk1 (w.heap.size+1) (by omega))).trans (z00 q2 hb1)
  replace r2:=(fob (w.heap.size+1) (2) (hk1 (w.heap.size+1) (by omega))).trans ((hb1.frozen (p:=⟨w.heap.size+1,2,none⟩) hlr).trans r2)
  replace q3:=(cob (w.heap.size+1) (3) (hk1 (w.heap.size+1) (by omega))).trans (z00 q3 hb1)
  replace r3:=(fob (w.heap.size+1) (3) (hk1 (w.heap.size+1) (by omega))).trans ((hb1.frozen (p:=⟨w.heap.size+1,3,none⟩) hlr).trans r3)
  replace q4:=(cob (w.heap.size+1) (4) (hk1 (w.heap.size+1) (by omega))).trans (z00 q4 hb1)
  replace r4:=(fob (w.heap.size+1) (4) (hk1 (w.heap.size+1) (by omega))).trans ((hb1.frozen (p:=⟨w.heap.size+1,4,none⟩) hlr).trans r4)
  replace q5:=(cob (w.heap.size+1) (5) (hk1 (w.heap.size+1) (by omega))).trans (z00 q5 hb1)
  replace r5:=(fob (w.heap.size+1) (5) (hk1 (w.heap.size+1) (by omega))).trans ((hb1.frozen (p:=⟨w.heap.size+1,5,none⟩) hlr).trans r5)
  replace q6:=(cob (w.heap.size+1) (6) (hk1 (w.heap.size+1) (by omega))).trans (z00 q6 hb1)
  replace r6:=(fob (w.heap.size+1) (6) (hk1 (w.heap.size+1) (by omega))).trans ((hb1.frozen (p:=⟨w.heap.size+1,6,none⟩) hlr).trans r6)
  replace q7:=(cob (w.heap.size+1) (7) (hk1 (w.heap.size+1) (by omega))).trans (z00 q7 hb1)
  replace r7:=(fob (w.heap.size+1) (7) (hk1 (w.heap.size+1) (by omega))).trans ((hb1.frozen (p:=⟨w.heap.size+1,7,none⟩) hlr).trans r7)
  replace q8:=(cob (w.heap.size+1) (8) (hk1 (w.heap.size+1) (by omega))).trans (z00 q8 hb1)
  replace r8:=(fob (w.heap.size+1) (8) (hk1 (w.heap.size+1) (by omega))).trans ((hb1.frozen (p:=⟨w.heap.size+1,8,none⟩) hlr).trans r8)
  replace q9:=(cob (w.heap.size+1) (9) (hk1 (w.heap.size+1) (by omega))).trans (z00 q9 hb1)
  replace r9:=(fob (w.heap.size+1) (9) (hk1 (w.heap.size+1) (by omega))).trans ((hb1.frozen (p:=⟨w.heap.size+1,9,none⟩) hlr).trans r9)
  have row1_1:=zh (z09 ho1 (w':=W1) (fun q hq _=>hk1 q (by have:=(ho1.lt q hq).1;omega)))
  have hfr1:=zh (show ∀ b:Nat,b≠g->b<wc.heap.size->W1.heap[b]?=wc.heap[b]? from fun b hb h=>(hk1 b hb).trans (hb1.block b h))
  have hnn1:∀ q,(Value.slice A7 ins.length c7).ownBlock=some q->q<W1.heap.size:=fun q hq=>by have:=(ho1.lt q hq).2;omega
  clear hW1 a5 t5 ho1 hb1 hz1 hcl1 n0 nn1 nn2 nn3 n4 n5 n6 n7 n8 n9 f5 f6 f7
  have n0:=m0
  have nn1:=m1
  have nn2:=m2
  have nn3:=m3
  have n4:=m4
  have n5:=m5
  have n6:=m6
  have n7:=m7
  have n8:=m8
  have n9:=m9
  have f5:=u5
  have f6:=u6
  have f7:=u7
  replace hgl:g<W1.heap.size:=by omega
  replace hle:w.heap.size<W1.heap.size:=by omega
  replace hlr:w.heap.size+1<W1.heap.size:=by omega
  clear hk1 m0 m1 m2 m3 m4 m5 m6 m7 m8 m9 u5 u6 u7
  have hcl2:=zh (Sl.cellsCll (HX.out.2.2.1.2.2.now hBW1))
  go_upto_region 4 with (at_builtin;refine z12 rfl _ _ 29 rfl W1.heap.size 62 j0 _ 10 96 Tryz.underlying29 ej jz0 jz1 jz2 rfl (by decide) _ 0 [] rfl (World.ownsRow_nil _ _ _ _) A2 n2 c2 (cs.flatMap Cll.cs) rfl (by rw[z0w _ 10 lenCll,hln.2.1]) (fun p' hp j u hj=>hcl2.out p' hp j u hj) (fun h=>by subst h;exact HX.out.2.2.1.2.2.of_none.1) (oneCll cs) (by unfold maxLen;omega) (by omega) (nr _) ?_;intro v2 y2 ho2 hb2 hz2;rw[Nat.zero_add,List.nil_append,<-hln.2.1] at ho2;obtain⟨A8,c8,rfl,hq8⟩:=z4p ho2;have a6:=z00 n6 hb2;have t6:=(hb2.frozen (p:=⟨g,6,none⟩) hgl).trans f6;have hgy2:g<y2.heap.size:=Nat.lt_of_lt_of_le hgl hb2.size)
  refine z0k ?_;intro W2 hW2
  have hk2:∀ b:Nat,b≠g->W2.heap[b]?=y2.heap[b]?:=fun b hb=>by rw[hW2,Below.heap_setCell _ _ _ _ (by exact hb)]
  have hsz2:W2.heap.size=y2.heap.size:=by rw[hW2];simp
  have hbs2:=hb2.size
  have m0:W2.cell? ⟨g,0,none⟩=some (.slice A5 F.length c5):=by have h:=z00 n0 hb2;rw[hW2];go_simp
  have m1:W2.cell? ⟨g,1,none⟩=some (.slice A6 P.length c6):=by have h:=z00 nn1 hb2;rw[hW2];go_simp
  have m2:W2.cell? ⟨g,2,none⟩=some (.int .i64 p.tries):=by have h:=z00 nn2 hb2;rw[hW2];go_simp
  have m3:W2.cell? ⟨g,3,none⟩=some (.int .i64 p.base):=by have h:=z00 nn3 hb2;rw[hW2];go_simp
  have m4:W2.cell? ⟨g,4,none⟩=some (.int .i64 p.cap):=by have h:=z00 n4 hb2;rw[hW2];go_simp
  have m5:W2.cell? ⟨g,5,none⟩=some (.slice A7 ins.length c7):=by have h:=z00 n5 hb2;rw[hW2];go_simp
  have m6:W2.cell? ⟨g,6,none⟩=some (.slice A8 cs.length c8):=by rw[hW2];exact (by first | (go_simp;done) | (go_simp;exact World.cell?_setCell_same' _ _ _ (by go_simp)))
  have m7:W2.cell? ⟨g,7,none⟩=some (.slice none 0 0):=by have h:=z00 n7 hb2;rw[hW2];go_simp
  have m8:W2.cell? ⟨g,8,none⟩=some (.int .i64 now):=by have h:=z00 n8 hb2;rw[hW2];go_simp
  have m9:W2.cell? ⟨g,9,none⟩=some (.int .i64 last):=by have h:=z00 n9 hb2;rw[hW2];go_simp
  have u5:W2.frozen? ⟨g,5,none⟩=false:=by have h:=(hb2.frozen (p:=⟨g,5,none⟩) hgl).trans f5;rw[hW2];go_simp
  have u6:W2.frozen? ⟨g,6,none⟩=false:=by have h:=(hb2.frozen (p:=⟨g,6,none⟩) hgl).trans f6;rw[hW2];go_simp
  have u7:W2.frozen? ⟨g,7,none⟩=false:=by have h:=(hb2.frozen (p:=⟨g,7,none⟩) hgl).trans f7;rw[hW2];go_simp
  have hBW2:Below w.heap.size w W2:=by rw[hW2];exact z03 (z01 hBW1 hb2 hBW1.size) (by simp;omega)
  replace b5:=(cob w.heap.size 5 (hk2 w.heap.size (by omega))).trans (z00 b5 hb2)
  replace b6:=(cob w.heap.size 6 (hk2 w.heap.size (by omega))).trans (z00 b6 hb2)
  replace b7:=(cob w.heap.size 7 (hk2 w.heap.size (by omega))).trans (z00 b7 hb2)
  replace q0:=(cob (w.heap.size+1) (0) (hk2 (w.heap.size+1) (by omega))).trans (z00 q0 hb2)
  replace r0:=(fob (w.heap.size+1) (0) (hk2 (w.heap.size+1) (by omega))).trans ((hb2.frozen (p:=⟨w.heap.size+1,0,none⟩) hlr).trans r0)
  replace q1:=(cob (w.heap.size+1) (1) (hk2 (w.heap.size+1) (by omega))).trans (z00 q1 hb2)
  replace r1:=(fob (w.heap.size+1) (1) (hk2 (w.heap.size+1) (by omega))).trans ((hb2.frozen (p:=⟨w.heap.size+1,1,none⟩) hlr).trans r1)
  replace q2:=(cob (w.heap.size+1) (2) (hk2 (w.heap.size+1) (by omega))).trans (z00 q2 hb2)
  replace r2:=(fob (w.heap.size+1) (2) (hk2 (w.heap.size+1) (by omega))).trans ((hb2.frozen (p:=⟨w.heap.size+1,2,none⟩) hlr).trans r2)
  replace q3:=(cob (w.heap.size+1) (3) (hk2 (w.heap.size+1) (by omega))).trans (z00 q3 hb2)
  replace r3:=(fob (w.heap.size+1) (3) (hk2 (w.heap.size+1) (by omega))).trans ((hb2.frozen (p:=⟨w.heap.size+1,3,none⟩) hlr).trans r3)
  replace q4:=(cob (w.heap.size+1) (4) (hk2 (w.heap.size+1) (by omega))).trans (z00 q4 hb2)
  replace r4:=(fob (w.heap.size+1) (4) (hk2 (w.heap.size+1) (by omega))).trans ((hb2.frozen (p:=⟨w.heap.size+1,4,none⟩) hlr).trans r4)
  replace q5:=(cob (w.heap.size+1) (5) (hk2 (w.heap.size+1) (by omega))).trans (z00 q5 hb2)
  replace r5:=(fob (w.heap.size+1) (5) (hk2 (w.heap.size+1) (by omega))).trans ((hb2.frozen (p:=⟨w.heap.size+1,5,none⟩) hlr).trans r5)
  replace q6:=(cob (w.heap.size+1) (6) (hk2 (w.heap.size+1) (by omega))).trans (z00 q6 hb2)
  replace r6:=(fob (w.heap.size+1) (6) (hk2 (w.heap.size+1) (by omega))).trans ((hb2.frozen (p:=⟨w.heap.size+1,6,none⟩) hlr).trans r6)
  replace q7:=(cob (w.heap.size+1) (7) (hk2 (w.heap.size+1) (by omega))).trans (z00 q7 hb2)
  replace r7:=(fob (w.heap.size+1) (7) (hk2 (w.heap.size+1) (by omega))).trans ((hb2.frozen (p:=⟨w.heap.size+1,7,none⟩) hlr).trans r7)
  replace q8:=(cob (w.heap.size+1) (8) (hk2 (w.heap.size+1) (by omega))).trans (z00 q8 hb2)
  replace r8:=(fob (w.heap.size+1) (8) (hk2 (w.heap.size+1) (by omega))).trans ((hb2.frozen (p:=⟨w.heap.size+1,8,none⟩) hlr).trans r8)
  replace q9:=(cob (w.heap.size+1) (9) (hk2 (w.heap.size+1) (by omega))).trans (z00 q9 hb2)
  replace r9:=(fob (w.heap.size+1) (9) (hk2 (w.heap.size+1) (by omega))).trans ((hb2.frozen (p:=⟨w.heap.size+1,9,none⟩) hlr).trans r9)
  have row1_2:=zh (z09 (z04 row1_1.out hb2) (w':=W2) (fun q hq _=>hk2 q (by have:=(row1_1.out.lt q hq).1;omega)))
  have row2_2:=zh (z09 ho2 (w':=W2) (fun q hq _=>hk2 q (by have:=(ho2.lt q hq).1;omega)))
  have hfr2:=zh (show ∀ b:Nat,b≠g->b<W1.heap.size->W2.heap[b]?=W1.heap[b]? from fun b hb h=>(hk2 b hb).trans (hb2.block b h))
  have hnn2:∀ q,(Value.slice A8 cs.length c8).ownBlock=some q->q<W2.heap.size:=fun q hq=>by have:=(ho2.lt q hq).2;omega
  clear hW2 a6 t6 ho2 hb2 hz2 hcl2 n0 nn1 nn2 nn3 n4 n5 n6 n7 n8 n9 f5 f6 f7
  have n0:=m0
  have nn1:=m1
  have nn2:=m2
  have nn3:=m3
  have n4:=m4
  have n5:=m5
  have n6:=m6
  have n7:=m7
  have n8:=m8
  have n9:=m9
  have f5:=u5
  have f6:=u6
  have f7:=u7
  replace hgl:g<W2.heap.size:=by omega
  replace hle:w.heap.size<W2.heap.size:=by omega
  replace hlr:w.heap.size+1<W2.heap.size:=by omega
  clear hk2 m0 m1 m2 m3 m4 m5 m6 m7 m8 m9 u5 u6 u7
  have hcl3:=zh (Sl.cellsValR (HX.out.2.2.2.2.2.now hBW2))
  go_upto_region 5 with (at_builtin;refine z12 rfl _ _ 30 rfl W2.heap.size 44 k0 _ 3 32 Tryz.underlying30 ek kz0 kz1 kz2 rfl (by decide) _ 0 [] rfl (World.ownsRow_nil _ _ _ _) A3 n3 c3 (vs.flatMap Val.cs) rfl (by rw[z0w _ 3 z7f,hln.2.2]) (fun p' hp j u hj=>hcl3.out p' hp j u hj) (fun h=>by subst h;exact HX.out.2.2.2.2.2.of_none.1) (oneValR vs) (by unfold maxLen;omega) (by omega) (nr _) ?_;intro v3 y3 ho3 hb3 hz3;rw[Nat.zero_add,List.nil_append,<-hln.2.2] at ho3;obtain⟨A9,c9,rfl,hq9⟩:=z4p ho3;have a7:=z00 n7 hb3;have t7:=(hb3.frozen (p:=⟨g,7,none⟩) hgl).trans f7;have hgy3:g<y3.heap.size:=Nat.lt_of_lt_of_le hgl hb3.size)
  refine z0k ?_;intro W3 hW3
  have hk3:∀ b:Nat,b≠g->W3.heap[b]?=y3.heap[b]?:=fun b hb=>by rw[hW3,Below.heap_setCell _ _ _ _ (by exact hb)]
  have hsz3:W3.heap.size=y3.heap.size:=by rw[hW3];simp
  have hbs3:=hb3.size
  have m0:W3.cell? ⟨g,0,none⟩=some (.slice A5 F.length c5):=by have h:=z00 n0 hb3;rw[hW3];go_simp
  have m1:W3.cell? ⟨g,1,none⟩=some (.slice A6 P.length c6):=by have h:=z00 nn1 hb3;rw[hW3];go_simp
  have m2:W3.cell? ⟨g,2,none⟩=some (.int .i64 p.tries):=by have h:=z00 nn2 hb3;rw[hW3];go_simp
  have m3:W3.cell? ⟨g,3,none⟩=some (.int .i64 p.base):=by have h:=z00 nn3 hb3;rw[hW3];go_simp
  have m4:W3.cell? ⟨g,4,none⟩=some (.int .i64 p.cap):=by have h:=z00 n4 hb3;rw[hW3];go_simp
  have m5:W3.cell? ⟨g,5,none⟩=some (.slice A7 ins.length c7):=by have h:=z00 n5 hb3;rw[hW3];go_simp
  have m6:W3.cell? ⟨g,6,none⟩=some (.slice A8 cs.length c8):=by have h:=z00 n6 hb3;rw[hW3];go_simp
  have m7:W3.cell? ⟨g,7,none⟩=some (.slice A9 vs.length c9):=by rw[hW3];exact (by first | (go_simp;done) | (go_simp;exact World.cell?_setCell_same' _ _ _ (by go_simp)))
  have m8:W3.cell? ⟨g,8,none⟩=some (.int .i64 now):=by have h:=z00 n8 hb3;rw[hW3];go_simp
  have m9:W3.cell? ⟨g,9,none⟩=some (.int .i64 last):=by have h:=z00 n9 hb3;rw[hW3];go_simp
  have u5:W3.frozen? ⟨g,5,none⟩=false:=by have h:=(hb3.frozen (p:=⟨g,5,none⟩) hgl).trans f5;rw[hW3];go_simp
  have u6:W3.frozen? ⟨g,6,none⟩=false:=by have h:=(hb3.frozen (p:=⟨g,6,none⟩) hgl).trans f6;rw[hW3];go_simp
  have u7:W3.frozen? ⟨g,7,none⟩=false:=by have h:=(hb3.frozen (p:=⟨g,7,none⟩) hgl).trans f7;rw[hW3];go_simp
  have hBW3:Below w.heap.size w W3:=by rw[hW3];exact z03 (z01 hBW2 hb3 hBW2.size) (by simp;omega)
  replace b5:=(cob w.heap.size 5 (hk3 w.heap.size (by omega))).trans (z00 b5 hb3)
  replace b6:=(cob w.heap.size 6 (hk3 w.heap.size (by omega))).trans (z00 b6 hb3)
  replace b7:=(cob w.heap.size 7 (hk3 w.heap.size (by omega))).trans (z00 b7 hb3)
  replace q0:=(cob (w.heap.size+1) (0) (hk3 (w.heap.size+1) (by omega))).trans (z00 q0 hb3)
  replace r0:=(fob (w.heap.size+1) (0) (hk3 (w.heap.size+1) (by omega))).trans ((hb3.frozen (p:=⟨w.heap.size+1,0,none⟩) hlr).trans r0)
  replace q1:=(cob (w.heap.size+1) (1) (hk3 (w.heap.size+1) (by omega))).trans (z00 q1 hb3)
  replace r1:=(fob (w.heap.size+1) (1) (hk3 (w.heap.size+1) (by omega))).trans ((hb3.frozen (p:=⟨w.heap.size+1,1,none⟩) hlr).trans r1)
  replace q2:=(cob (w.heap.size+1) (2) (hk3 (w.heap.size+1) (by omega))).trans (z00 q2 hb3)
  replace r2:=(fob (w.heap.size+1) (2) (hk3 (w.heap.size+1) (by omega))).trans ((hb3.frozen (p:=⟨w.heap.size+1,2,none⟩) hlr).trans r2)
  replace q3:=(cob (w.heap.size+1) (3) (hk3 (w.heap.size+1) (by omega))).trans (z00 q3 hb3)
  replace r3:=(fob (w.heap.size+1) (3) (hk3 (w.heap.size+1) (by omega))).trans ((hb3.frozen (p:=⟨w.heap.size+1,3,none⟩) hlr).trans r3)
  replace q4:=(cob (w.heap.size+1) (4) (hk3 (w.heap.size+1) (by omega))).trans (z00 q4 hb3)
  replace r4:=(fob (w.heap.size+1) (4) (hk3 (w.heap.size+1) (by omega))).trans ((hb3.frozen (p:=⟨w.heap.size+1,4,none⟩) hlr).trans r4)
  replace q5:=(cob (w.heap.size+1) (5) (hk3 (w.heap.size+1) (by omega))).trans (z00 q5 hb3)
  replace r5:=(fob (w.heap.size+1) (5) (hk3 (w.heap.size+1) (by omega))).trans ((hb3.frozen (p:=⟨w.heap.size+1,5,none⟩) hlr).trans r5)
  replace q6:=(cob (w.heap.size+1) (6) (hk3 (w.heap.size+1) (by omega))).trans (z00 q6 hb3)
  replace r6:=(fob (w.heap.size+1) (6) (hk3 (w.heap.size+1) (by omega))).trans ((hb3.frozen (p:=⟨w.heap.size+1,6,none⟩) hlr).trans r6)
  replace q7:=(cob (w.heap.size+1) (7) (hk3 (w.heap.size+1) (by omega))).trans (z00 q7 hb3)
  replace r7:=(fob (w.heap.size+1) (7) (hk3 (w.heap.size+1) (by omega))).trans ((hb3.frozen (p:=⟨w.heap.size+1,7,none⟩) hlr).trans r7)
  replace q8:=(cob (w.heap.size+1) (8) (hk3 (w.heap.size+1) (by omega))).trans (z00 q8 hb3)
  replace r8:=(fob (w.heap.size+1) (8) (hk3 (w.heap.size+1) (by omega))).trans ((hb3.frozen (p:=⟨w.heap.size+1,8,none⟩) hlr).trans r8)
  replace q9:=(cob (w.heap.size+1) (9) (hk3 (w.heap.size+1) (by omega))).trans (z00 q9 hb3)
  replace r9:=(fob (w.heap.size+1) (9) (hk3 (w.heap.size+1) (by omega))).trans ((hb3.frozen (p:=⟨w.heap.size+1,9,none⟩) hlr).trans r9)
  have row1_3:=zh (z09 (z04 row1_2.out hb3) (w':=W3) (fun q hq _=>hk3 q (by have:=(row1_2.out.lt q hq).1;omega)))
  have row2_3:=zh (z09 (z04 row2_2.out hb3) (w':=W3) (fun q hq _=>hk3 q (by have:=(row2_2.out.lt q hq).1;omega)))
  have row3_3:=zh (z09 ho3 (w':=W3) (fun q hq _=>hk3 q (by have:=(ho3.lt q hq).1;omega)))
  have hfr3:=zh (show ∀ b:Nat,b≠g->b<W2.heap.size->W3.heap[b]?=W2.heap[b]? from fun b hb h=>(hk3 b hb).trans (hb3.block b h))
  have hnn3:∀ q,(Value.slice A9 vs.length c9).ownBlock=some q->q<W3.heap.size:=fun q hq=>by have:=(ho3.lt q hq).2;omega
  clear hW3 a7 t7 ho3 hb3 hz3 hcl3 n0 nn1 nn2 nn3 n4 n5 n6 n7 n8 n9 f5 f6 f7
  have n0:=m0
  have nn1:=m1
  have nn2:=m2
  have nn3:=m3
  have n4:=m4
  have n5:=m5
  have n6:=m6
  have n7:=m7
  have n8:=m8
  have n9:=m9
  have f5:=u5
  have f6:=u6
  have f7:=u7
  replace hgl:g<W3.heap.size:=by omega
  replace hle:w.heap.size<W3.heap.size:=by omega
  replace hlr:w.heap.size+1<W3.heap.size:=by omega
  clear hk3 m0 m1 m2 m3 m4 m5 m6 m7 m8 m9 u5 u6 u7
  have HSZ:=zh (ai hsz1 (ai hsz2 (ai hsz3 (ai hbs1 (ai hbs2 hbs3)))))
  clear hsz1 hsz2 hsz3
  go_wp2_with fail
  refine bpr Tryz.results15 (.agg #[.slice A5 F.length c5,.slice A6 P.length c6,.int .i64 p.tries,.int .i64 p.base,.int .i64 p.cap,.slice A7 ins.length c7,.slice A8 cs.length c8,.slice A9 vs.length c9,.int .i64 now,.int .i64 last]) ?_
  obtain⟨hsz1,hsz2,hsz3,hbs1,hbs2,hbs3⟩:=HSZ.out
  refine⟨A5,c5,A6,c6,A7,c7,A8,c8,A9,c9,wc.heap.size,W1.heap.size,W2.heap.size,rfl,?_,?_⟩
  ·generalize hW9:World.setCell _ _ _=W9
   have hk:∀ b:Nat,b≠w.heap.size+1->W9.heap[b]?=W3.heap[b]?:=fun b hb=>by
    rw[<-hW9]
    iterate 10 rw[Below.heap_setCell _ _ _ _ (by exact hb)]
   have hz9:W9.heap.size=W3.heap.size:=by rw[<-hW9];simp
   have hkw:∀ b:Nat,apart W0.heap.size wc.heap.size g b->z2u w.heap.size wc.heap.size b/\W9.heap[b]?=wc.heap[b]?:=fun b hb=>by
    have h1:=hb.1;have h2:=hb.2.1;have h3:=hb.2.2
    exact⟨⟨by omega,h2⟩,(hk b (by have:=HZ0.out;omega)).trans ((hfr3.out b h3 (by omega)).trans ((hfr2.out b h3 (by omega)).trans (hfr1.out b h3 h2)))⟩
   refine⟨hq5,hq6,hq7,hq8,hq9,hs.out.1.keepN z02 hkw,hs.out.2.keepN z0d hkw,?_,?_,?_,fun q hq=>hnn1 q hq,fun q hq=>hnn2 q hq,by omega,by omega,by omega,by omega⟩
   ·exact z09 row1_3.out (fun q hq _=>hk q (by have:=(row1_3.out.lt q hq).1;have:=HZ0.out;omega))
   ·exact z0c (z09 row2_3.out (fun q hq _=>hk q (by have:=(row2_3.out.lt q hq).1;have:=HZ0.out;omega))) (by omega)
   exact z0c (z09 row3_3.out (fun q hq _=>hk q (by have:=(row3_3.out.lt q hq).1;have:=HZ0.out;omega))) (by omega)
  iterate 10 refine z03 ?_ (by simp)
  exact hBW3
end Go.Proofs.YtldhlpjjcnlbcaaGreat
