/- Texts merged (mergeh.py): Eng1 Call6. -/
import Derived.Test.YtldhlpjjcnlbcaaGreatWhlG
import Derived.Test.YtldhlpjjcnlbcaaGreatRowL
import Derived.Test.YtldhlpjjcnlbcaaGreatRowV
import Derived.Test.YtldhlpjjcnlbcaaGreatCall3
/- The motor of an engine in memory; (*motor).ask. (printed by mkeng1.py) -/
set_option maxRecDepth 100000
set_option maxHeartbeats 8000000
namespace Go.Proofs.YtldhlpjjcnlbcaaGreat
open Go.RowKit
def MotC (w:World)(M:Nat)(fv pv:Value)(p:Pol)(iv cv vv:Value)(now last:Int)(lv:Value):Prop :=
 w.cell? ⟨M,0,none⟩=some (fv)/\(w.cell? ⟨M,1,none⟩=some (pv)/\(w.cell? ⟨M,2,none⟩=some (.int .i64 p.tries)/\(w.cell? ⟨M,3,none⟩=some (.int .i64 p.base)/\(w.cell? ⟨M,4,none⟩=some (.int .i64 p.cap)/\(w.cell? ⟨M,5,none⟩=some (iv)/\(w.cell? ⟨M,6,none⟩=some (cv)/\(w.cell? ⟨M,7,none⟩=some (vv)/\(w.cell? ⟨M,8,none⟩=some (.int .i64 now)/\(w.cell? ⟨M,9,none⟩=some (.int .i64 last)/\w.cell? ⟨M,10,none⟩=some (lv))))))))))
def MotF (w:World)(M:Nat):Prop:=w.frozen? ⟨M,5,none⟩=false/\(w.frozen? ⟨M,8,none⟩=false/\(w.frozen? ⟨M,9,none⟩=false/\w.frozen? ⟨M,10,none⟩=false))
section
variable {w w':World} {M:Nat} {fv pv:Value} {p:Pol} {iv cv vv:Value} {now last:Int} {lv:Value}
theorem MotC.lt (h:MotC w M fv pv p iv cv vv now last lv):M<w.heap.size:=block_lt_of_cell h.1
theorem MotC.block (h:MotC w M fv pv p iv cv vv now last lv)(hb:w'.heap[M]?=w.heap[M]?):MotC w' M fv pv p iv cv vv now last lv :=
 ⟨(cob M 0 hb).trans h.1,(cob M 1 hb).trans h.2.1,(cob M 2 hb).trans h.2.2.1,(cob M 3 hb).trans h.2.2.2.1,(cob M 4 hb).trans h.2.2.2.2.1,(cob M 5 hb).trans h.2.2.2.2.2.1,(cob M 6 hb).trans h.2.2.2.2.2.2.1,(cob M 7 hb).trans h.2.2.2.2.2.2.2.1,(cob M 8 hb).trans h.2.2.2.2.2.2.2.2.1,(cob M 9 hb).trans h.2.2.2.2.2.2.2.2.2.1,(cob M 10 hb).trans h.2.2.2.2.2.2.2.2.2.2⟩
theorem MotF.block (h:MotF w M)(hb:w'.heap[M]?=w.heap[M]?):MotF w' M :=
 ⟨(fob M 5 hb).trans h.1,(fob M 8 hb).trans h.2.1,(fob M 9 hb).trans h.2.2.1,(fob M 10 hb).trans h.2.2.2⟩
end
def LBOX (w:World)(g:Nat):Prop:=w.cell? ⟨g,0,none⟩=some (.string ⟨#[]⟩)/\(w.cell? ⟨g,1,none⟩=some (.int .i64 0)/\(w.cell? ⟨g,2,none⟩=some (.int .i64 0)/\(w.cell? ⟨g,3,none⟩=some (.int .i64 0)/\(w.cell? ⟨g,4,none⟩=some (.string ⟨#[]⟩)/\(w.cell? ⟨g,5,none⟩=some (.int .i64 0)/\(w.cell? ⟨g,6,none⟩=some (.int .i64 0)/\(w.cell? ⟨g,7,none⟩=some (.string ⟨#[]⟩)/\(w.frozen? ⟨g,0,none⟩=false/\(w.frozen? ⟨g,1,none⟩=false/\(w.frozen? ⟨g,2,none⟩=false/\(w.frozen? ⟨g,3,none⟩=false/\(w.frozen? ⟨g,4,none⟩=false/\(w.frozen? ⟨g,5,none⟩=false/\(w.frozen? ⟨g,6,none⟩=false/\w.frozen? ⟨g,7,none⟩=false))))))))))))))
theorem LBOX.lt {w:World}{g:Nat}(h:LBOX w g):g<w.heap.size:=block_lt_of_cell h.1
theorem LBOX.keep {w w':World}{g:Nat}(h:LBOX w g)(hb:Below w.heap.size w w'):LBOX w' g :=
 ⟨(cob g 0 (hb.block g h.lt)).trans h.1,(cob g 1 (hb.block g h.lt)).trans h.2.1,(cob g 2 (hb.block g h.lt)).trans h.2.2.1,(cob g 3 (hb.block g h.lt)).trans h.2.2.2.1,(cob g 4 (hb.block g h.lt)).trans h.2.2.2.2.1,(cob g 5 (hb.block g h.lt)).trans h.2.2.2.2.2.1,(cob g 6 (hb.block g h.lt)).trans h.2.2.2.2.2.2.1,(cob g 7 (hb.block g h.lt)).trans h.2.2.2.2.2.2.2.1,(fob g 0 (hb.block g h.lt)).trans h.2.2.2.2.2.2.2.2.1,(fob g 1 (hb.block g h.lt)).trans h.2.2.2.2.2.2.2.2.2.1,(fob g 2 (hb.block g h.lt)).trans h.2.2.2.2.2.2.2.2.2.2.1,(fob g 3 (hb.block g h.lt)).trans h.2.2.2.2.2.2.2.2.2.2.2.1,(fob g 4 (hb.block g h.lt)).trans h.2.2.2.2.2.2.2.2.2.2.2.2.1,(fob g 5 (hb.block g h.lt)).trans h.2.2.2.2.2.2.2.2.2.2.2.2.2.1,(fob g 6 (hb.block g h.lt)).trans h.2.2.2.2.2.2.2.2.2.2.2.2.2.2.1,(fob g 7 (hb.block g h.lt)).trans h.2.2.2.2.2.2.2.2.2.2.2.2.2.2.2⟩
theorem z5q {w:World}{base g n cap k:Nat}{l:List Cll}{e:TypeId}{x:Cll}(h:w.ownsRow base e 10 (.slice (some ⟨g,0,none⟩) n cap) n (l.flatMap Cll.cs))(hx:l[k]?=some x)(hk:k<n) :
  w.cell? ⟨g,k*10,none⟩=some (.int .i64 x.state)/\(w.cell? ⟨g,k*10+1,none⟩=some (.int .i64 x.id)/\(w.cell? ⟨g,k*10+2,none⟩=some (.int .i64 x.tries)/\(w.cell? ⟨g,k*10+3,none⟩=some (.int .i64 x.key.k)/\(w.cell? ⟨g,k*10+4,none⟩=some (.int .i64 x.key.n)/\(w.cell? ⟨g,k*10+5,none⟩=some (.string x.key.s)/\(w.cell? ⟨g,k*10+6,none⟩=some (.int .i64 x.has.k)/\(w.cell? ⟨g,k*10+7,none⟩=some (.int .i64 x.has.n)/\(w.cell? ⟨g,k*10+8,none⟩=some (.string x.has.s)/\w.cell? ⟨g,k*10+9,none⟩=some (.int .i64 x.next))))))))):=by
 have f:=fun j hj=>z87 Cll.cs 10 lenCll l k j x hx hj
 refine⟨?_,?_,?_,?_,?_,?_,?_,?_,?_,?_⟩
 ·have:=f 0 (by decide);rw[Nat.add_zero] at this;rw[h.cellAt _ (by omega),this];rfl
 ·rw[h.cellAt _ (by omega),f 1 (by decide)];rfl
 ·rw[h.cellAt _ (by omega),f 2 (by decide)];rfl
 ·rw[h.cellAt _ (by omega),f 3 (by decide)];rfl
 ·rw[h.cellAt _ (by omega),f 4 (by decide)];rfl
 ·rw[h.cellAt _ (by omega),f 5 (by decide)];rfl
 ·rw[h.cellAt _ (by omega),f 6 (by decide)];rfl
 ·rw[h.cellAt _ (by omega),f 7 (by decide)];rfl
 ·rw[h.cellAt _ (by omega),f 8 (by decide)];rfl
 rw[h.cellAt _ (by omega),f 9 (by decide)];rfl
theorem motor_ask (M i m d:Nat)(F:List Fld)(fb fo:Nat)(S:Nat -> Prop)(pv:Value)(p:Pol)(iv:Value)(gc cc:Nat)(cs:List Cll)(vv:Value)(now last:Int)(lv:Value)(nl:Nat)(ls:List Ltr)(base:Nat)(w:World)
  (hC:MotC w M (.slice (some ⟨fb,fo,none⟩) m d) pv p iv (.slice (some ⟨gc,0,none⟩) m cc) vv now last lv)(hF:MotF w M)(hS:Sl w S 9 (RFld w S) (some ⟨fb,fo,none⟩) m F)(_:∀ b,S b->b<w.heap.size)(_:m<=14)
  (hcs:w.ownsRow base 62 10 (.slice (some ⟨gc,0,none⟩) m cc) m (cs.flatMap Cll.cs))(hls:w.ownsRow base 48 8 lv nl (ls.flatMap Ltr.cs))(hnl:nl<=100)(hi:i<m)(f:Fld)(hf:(F)[i]?=some f)(c:Cll)(hc:cs[i]?=some c)(h1:c.state=1)
  (hM:lv.ownBlock≠some M)(hbM:base<=w.heap.size) :
  Calls Tryz.prog 56 #[.pointer (some ⟨M,0,none⟩),.int .i64 (i:Int)] w fun e w'=>e=.returned (.tuple #[])/\∃ lv',MotC w' M (.slice (some ⟨fb,fo,none⟩) m d) pv p iv (.slice (some ⟨gc,0,none⟩) m cc) vv now last lv'/\MotF w' M /\
   w'.ownsRow base 48 8 lv' (nl+1) ((ls++[Ltr.mk f.name c.id c.key noVal]).flatMap Ltr.cs)/\(∀ b,b<w.heap.size->b≠M->some b≠lv.ownBlock->w'.heap[b]?=w.heap[b]?)/\(lv'.ownBlock=lv.ownBlock\/∃ k,lv'.ownBlock=some k/\w.heap.size<=k)/\(∀ B,B<=M->B<=base->Below B w w'):=by
 obtain⟨b8,o8,f8,X,C,e8,hb8,hf8,hrep,x0,x1,x2,x3,x4,x5,x6,x7,x8⟩:=z25 hS hi
 simp only[Option.some.injEq,Addr.mk.injEq,and_true] at e8
 obtain⟨rfl,rfl⟩:=e8
 obtain rfl:f=f8:=Option.some.inj (hf.symm.trans hf8)
 obtain⟨y0,y1,y2,y3,y4,y5,y6,y7,y8,y9⟩:=z5q hcs hc hi
 have hii:(i:Int)<(m:Int):=by omega
 have hlm:=hC.lt
 have hle:=fun w=>z95 f.name c.state c.id c.tries c.key.k c.key.n c.key.s c.has.k c.has.n c.has.s c.next w h1
 have hcel:=hC
 obtain⟨z0,z1,z2,z3,z4,z5,z6,z7,z8,z9,z10⟩:=hcel
 have HSS:=zh (show ∀ y:World,Below w.heap.size w y->(y.cell? ⟨M,0,none⟩=some (.slice (some ⟨fb,fo,none⟩) m d)/\(y.cell? ⟨M,6,none⟩=some (.slice (some ⟨gc,0,none⟩) m cc)/\(y.cell? ⟨fb,fo+i*9,none⟩=some (.string f.name)/\(y.cell? ⟨gc,i*10,none⟩=some (.int .i64 c.state)/\(y.cell? ⟨gc,i*10+1,none⟩=some (.int .i64 c.id)/\(y.cell? ⟨gc,i*10+2,none⟩=some (.int .i64 c.tries)/\(y.cell? ⟨gc,i*10+3,none⟩=some (.int .i64 c.key.k)/\(y.cell? ⟨gc,i*10+4,none⟩=some (.int .i64 c.key.n)/\(y.cell? ⟨gc,i*10+5,none⟩=some (.string c.key.s)/\(y.cell? ⟨gc,i*10+6,none⟩=some (.int .i64 c.has.k)/\(y.cell? ⟨gc,i*10+7,none⟩=some (.int .i64 c.has.n)/\(y.cell? ⟨gc,i*10+8,none⟩=some (.string c.has.s)/\y.cell? ⟨gc,i*10+9,none⟩=some (.int .i64 c.next))))))))))))) from fun y h=>⟨z00 z0 h,z00 z6 h,z00 x0 h,z00 y0 h,z00 y1 h,z00 y2 h,z00 y3 h,z00 y4 h,z00 y5 h,z00 y6 h,z00 y7 h,z00 y8 h,z00 y9 h⟩)
 have HC:=zh (ai hC (ai hF (ai hls hM)))
 clear hC hF hS hcs hls hf hc h1 hM hf8 hrep hb8 x0 x1 x2 x3 x4 x5 x6 x7 x8 y0 y1 y2 y3 y4 y5 y6 y7 y8 y9 z0 z1 z2 z3 z4 z5 z6 z7 z8 z9 z10
 obtain⟨i0,ei,ez0,ez1,ez2⟩:=info_parts Tryz.infoLtr
 go_enter Tryz.func56,Tryz.ntmps56
 go_upto_region 0 with fail
 go_cut [4] (fun s4 wx=>∃ g4:Nat,s4=.pointer (some ⟨g4,0,none⟩)/\w.heap.size<=g4/\(wx.cell? ⟨g4,0,none⟩=some (.string f.name)/\(wx.cell? ⟨g4,1,none⟩=some (.int .i64 c.id)/\(wx.cell? ⟨g4,2,none⟩=some (.int .i64 c.key.k)/\(wx.cell? ⟨g4,3,none⟩=some (.int .i64 c.key.n)/\(wx.cell? ⟨g4,4,none⟩=some (.string c.key.s)/\(wx.cell? ⟨g4,5,none⟩=some (.int .i64 0)/\(wx.cell? ⟨g4,6,none⟩=some (.int .i64 0)/\wx.cell? ⟨g4,7,none⟩=some (.string ⟨#[]⟩))))))))/\Below w.heap.size w wx)
 case first =>
  refine z0k ?_;intro u0' hu0'
  obtain⟨u0,hu0⟩:∃ y,y=u0'.drew:=⟨_,rfl⟩
  have hB0:Below w.heap.size w u0:=by rw[hu0,hu0'];exact (Below.refl _ _).drew
  have hS0:=HSS.out u0 hB0
  refine z0r (fun w'=>w'.cell? ⟨M,0,none⟩=some (.slice (some ⟨fb,fo,none⟩) m d)/\(w'.cell? ⟨M,6,none⟩=some (.slice (some ⟨gc,0,none⟩) m cc)/\(w'.cell? ⟨fb,fo+i*9,none⟩=some (.string f.name)/\(w'.cell? ⟨gc,i*10,none⟩=some (.int .i64 c.state)/\(w'.cell? ⟨gc,i*10+1,none⟩=some (.int .i64 c.id)/\(w'.cell? ⟨gc,i*10+2,none⟩=some (.int .i64 c.tries)/\(w'.cell? ⟨gc,i*10+3,none⟩=some (.int .i64 c.key.k)/\(w'.cell? ⟨gc,i*10+4,none⟩=some (.int .i64 c.key.n)/\(w'.cell? ⟨gc,i*10+5,none⟩=some (.string c.key.s)/\(w'.cell? ⟨gc,i*10+6,none⟩=some (.int .i64 c.has.k)/\(w'.cell? ⟨gc,i*10+7,none⟩=some (.int .i64 c.has.n)/\(w'.cell? ⟨gc,i*10+8,none⟩=some (.string c.has.s)/\w'.cell? ⟨gc,i*10+9,none⟩=some (.int .i64 c.next))))))))))))) 24 (by kernel_rfl) ?_
  rw[<-hu0]
  clear hu0' hu0
  refine zt 0 hS0 ?_
  simp only[Act.put,pq]
  refine zt 1 hS0 ?_
  simp only[Act.put,pq]
  refine zt 2 hS0 ?_
  simp only[Act.put,pq]
  refine zt 3 hS0 ?_
  simp only[Act.put,pq]
  refine zt 4 hS0 ?_
  simp only[Act.put,pq]
  refine zt 5 hS0 ?_
  simp only[Act.put,pq]
  refine zt 6 hS0 ?_
  simp only[Act.put,pq]
  refine zt 7 hS0 ?_
  simp only[Act.put,pq]
  refine zt 8 hS0 ?_
  simp only[Act.put,pq]
  refine zt 9 hS0 ?_
  simp only[Act.put,pq]
  refine zt 10 hS0 ?_
  simp only[Act.put,pq]
  refine zt 11 hS0 ?_
  simp only[Act.put,pq]
  refine zt 12 hS0 ?_
  simp only[Act.put,pq]
  refine zt 13 hS0 ?_
  simp only[Act.put,pq]
  refine zt 14 hS0 ?_
  simp only[Act.put,pq]
  refine zt 15 hS0 ?_
  simp only[Act.put,pq]
  refine zt 16 hS0 ?_
  simp only[Act.put,pq]
  refine zt 17 hS0 ?_
  simp only[Act.put,pq]
  refine z2s (i:=18) (j:=22) (o:=_) (p:=_) rfl rfl (by kernel_rfl) (fun K hK=>?_) (fun K hK=>?_)
  ·go_simp
   go_at_call 87;refine (hle _).mono ?_;rintro e u1 ⟨rfl,hb1⟩
   have hB1:=z01 hB0 hb1 hB0.size
   have hS1:=HSS.out u1 hB1
   refine hK.out _ _ (fun _=>hS1) ?_
   clear hK K
   try simp only[Act.put,pq]
   refine zt 19 hS1 ?_
   simp only[Act.put,pq]
   refine zt 20 hS1 ?_
   simp only[Act.put,pq]
   refine zt 21 hS1 ?_
   simp only[Act.put,pq]
   refine z06 (i:=22) (o:=_) rfl (by kernel_rfl) (fun K hK=>?_)
   go_simp
   obtain⟨u2,hu2⟩:∃ y,y=u1.alloc (.cells #[.string ⟨#[]⟩,.int .i64 0,.int .i64 0,.int .i64 0,.string ⟨#[]⟩,.int .i64 0,.int .i64 0,.string ⟨#[]⟩] 48):=⟨_,rfl⟩
   rw[<-hu2]
   have hb2:Below u1.heap.size u1 u2:=by rw[hu2];exact (Below.refl _ _).alloc (nr _) _
   have hB2:=z01 hB1 hb2 hB1.size
   have hS2:=HSS.out u2 hB2
   have hz2:u1.heap.size<u2.heap.size:=by rw[hu2];simp
   have hG2:LBOX u2 u1.heap.size:=by rw[hu2];exact⟨by go_simp,by go_simp,by go_simp,by go_simp,by go_simp,by go_simp,by go_simp,by go_simp,by go_simp,by go_simp,by go_simp,by go_simp,by go_simp,by go_simp,by go_simp,by go_simp⟩
   clear hu2
   refine hK.out _ _ (fun _=>hS2) ?_
   clear hK K
   try simp only[Act.put,pq]
   have hgl:u1.heap.size<u2.heap.size:=hG2.lt
   obtain⟨l0,l1,l2,l3,l4,l5,l6,l7,n0,n1,n2,n3,n4,n5,n6,n7⟩:=hG2
   refine z06 (i:=23) (o:=_) rfl (by kernel_rfl) (fun K hK=>?_)
   go_simp
   refine hK.out _ _ (fun _=>HSS.out _ (z03 (z03 (z03 (z03 (z03 (z03 (z03 (z03 hB2 (show w.heap.size<=u1.heap.size from hB1.size)) (show w.heap.size<=u1.heap.size from hB1.size)) (show w.heap.size<=u1.heap.size from hB1.size)) (show w.heap.size<=u1.heap.size from hB1.size)) (show w.heap.size<=u1.heap.size from hB1.size)) (show w.heap.size<=u1.heap.size from hB1.size)) (show w.heap.size<=u1.heap.size from hB1.size)) (show w.heap.size<=u1.heap.size from hB1.size))) ?_
   clear hK K
   try simp only[Act.put,pq]
   refine z06 (i:=24) (o:=_) rfl (by kernel_rfl) (fun K hK=>?_)
   go_simp
   refine hK.out _ _ (fun h=>absurd h (by decide)) ?_
   clear hK K
   refine z0f (by kernel_rfl) ?_ _
   try simp only[Act.put,pq]
   go_wp2_with fail
   go_meet
   refine⟨u1.heap.size,rfl,(show w.heap.size<=u1.heap.size from hB1.size),⟨by go_simp,by go_simp,by go_simp,by go_simp,by go_simp,by go_simp,by go_simp,by go_simp⟩,z03 (z03 (z03 (z03 (z03 (z03 (z03 (z03 hB2 (show w.heap.size<=u1.heap.size from hB1.size)) (show w.heap.size<=u1.heap.size from hB1.size)) (show w.heap.size<=u1.heap.size from hB1.size)) (show w.heap.size<=u1.heap.size from hB1.size)) (show w.heap.size<=u1.heap.size from hB1.size)) (show w.heap.size<=u1.heap.size from hB1.size)) (show w.heap.size<=u1.heap.size from hB1.size)) (show w.heap.size<=u1.heap.size from hB1.size)⟩
  go_simp
  obtain⟨u1,hu1⟩:∃ y,y=u0.alloc (.cells #[.string ⟨#[]⟩,.int .i64 0,.int .i64 0,.int .i64 0,.string ⟨#[]⟩,.int .i64 0,.int .i64 0,.string ⟨#[]⟩] 48):=⟨_,rfl⟩
  rw[<-hu1]
  have hb1:Below u0.heap.size u0 u1:=by rw[hu1];exact (Below.refl _ _).alloc (nr _) _
  have hB1:=z01 hB0 hb1 hB0.size
  have hS1:=HSS.out u1 hB1
  have hz1:u0.heap.size<u1.heap.size:=by rw[hu1];simp
  have hG1:LBOX u1 u0.heap.size:=by rw[hu1];exact⟨by go_simp,by go_simp,by go_simp,by go_simp,by go_simp,by go_simp,by go_simp,by go_simp,by go_simp,by go_simp,by go_simp,by go_simp,by go_simp,by go_simp,by go_simp,by go_simp⟩
  clear hu1
  refine hK.out _ _ (fun _=>hS1) ?_
  clear hK K
  try simp only[Act.put,pq]
  refine z06 (i:=18) (o:=_) rfl (by kernel_rfl) (fun K hK=>?_)
  go_simp
  go_at_call 87;refine (hle _).mono ?_;rintro e u2 ⟨rfl,hb2⟩
  have hB2:=z01 hB1 hb2 hB1.size
  have hS2:=HSS.out u2 hB2
  have hG2:=hG1.keep hb2
  refine hK.out _ _ (fun _=>hS2) ?_
  clear hK K
  try simp only[Act.put,pq]
  refine zt 19 hS2 ?_
  simp only[Act.put,pq]
  refine zt 20 hS2 ?_
  simp only[Act.put,pq]
  refine zt 21 hS2 ?_
  simp only[Act.put,pq]
  have hgl:u0.heap.size<u2.heap.size:=hG2.lt
  obtain⟨l0,l1,l2,l3,l4,l5,l6,l7,n0,n1,n2,n3,n4,n5,n6,n7⟩:=hG2
  refine z06 (i:=23) (o:=_) rfl (by kernel_rfl) (fun K hK=>?_)
  go_simp
  refine hK.out _ _ (fun _=>HSS.out _ (z03 (z03 (z03 (z03 (z03 (z03 (z03 (z03 hB2 (show w.heap.size<=u0.heap.size from hB0.size)) (show w.heap.size<=u0.heap.size from hB0.size)) (show w.heap.size<=u0.heap.size from hB0.size)) (show w.heap.size<=u0.heap.size from hB0.size)) (show w.heap.size<=u0.heap.size from hB0.size)) (show w.heap.size<=u0.heap.size from hB0.size)) (show w.heap.size<=u0.heap.size from hB0.size)) (show w.heap.size<=u0.heap.size from hB0.size))) ?_
  clear hK K
  try simp only[Act.put,pq]
  refine z06 (i:=24) (o:=_) rfl (by kernel_rfl) (fun K hK=>?_)
  go_simp
  refine hK.out _ _ (fun h=>absurd h (by decide)) ?_
  clear hK K
  refine z0f (by kernel_rfl) ?_ _
  try simp only[Act.put,pq]
  go_wp2_with fail
  go_meet
  refine⟨u0.heap.size,rfl,(show w.heap.size<=u0.heap.size from hB0.size),⟨by go_simp,by go_simp,by go_simp,by go_simp,by go_simp,by go_simp,by go_simp,by go_simp⟩,z03 (z03 (z03 (z03 (z03 (z03 (z03 (z03 hB2 (show w.heap.size<=u0.heap.size from hB0.size)) (show w.heap.size<=u0.heap.size from hB0.size)) (show w.heap.size<=u0.heap.size from hB0.size)) (show w.heap.size<=u0.heap.size from hB0.size)) (show w.heap.size<=u0.heap.size from hB0.size)) (show w.heap.size<=u0.heap.size from hB0.size)) (show w.heap.size<=u0.heap.size from hB0.size)) (show w.heap.size<=u0.heap.size from hB0.size)⟩
 case rest =>
  obtain⟨g4,rfl,hg4,hL,hb⟩:=hcut
  obtain⟨q0,q1,q2,q3,q4,q5,q6,q7⟩:=hL
  have hzc:=hb.size
  have hg4w:g4<wc.heap.size:=block_lt_of_cell q0
  have hC1:=HC.out.1.block (hb.block M hlm)
  have hF1:=HC.out.2.1.block (hb.block M hlm)
  have ho1:=z04 HC.out.2.2.1 hb
  have hng:some g4≠lv.ownBlock:=fun e=>by have:=(HC.out.2.2.1.lt _ e.symm).2;omega
  have hnM:some M≠lv.ownBlock:=fun e=>HC.out.2.2.2 e.symm
  have z10:wc.cell? ⟨M,10,none⟩=some lv:=hC1.2.2.2.2.2.2.2.2.2.2
  have HS1:=zh (show ∀ y:World,y.heap[M]?=wc.heap[M]?->y.heap[g4]?=wc.heap[g4]?->(y.cell? ⟨M,10,none⟩=some lv/\(y.cell? ⟨g4,0,none⟩=some (.string f.name)/\(y.cell? ⟨g4,1,none⟩=some (.int .i64 c.id)/\(y.cell? ⟨g4,2,none⟩=some (.int .i64 c.key.k)/\(y.cell? ⟨g4,3,none⟩=some (.int .i64 c.key.n)/\(y.cell? ⟨g4,4,none⟩=some (.string c.key.s)/\(y.cell? ⟨g4,5,none⟩=some (.int .i64 0)/\(y.cell? ⟨g4,6,none⟩=some (.int .i64 0)/\y.cell? ⟨g4,7,none⟩=some (.string ⟨#[]⟩))))))))) from fun y h h'=>⟨(cob M 10 h).trans z10,(cob g4 0 h').trans q0,(cob g4 1 h').trans q1,(cob g4 2 h').trans q2,(cob g4 3 h').trans q3,(cob g4 4 h').trans q4,(cob g4 5 h').trans q5,(cob g4 6 h').trans q6,(cob g4 7 h').trans q7⟩)
  have HM1:=zh (ai hC1 (ai hF1 (ai ho1 (ai hng hnM))))
  clear hC1 hF1 ho1 hng hnM z10 q0 q1 q2 q3 q4 q5 q6 q7 HSS
  go_upto_region 1 with fail
  refine z0k ?_;intro u0' hu0'
  obtain⟨u0,hu0⟩:∃ y,y=u0'.drew:=⟨_,rfl⟩
  have hB0:Below wc.heap.size wc u0:=by rw[hu0,hu0'];exact (Below.refl _ _).drew
  have hS0:=HS1.out u0 (hB0.block M (by omega)) (hB0.block g4 hg4w)
  refine z0r (fun w'=>w'.cell? ⟨M,10,none⟩=some lv/\(w'.cell? ⟨g4,0,none⟩=some (.string f.name)/\(w'.cell? ⟨g4,1,none⟩=some (.int .i64 c.id)/\(w'.cell? ⟨g4,2,none⟩=some (.int .i64 c.key.k)/\(w'.cell? ⟨g4,3,none⟩=some (.int .i64 c.key.n)/\(w'.cell? ⟨g4,4,none⟩=some (.string c.key.s)/\(w'.cell? ⟨g4,5,none⟩=some (.int .i64 0)/\(w'.cell? ⟨g4,6,none⟩=some (.int .i64 0)/\w'.cell? ⟨g4,7,none⟩=some (.string ⟨#[]⟩))))))))) 10 (by kernel_rfl) ?_
  rw[<-hu0]
  clear hu0' hu0
  refine zt 0 hS0 ?_
  simp only[Act.put,pq]
  refine zt 1 hS0 ?_
  simp only[Act.put,pq]
  refine zt 2 hS0 ?_
  simp only[Act.put,pq]
  refine zt 3 hS0 ?_
  simp only[Act.put,pq]
  refine zt 4 hS0 ?_
  simp only[Act.put,pq]
  refine zt 5 hS0 ?_
  simp only[Act.put,pq]
  refine z06 (i:=6) (o:=_) rfl (by kernel_rfl) (fun K hK=>?_)
  go_simp
  obtain⟨u1,hu1⟩:∃ y,y=u0.alloc (.cells #[.string f.name,.int .i64 c.id,.int .i64 c.key.k,.int .i64 c.key.n,.string c.key.s,.int .i64 0,.int .i64 0,.string ⟨#[]⟩] 48):=⟨_,rfl⟩
  rw[<-hu1]
  have hb1:Below u0.heap.size u0 u1:=by rw[hu1];exact (Below.refl _ _).alloc (nr _) _
  have hB1:=z01 hB0 hb1 hB0.size
  have hnew:∀ pp,some (⟨u0.heap.size,0,none⟩:Addr)=some pp->∀ j u,(Ltr.mk f.name c.id c.key noVal).cs[j]?=some u->u1.cell? (pp.add j)=some u:=by
   rw[hu1]
   exact fun pp hp j u hj=>by cases hp;exact z63 _ (Ltr.mk f.name c.id c.key noVal).cs _ j u hj
  clear hu1
  have hS1:=HS1.out u1 (hB1.block M (by omega)) (hB1.block g4 hg4w)
  refine hK.out _ _ (fun _=>hS1) ?_
  clear hK K
  try simp only[Act.put,pq]
  refine z06 (i:=7) (o:=_) rfl (by kernel_rfl) (fun K hK=>?_)
  refine z0z rfl (.tmp 32) (.tmp 34) 33 rfl base 48 i0 _ 8 88 Tryz.underlying33 ei ez0 ez1 ez2 rfl (by decide) lv nl _ rfl (z04 HM1.out.2.2.1 hB1) _ 1 1 (Ltr.mk f.name c.id c.key noVal).cs rfl rfl hnew (by simp) (by simp[Ltr.cs,Value.oneCell']) (by unfold maxLen;omega) (by omega) (by have:=hB1.size;omega) ?_
  intro lv' u2 ho2 hgr hob
  obtain⟨g5,cap5,rfl,_,_⟩:=ho2.form (by omega)
  have hz1:=hB1.size
  have hM2:u2.heap[M]?=wc.heap[M]?:=(hgr.block M (by omega) HM1.out.2.2.2.2).trans (hB1.block M (by omega))
  have hS2:=HS1.out u2 hM2 ((hgr.block g4 (by omega) HM1.out.2.2.2.1).trans (hB1.block g4 hg4w))
  refine hK.out _ _ (fun _=>hS2) ?_
  clear hK K
  try simp only[Act.put,pq]
  refine zt 8 hS2 ?_
  simp only[Act.put,pq]
  refine zt 9 hS2 ?_
  simp only[Act.put,pq]
  refine z06 (i:=10) (o:=_) rfl (by kernel_rfl) (fun K hK=>?_)
  have hC2:=HM1.out.1.block hM2
  have hF2:=HM1.out.2.1.block hM2
  obtain⟨z0,z1,z2,z3,z4,z5,z6,z7,z8,z9,z10⟩:=hC2
  obtain⟨n5,n8,n9,n10⟩:=hF2
  have hM3:M<u2.heap.size:=block_lt_of_cell z0
  go_simp
  refine hK.out _ _ (fun h=>absurd h (by decide)) ?_
  clear hK K
  refine z0f (by kernel_rfl) ?_ _
  try simp only[Act.put,pq]
  have hne:(Value.slice (some ⟨g5,0,none⟩) (nl+1) cap5).ownBlock≠some M:=by
   rcases hob with h | h
   ·rw[h];exact fun e=>HM1.out.2.2.2.2 e.symm
   rw[h];intro e;have:=Option.some.inj e;omega
  go_wp2_with fail
  go_end0
  refine⟨rfl,.slice (some ⟨g5,0,none⟩) (nl+1) cap5,⟨by go_simp,by go_simp,by go_simp,by go_simp,by go_simp,by go_simp,by go_simp,by go_simp,by go_simp,by go_simp,by go_simp⟩,⟨by go_simp,by go_simp,by go_simp,by go_simp⟩,?_,fun b hb1 hbM hbl=>?_,?_,fun B hBM hBb=>?_⟩
  ·rw[List.flatMap_append]
   exact ownsRow_setCell_other (by simpa using ho2) hne _
  ·rw[Below.heap_setCell _ _ _ _ (by exact hbM),hgr.block b (by omega) hbl,hB1.block b (by omega)]
   exact hb.block b hb1
  ·rcases hob with h | h
   ·exact .inl h
   exact .inr ⟨_,h,by omega⟩
  refine z03 ?_ hBM
  refine Below.grown (z01 (hb.mono (by omega)) hB1 (by omega)) hgr (by omega) (fun kk hk=>?_)
  exact Nat.le_trans hBb ((z04 HM1.out.2.2.1 hB1).lt kk hk).1
open Go.RowKit
theorem zcs (st id' tr kk' kn':Int)(ks':ByteArray)(hk' hn':Int)(hs':ByteArray)(nx t b c id kk kn:Int)(ks:ByteArray)(now:Int)(w:World)(s1:ks'.size<=maxLen)(s2:hs'.size<=maxLen)(s3:ks.size<=maxLen) :
  let r:=z1p ⟨st,id',tr,⟨kk',kn',ks'⟩,⟨hk',hn',hs'⟩,nx⟩ ⟨t,b,c⟩ id ⟨kk,kn,ks⟩ now
  Calls Tryz.prog 121 #[.agg #[.int .i64 st,.int .i64 id',.int .i64 tr,.int .i64 kk',.int .i64 kn',.string ks',.int .i64 hk',.int .i64 hn',.string hs',.int .i64 nx],.agg #[.int .i64 t,.int .i64 b,.int .i64 c],.int .i64 id,.agg #[.int .i64 kk,.int .i64 kn,.string ks],.int .i64 now] w (zfr w r.1 r.2.1 r.2.2):=by
 intro r
 have hr:r=z1p ⟨st,id',tr,⟨kk',kn',ks'⟩,⟨hk',hn',hs'⟩,nx⟩ ⟨t,b,c⟩ id ⟨kk,kn,ks⟩ now:=rfl
 clear_value r
 have heq:=fun w=>z1j w kk' kn' kk kn ks' ks
 rcases zae st id' tr kk' kn' ks' hk' hn' hs' nx ⟨t,b,c⟩ id kk kn ks now with ⟨h0,e⟩ | ⟨h0,h1,e⟩ | ⟨h0,h1,h2,h3,e⟩ | ⟨h0,h1,h2,h3,h4,h5,h6,h7,h8,e⟩ | ⟨h0,h1,h2,h3,h4,h5,h5',e⟩ | ⟨h0,h1,h2,h3,h4,h5,h5',h6,e⟩
 ·rw[e] at hr;subst hr;clear e
  have h0':(z07 ⟨st,id',tr,⟨kk',kn',ks'⟩,⟨hk',hn',hs'⟩,nx⟩ ⟨t,b,c⟩==0)=false:=by simpa using h0
  go_enter Tryz.func121,Tryz.ntmps121
  go_wp2_with (first | (go_at_call 69;refine (z1s _ _ _ _ _ _ _ _ _ _ _ _ _ _ s1 s2).mono ?_;rintro e w1 ⟨rfl,hb1⟩;refine zb hb1 ?_;rintro ⟨hc1,hf1⟩ hz1 hy1 hx1;refine szz w1 w ?_;intros) | (go_at_call 130;refine (z31 _ _ _ _ s3).mono ?_;rintro e w2 ⟨rfl,hb2⟩;refine zb hb2 ?_;rintro ⟨hc2,hf2⟩ hz2 hy2 hx2;refine szz w2 w ?_;intros;refine szz w2 w1 ?_;intros) | (go_at_call 83;refine (z0q _ _ _ _ s3).mono ?_;rintro e w3 ⟨rfl,hb3⟩;refine zb hb3 ?_;rintro ⟨hc3,hf3⟩ hz3 hy3 hx3;refine szz w3 w ?_;intros;refine szz w3 w1 ?_;intros;refine szz w3 w2 ?_;intros) | (go_at_call 164;refine (z6i _ _ _ _ _ _ _ _ _ s3).mono ?_;rintro e w4 ⟨rfl,hb4⟩;refine zb hb4 ?_;rintro ⟨hc4,hf4⟩ hz4 hy4 hx4;refine szz w4 w ?_;intros;refine szz w4 w1 ?_;intros;refine szz w4 w2 ?_;intros;refine szz w4 w3 ?_;intros))
  exact bpr Tryz.results121 (.tuple #[.agg #[.int .i64 0,.int .i64 0,.int .i64 0,.int .i64 0,.int .i64 0,.string ⟨#[]⟩,.int .i64 0,.int .i64 0,.string ⟨#[]⟩,.int .i64 0],.bool false,.int .i64 (z07 ⟨st,id',tr,⟨kk',kn',ks'⟩,⟨hk',hn',hs'⟩,nx⟩ ⟨t,b,c⟩)]) ⟨rfl,bel⟩
 ·rw[e] at hr;subst hr;clear e
  have hx:(z07 ⟨st,id',tr,⟨kk',kn',ks'⟩,⟨hk',hn',hs'⟩,nx⟩ ⟨t,b,c⟩ != 0)=false:=by simpa using h0
  have hx':(z07 ⟨st,id',tr,⟨kk',kn',ks'⟩,⟨hk',hn',hs'⟩,nx⟩ ⟨t,b,c⟩==0)=true:=by simpa using h0
  clear h0
  go_enter Tryz.func121,Tryz.ntmps121
  go_wp2_with (first | (go_at_call 69;refine (z1s _ _ _ _ _ _ _ _ _ _ _ _ _ _ s1 s2).mono ?_;rintro e w1 ⟨rfl,hb1⟩;refine zb hb1 ?_;rintro ⟨hc1,hf1⟩ hz1 hy1 hx1;refine szz w1 w ?_;intros) | (go_at_call 130;refine (z31 _ _ _ _ s3).mono ?_;rintro e w2 ⟨rfl,hb2⟩;refine zb hb2 ?_;rintro ⟨hc2,hf2⟩ hz2 hy2 hx2;refine szz w2 w ?_;intros;refine szz w2 w1 ?_;intros) | (go_at_call 83;refine (z0q _ _ _ _ s3).mono ?_;rintro e w3 ⟨rfl,hb3⟩;refine zb hb3 ?_;rintro ⟨hc3,hf3⟩ hz3 hy3 hx3;refine szz w3 w ?_;intros;refine szz w3 w1 ?_;intros;refine szz w3 w2 ?_;intros) | (go_at_call 164;refine (z6i _ _ _ _ _ _ _ _ _ s3).mono ?_;rintro e w4 ⟨rfl,hb4⟩;refine zb hb4 ?_;rintro ⟨hc4,hf4⟩ hz4 hy4 hx4;refine szz w4 w ?_;intros;refine szz w4 w1 ?_;intros;refine szz w4 w2 ?_;intros;refine szz w4 w3 ?_;intros))
  exact bpr Tryz.results121 (.tuple #[.agg #[.int .i64 0,.int .i64 0,.int .i64 0,.int .i64 0,.int .i64 0,.string ⟨#[]⟩,.int .i64 0,.int .i64 0,.string ⟨#[]⟩,.int .i64 0],.bool false,.int .i64 (valCheck ⟨kk,kn,ks⟩)]) ⟨rfl,bel⟩
 ·rw[e] at hr;subst hr;clear e
  have hx:(z07 ⟨st,id',tr,⟨kk',kn',ks'⟩,⟨hk',hn',hs'⟩,nx⟩ ⟨t,b,c⟩ != 0)=false:=by simpa using h0
  have hx':(z07 ⟨st,id',tr,⟨kk',kn',ks'⟩,⟨hk',hn',hs'⟩,nx⟩ ⟨t,b,c⟩==0)=true:=by simpa using h0
  clear h0
  have hy:(valCheck ⟨kk,kn,ks⟩ != 0)=false:=by simpa using h1
  clear h1
  go_enter Tryz.func121,Tryz.ntmps121
  go_wp2_with (first | (go_at_call 69;refine (z1s _ _ _ _ _ _ _ _ _ _ _ _ _ _ s1 s2).mono ?_;rintro e w1 ⟨rfl,hb1⟩;refine zb hb1 ?_;rintro ⟨hc1,hf1⟩ hz1 hy1 hx1;refine szz w1 w ?_;intros) | (go_at_call 130;refine (z31 _ _ _ _ s3).mono ?_;rintro e w2 ⟨rfl,hb2⟩;refine zb hb2 ?_;rintro ⟨hc2,hf2⟩ hz2 hy2 hx2;refine szz w2 w ?_;intros;refine szz w2 w1 ?_;intros) | (go_at_call 83;refine (z0q _ _ _ _ s3).mono ?_;rintro e w3 ⟨rfl,hb3⟩;refine zb hb3 ?_;rintro ⟨hc3,hf3⟩ hz3 hy3 hx3;refine szz w3 w ?_;intros;refine szz w3 w1 ?_;intros;refine szz w3 w2 ?_;intros) | (go_at_call 164;refine (z6i _ _ _ _ _ _ _ _ _ s3).mono ?_;rintro e w4 ⟨rfl,hb4⟩;refine zb hb4 ?_;rintro ⟨hc4,hf4⟩ hz4 hy4 hx4;refine szz w4 w ?_;intros;refine szz w4 w1 ?_;intros;refine szz w4 w2 ?_;intros;refine szz w4 w3 ?_;intros))
  exact bpr Tryz.results121 (.tuple #[.agg #[.int .i64 0,.int .i64 0,.int .i64 0,.int .i64 0,.int .i64 0,.string ⟨#[]⟩,.int .i64 0,.int .i64 0,.string ⟨#[]⟩,.int .i64 0],.bool false,.int .i64 0]) ⟨rfl,bel⟩
 ·rw[e] at hr;subst hr;clear e
  subst h6;subst h7;subst h8
  have hv:valEq ⟨kk',kn',ks'⟩ ⟨kk',kn',ks'⟩=true:=(z2o _ _).2 rfl
  have hx:(z07 ⟨st,id',tr,⟨kk',kn',ks'⟩,⟨hk',hn',hs'⟩,nx⟩ ⟨t,b,c⟩ != 0)=false:=by simpa using h0
  have hx':(z07 ⟨st,id',tr,⟨kk',kn',ks'⟩,⟨hk',hn',hs'⟩,nx⟩ ⟨t,b,c⟩==0)=true:=by simpa using h0
  clear h0
  have hy:(valCheck ⟨kk',kn',ks'⟩ != 0)=false:=by simpa using h1
  clear h1
  go_enter Tryz.func121,Tryz.ntmps121
  go_wp2_with (first | (go_at_call 69;refine (z1s _ _ _ _ _ _ _ _ _ _ _ _ _ _ s1 s2).mono ?_;rintro e w1 ⟨rfl,hb1⟩;refine zb hb1 ?_;rintro ⟨hc1,hf1⟩ hz1 hy1 hx1;refine szz w1 w ?_;intros) | (go_at_call 130;refine (z31 _ _ _ _ s3).mono ?_;rintro e w2 ⟨rfl,hb2⟩;refine zb hb2 ?_;rintro ⟨hc2,hf2⟩ hz2 hy2 hx2;refine szz w2 w ?_;intros;refine szz w2 w1 ?_;intros) | (go_at_call 83;refine (z0q _ _ _ _ s3).mono ?_;rintro e w3 ⟨rfl,hb3⟩;refine zb hb3 ?_;rintro ⟨hc3,hf3⟩ hz3 hy3 hx3;refine szz w3 w ?_;intros;refine szz w3 w1 ?_;intros;refine szz w3 w2 ?_;intros) | (go_at_call 164;refine (z6i _ _ _ _ _ _ _ _ _ s3).mono ?_;rintro e w4 ⟨rfl,hb4⟩;refine zb hb4 ?_;rintro ⟨hc4,hf4⟩ hz4 hy4 hx4;refine szz w4 w ?_;intros;refine szz w4 w1 ?_;intros;refine szz w4 w2 ?_;intros;refine szz w4 w3 ?_;intros))
  exact bpr Tryz.results121 (.tuple #[.agg #[.int .i64 st,.int .i64 id',.int .i64 tr,.int .i64 kk',.int .i64 kn',.string ks',.int .i64 hk',.int .i64 hn',.string hs',.int .i64 nx],.bool false,.int .i64 0]) ⟨rfl,bel⟩
 ·rw[e] at hr;subst hr;clear e
  have hx:(z07 ⟨st,id',tr,⟨kk',kn',ks'⟩,⟨hk',hn',hs'⟩,nx⟩ ⟨t,b,c⟩ != 0)=false:=by simpa using h0
  have hx':(z07 ⟨st,id',tr,⟨kk',kn',ks'⟩,⟨hk',hn',hs'⟩,nx⟩ ⟨t,b,c⟩==0)=true:=by simpa using h0
  clear h0
  have hy:(valCheck ⟨kk,kn,ks⟩ != 0)=false:=by simpa using h1
  clear h1
  rcases h4 with ⟨h6,h7,h8⟩ | rfl
  all_goals
   go_enter Tryz.func121,Tryz.ntmps121
   go_wp2_with (first | (go_at_call 69;refine (z1s _ _ _ _ _ _ _ _ _ _ _ _ _ _ s1 s2).mono ?_;rintro e w1 ⟨rfl,hb1⟩;refine zb hb1 ?_;rintro ⟨hc1,hf1⟩ hz1 hy1 hx1;refine szz w1 w ?_;intros) | (go_at_call 130;refine (z31 _ _ _ _ s3).mono ?_;rintro e w2 ⟨rfl,hb2⟩;refine zb hb2 ?_;rintro ⟨hc2,hf2⟩ hz2 hy2 hx2;refine szz w2 w ?_;intros;refine szz w2 w1 ?_;intros) | (go_at_call 83;refine (z0q _ _ _ _ s3).mono ?_;rintro e w3 ⟨rfl,hb3⟩;refine zb hb3 ?_;rintro ⟨hc3,hf3⟩ hz3 hy3 hx3;refine szz w3 w ?_;intros;refine szz w3 w1 ?_;intros;refine szz w3 w2 ?_;intros) | (go_at_call 164;refine (z6i _ _ _ _ _ _ _ _ _ s3).mono ?_;rintro e w4 ⟨rfl,hb4⟩;refine zb hb4 ?_;rintro ⟨hc4,hf4⟩ hz4 hy4 hx4;refine szz w4 w ?_;intros;refine szz w4 w1 ?_;intros;refine szz w4 w2 ?_;intros;refine szz w4 w3 ?_;intros))
   exact bpr Tryz.results121 (.tuple #[.agg #[.int .i64 (z18 ⟨t,b,c⟩ id ⟨kk,kn,ks⟩ now).1.state,.int .i64 (z18 ⟨t,b,c⟩ id ⟨kk,kn,ks⟩ now).1.id,.int .i64 (z18 ⟨t,b,c⟩ id ⟨kk,kn,ks⟩ now).1.tries,.int .i64 (z18 ⟨t,b,c⟩ id ⟨kk,kn,ks⟩ now).1.key.k,.int .i64 (z18 ⟨t,b,c⟩ id ⟨kk,kn,ks⟩ now).1.key.n,.string (z18 ⟨t,b,c⟩ id ⟨kk,kn,ks⟩ now).1.key.s,.int .i64 (z18 ⟨t,b,c⟩ id ⟨kk,kn,ks⟩ now).1.has.k,.int .i64 (z18 ⟨t,b,c⟩ id ⟨kk,kn,ks⟩ now).1.has.n,.string (z18 ⟨t,b,c⟩ id ⟨kk,kn,ks⟩ now).1.has.s,.int .i64 (z18 ⟨t,b,c⟩ id ⟨kk,kn,ks⟩ now).1.next],.bool true,.int .i64 0]) ⟨rfl,bel⟩
 rw[e] at hr;subst hr;clear e
 have hx:(z07 ⟨st,id',tr,⟨kk',kn',ks'⟩,⟨hk',hn',hs'⟩,nx⟩ ⟨t,b,c⟩ != 0)=false:=by simpa using h0
 have hx':(z07 ⟨st,id',tr,⟨kk',kn',ks'⟩,⟨hk',hn',hs'⟩,nx⟩ ⟨t,b,c⟩==0)=true:=by simpa using h0
 clear h0
 have hy:(valCheck ⟨kk,kn,ks⟩ != 0)=false:=by simpa using h1
 clear h1
 rcases h4 with ⟨h7,h8,h9⟩ | rfl
 all_goals
  go_enter Tryz.func121,Tryz.ntmps121
  go_wp2_with (first | (go_at_call 69;refine (z1s _ _ _ _ _ _ _ _ _ _ _ _ _ _ s1 s2).mono ?_;rintro e w1 ⟨rfl,hb1⟩;refine zb hb1 ?_;rintro ⟨hc1,hf1⟩ hz1 hy1 hx1;refine szz w1 w ?_;intros) | (go_at_call 130;refine (z31 _ _ _ _ s3).mono ?_;rintro e w2 ⟨rfl,hb2⟩;refine zb hb2 ?_;rintro ⟨hc2,hf2⟩ hz2 hy2 hx2;refine szz w2 w ?_;intros;refine szz w2 w1 ?_;intros) | (go_at_call 83;refine (z0q _ _ _ _ s3).mono ?_;rintro e w3 ⟨rfl,hb3⟩;refine zb hb3 ?_;rintro ⟨hc3,hf3⟩ hz3 hy3 hx3;refine szz w3 w ?_;intros;refine szz w3 w1 ?_;intros;refine szz w3 w2 ?_;intros) | (go_at_call 164;refine (z6i _ _ _ _ _ _ _ _ _ s3).mono ?_;rintro e w4 ⟨rfl,hb4⟩;refine zb hb4 ?_;rintro ⟨hc4,hf4⟩ hz4 hy4 hx4;refine szz w4 w ?_;intros;refine szz w4 w1 ?_;intros;refine szz w4 w2 ?_;intros;refine szz w4 w3 ?_;intros))
  exact bpr Tryz.results121 (.tuple #[.agg #[.int .i64 0,.int .i64 0,.int .i64 0,.int .i64 0,.int .i64 0,.string ⟨#[]⟩,.int .i64 0,.int .i64 0,.string ⟨#[]⟩,.int .i64 0],.bool false,.int .i64 (z18 ⟨t,b,c⟩ id ⟨kk,kn,ks⟩ now).2]) ⟨rfl,bel⟩
end Go.Proofs.YtldhlpjjcnlbcaaGreat
