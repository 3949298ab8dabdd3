/- (*motor).lookup. (printed by mkeng2.py) -/
import Derived.Test.YtldhlpjjcnlbcaaGreatCall6
import Derived.Test.YtldhlpjjcnlbcaaGreatCall3
set_option maxRecDepth 100000
set_option maxHeartbeats 8000000
namespace Go.Proofs.YtldhlpjjcnlbcaaGreat
open Go.RowKit
def CBOX (w:World)(g:Nat):Prop:=w.cell? ⟨g,0,none⟩=some (.int .i64 0)/\(w.cell? ⟨g,1,none⟩=some (.int .i64 0)/\(w.cell? ⟨g,2,none⟩=some (.int .i64 0)/\(w.cell? ⟨g,3,none⟩=some (.int .i64 0)/\(w.cell? ⟨g,4,none⟩=some (.int .i64 0)/\(w.cell? ⟨g,5,none⟩=some (.string ⟨#[]⟩)/\(w.cell? ⟨g,6,none⟩=some (.int .i64 0)/\(w.cell? ⟨g,7,none⟩=some (.int .i64 0)/\(w.cell? ⟨g,8,none⟩=some (.string ⟨#[]⟩)/\(w.cell? ⟨g,9,none⟩=some (.int .i64 0)/\(w.frozen? ⟨g,0,none⟩=false/\(w.frozen? ⟨g,1,none⟩=false/\(w.frozen? ⟨g,2,none⟩=false/\(w.frozen? ⟨g,3,none⟩=false/\(w.frozen? ⟨g,4,none⟩=false/\(w.frozen? ⟨g,5,none⟩=false/\(w.frozen? ⟨g,6,none⟩=false/\(w.frozen? ⟨g,7,none⟩=false/\(w.frozen? ⟨g,8,none⟩=false/\w.frozen? ⟨g,9,none⟩=false))))))))))))))))))
theorem CBOX.lt {w:World}{g:Nat}(h:CBOX w g):g<w.heap.size:=block_lt_of_cell h.1
theorem CBOX.keep {w w':World}{g:Nat}(h:CBOX w g)(hb:Below w.heap.size w w'):CBOX w' g :=
 ⟨(cob g 0 (hb.block g h.lt)).trans h.1,(cob g 1 (hb.block g h.lt)).trans h.2.1,(cob g 2 (hb.block g h.lt)).trans h.2.2.1,(cob g 3 (hb.block g h.lt)).trans h.2.2.2.1,(cob g 4 (hb.block g h.lt)).trans h.2.2.2.2.1,(cob g 5 (hb.block g h.lt)).trans h.2.2.2.2.2.1,(cob g 6 (hb.block g h.lt)).trans h.2.2.2.2.2.2.1,(cob g 7 (hb.block g h.lt)).trans h.2.2.2.2.2.2.2.1,(cob g 8 (hb.block g h.lt)).trans h.2.2.2.2.2.2.2.2.1,(cob g 9 (hb.block g h.lt)).trans h.2.2.2.2.2.2.2.2.2.1,(fob g 0 (hb.block g h.lt)).trans h.2.2.2.2.2.2.2.2.2.2.1,(fob g 1 (hb.block g h.lt)).trans h.2.2.2.2.2.2.2.2.2.2.2.1,(fob g 2 (hb.block g h.lt)).trans h.2.2.2.2.2.2.2.2.2.2.2.2.1,(fob g 3 (hb.block g h.lt)).trans h.2.2.2.2.2.2.2.2.2.2.2.2.2.1,(fob g 4 (hb.block g h.lt)).trans h.2.2.2.2.2.2.2.2.2.2.2.2.2.2.1,(fob g 5 (hb.block g h.lt)).trans h.2.2.2.2.2.2.2.2.2.2.2.2.2.2.2.1,(fob g 6 (hb.block g h.lt)).trans h.2.2.2.2.2.2.2.2.2.2.2.2.2.2.2.2.1,(fob g 7 (hb.block g h.lt)).trans h.2.2.2.2.2.2.2.2.2.2.2.2.2.2.2.2.2.1,(fob g 8 (hb.block g h.lt)).trans h.2.2.2.2.2.2.2.2.2.2.2.2.2.2.2.2.2.2.1,(fob g 9 (hb.block g h.lt)).trans h.2.2.2.2.2.2.2.2.2.2.2.2.2.2.2.2.2.2.2⟩
theorem eb10 {w w':World}{g:Nat}{v0 v1 v2 v3 v4 v5 v6 v7 v8 v9:Value}(hb:w'.heap[g]?=w.heap[g]?)(h:w.cell? ⟨g,0,none⟩=some v0/\w.cell? ⟨g,1,none⟩=some v1/\w.cell? ⟨g,2,none⟩=some v2/\w.cell? ⟨g,3,none⟩=some v3/\w.cell? ⟨g,4,none⟩=some v4/\w.cell? ⟨g,5,none⟩=some v5/\w.cell? ⟨g,6,none⟩=some v6/\w.cell? ⟨g,7,none⟩=some v7/\w.cell? ⟨g,8,none⟩=some v8/\w.cell? ⟨g,9,none⟩=some v9):w'.cell? ⟨g,0,none⟩=some v0/\w'.cell? ⟨g,1,none⟩=some v1/\w'.cell? ⟨g,2,none⟩=some v2/\w'.cell? ⟨g,3,none⟩=some v3/\w'.cell? ⟨g,4,none⟩=some v4/\w'.cell? ⟨g,5,none⟩=some v5/\w'.cell? ⟨g,6,none⟩=some v6/\w'.cell? ⟨g,7,none⟩=some v7/\w'.cell? ⟨g,8,none⟩=some v8/\w'.cell? ⟨g,9,none⟩=some v9:=by
 simpa only[fun k=>cob g k hb] using h
theorem fb10 {w w':World}{g:Nat}(hb:w'.heap[g]?=w.heap[g]?)(h:w.frozen? ⟨g,0,none⟩=false/\w.frozen? ⟨g,1,none⟩=false/\w.frozen? ⟨g,2,none⟩=false/\w.frozen? ⟨g,3,none⟩=false/\w.frozen? ⟨g,4,none⟩=false/\w.frozen? ⟨g,5,none⟩=false/\w.frozen? ⟨g,6,none⟩=false/\w.frozen? ⟨g,7,none⟩=false/\w.frozen? ⟨g,8,none⟩=false/\w.frozen? ⟨g,9,none⟩=false):w'.frozen? ⟨g,0,none⟩=false/\w'.frozen? ⟨g,1,none⟩=false/\w'.frozen? ⟨g,2,none⟩=false/\w'.frozen? ⟨g,3,none⟩=false/\w'.frozen? ⟨g,4,none⟩=false/\w'.frozen? ⟨g,5,none⟩=false/\w'.frozen? ⟨g,6,none⟩=false/\w'.frozen? ⟨g,7,none⟩=false/\w'.frozen? ⟨g,8,none⟩=false/\w'.frozen? ⟨g,9,none⟩=false:=by
 simpa only[fun k=>fob g k hb] using h
def RBOX (w:World)(g:Nat):Prop:=(w.cell? ⟨g,0,none⟩=some (.slice none 0 0)/\w.cell? ⟨g,1,none⟩=some (.slice none 0 0)/\w.cell? ⟨g,2,none⟩=some (.int .i64 0)/\w.cell? ⟨g,3,none⟩=some (.int .i64 0)/\w.cell? ⟨g,4,none⟩=some (.int .i64 0)/\w.cell? ⟨g,5,none⟩=some (.slice none 0 0)/\w.cell? ⟨g,6,none⟩=some (.slice none 0 0)/\w.cell? ⟨g,7,none⟩=some (.slice none 0 0)/\w.cell? ⟨g,8,none⟩=some (.int .i64 0)/\w.cell? ⟨g,9,none⟩=some (.int .i64 0))/\w.frozen? ⟨g,0,none⟩=false/\w.frozen? ⟨g,1,none⟩=false/\w.frozen? ⟨g,2,none⟩=false/\w.frozen? ⟨g,3,none⟩=false/\w.frozen? ⟨g,4,none⟩=false/\w.frozen? ⟨g,5,none⟩=false/\w.frozen? ⟨g,6,none⟩=false/\w.frozen? ⟨g,7,none⟩=false/\w.frozen? ⟨g,8,none⟩=false/\w.frozen? ⟨g,9,none⟩=false
theorem RBOX.block {w w':World}{g:Nat}(h:RBOX w g)(hb:w'.heap[g]?=w.heap[g]?):RBOX w' g:=⟨eb10 hb h.1,fb10 hb h.2⟩
theorem RBOX.lt {w:World}{g:Nat}(h:RBOX w g):g<w.heap.size:=block_lt_of_cell h.1.1
theorem bel10 {B g:Nat}{w u:World}{v0 v1 v2 v3 v4 v5 v6 v7 v8 v9:Value}(h:Below B w u)(hg:B<=g):Below B w ((((((((((u.setCell ⟨g,0,none⟩ v0).setCell ⟨g,1,none⟩ v1).setCell ⟨g,2,none⟩ v2).setCell ⟨g,3,none⟩ v3).setCell ⟨g,4,none⟩ v4).setCell ⟨g,5,none⟩ v5).setCell ⟨g,6,none⟩ v6).setCell ⟨g,7,none⟩ v7).setCell ⟨g,8,none⟩ v8).setCell ⟨g,9,none⟩ v9) :=
 z03 (z03 (z03 (z03 (z03 (z03 (z03 (z03 (z03 (z03 h hg) hg) hg) hg) hg) hg) hg) hg) hg) hg
abbrev CL (w:World)(g:Nat)(c:Cll):Prop:=w.cell? ⟨g,0,none⟩=some (.int .i64 c.state)/\(w.cell? ⟨g,1,none⟩=some (.int .i64 c.id)/\(w.cell? ⟨g,2,none⟩=some (.int .i64 c.tries)/\(w.cell? ⟨g,3,none⟩=some (.int .i64 c.key.k)/\(w.cell? ⟨g,4,none⟩=some (.int .i64 c.key.n)/\(w.cell? ⟨g,5,none⟩=some (.string c.key.s)/\(w.cell? ⟨g,6,none⟩=some (.int .i64 c.has.k)/\(w.cell? ⟨g,7,none⟩=some (.int .i64 c.has.n)/\(w.cell? ⟨g,8,none⟩=some (.string c.has.s)/\w.cell? ⟨g,9,none⟩=some (.int .i64 c.next)))))))))
abbrev CLr (w:World)(g o:Nat)(c:Cll):Prop:=w.cell? ⟨g,o,none⟩=some (.int .i64 c.state)/\(w.cell? ⟨g,o+1,none⟩=some (.int .i64 c.id)/\(w.cell? ⟨g,o+2,none⟩=some (.int .i64 c.tries)/\(w.cell? ⟨g,o+3,none⟩=some (.int .i64 c.key.k)/\(w.cell? ⟨g,o+4,none⟩=some (.int .i64 c.key.n)/\(w.cell? ⟨g,o+5,none⟩=some (.string c.key.s)/\(w.cell? ⟨g,o+6,none⟩=some (.int .i64 c.has.k)/\(w.cell? ⟨g,o+7,none⟩=some (.int .i64 c.has.n)/\(w.cell? ⟨g,o+8,none⟩=some (.string c.has.s)/\w.cell? ⟨g,o+9,none⟩=some (.int .i64 c.next)))))))))
theorem CL.keep {w w':World}{g:Nat}{c:Cll}(h:CL w g c)(hb:Below w.heap.size w w'):CL w' g c:=eb10 (hb.block g (block_lt_of_cell h.1)) h
theorem CLr.keep {w w':World}{g o:Nat}{c:Cll}(h:CLr w g o c)(hb:Below w.heap.size w w'):CLr w' g o c:=by
 unfold CLr at h ⊢
 simpa only[fun k=>cob g k (hb.block g (block_lt_of_cell h.1))] using h
theorem z99 (l:List Cll)(k:Nat)(c:Cll)(hk:k<l.length) :
  ((((((((((l.flatMap Cll.cs).set (k*10) (.int .i64 c.state)).set (k*10+1) (.int .i64 c.id)).set (k*10+2) (.int .i64 c.tries)).set (k*10+3) (.int .i64 c.key.k)).set (k*10+4) (.int .i64 c.key.n)).set (k*10+5) (.string c.key.s)).set (k*10+6) (.int .i64 c.has.k)).set (k*10+7) (.int .i64 c.has.n)).set (k*10+8) (.string c.has.s)).set (k*10+9) (.int .i64 c.next)=(l.set k c).flatMap Cll.cs:=by
 have e:l=l.take k++l[k]::l.drop (k+1):=by rw[List.getElem_cons_drop,List.take_append_drop]
 have hlen:((l.take k).flatMap Cll.cs).length=k*10:=by rw[z0w _ 10 lenCll,List.length_take,Nat.min_eq_left (by omega)]
 have e1:l.flatMap Cll.cs=(l.take k).flatMap Cll.cs++(l[k].cs++(l.drop (k+1)).flatMap Cll.cs):=by
  conv=>lhs;rw[e]
  rw[List.flatMap_append,List.flatMap_cons]
 have e2:(l.set k c).flatMap Cll.cs=(l.take k).flatMap Cll.cs++(c.cs++(l.drop (k+1)).flatMap Cll.cs):=by
  rw[List.set_eq_take_append_cons_drop,if_pos hk,List.flatMap_append,List.flatMap_cons]
 rw[e1,e2]
 generalize (l.take k).flatMap Cll.cs=L at *
 generalize (l.drop (k+1)).flatMap Cll.cs=R at *
 rw[List.set_append_right _ _ (by omega),List.set_append_right _ _ (by omega),List.set_append_right _ _ (by omega),List.set_append_right _ _ (by omega),List.set_append_right _ _ (by omega),List.set_append_right _ _ (by omega),List.set_append_right _ _ (by omega),List.set_append_right _ _ (by omega),List.set_append_right _ _ (by omega),List.set_append_right _ _ (by omega),hlen]
 have a0:k*10-k*10=0:=by omega
 have a1:k*10+1-k*10=1:=by omega
 have a2:k*10+2-k*10=2:=by omega
 have a3:k*10+3-k*10=3:=by omega
 have a4:k*10+4-k*10=4:=by omega
 have a5:k*10+5-k*10=5:=by omega
 have a6:k*10+6-k*10=6:=by omega
 have a7:k*10+7-k*10=7:=by omega
 have a8:k*10+8-k*10=8:=by omega
 have a9:k*10+9-k*10=9:=by omega
 rw[a0,a1,a2,a3,a4,a5,a6,a7,a8,a9]
 simp[Cll.cs]
def tLast (r:Cll×Bool×Int)(last:Int):Int:=if r.2.1=true then last+1 else last
def tN (r:Cll×Bool×Int)(n:Nat):Nat:=if r.2.1=true then n+1 else n
def tLs (r:Cll×Bool×Int)(nm:ByteArray)(ls:List Ltr):List Ltr:=if r.2.1=true then ls++[Ltr.mk nm r.1.id r.1.key noVal] else ls
theorem t_no {r:Cll×Bool×Int}(h:r.2.1=false)(last:Int)(n:Nat)(nm:ByteArray)(ls:List Ltr):tLast r last=last/\tN r n=n/\tLs r nm ls=ls:=by unfold tLast tN tLs;rw[h];exact⟨rfl,rfl,rfl⟩
theorem t_yes {r:Cll×Bool×Int}(h:r.2.1=true)(last:Int)(n:Nat)(nm:ByteArray)(ls:List Ltr):tLast r last=last+1/\tN r n=n+1/\tLs r nm ls=ls++[Ltr.mk nm r.1.id r.1.key noVal]:=by unfold tLast tN tLs;rw[h];exact⟨rfl,rfl,rfl⟩
theorem zfa {w W W9:World}{M:Nat}{fv pv:Value}{p:Pol}{iv vv:Value}{now last:Int}{gc m cc base nl:Nat}{cs:List Cll}{ls:List Ltr}{lv lv':Value}
  (h1:MotC W M fv pv p iv (.slice (some ⟨gc,0,none⟩) m cc) vv now last lv')(h2:MotF W M)(h3:W.ownsRow base 62 10 (.slice (some ⟨gc,0,none⟩) m cc) m (cs.flatMap Cll.cs))(h4:W.ownsRow base 48 8 lv' nl (ls.flatMap Ltr.cs))
  (h5:∀ b,b<w.heap.size->b≠M->b≠gc->some b≠lv.ownBlock->W.heap[b]?=w.heap[b]?)(h6:lv'.ownBlock=lv.ownBlock\/∃ k,lv'.ownBlock=some k/\w.heap.size<=k)(h7:∀ B,B<=M->B<=base->Below B w W)
  (hM:M<w.heap.size)(hg:gc<w.heap.size)(hl:∀ q,lv'.ownBlock=some q->q≠w.heap.size+1)(hk:∀ bb:Nat,bb≠w.heap.size+1->W9.heap[bb]?=W.heap[bb]?)(hb:∀ B,B<=w.heap.size+1->Below B W W9) :
  ∃ lv',MotC W9 M fv pv p iv (.slice (some ⟨gc,0,none⟩) m cc) vv now last lv'/\MotF W9 M/\W9.ownsRow base 62 10 (.slice (some ⟨gc,0,none⟩) m cc) m (cs.flatMap Cll.cs)/\W9.ownsRow base 48 8 lv' nl (ls.flatMap Ltr.cs) /\
   (∀ b,b<w.heap.size->b≠M->b≠gc->some b≠lv.ownBlock->W9.heap[b]?=w.heap[b]?)/\(lv'.ownBlock=lv.ownBlock\/∃ k,lv'.ownBlock=some k/\w.heap.size<=k)/\(∀ B,B<=M->B<=base->Below B w W9) :=
 ⟨lv',h1.block (hk M (by omega)),h2.block (hk M (by omega)),z09 h3 (fun q hq _=>by have e:gc=q:=Option.some.inj hq;subst e;exact hk _ (by omega)),z09 h4 (fun q hq _=>hk q (hl q hq)),fun b hb1 hb2 hb3 hb4=>(hk b (by omega)).trans (h5 b hb1 hb2 hb3 hb4),h6,fun B h h'=>(h7 B h h').trans (hb B (by omega))⟩
theorem zgc (M i m d:Nat)(F:List Fld)(fb fo:Nat)(S:Nat -> Prop)(pv:Value)(p:Pol)(iv:Value)(gc cc:Nat)(cs:List Cll)(vv:Value)(now last:Int)(lv:Value)(nl:Nat)(ls:List Ltr)(base:Nat)(key:Val)(w:World)
  (hC:MotC w M (.slice (some ⟨fb,fo,none⟩) m d) pv p iv (.slice (some ⟨gc,0,none⟩) m cc) vv now last lv)(hF:MotF w M)(hS:Sl w S 9 (RFld w S) (some ⟨fb,fo,none⟩) m F)(hSo:∀ b,S b->b<w.heap.size)(hSM:¬ S M)(hSg:¬ S gc)(hSl:∀ q,lv.ownBlock=some q->¬ S q)(h14:m<=14)
  (hcs:w.ownsRow base 62 10 (.slice (some ⟨gc,0,none⟩) m cc) m (cs.flatMap Cll.cs))(hls:w.ownsRow base 48 8 lv nl (ls.flatMap Ltr.cs))(hnl:nl<=99)(hi:i<m)(f:Fld)(hf:(F)[i]?=some f)(c:Cll)(hc:cs[i]?=some c)
  (hM:lv.ownBlock≠some M)(hg:lv.ownBlock≠some gc)(hMg:M≠gc)(hbM:base<=w.heap.size)(hok:z07 c p=0)(hlast:0<=last/\last+1<=1073741824)(hnow:0<=now/\now<=1073741824)(hkey:valCheck key=0)
  (r:Cll×Bool×Int)(hr:r=z1p c p (last+1) key now) :
  Calls Tryz.prog 72 #[.pointer (some ⟨M,0,none⟩),.int .i64 (i:Int),.agg #[.int .i64 key.k,.int .i64 key.n,.string key.s]] w fun e w'=>e=.returned (.agg #[.int .i64 (valE key r.1).k,.int .i64 (valE key r.1).n,.string (valE key r.1).s])/\∃ lv',
   MotC w' M (.slice (some ⟨fb,fo,none⟩) m d) pv p iv (.slice (some ⟨gc,0,none⟩) m cc) vv now (tLast r last) lv'/\MotF w' M/\w'.ownsRow base 62 10 (.slice (some ⟨gc,0,none⟩) m cc) m ((cs.set i r.1).flatMap Cll.cs) /\
   w'.ownsRow base 48 8 lv' (tN r nl) ((tLs r f.name ls).flatMap Ltr.cs)/\(∀ b,b<w.heap.size->b≠M->b≠gc->some b≠lv.ownBlock->w'.heap[b]?=w.heap[b]?)/\(lv'.ownBlock=lv.ownBlock\/∃ k,lv'.ownBlock=some k/\w.heap.size<=k)/\(∀ B,B<=M->B<=base->Below B w w'):=by
 obtain⟨y0,y1,y2,y3,y4,y5,y6,y7,y8,y9⟩:=z5q hcs hc hi
 have hyc:CLr w gc (i*10) c:=z5q hcs hc hi
 have hii:(i:Int)<(m:Int):=by omega
 have hlm:=hC.lt
 have hgcl:gc<w.heap.size:=block_lt_of_cell y0
 have ht:=zfn (id:=last+1) hok (by omega) hnow hkey
 rw[<-hr] at ht
 have hcw:=zar hok
 have hkw:=z48 hkey
 have htu:=fun w=>zcs c.state c.id c.tries c.key.k c.key.n c.key.s c.has.k c.has.n c.has.s c.next p.tries p.base p.cap (last+1) key.k key.n key.s now w (z0s hcw.2.2.2.1.2.2) (z0s hcw.2.2.2.2.1.2.2) (z0s hkw.2.2)
 simp only at htu
 rw[show z1p ⟨c.state,c.id,c.tries,⟨c.key.k,c.key.n,c.key.s⟩,⟨c.has.k,c.has.n,c.has.s⟩,c.next⟩ ⟨p.tries,p.base,p.cap⟩ (last+1) ⟨key.k,key.n,key.s⟩ now=r from hr.symm] at htu
 have hwl:IntKind.i64.wrap (last+1)=last+1:=IntWalk.i64_in _ (by omega)
 have hcel:=hC
 obtain⟨z0,z1,z2,z3,z4,z5,z6,z7,z8,z9,z10⟩:=hcel
 have HSS:=zh (show ∀ y:World,Below w.heap.size w y->y.cell? ⟨w.heap.size,0,none⟩=some (.int .i64 key.k)->y.cell? ⟨w.heap.size,1,none⟩=some (.int .i64 key.n)->y.cell? ⟨w.heap.size,2,none⟩=some (.string key.s)->(y.cell? ⟨M,6,none⟩=some (.slice (some ⟨gc,0,none⟩) m cc)/\(y.cell? ⟨M,2,none⟩=some (.int .i64 p.tries)/\(y.cell? ⟨M,3,none⟩=some (.int .i64 p.base)/\(y.cell? ⟨M,4,none⟩=some (.int .i64 p.cap)/\(y.cell? ⟨M,9,none⟩=some (.int .i64 last)/\(y.cell? ⟨M,8,none⟩=some (.int .i64 now)/\(CLr y gc (i*10) c/\(y.cell? ⟨w.heap.size,0,none⟩=some (.int .i64 key.k)/\(y.cell? ⟨w.heap.size,1,none⟩=some (.int .i64 key.n)/\y.cell? ⟨w.heap.size,2,none⟩=some (.string key.s)))))))))) from fun y h k0 k1 k2=>⟨z00 z6 h,z00 z2 h,z00 z3 h,z00 z4 h,z00 z9 h,z00 z8 h,hyc.keep h,k0,k1,k2⟩)
 have hcsl:cs.length=m:=by
  have h:=hcs.1
  rw[z0w _ 10 lenCll] at h
  omega
 have HC:=zh (ai hC (ai hF (ai hcs (ai hls (ai hM hg)))))
 have HT:=zh (ai hr ht)
 clear hyc hC hF hcs hls hM hg hr ht y0 y1 y2 y3 y4 y5 y6 y7 y8 y9 z0 z1 z2 z3 z4 z5 z6 z7 z8 z9 z10
 go_enter Tryz.func72,Tryz.ntmps72
 go_upto_region 1 with fail
 refine z0k ?_;intro W0 hW0
 have hB0:Below w.heap.size w W0:=by rw[hW0];exact bel
 have k0:W0.cell? ⟨w.heap.size,0,none⟩=some (.int .i64 key.k):=by rw[hW0];go_simp
 have k1:W0.cell? ⟨w.heap.size,1,none⟩=some (.int .i64 key.n):=by rw[hW0];go_simp
 have k2:W0.cell? ⟨w.heap.size,2,none⟩=some (.string key.s):=by rw[hW0];go_simp
 have r0:W0.cell? ⟨w.heap.size+1,0,none⟩=some (.int .i64 0):=by rw[hW0];go_simp
 have r1:W0.cell? ⟨w.heap.size+1,1,none⟩=some (.int .i64 0):=by rw[hW0];go_simp
 have r2:W0.cell? ⟨w.heap.size+1,2,none⟩=some (.string ⟨#[]⟩):=by rw[hW0];go_simp
 have s0:W0.frozen? ⟨w.heap.size+1,0,none⟩=false:=by rw[hW0];go_simp
 have s1:W0.frozen? ⟨w.heap.size+1,1,none⟩=false:=by rw[hW0];go_simp
 have s2:W0.frozen? ⟨w.heap.size+1,2,none⟩=false:=by rw[hW0];go_simp
 have hz0:w.heap.size+1<W0.heap.size:=by rw[hW0];simp
 clear hW0
 go_cut [7,8] (fun s7 s8 wx=>∃ g4:Nat,s7=.pointer (some ⟨g4,0,none⟩)/\s8=.bool r.2.1/\W0.heap.size<=g4/\CL wx g4 r.1/\Below W0.heap.size W0 wx)
 case first =>
  refine z0k ?_;intro u0' hu0'
  obtain⟨u0,hu0⟩:∃ y,y=u0'.drew:=⟨_,rfl⟩
  have hY0:Below W0.heap.size W0 u0:=by rw[hu0,hu0'];exact (Below.refl _ _).drew
  have HS2:=zh (show ∀ y:World,Below W0.heap.size W0 y->(y.cell? ⟨M,6,none⟩=some (.slice (some ⟨gc,0,none⟩) m cc)/\(y.cell? ⟨M,2,none⟩=some (.int .i64 p.tries)/\(y.cell? ⟨M,3,none⟩=some (.int .i64 p.base)/\(y.cell? ⟨M,4,none⟩=some (.int .i64 p.cap)/\(y.cell? ⟨M,9,none⟩=some (.int .i64 last)/\(y.cell? ⟨M,8,none⟩=some (.int .i64 now)/\(CLr y gc (i*10) c/\(y.cell? ⟨w.heap.size,0,none⟩=some (.int .i64 key.k)/\(y.cell? ⟨w.heap.size,1,none⟩=some (.int .i64 key.n)/\y.cell? ⟨w.heap.size,2,none⟩=some (.string key.s)))))))))) from fun y h=>HSS.out y (z01 hB0 h hB0.size) (z00 k0 h) (z00 k1 h) (z00 k2 h))
  have hS0:=HS2.out u0 hY0
  refine z0r (fun w'=>w'.cell? ⟨M,6,none⟩=some (.slice (some ⟨gc,0,none⟩) m cc)/\(w'.cell? ⟨M,2,none⟩=some (.int .i64 p.tries)/\(w'.cell? ⟨M,3,none⟩=some (.int .i64 p.base)/\(w'.cell? ⟨M,4,none⟩=some (.int .i64 p.cap)/\(w'.cell? ⟨M,9,none⟩=some (.int .i64 last)/\(w'.cell? ⟨M,8,none⟩=some (.int .i64 now)/\(CLr w' gc (i*10) c/\(w'.cell? ⟨w.heap.size,0,none⟩=some (.int .i64 key.k)/\(w'.cell? ⟨w.heap.size,1,none⟩=some (.int .i64 key.n)/\w'.cell? ⟨w.heap.size,2,none⟩=some (.string key.s)))))))))) 33 (by kernel_rfl) ?_
  rw[<-hu0]
  clear hu0' hu0 k0 k1 k2 r0 r1 r2 s0 s1 s2
  refine zt 0 hS0 ?_
  simp only[Act.put,pq]
  refine zt 1 hS0 ?_
  simp only[Act.put,pq]
  refine zt 2 hS0 ?_
  simp only[Act.put,pq]
  refine zt 3 hS0 ?_
  simp only[Act.put,pq]
  refine zt 4 hS0 ?_
  simp only[Act.put,pq]
  refine zt 5 hS0 ?_
  simp only[Act.put,pq]
  refine zt 6 hS0 ?_
  simp only[Act.put,pq]
  refine zt 7 hS0 ?_
  simp only[Act.put,pq]
  refine zt 8 hS0 ?_
  simp only[Act.put,pq]
  refine zt 9 hS0 ?_
  simp only[Act.put,pq]
  refine zt 10 hS0 ?_
  simp only[Act.put,pq]
  refine zt 11 hS0 ?_
  simp only[Act.put,pq]
  refine zt 12 hS0 ?_
  simp only[Act.put,pq]
  refine zt 13 hS0 ?_
  simp only[Act.put,pq]
  refine zt 14 hS0 ?_
  simp only[Act.put,pq]
  refine zt 15 hS0 ?_
  simp only[Act.put,pq]
  refine zt 16 hS0 ?_
  simp only[Act.put,pq]
  refine zt 17 hS0 ?_
  simp only[Act.put,pq]
  refine zt 18 hS0 ?_
  simp only[Act.put,pq]
  refine zt 19 hS0 ?_
  simp only[Act.put,pq]
  refine zt 20 hS0 ?_
  simp only[Act.put,pq]
  refine zt 21 hS0 ?_
  simp only[Act.put,pq]
  refine zt 22 hS0 ?_
  simp only[Act.put,pq]
  refine zt 23 hS0 ?_
  simp only[Act.put,pq]
  refine zt 24 hS0 ?_
  simp only[Act.put,pq]
  refine z2s (i:=25) (j:=30) (o:=_) (p:=_) rfl rfl (by kernel_rfl) (fun K hK=>?_) (fun K hK=>?_)
  ·go_simp
   go_at_call 121;refine (htu _).mono ?_;rintro e u1 ⟨rfl,hb1⟩
   have hY1:=z01 hY0 hb1 hY0.size
   have hS1:=HS2.out u1 hY1
   refine hK.out _ _ (fun _=>hS1) ?_
   clear hK K
   try simp only[Act.put,pq]
   refine zt 26 hS1 ?_
   simp only[Act.put,pq]
   refine zt 27 hS1 ?_
   simp only[Act.put,pq]
   refine zt 28 hS1 ?_
   simp only[Act.put,pq]
   refine zt 29 hS1 ?_
   simp only[Act.put,pq]
   refine z06 (i:=30) (o:=_) rfl (by kernel_rfl) (fun K hK=>?_)
   go_simp
   obtain⟨u2,hu2⟩:∃ y,y=u1.alloc (.cells #[.int .i64 0,.int .i64 0,.int .i64 0,.int .i64 0,.int .i64 0,.string ⟨#[]⟩,.int .i64 0,.int .i64 0,.string ⟨#[]⟩,.int .i64 0] 62):=⟨_,rfl⟩
   rw[<-hu2]
   have hb2:Below u1.heap.size u1 u2:=by rw[hu2];exact (Below.refl _ _).alloc (nr _) _
   have hY2:=z01 hY1 hb2 hY1.size
   have hS2:=HS2.out u2 hY2
   have hG2:CBOX u2 u1.heap.size:=by rw[hu2];and_intros<;>go_simp
   clear hu2
   refine hK.out _ _ (fun _=>hS2) ?_
   clear hK K
   try simp only[Act.put,pq]
   have hgl:u1.heap.size<u2.heap.size:=hG2.lt
   obtain⟨l0,l1,l2,l3,l4,l5,l6,l7,l8,l9,n0,n1,n2,n3,n4,n5,n6,n7,n8,n9⟩:=hG2
   refine z06 (i:=31) (o:=_) rfl (by kernel_rfl) (fun K hK=>?_)
   go_simp
   refine hK.out _ _ (fun _=>HS2.out _ (bel10 hY2 (show W0.heap.size<=u1.heap.size from hY1.size))) ?_
   clear hK K
   try simp only[Act.put,pq]
   refine z06 (i:=32) (o:=_) rfl (by kernel_rfl) (fun K hK=>?_)
   go_simp
   refine hK.out _ _ (fun _=>HS2.out _ (bel10 hY2 (show W0.heap.size<=u1.heap.size from hY1.size))) ?_
   clear hK K
   try simp only[Act.put,pq]
   refine z06 (i:=33) (o:=_) rfl (by kernel_rfl) (fun K hK=>?_)
   go_simp
   refine hK.out _ _ (fun h=>absurd h (by decide)) ?_
   clear hK K
   refine z0f (by kernel_rfl) ?_ _
   try simp only[Act.put,pq]
   go_wp2_with fail
   go_meet
   refine⟨u1.heap.size,rfl,rfl,(show W0.heap.size<=u1.heap.size from hY1.size),(by and_intros<;>go_simp),bel10 hY2 (show W0.heap.size<=u1.heap.size from hY1.size)⟩
  go_simp
  obtain⟨u1,hu1⟩:∃ y,y=u0.alloc (.cells #[.int .i64 0,.int .i64 0,.int .i64 0,.int .i64 0,.int .i64 0,.string ⟨#[]⟩,.int .i64 0,.int .i64 0,.string ⟨#[]⟩,.int .i64 0] 62):=⟨_,rfl⟩
  rw[<-hu1]
  have hb1:Below u0.heap.size u0 u1:=by rw[hu1];exact (Below.refl _ _).alloc (nr _) _
  have hY1:=z01 hY0 hb1 hY0.size
  have hS1:=HS2.out u1 hY1
  have hG1:CBOX u1 u0.heap.size:=by rw[hu1];and_intros<;>go_simp
  clear hu1
  refine hK.out _ _ (fun _=>hS1) ?_
  clear hK K
  try simp only[Act.put,pq]
  refine z06 (i:=25) (o:=_) rfl (by kernel_rfl) (fun K hK=>?_)
  go_simp
  go_at_call 121;refine (htu _).mono ?_;rintro e u2 ⟨rfl,hb2⟩
  have hY2:=z01 hY1 hb2 hY1.size
  have hS2:=HS2.out u2 hY2
  have hG2:=hG1.keep hb2
  refine hK.out _ _ (fun _=>hS2) ?_
  clear hK K
  try simp only[Act.put,pq]
  refine zt 26 hS2 ?_
  simp only[Act.put,pq]
  refine zt 27 hS2 ?_
  simp only[Act.put,pq]
  refine zt 28 hS2 ?_
  simp only[Act.put,pq]
  refine zt 29 hS2 ?_
  simp only[Act.put,pq]
  have hgl:u0.heap.size<u2.heap.size:=hG2.lt
  obtain⟨l0,l1,l2,l3,l4,l5,l6,l7,l8,l9,n0,n1,n2,n3,n4,n5,n6,n7,n8,n9⟩:=hG2
  refine z06 (i:=31) (o:=_) rfl (by kernel_rfl) (fun K hK=>?_)
  go_simp
  refine hK.out _ _ (fun _=>HS2.out _ (bel10 hY2 (show W0.heap.size<=u0.heap.size from hY0.size))) ?_
  clear hK K
  try simp only[Act.put,pq]
  refine z06 (i:=32) (o:=_) rfl (by kernel_rfl) (fun K hK=>?_)
  go_simp
  refine hK.out _ _ (fun _=>HS2.out _ (bel10 hY2 (show W0.heap.size<=u0.heap.size from hY0.size))) ?_
  clear hK K
  try simp only[Act.put,pq]
  refine z06 (i:=33) (o:=_) rfl (by kernel_rfl) (fun K hK=>?_)
  go_simp
  refine hK.out _ _ (fun h=>absurd h (by decide)) ?_
  clear hK K
  refine z0f (by kernel_rfl) ?_ _
  try simp only[Act.put,pq]
  go_wp2_with fail
  go_meet
  refine⟨u0.heap.size,rfl,rfl,(show W0.heap.size<=u0.heap.size from hY0.size),(by and_intros<;>go_simp),bel10 hY2 (show W0.heap.size<=u0.heap.size from hY0.size)⟩
 case rest =>
  obtain⟨g4,rfl,rfl,hg4,hL,hb⟩:=hcut
  have hzc:=hb.size
  have hB1:Below w.heap.size w wc:=z01 hB0 hb hB0.size
  have hg4w:g4<wc.heap.size:=block_lt_of_cell hL.1
  have hL':=hL
  obtain⟨q0,q1,q2,q3,q4,q5,q6,q7,q8,q9⟩:=hL'
  have hL0:=hL
  have HW:=zh (ai hL (ai hB1 (ai hb (ai (ai (z00 k0 hb) (ai (z00 k1 hb) (z00 k2 hb))) (ai r0 (ai r1 (ai r2 (ai s0 (ai s1 s2)))))))))
  have z6:wc.cell? ⟨M,6,none⟩=some (.slice (some ⟨gc,0,none⟩) m cc):=z00 HC.out.1.2.2.2.2.2.2.1 hB1
  clear hL r0 r1 r2 s0 s1 s2 k0 k1 k2 HSS htu
  go_upto_region 2 with fail
  refine z0k ?_;intro u0' hu0'
  obtain⟨u0,hu0⟩:∃ y,y=u0'.drew:=⟨_,rfl⟩
  have hY0:Below wc.heap.size wc u0:=by rw[hu0,hu0'];exact (Below.refl _ _).drew
  have hS0:u0.cell? ⟨M,6,none⟩=some (.slice (some ⟨gc,0,none⟩) m cc)/\CL u0 g4 r.1:=⟨z00 z6 hY0,hL0.keep hY0⟩
  refine z0r (fun w'=>w'.cell? ⟨M,6,none⟩=some (.slice (some ⟨gc,0,none⟩) m cc)/\CL w' g4 r.1) 8 (by kernel_rfl) ?_
  rw[<-hu0]
  clear hu0' hu0 hL0 z6 q0 q1 q2 q3 q4 q5 q6 q7 q8 q9
  refine zt 0 hS0 ?_
  simp only[Act.put,pq]
  refine zt 1 hS0 ?_
  simp only[Act.put,pq]
  refine zt 2 hS0 ?_
  simp only[Act.put,pq]
  refine zt 3 hS0 ?_
  simp only[Act.put,pq]
  refine zt 4 hS0 ?_
  simp only[Act.put,pq]
  refine zt 5 hS0 ?_
  simp only[Act.put,pq]
  refine zt 6 hS0 ?_
  simp only[Act.put,pq]
  refine zt 7 hS0 ?_
  simp only[Act.put,pq]
  refine z06 (i:=8) (o:=_) rfl (by kernel_rfl) (fun K hK=>?_)
  have ho0:=z04 HC.out.2.2.1 (z01 hB1 hY0 hB1.size)
  obtain⟨e0,e1,e2,e3,e4,e5,e6,e7,e8,e9⟩:=z5q ho0 hc hi
  have f0:=ho0.frozenAt (i*10)
  have f1:=ho0.frozenAt (i*10+1)
  have f2:=ho0.frozenAt (i*10+2)
  have f3:=ho0.frozenAt (i*10+3)
  have f4:=ho0.frozenAt (i*10+4)
  have f5:=ho0.frozenAt (i*10+5)
  have f6:=ho0.frozenAt (i*10+6)
  have f7:=ho0.frozenAt (i*10+7)
  have f8:=ho0.frozenAt (i*10+8)
  have f9:=ho0.frozenAt (i*10+9)
  have hgu:gc<u0.heap.size:=block_lt_of_cell e0
  go_simp
  refine hK.out _ _ (fun h=>absurd h (by decide)) ?_
  clear hK K
  refine z0f (by kernel_rfl) ?_ _
  try simp only[Act.put,pq]
  go_upto_if 48 with fail
  refine z0k ?_;intro W2 hW2
  have hcl:cs.length=m:=by
   have h:=hcsl
   exact h
  have hst:W2.ownsRow base 62 10 (.slice (some ⟨gc,0,none⟩) m cc) m ((cs.set i r.1).flatMap Cll.cs):=by
   have h:=((((((((((ho0.stored (i*10) (.int .i64 r.1.state)).1.stored (i*10+1) (.int .i64 r.1.id)).1.stored (i*10+2) (.int .i64 r.1.tries)).1.stored (i*10+3) (.int .i64 r.1.key.k)).1.stored (i*10+4) (.int .i64 r.1.key.n)).1.stored (i*10+5) (.string r.1.key.s)).1.stored (i*10+6) (.int .i64 r.1.has.k)).1.stored (i*10+7) (.int .i64 r.1.has.n)).1.stored (i*10+8) (.string r.1.has.s)).1.stored (i*10+9) (.int .i64 r.1.next)).1
   rw[z99 cs i r.1 (by omega)] at h
   rw[hW2];exact h
  have hblk:∀ bb:Nat,bb≠gc->W2.heap[bb]?=u0.heap[bb]?:=fun bb hne=>by
   rw[hW2]
   iterate 10 rw[Below.heap_setCell _ _ _ _ (by exact hne)]
  have hz2:W2.heap.size=u0.heap.size:=by rw[hW2];simp
  have hbg:base<=gc:=(HC.out.2.2.1.lt gc rfl).1
  have hBu:Below w.heap.size w u0:=z01 hB1 hY0 hB1.size
  have hBW:∀ B,B<=M->B<=base->Below B w W2:=fun B _ h2=>by
   have hg:B<=gc:=Nat.le_trans h2 hbg
   rw[hW2]
   exact z03 (z03 (z03 (z03 (z03 (z03 (z03 (z03 (z03 (z03 (hBu.mono (by omega)) hg) hg) hg) hg) hg) hg) hg) hg) hg) hg
  have hM2:W2.heap[M]?=w.heap[M]?:=(hblk M hMg).trans (hBu.block M hlm)
  have hC2:=HC.out.1.block hM2
  have hF2:=HC.out.2.1.block hM2
  have hls2:=z09 (z04 HC.out.2.2.2.1 hBu) (fun q hq _=>hblk q (fun e=>HC.out.2.2.2.2.2 (by rw[hq,e])))
  have hg4c:g4≠gc:=by omega
  have hk4:=hblk g4 hg4c
  have hkk:=hblk w.heap.size (by omega)
  have hkr:=hblk (w.heap.size+1) (by omega)
  have hzu:=hY0.size
  clear hW2 e0 e1 e2 e3 e4 e5 e6 e7 e8 e9 f0 f1 f2 f3 f4 f5 f6 f7 f8 f9 ho0 hS0
  have hq4:W2.heap[g4]?=wc.heap[g4]?:=hk4.trans (hY0.block g4 hg4w)
  have hkc:W2.heap[w.heap.size]?=wc.heap[w.heap.size]?:=hkk.trans (hY0.block _ (by omega))
  have hrc:W2.heap[w.heap.size+1]?=W0.heap[w.heap.size+1]?:=hkr.trans ((hY0.block _ (by omega)).trans (hb.block _ hz0))
  have hL:=HW.out.1
  have hFR:∀ b,b<w.heap.size->b≠M->b≠gc->some b≠lv.ownBlock->W2.heap[b]?=w.heap[b]?:=fun b hb1 _ hbg1 _=>(hblk b hbg1).trans (hBu.block b hb1)
  have p0:=(cob g4 0 hq4).trans hL.1
  have p1:=(cob g4 1 hq4).trans hL.2.1
  have p2:=(cob g4 2 hq4).trans hL.2.2.1
  have p3:=(cob g4 3 hq4).trans hL.2.2.2.1
  have p4:=(cob g4 4 hq4).trans hL.2.2.2.2.1
  have p5:=(cob g4 5 hq4).trans hL.2.2.2.2.2.1
  have p6:=(cob g4 6 hq4).trans hL.2.2.2.2.2.2.1
  have p7:=(cob g4 7 hq4).trans hL.2.2.2.2.2.2.2.1
  have p8:=(cob g4 8 hq4).trans hL.2.2.2.2.2.2.2.2.1
  have p9:=(cob g4 9 hq4).trans hL.2.2.2.2.2.2.2.2.2
  have k0:=(cob w.heap.size 0 hkc).trans HW.out.2.2.2.1.1
  have k1:=(cob w.heap.size 1 hkc).trans HW.out.2.2.2.1.2.1
  have k2:=(cob w.heap.size 2 hkc).trans HW.out.2.2.2.1.2.2
  have r0:=(cob (w.heap.size+1) (0) hrc).trans HW.out.2.2.2.2.1
  have r1:=(cob (w.heap.size+1) (1) hrc).trans HW.out.2.2.2.2.2.1
  have r2:=(cob (w.heap.size+1) (2) hrc).trans HW.out.2.2.2.2.2.2.1
  have s0:=(fob (w.heap.size+1) (0) hrc).trans HW.out.2.2.2.2.2.2.2.1
  have s1:=(fob (w.heap.size+1) (1) hrc).trans HW.out.2.2.2.2.2.2.2.2.1
  have s2:=(fob (w.heap.size+1) (2) hrc).trans HW.out.2.2.2.2.2.2.2.2.2
  have hl4:g4<W2.heap.size:=by omega
  have hlr:w.heap.size+1<W2.heap.size:=by omega
  have hlk:w.heap.size<W2.heap.size:=by omega
  have HP:=zh (ai hC2 (ai hF2 (ai hst (ai hls2 (ai hFR hBW)))))
  have hcv:=fun w=>zez r.1.state r.1.id r.1.tries r.1.key.k r.1.key.n r.1.key.s r.1.has.k r.1.has.n r.1.has.s r.1.next w
  simp only[show (⟨r.1.state,r.1.id,r.1.tries,⟨r.1.key.k,r.1.key.n,r.1.key.s⟩,⟨r.1.has.k,r.1.has.n,r.1.has.s⟩,r.1.next⟩:Cll)=r.1 from rfl] at hcv
  have hlvn:∀ q,lv.ownBlock=some q->q≠w.heap.size+1:=fun q hq=>by have:=(HC.out.2.2.2.1.lt q hq).2;omega
  clear hC2 hF2 hst hls2 hFR hBW hq4 hkc hrc hL hblk hM2 hk4 hkk hkr
  cases ha:r.2.1
  ·have HA:=zh (t_no ha last nl f.name ls)
   by_cases h3:3<key.k
   ·have g6:(r.1.state==0)=true:=by rw[beq_iff_eq];exact HT.out.2.2.2.2.2 h3
    have HV:=zh (show valE key r.1=key by unfold valE;rw[if_pos h3])
    clear h3 ha
    go_wp2_with fail
    refine bpr Tryz.results72 (.agg #[.int .i64 key.k,.int .i64 key.n,.string key.s]) ?_
    rw[HA.out.1,HA.out.2.1,HA.out.2.2,HV.out]
    exact⟨rfl,zfa HP.out.1 HP.out.2.1 HP.out.2.2.1 HP.out.2.2.2.1 HP.out.2.2.2.2.1 (.inl rfl) HP.out.2.2.2.2.2 hlm hgcl hlvn (fun bb hne=>by iterate 3 rw[Below.heap_setCell _ _ _ _ (by exact hne)]) (fun B hB=>z03 (z03 (z03 (Below.refl _ _) hB) hB) hB)⟩
   have g6:(r.1.state==0)=false:=by rw[beq_eq_false_iff_ne];exact fun e=>h3 (HT.out.2.2.2.2.1 e)
   have HV:=zh (show valE key r.1=z0v r.1 by unfold valE;rw[if_neg h3])
   clear h3 ha
   go_wp2_with (go_at_call 122;refine (hcv _).mono ?_;rintro e w3 ⟨rfl,hb3⟩;have hb3':Below W2.heap.size W2 w3:=bel;have hz3':=hb3'.size;have hlr3:w.heap.size+1<w3.heap.size:=(by omega);have r0':=z00 r0 hb3';have r1':=z00 r1 hb3';have r2':=z00 r2 hb3';have s0':=(hb3'.frozen (p:=⟨w.heap.size+1,0,none⟩) hlr).trans s0;have s1':=(hb3'.frozen (p:=⟨w.heap.size+1,1,none⟩) hlr).trans s1;have s2':=(hb3'.frozen (p:=⟨w.heap.size+1,2,none⟩) hlr).trans s2;clear r0 r1 r2 s0 s1 s2)
   refine bpr Tryz.results72 (.agg #[.int .i64 (z0v r.1).k,.int .i64 (z0v r.1).n,.string (z0v r.1).s]) ?_
   rw[HA.out.1,HA.out.2.1,HA.out.2.2,HV.out]
   exact⟨rfl,zfa (HP.out.1.block (hb3'.block _ (by omega))) (HP.out.2.1.block (hb3'.block _ (by omega))) (z04 HP.out.2.2.1 hb3') (z04 HP.out.2.2.2.1 hb3') (fun b hb1 hb2 hb4 hb5=>(hb3'.block b (by omega)).trans (HP.out.2.2.2.2.1 b hb1 hb2 hb4 hb5)) (.inl rfl) (fun B h h'=>z01 (HP.out.2.2.2.2.2 B h h') hb3' (by omega)) hlm hgcl hlvn (fun bb hne=>by iterate 3 rw[Below.heap_setCell _ _ _ _ (by exact hne)]) (fun B hB=>z03 (z03 (z03 (Below.refl _ _) hB) hB) hB)⟩
  have HA:=zh (t_yes ha last nl f.name ls)
  have hst1:=(HT.out.2.2.2.1 ha).1
  have g6:(r.1.state==0)=false:=by rw[hst1];rfl
  have HV:=zh (show valE key r.1=z0v r.1 by
   unfold valE
   rw[if_neg (fun h3=>by have:=HT.out.2.2.2.2.2 h3;omega)])
  have z9:=HP.out.1.2.2.2.2.2.2.2.2.2.1
  have n9:=HP.out.2.1.2.2.1
  have hMl2:M<W2.heap.size:=by omega
  clear ha
  go_upto_region 5 with fail
  refine z0k ?_;intro W3 hW3
  have hC3:MotC W3 M (.slice (some ⟨fb,fo,none⟩) m d) pv p iv (.slice (some ⟨gc,0,none⟩) m cc) vv now (last+1) lv:=by
   obtain⟨z0,z1,z2,z3,z4,z5,z6,z7,z8,z9,z10⟩:=HP.out.1
   rw[hW3];and_intros<;>go_simp
  have hF3:MotF W3 M:=by
   obtain⟨n5,n8,n9,n10⟩:=HP.out.2.1
   rw[hW3];and_intros<;>go_simp
  have hblk3:∀ bb:Nat,bb≠M->W3.heap[bb]?=W2.heap[bb]?:=fun bb hne=>by rw[hW3,Below.heap_setCell _ _ _ _ (by exact hne)]
  have hz3:W3.heap.size=W2.heap.size:=by rw[hW3];simp
  have hB3:∀ B,B<=M->B<=base->Below B w W3:=fun B h h'=>by rw[hW3];exact z03 (HP.out.2.2.2.2.2 B h h') h
  have hst3:=z09 HP.out.2.2.1 (w':=W3) (fun q hq _=>hblk3 q (by have e:gc=q:=Option.some.inj hq;omega))
  have hls3:=z09 HP.out.2.2.2.1 (w':=W3) (fun q hq _=>hblk3 q (fun e=>HC.out.2.2.2.2.1 (by rw[hq,e])))
  have hS3:Sl W3 S 9 (RFld W3 S) (some ⟨fb,fo,none⟩) m F:=hS.keepN z02 (w':=W3) (S':=S) (fun b hb=>⟨hb,by
   have e1:b≠M:=fun e=>hSM (e▸hb)
   have e2:b≠gc:=fun e=>hSg (e▸hb)
   exact (hblk3 b e1).trans (HP.out.2.2.2.2.1 b (hSo b hb) e1 e2 (fun e=>hSl b e.symm hb))⟩)
  have hask:=motor_ask M i m d F fb fo S pv p iv gc cc (cs.set i r.1) vv now (last+1) lv nl ls base W3 hC3 hF3 hS3 (fun b hb=>by have:=hSo b hb;omega) h14 hst3 hls3 (by omega) hi f hf r.1 (by rw[List.getElem?_set,if_pos rfl,if_pos (by omega)]) hst1 HC.out.2.2.2.2.1 (by omega)
  have hgl:some gc≠lv.ownBlock:=fun e=>HC.out.2.2.2.2.2 e.symm
  have hvl:∀ q,lv.ownBlock=some q->q<w.heap.size:=fun q hq=>(HC.out.2.2.2.1.lt q hq).2
  have hne4:some g4≠lv.ownBlock:=fun e=>by have:=hvl g4 e.symm;omega
  have hner:some (w.heap.size+1)≠lv.ownBlock:=fun e=>by have:=hvl _ e.symm;omega
  have hq4:W3.heap[g4]?=W2.heap[g4]?:=hblk3 g4 (by omega)
  have hqr:W3.heap[w.heap.size+1]?=W2.heap[w.heap.size+1]?:=hblk3 _ (by omega)
  have H3:=zh (ai hst3 (ai hblk3 (ai hB3 hvl)))
  clear hW3 hC3 hF3 hS3 hls3 hst3 hB3 z9 n9 hS hSo hvl hblk3 hst1
  go_upto_region 6 with (go_at_call 56;refine hask.mono ?_;rintro e w4 ⟨rfl,lv4,hC4,hF4,hls4,hfr4,hob4,hb4⟩)
  have hl3:g4<W3.heap.size:=by omega
  have hl3r:w.heap.size+1<W3.heap.size:=by omega
  have h44:=(hfr4 g4 hl3 (by omega) hne4).trans hq4
  have h4r:=(hfr4 (w.heap.size+1) hl3r (by omega) hner).trans hqr
  have hst4:=z09 H3.out.1 (w':=w4) (fun q hq hl=>hfr4 q hl (by have e:gc=q:=Option.some.inj hq;omega) (by have e:gc=q:=Option.some.inj hq;rw[<-e];exact hgl))
  replace p0:=(cob g4 0 h44).trans p0
  replace p1:=(cob g4 1 h44).trans p1
  replace p2:=(cob g4 2 h44).trans p2
  replace p3:=(cob g4 3 h44).trans p3
  replace p4:=(cob g4 4 h44).trans p4
  replace p5:=(cob g4 5 h44).trans p5
  replace p6:=(cob g4 6 h44).trans p6
  replace p7:=(cob g4 7 h44).trans p7
  replace p8:=(cob g4 8 h44).trans p8
  replace p9:=(cob g4 9 h44).trans p9
  replace r0:=(cob (w.heap.size+1) (0) h4r).trans r0
  replace r1:=(cob (w.heap.size+1) (1) h4r).trans r1
  replace r2:=(cob (w.heap.size+1) (2) h4r).trans r2
  replace s0:=(fob (w.heap.size+1) (0) h4r).trans s0
  replace s1:=(fob (w.heap.size+1) (1) h4r).trans s1
  replace s2:=(fob (w.heap.size+1) (2) h4r).trans s2
  have hl44:g4<w4.heap.size:=block_lt_of_cell p0
  have hlr4:w.heap.size+1<w4.heap.size:=block_lt_of_cell r0
  have hz34:W3.heap.size<=w4.heap.size:=(hb4 0 (Nat.zero_le _) (Nat.zero_le _)).size
  have H4:=zh (ai hC4 (ai hF4 (ai hls4 (ai hfr4 (ai hob4 (ai hb4 hst4))))))
  clear hC4 hF4 hls4 hfr4 hob4 hb4 hask h44 h4r hst4 hq4 hqr hne4 hner k0 k1 k2
  go_wp2_with (go_at_call 122;refine (hcv _).mono ?_;rintro e w5 ⟨rfl,hb5⟩;have hlr5:w.heap.size+1<w5.heap.size:=Nat.lt_of_lt_of_le hlr4 hb5.size;have r0':=z00 r0 hb5;have r1':=z00 r1 hb5;have r2':=z00 r2 hb5;have s0':=(hb5.frozen (p:=⟨w.heap.size+1,0,none⟩) hlr4).trans s0;have s1':=(hb5.frozen (p:=⟨w.heap.size+1,1,none⟩) hlr4).trans s1;have s2':=(hb5.frozen (p:=⟨w.heap.size+1,2,none⟩) hlr4).trans s2;clear r0 r1 r2 s0 s1 s2)
  refine bpr Tryz.results72 (.agg #[.int .i64 (z0v r.1).k,.int .i64 (z0v r.1).n,.string (z0v r.1).s]) ?_
  rw[HA.out.1,HA.out.2.1,HA.out.2.2,HV.out]
  have hz5:=hb5.size
  refine⟨rfl,zfa (H4.out.1.block (hb5.block _ (by omega))) (H4.out.2.1.block (hb5.block _ (by omega))) (z04 H4.out.2.2.2.2.2.2 hb5) (z04 H4.out.2.2.1 hb5) (fun b hb1 hb2 hb3 hb4=>?_) ?_ (fun B h h'=>?_) hlm hgcl (fun q hq=>?_) (fun bb hne=>by iterate 3 rw[Below.heap_setCell _ _ _ _ (by exact hne)]) (fun B hB=>z03 (z03 (z03 (Below.refl _ _) hB) hB) hB)⟩
  ·exact (hb5.block b (by omega)).trans ((H4.out.2.2.2.1 b (by omega) hb2 hb4).trans ((H3.out.2.1 b hb2).trans (HP.out.2.2.2.2.1 b hb1 hb2 hb3 hb4)))
  ·rcases H4.out.2.2.2.2.1 with h | ⟨k,h,hk⟩
   ·exact .inl h
   exact .inr ⟨k,h,by omega⟩
  ·exact z01 ((H3.out.2.2.1 B h h').trans (H4.out.2.2.2.2.2.1 B h h')) hb5 (by omega)
  rcases H4.out.2.2.2.2.1 with h | ⟨k,h,hk⟩
  ·have:=H3.out.2.2.2 q (h.symm.trans hq);omega
  rw[h] at hq;have:=Option.some.inj hq;omega
end Go.Proofs.YtldhlpjjcnlbcaaGreat
