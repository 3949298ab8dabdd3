/- Texts merged (mergeh.py): Samf FrmC RowC RowF RowV. -/
import Derived.Test.YtldhlpjjcnlbcaaGreatPrt3
import Derived.Test.YtldhlpjjcnlbcaaGreatTypes
import Derived.Test.YtldhlpjjcnlbcaaGreatNum
import Derived.Test.YtldhlpjjcnlbcaaGreatPag2
import Derived.Test.YtldhlpjjcnlbcaaGreatFCk
import Derived.Test.YtldhlpjjcnlbcaaGreatHeldX
import Derived.Test.YtldhlpjjcnlbcaaGreatCop3
/- Texts merged: Sam Same1 Sam2 Samf. -/
set_option maxRecDepth 100000
set_option maxHeartbeats 8000000
/- sameExpr: true of a formula and its like. -/
namespace Go.Proofs.YtldhlpjjcnlbcaaGreat
open Go.RowKit
abbrev Exp.cells (x:Exp)(A:Option Addr)(c:Nat):List Value:=[.int .i64 x.op,.int .i64 x.v.k,.int .i64 x.v.n,.string x.v.s,.string x.name,.slice A x.args.length c]
theorem cf_sameExpr (args:Array Value)(w:World):(callFunc 111 args).run Tryz.prog w=.ok (.enter 111 args) w :=
 cf _ _ Tryz.func111 (by kernel_rfl) (by kernel_rfl) args w
theorem equal_Exprs (l:List Exp)(A:Option Addr)(n c:Nat)(A':Option Addr)(c':Nat)(w:World)(hn:inL n)(h:Sl w (old w) 6 (XRep w (old w)) A n l)(h':Sl w (old w) 6 (XRep w (old w)) A' n l)
  (hcall:∀ (wr:World)(k:Nat)(a:Exp)(X:Option Addr)(C:Nat)(X':Option Addr)(C':Nat),l[k]?=some a->XRep wr (old wr) (a.cells X C) a->XRep wr (old wr) (a.cells X' C') a ->
   Calls Tryz.prog 111 #[.agg #[.int .i64 a.op,.int .i64 a.v.k,.int .i64 a.v.n,.string a.v.s,.string a.name,.slice X a.args.length C],.agg #[.int .i64 a.op,.int .i64 a.v.k,.int .i64 a.v.n,.string a.v.s,.string a.name,.slice X' a.args.length C']] wr (RetB wr true)) :
  Calls Tryz.prog 154 #[.slice A n c,.slice A' n c',.func (.func 111) #[] #[]] w (RetB w true):=by
 unfold inL at hn
 have HH:=zh (ai h (ai h' hcall))
 have hcf:=cf_sameExpr
 clear h h' hcall
 go_enter Tryz.func154,Tryz.ntmps154
 go_wp2_with fail
 go_loopw [17] (fun i wr=>∃ k:Nat,k<=n/\i=.int .i64 k/\Below w.heap.size w wr) (fun i _=>n-(intOf i).toNat)
 case atStart=>exact⟨0,by omega,rfl,Below.refl _ _⟩
 case round =>
  obtain⟨k,hk,rfl,hb⟩:=hrel
  by_cases hlt:k<n
  ·obtain⟨b1,o1,a,X,C,rfl,hb1,hl,hx,x0,x1,x2,x3,x4,x5⟩:=z1g (HH.out.1.nowN z0e hb) hlt
   obtain⟨b2,o2,a',X',C',rfl,hb2,hl',hx',y0,y1,y2,y3,y4,y5⟩:=z1g (HH.out.2.1.nowN z0e hb) hlt
   rw[hl] at hl'
   cases hl'
   have hb1':b1<wr.heap.size:=hb1
   have hb2':b2<wr.heap.size:=hb2
   have HX:=zh (ai hx (ai hx' hl))
   clear hx hx' hl hb1 hb2
   go_wp2_with fail
   refine (HH.out.2.2 _ k a X C X' C' HX.out.2.2 (HX.out.1.keep (z05 bel)) (HX.out.2.1.keep (z05 bel))).mono ?_;rintro e w3 ⟨rfl,hb3⟩
   go_wp2_with fail
   go_roundw
   case rel=>exact⟨k+1,by omega,by go_num,bel⟩
   case measure=>simp[intOf];omega
  go_wp2_with fail
  go_ret
  exact⟨rfl,hb⟩
theorem zbd (N:Nat):∀ (x:Exp)(A:Option Addr)(c:Nat)(A':Option Addr)(c':Nat)(w:World),x.nodes<=N->XRep w (old w) (x.cells A c) x->XRep w (old w) (x.cells A' c') x ->
  Calls Tryz.prog 111 #[.agg #[.int .i64 x.op,.int .i64 x.v.k,.int .i64 x.v.n,.string x.v.s,.string x.name,.slice A x.args.length c],.agg #[.int .i64 x.op,.int .i64 x.v.k,.int .i64 x.v.n,.string x.v.s,.string x.name,.slice A' x.args.length c']] w (RetB w true):=by
 induction N with
 | zero =>
  intro x A c A' c' w hN
  obtain⟨op,v,nm,args⟩:=x
  simp[Exp.nodes] at hN
 | succ N ih =>
  intro x A c A' c' w hN hx hx'
  have HI:=zh ih
  clear ih
  obtain⟨A0,c0,e0,_,_,_,i4,_,hsl⟩:=hx.open_
  simp only[List.cons.injEq,Value.slice.injEq,and_true,true_and] at e0
  obtain⟨rfl,rfl⟩:=e0
  obtain⟨A1,c1,e1,_,_,_,_,_,hsl'⟩:=hx'.open_
  simp only[List.cons.injEq,Value.slice.injEq,and_true,true_and] at e1
  obtain⟨rfl,rfl⟩:=e1
  have hch:∀ (i:Nat) (a:Exp),x.args[i]?=some a->a.nodes<=N:=by
   obtain⟨op,v,nm,args⟩:=x
   intro i a h
   have:=z4g args i a h
   simp only[Exp.nodes] at hN
   omega
  have hcalls:=fun w h h'=>equal_Exprs x.args A x.args.length c A' c' w (i4.l (by decide)) h h' (fun wr k a X C X' C' hk h1 h2=>HI.out a X C X' C' wr (hch k a hk) h1 h2)
  have HH:=zh (ai hsl (ai hsl' hcalls))
  have heq:=fun w=>z1j w x.v.k x.v.n x.v.k x.v.n x.v.s x.v.s
  have hvv:valEq ⟨x.v.k,x.v.n,x.v.s⟩ ⟨x.v.k,x.v.n,x.v.s⟩=true:=(z2o _ _).2 rfl
  clear hsl hsl' hch hx hx' hN i4 hcalls
  go_enter Tryz.func111,Tryz.ntmps111
  go_wp2_with fail
  refine (HH.out.2.2 _ (HH.out.1.nowN z0e bel) (HH.out.2.1.nowN z0e bel)).mono ?_;rintro e w3 ⟨rfl,hb3⟩
  go_wp2_with fail
  go_ret
  exact⟨rfl,bel⟩
end Go.Proofs.YtldhlpjjcnlbcaaGreat
/- slices.Equal over texts, and sameTexts: two slices that read as one list are the same. -/
namespace Go.Proofs.YtldhlpjjcnlbcaaGreat
open Go.RowKit
theorem Str_at' {w:World}{S:Nat -> Prop}{A:Option Addr}{n k:Nat}{l:List ByteArray}(h:Sl w S 1 (fun cs s=>cs=[Value.string s]) A n l)(hk:k<n) :
  ∃ b o c,A=some ⟨b,o,none⟩/\S b/\l[k]?=some c/\w.cell? ⟨b,o+k,none⟩=some (.string c):=by
 obtain⟨b,o,c,cs,rfl,hs,hl,rfl,_,hc⟩:=h.at_ hk
 have h0:=hc 0 (by decide)
 rw[Nat.mul_one] at h0
 exact⟨b,o,c,rfl,hs,hl,h0⟩
theorem zaj (A A':Option Addr)(n c n' c':Nat)(l:List ByteArray)(S S':Nat -> Prop)(w:World)(hn:n<=9223372036854775807)
  (h:Sl w S 1 (fun cs s=>cs=[Value.string s]) A n l)(h':Sl w S' 1 (fun cs s=>cs=[Value.string s]) A' n' l) :
  Calls Tryz.prog 114 #[.slice A n c,.slice A' n' c'] w fun e w'=>e=.returned (.bool true)/\∃ k,w'=w.drewN k:=by
 obtain rfl:n=n':=by rw[<-h.len,<-h'.len]
 have HH:=zh (ai h h')
 clear h h'
 go_enter Tryz.func114,Tryz.ntmps114
 go_wp2_with fail
 go_loopw [13] (fun i wr=>∃ k:Nat,k<=n/\i=.int .i64 k/\∃ j,wr=w.drewN j) (fun i _=>n-(intOf i).toNat)
 case atStart=>exact⟨0,by omega,rfl,0,rfl⟩
 case round =>
  obtain⟨k,hk,rfl,j,rfl⟩:=hrel
  by_cases hlt:k<n
  ·obtain⟨b,o,x,rfl,_,hl,h0⟩:=Str_at' HH.out.1 hlt
   obtain⟨b',o',x',rfl,_,hl',h0'⟩:=Str_at' HH.out.2 hlt
   rw[hl] at hl'
   cases hl'
   clear hl
   go_wp2_with fail
   go_quiet (fail)
   go_wp2_with fail
   go_roundw
   case rel=>exact⟨k+1,by omega,by go_num,_,rfl⟩
   case measure=>simp[intOf];omega
  have hke:k=n:=by omega
  subst hke
  go_wp2_with fail
  go_ret
  exact⟨rfl,_,rfl⟩
end Go.Proofs.YtldhlpjjcnlbcaaGreat
/- samePages: true of pages and their like. -/
namespace Go.Proofs.YtldhlpjjcnlbcaaGreat
open Go.RowKit
theorem Sl.strOf {w:World}{S:Nat -> Prop}{A:Option Addr}{n:Nat}{l:List ByteArray}(h:Sl w S 1 RStr A n l):Sl w S 1 (fun cs s=>cs=[Value.string s]) A n l :=
 h.keep (fun _ _=>rfl) (fun _ _ h=>h.1)
abbrev Pag.cells (p:Pag)(Y:Option Addr)(D:Nat)(X:Option Addr)(C:Nat):List Value:=[.string p.name,.slice Y p.fields.length D,.int .i64 p.skip.op,.int .i64 p.skip.v.k,.int .i64 p.skip.v.n,.string p.skip.v.s,.string p.skip.name,.slice X p.skip.args.length C]
theorem samePages_1 (p:Pag)(Y X Y' X':Option Addr)(D C D' C':Nat)(w:World)(h:RPag w (old w) (p.cells Y D X C) p)(h':RPag w (old w) (p.cells Y' D' X' C') p) :
  Calls Tryz.prog 113 #[.agg #[.string p.name,.slice Y p.fields.length D,.int .i64 p.skip.op,.int .i64 p.skip.v.k,.int .i64 p.skip.v.n,.string p.skip.v.s,.string p.skip.name,.slice X p.skip.args.length C],
   .agg #[.string p.name,.slice Y' p.fields.length D',.int .i64 p.skip.op,.int .i64 p.skip.v.k,.int .i64 p.skip.v.n,.string p.skip.v.s,.string p.skip.name,.slice X' p.skip.args.length C']] w (RetB w true):=by
 obtain⟨_,r2,_,r4,r5⟩:=h.open_
 obtain⟨_,_,_,s4,s5⟩:=h'.open_
 have hn:p.fields.length<=9223372036854775807:=by unfold inB at r2;omega
 have HH:=zh (ai r4 (ai r5 (ai s4 s5)))
 clear h h' r4 r5 s4 s5
 go_enter Tryz.func113,Tryz.ntmps113
 go_wp2_with fail
 refine (zaj Y Y' _ D _ D' p.fields _ _ _ hn (HH.out.1.now bel).strOf (HH.out.2.2.1.now bel).strOf).mono ?_;rintro e w1 ⟨rfl,q,rfl⟩
 go_wp2_with fail
 refine (zbd _ p.skip X C X' C' _ (nr _) (HH.out.2.1.keep (z05 bel)) (HH.out.2.2.2.keep (z05 bel))).mono ?_;rintro e w2 ⟨rfl,hb2⟩
 go_wp2_with fail
 go_ret
 exact⟨rfl,bel⟩
theorem cf_samePages1 (args:Array Value)(w:World):(callFunc 113 args).run Tryz.prog w=.ok (.enter 113 args) w :=
 cf _ _ Tryz.func113 (by kernel_rfl) (by kernel_rfl) args w
theorem equal_Pags (l:List Pag)(A:Option Addr)(n c:Nat)(A':Option Addr)(c':Nat)(w:World)(hn:inL n)(h:Sl w (old w) 8 (RPag w (old w)) A n l)(h':Sl w (old w) 8 (RPag w (old w)) A' n l) :
  Calls Tryz.prog 112 #[.slice A n c,.slice A' n c',.func (.func 113) #[] #[]] w (RetB w true):=by
 unfold inL at hn
 have HH:=zh (ai h h')
 have hcf:=cf_samePages1
 clear h h'
 go_enter Tryz.func112,Tryz.ntmps112
 go_wp2_with fail
 go_loopw [17] (fun i wr=>∃ k:Nat,k<=n/\i=.int .i64 k/\Below w.heap.size w wr) (fun i _=>n-(intOf i).toNat)
 case atStart=>exact⟨0,by omega,rfl,Below.refl _ _⟩
 case round =>
  obtain⟨k,hk,rfl,hb⟩:=hrel
  by_cases hlt:k<n
  ·obtain⟨b1,o1,a,Y,D,X,C,rfl,hb1,hl,hx,x0,x1,x2,x3,x4,x5,x6,x7⟩:=z8n (HH.out.1.nowN z0d hb) hlt
   obtain⟨b2,o2,a',Y',D',X',C',rfl,hb2,hl',hx',y0,y1,y2,y3,y4,y5,y6,y7⟩:=z8n (HH.out.2.nowN z0d hb) hlt
   rw[hl] at hl'
   cases hl'
   have hb1':b1<wr.heap.size:=hb1
   have hb2':b2<wr.heap.size:=hb2
   have HX:=zh (ai hx hx')
   clear hx hx' hl hb1 hb2
   go_wp2_with fail
   refine (samePages_1 a Y X Y' X' D C D' C' _ (HX.out.1.keep (z05 bel)) (HX.out.2.keep (z05 bel))).mono ?_;rintro e w3 ⟨rfl,hb3⟩
   go_wp2_with fail
   go_roundw
   case rel=>exact⟨k+1,by omega,by go_num,bel⟩
   case measure=>simp[intOf];omega
  go_wp2_with fail
  go_ret
  exact⟨rfl,hb⟩
theorem zfk (l:List Pag)(A:Option Addr)(n c:Nat)(A':Option Addr)(c':Nat)(w:World)(hn:inL n)(h:Sl w (old w) 8 (RPag w (old w)) A n l)(h':Sl w (old w) 8 (RPag w (old w)) A' n l) :
  Calls Tryz.prog 65 #[.slice A n c,.slice A' n c'] w (RetB w true):=by
 have HH:=zh (ai h h')
 clear h h'
 go_enter Tryz.func65,Tryz.ntmps65
 go_wp2_with (go_at_call 112;refine (equal_Pags l A n c A' c' _ hn HH.out.1 HH.out.2).mono ?_;rintro e w1 ⟨rfl,hb1⟩)
 go_ret
 exact⟨rfl,hb1⟩
end Go.Proofs.YtldhlpjjcnlbcaaGreat
/- sameFields: true of fields and their like. -/
namespace Go.Proofs.YtldhlpjjcnlbcaaGreat
open Go.RowKit
theorem sameFields_1 (f:Fld)(X X':Option Addr)(C C':Nat)(w:World)(h:RFld w (old w) [.string f.name,.int .i64 f.kind,.int .i64 f.type,.int .i64 f.source.op,.int .i64 f.source.v.k,.int .i64 f.source.v.n,.string f.source.v.s,.string f.source.name,.slice X f.source.args.length C] f)(h':RFld w (old w) [.string f.name,.int .i64 f.kind,.int .i64 f.type,.int .i64 f.source.op,.int .i64 f.source.v.k,.int .i64 f.source.v.n,.string f.source.v.s,.string f.source.name,.slice X' f.source.args.length C'] f) :
  Calls Tryz.prog 110 #[.agg #[.string f.name,.int .i64 f.kind,.int .i64 f.type,.int .i64 f.source.op,.int .i64 f.source.v.k,.int .i64 f.source.v.n,.string f.source.v.s,.string f.source.name,.slice X f.source.args.length C],.agg #[.string f.name,.int .i64 f.kind,.int .i64 f.type,.int .i64 f.source.op,.int .i64 f.source.v.k,.int .i64 f.source.v.n,.string f.source.v.s,.string f.source.name,.slice X' f.source.args.length C']] w (RetB w true):=by
 obtain⟨_,_,_,r4⟩:=h.parts
 obtain⟨_,_,_,s4⟩:=h'.parts
 have HH:=zh (ai r4 s4)
 clear h h' r4 s4
 go_enter Tryz.func110,Tryz.ntmps110
 go_wp2_with fail
 refine (zbd _ f.source X C X' C' _ (nr _) (HH.out.1.keep (z05 bel)) (HH.out.2.keep (z05 bel))).mono ?_;rintro e w2 ⟨rfl,hb2⟩
 go_wp2_with fail
 go_ret
 exact⟨rfl,bel⟩
theorem cf_sameFields1 (args:Array Value)(w:World):(callFunc 110 args).run Tryz.prog w=.ok (.enter 110 args) w :=
 cf _ _ Tryz.func110 (by kernel_rfl) (by kernel_rfl) args w
theorem equal_Flds (l:List Fld)(A:Option Addr)(n c:Nat)(A':Option Addr)(c':Nat)(w:World)(hn:inL n)(h:Sl w (old w) 9 (RFld w (old w)) A n l)(h':Sl w (old w) 9 (RFld w (old w)) A' n l) :
  Calls Tryz.prog 109 #[.slice A n c,.slice A' n c',.func (.func 110) #[] #[]] w (RetB w true):=by
 unfold inL at hn
 have HH:=zh (ai h h')
 have hcf:=cf_sameFields1
 clear h h'
 go_enter Tryz.func109,Tryz.ntmps109
 go_wp2_with fail
 go_loopw [17] (fun i wr=>∃ k:Nat,k<=n/\i=.int .i64 k/\Below w.heap.size w wr) (fun i _=>n-(intOf i).toNat)
 case atStart=>exact⟨0,by omega,rfl,Below.refl _ _⟩
 case round =>
  obtain⟨k,hk,rfl,hb⟩:=hrel
  by_cases hlt:k<n
  ·obtain⟨b1,o1,a,X,C,rfl,hb1,hl,hx,x0,x1,x2,x3,x4,x5,x6,x7,x8⟩:=z25 (HH.out.1.nowN z02 hb) hlt
   obtain⟨b2,o2,a',X',C',rfl,hb2,hl',hx',y0,y1,y2,y3,y4,y5,y6,y7,y8⟩:=z25 (HH.out.2.nowN z02 hb) hlt
   rw[hl] at hl'
   cases hl'
   have hb1':b1<wr.heap.size:=hb1
   have hb2':b2<wr.heap.size:=hb2
   have HX:=zh (ai hx hx')
   clear hx hx' hl hb1 hb2
   go_wp2_with fail
   refine (sameFields_1 a X X' C C' _ (RFld.keep HX.out.1 (z05 bel)) (RFld.keep HX.out.2 (z05 bel))).mono ?_;rintro e w3 ⟨rfl,hb3⟩
   go_wp2_with fail
   go_roundw
   case rel=>exact⟨k+1,by omega,by go_num,bel⟩
   case measure=>simp[intOf];omega
  go_wp2_with fail
  go_ret
  exact⟨rfl,hb⟩
theorem same_Fields (l:List Fld)(A:Option Addr)(n c:Nat)(A':Option Addr)(c':Nat)(w:World)(hn:inL n)(h:Sl w (old w) 9 (RFld w (old w)) A n l)(h':Sl w (old w) 9 (RFld w (old w)) A' n l) :
  Calls Tryz.prog 64 #[.slice A n c,.slice A' n c'] w (RetB w true):=by
 have HH:=zh (ai h h')
 clear h h'
 go_enter Tryz.func64,Tryz.ntmps64
 go_wp2_with (go_at_call 109;refine (equal_Flds l A n c A' c' _ hn HH.out.1 HH.out.2).mono ?_;rintro e w1 ⟨rfl,hb1⟩)
 go_ret
 exact⟨rfl,hb1⟩
end Go.Proofs.YtldhlpjjcnlbcaaGreat
/- sheet.Copy; sameForm. -/
set_option maxRecDepth 100000
set_option maxHeartbeats 8000000
namespace Go.Proofs.YtldhlpjjcnlbcaaGreat
open Go.RowKit
theorem zfl (B:Option Addr)(m d:Nat)(F:List Fld)(A:Option Addr)(n c:Nat)(P:List Pag)(w:World)(hX:RFo w B m d F A n c P) :
  Calls Tryz.prog 24 #[.agg #[.slice B m d,.slice A n c]] w (RetFrm w F P):=by
 have h1:=fun w (h:RFo w B m d F A n c P)=>field_Copy B m d F w h.1 h.2.2.2.2.1
 have h2:=fun w (h:RFo w B m d F A n c P)=>page_Copy A n c P w h.2.2.1 h.2.2.2.2.2
 have HX:=zh hX
 have HL:=zh (ai hX.2.2.2.2.1.len hX.2.2.2.2.2.len)
 clear hX
 go_enter Tryz.func24,Tryz.ntmps24
 go_wp2_with fail
 refine z0k ?_;intro W0 hW0
 have hS0:W0.drew.cell? ⟨w.heap.size,0,none⟩=some (.slice B m d)/\W0.drew.cell? ⟨w.heap.size,1,none⟩=some (.slice A n c):=by rw[hW0];exact⟨by go_simp,by go_simp⟩
 have hB0:Below w.heap.size w W0.drew:=by rw[hW0];exact bel
 have hZ0:W0.heap.size=w.heap.size+2:=by rw[hW0];simp
 have hc0:W0.cell? ⟨w.heap.size+1,0,none⟩=some (.slice none 0 0)/\W0.cell? ⟨w.heap.size+1,1,none⟩=some (.slice none 0 0):=by rw[hW0];exact⟨by go_simp,by go_simp⟩
 have hf0:W0.frozen? ⟨w.heap.size+1,0,none⟩=false/\W0.frozen? ⟨w.heap.size+1,1,none⟩=false:=by rw[hW0];exact⟨by go_simp,by go_simp⟩
 clear hW0
 refine z0r (fun w'=>w'.cell? ⟨w.heap.size,0,none⟩=some (.slice B m d)/\w'.cell? ⟨w.heap.size,1,none⟩=some (.slice A n c)) 7 (by kernel_rfl) ?_
 refine zt 0 hS0 ?_
 simp only[Act.put,pq]
 refine zt 1 hS0 ?_
 simp only[Act.put,pq]
 refine zt 3 hS0 ?_
 simp only[Act.put,pq]
 refine zt 4 hS0 ?_
 simp only[Act.put,pq]
 refine z06 (i:=2) (o:=_) rfl (by kernel_rfl) (fun K hK=>?_)
 ·go_simp
  go_at_call 60;refine (h1 _ (HX.out.now hB0)).mono ?_;rintro e w3 ⟨A1,c1,rfl,hq1,hs1',hb3⟩
  have hS3:=ai (z00 hS0.1 hb3) (z00 hS0.2 hb3)
  have hw3:Below W0.drew.heap.size W0.drew w3:=hb3
  have hB3:Below w.heap.size w w3:=z01 hB0 hb3 (by simp[heap_drew];omega)
  have hz3:W0.heap.size<=w3.heap.size:=by have:=hb3.size;simpa [heap_drew] using this
  refine hK.out _ _ (fun _=>hS3) ?_
  clear hK K
  try simp only[Act.put,pq]
  refine z06 (i:=5) (o:=_) rfl (by kernel_rfl) (fun K hK=>?_)
  go_simp
  go_at_call 61;refine (h2 _ (HX.out.now hB3)).mono ?_;rintro e wE ⟨A2,c2,rfl,hq2,hs2',hbE⟩
  have hSE:=ai (z00 hS3.1 hbE) (z00 hS3.2 hbE)
  have hBE:Below w.heap.size w wE:=z01 hB3 hbE (by omega)
  have hZE:W0.heap.size<=wE.heap.size:=Nat.le_trans hz3 hbE.size
  have hWE:Below W0.drew.heap.size W0.drew wE:=z01 hw3 hbE (by simp[heap_drew];omega)
  have hs1:=hs1'.keepN z02 (w':=wE) (S':=since W0.heap.size wE) (fun b hb=>⟨⟨by have h9:=hb.1;simp[heap_drew] at h9;omega,Nat.lt_of_lt_of_le hb.2 hbE.size⟩,hbE.block b hb.2⟩)
  have hs2:=hs2'.keepN z0d (w':=wE) (S':=since W0.heap.size wE) (fun b hb=>⟨⟨by have h9:=hb.1;omega,hb.2⟩,rfl⟩)
  clear hs1' hs2'
  refine hK.out _ _ (fun _=>hSE) ?_
  clear hK K
  try simp only[Act.put,pq]
  refine zt 6 hSE ?_
  simp only[Act.put,pq]
  have ho1:w.heap.size+1<W0.drew.heap.size:=by simp[heap_drew];omega
  have z0:=(hWE.cell (p:=⟨w.heap.size+1,0,none⟩) ho1).trans hc0.1
  have z1:=(hWE.cell (p:=⟨w.heap.size+1,1,none⟩) ho1).trans hc0.2
  have f0:=(hWE.frozen (p:=⟨w.heap.size+1,0,none⟩) ho1).trans hf0.1
  have f1:=(hWE.frozen (p:=⟨w.heap.size+1,1,none⟩) ho1).trans hf0.2
  have hlE:w.heap.size+1<wE.heap.size:=by omega
  refine z06 (i:=7) (o:=_) rfl (by kernel_rfl) (fun K hK=>?_)
  go_simp
  refine hK.out _ _ (fun h=>absurd h (by decide)) ?_
  clear hK K
  refine z0f (by kernel_rfl) ?_ _
  try simp only[Act.put,pq]
  go_wp2_with fail
  refine bpr Tryz.results24 (.agg #[.slice A1 F.length c1,.slice A2 P.length c2]) ?_
  have hset:∀ b,w.heap.size+2<=b->∀ u v,((wE.setCell ⟨w.heap.size+1,0,none⟩ u).setCell ⟨w.heap.size+1,1,none⟩ v).heap[b]?=wE.heap[b]?:=by
   intro b hb u v
   iterate 2 rw[heap_setCell_other _ _ _ _ (by simp;omega)]
  exact⟨A1,c1,A2,c2,rfl,hq1,hq2,hs1.keepN z02 (fun b hb=>⟨⟨by have:=hb.1;omega,by simpa using hb.2⟩,hset b (by have:=hb.1;omega) _ _⟩),hs2.keepN z0d (fun b hb=>⟨⟨by have:=hb.1;omega,by simpa using hb.2⟩,hset b (by have:=hb.1;omega) _ _⟩),z03 (z03 hBE (by simp)) (by simp)⟩
theorem same_Form (F:List Fld)(P:List Pag)(A1 A2 A3 A4:Option Addr)(c1 c2 c3 c4:Nat)(w:World)(hF:inL F.length)(hP:inL P.length)(h1:Sl w (old w) 9 (RFld w (old w)) A1 F.length F)(h2:Sl w (old w) 8 (RPag w (old w)) A2 P.length P)
  (h3:Sl w (old w) 9 (RFld w (old w)) A3 F.length F)(h4:Sl w (old w) 8 (RPag w (old w)) A4 P.length P) :
  Calls Tryz.prog 29 #[.agg #[.slice A1 F.length c1,.slice A2 P.length c2],.agg #[.slice A3 F.length c3,.slice A4 P.length c4]] w (RetB w true):=by
 have HH:=zh (ai h1 (ai h2 (ai h3 h4)))
 clear h1 h2 h3 h4
 go_enter Tryz.func29,Tryz.ntmps29
 go_wp2_with fail
 refine (same_Fields F A1 F.length c1 A3 c3 _ hF (HH.out.1.nowN z02 bel) (HH.out.2.2.1.nowN z02 bel)).mono ?_;rintro e w1 ⟨rfl,hb1⟩;refine zb hb1 ?_;rintro ⟨hc1,hf1⟩ hz1 hy1 hx1;refine szz w1 w ?_;intros
 go_wp2_with fail
 refine (zfk P A2 P.length c2 A4 c4 _ hP (HH.out.2.1.nowN z0d bel) (HH.out.2.2.2.nowN z0d bel)).mono ?_;rintro e w2 ⟨rfl,hb2⟩;refine zb hb2 ?_;rintro ⟨hc2,hf2⟩ hz2 hy2 hx2;refine szz w2 w ?_;intros;refine szz w2 w1 ?_;intros
 go_wp2_with fail
 go_ret
 exact⟨rfl,bel⟩
end Go.Proofs.YtldhlpjjcnlbcaaGreat
/- Rows of calls: slices.Clone, Equal. -/
set_option maxRecDepth 100000
set_option maxHeartbeats 8000000
namespace Go.Proofs.YtldhlpjjcnlbcaaGreat
open Go.RowKit
theorem Tryz.infoCll:(Tryz.prog.info? 62).map (fun i=>(i.zero,i.size,i.bytes))=some (some (.agg #[.int .i64 0,.int .i64 0,.int .i64 0,.int .i64 0,.int .i64 0,.string ⟨#[]⟩,.int .i64 0,.int .i64 0,.string ⟨#[]⟩,.int .i64 0]),10,96):=by kernel_rfl
theorem oneCll (l:List Cll):∀ u∈l.flatMap Cll.cs,u.oneCell'=true:=by
 intro u hu
 obtain⟨x,_,hx⟩:=List.mem_flatMap.1 hu
 simp only[Cll.cs,List.mem_cons,List.not_mem_nil,or_false] at hx
 rcases hx with rfl | rfl | rfl | rfl | rfl | rfl | rfl | rfl | rfl | rfl<;>rfl
theorem lenCll (x:Cll):x.cs.length=10:=rfl
theorem Sl.cellsCll {w:World}{S:Nat -> Prop}{A:Option Addr}{n:Nat}{l:List Cll}(h:Sl w S 10 RCll A n l):∀ p,A=some p->∀ j u,(l.flatMap Cll.cs)[j]?=some u->w.cell? (p.add j)=some u :=
 Sl.cells (by decide) lenCll (fun _ _ h=>h.1) h
theorem ownCll {w:World}{base:Nat}{e:TypeId}{v:Value}{n:Nat}{l:List Cll}(h:w.ownsRow base e 10 v n (l.flatMap Cll.cs))(hl:l.length=n)(hw:∀ a∈l,a.wf) :
  ∃ A c,v=.slice A n c/\n<=c/\Sl w (old w) 10 RCll A n l:=own_slw Cll.cs Cll.wf lenCll h hl hw
def cllEqR (x y:Cll):Bool:=(x.state==y.state&&(x.id==y.id&&(x.tries==y.tries&&(x.key.k==y.key.k&&(x.key.n==y.key.n&&(x.key.s.toList==y.key.s.toList&&(x.has.k==y.has.k&&(x.has.n==y.has.n&&(x.has.s.toList==y.has.s.toList&&(x.next==y.next))))))))))
theorem cllEqR_iff (x y:Cll):cllEqR x y=true↔x=y:=by
 simp only[cllEqR,Bool.and_eq_true,beq_iff_eq]
 constructor
 ·intro h
  obtain⟨a1,a2,a9,⟨a3,a4,a5⟩,⟨a6,a7,a8⟩,a10⟩:=x
  obtain⟨b1,b2,b9,⟨b3,b4,b5⟩,⟨b6,b7,b8⟩,b10⟩:=y
  simp only at h
  simp only[Cll.mk.injEq,Val.mk.injEq]
  grind [z2f]
 rintro rfl
 simp
theorem run_neq_CllR (w:World)(x y:Cll):(binOp .neq 62 (.agg #[.int .i64 x.state,.int .i64 x.id,.int .i64 x.tries,.int .i64 x.key.k,.int .i64 x.key.n,.string x.key.s,.int .i64 x.has.k,.int .i64 x.has.n,.string x.has.s,.int .i64 x.next]) (.agg #[.int .i64 y.state,.int .i64 y.id,.int .i64 y.tries,.int .i64 y.key.k,.int .i64 y.key.n,.string y.key.s,.int .i64 y.has.k,.int .i64 y.has.n,.string y.has.s,.int .i64 y.next])).run Tryz.prog w=.ok (.bool (!cllEqR x y)) w:=by
 go_simp
 unfold cllEqR
 (repeat' split)<;>simp_all
theorem clone_Cll (A:Option Addr)(n c:Nat)(l:List Cll)(w:World)(hn:inB 96 n)(h:Sl w (old w) 10 RCll A n l) :
  Calls Tryz.prog 40 #[.slice A n c] w (z8m Cll.cs 62 10 w l):=by
 cases A with
 | none =>
  obtain⟨rfl,rfl⟩:=h.of_none
  have hq:=fun w=>Lib.run_eql_slice_nil (P:=Tryz.prog) w 29 _ none 0 c 0 0 Tryz.underlying29
  go_enter Tryz.func40,Tryz.ntmps40
  go_wp2_with fail
  go_ret
  exact⟨_,rfl,World.ownsRow_nil _ _ _ _,Below.refl _ _⟩
 | some p =>
  obtain⟨i0,hi,hz0,hz1,hz2⟩:=info_parts Tryz.infoCll
  have hq:=fun w=>Lib.run_eql_slice_nil (P:=Tryz.prog) w 29 _ (some p) n c 0 0 Tryz.underlying29
  have hc:=h.cellsCll p rfl
  have hl:=h.len
  unfold inB at hn
  have HC:=zh hc
  clear hc h
  go_enter Tryz.func40,Tryz.ntmps40
  go_wp2_with (at_builtin;refine z12 rfl _ _ 29 rfl w.heap.size 62 i0 (.agg #[.int .i64 0,.int .i64 0,.int .i64 0,.int .i64 0,.int .i64 0,.string ⟨#[]⟩,.int .i64 0,.int .i64 0,.string ⟨#[]⟩,.int .i64 0]) 10 96 Tryz.underlying29 hi hz0 hz1 hz2 rfl (by decide) _ 0 [] rfl (World.ownsRow_made w #[] 0 (nr _) (Nat.zero_le _) (by simp)) (some p) n c (l.flatMap Cll.cs) rfl (by rw[z0w _ 10 lenCll,hl]) (fun p' hp j u hj=>by cases hp;exact Lib.cell?_alloc_some _ (HC.out j u hj)) (by simp) (oneCll l) (by unfold maxLen;omega) (by omega) (by simp) ?_;intro v1 w1 hown1 hb1 hz1)
  go_ret
  refine⟨v1,rfl,by rw[hl];simpa using hown1,(Below.refl _ _).alloc (nr _) _ |>.trans hb1⟩
theorem equal_Cll (A:Option Addr)(n c:Nat)(l:List Cll)(A1:Option Addr)(n1 c1:Nat)(l1:List Cll)(w:World)(hn:inL n)(hn1:inL n1)(h:Sl w (old w) 10 RCll A n l)(h1:Sl w (old w) 10 RCll A1 n1 l1) :
  Calls Tryz.prog 31 #[.slice A n c,.slice A1 n1 c1] w (RetB w (decide (l=l1))):=by
 unfold inL at hn hn1
 by_cases hne:n=n1
 ·subst hne
  have HH:=zh (ai h h1)
  clear h h1
  go_enter Tryz.func31,Tryz.ntmps31
  go_wp2_with fail
  go_loopw [13] (fun i wr=>∃ k:Nat,k<=n/\i=.int .i64 k/\l.take k=l1.take k/\Below w.heap.size w wr) (fun i _=>n-(intOf i).toNat)
  case atStart=>exact⟨0,by omega,rfl,by simp,Below.refl _ _⟩
  case round =>
   obtain⟨k,hk,rfl,hv,hb⟩:=hrel
   by_cases hlt:k<n
   ·obtain⟨b,o,x,rfl,_,hl,_,h0,h1,h2,h3,h4,h5,h6,h7,h8,h9⟩:=Cll_at (HH.out.1.now hb) hlt
    obtain⟨b1,o1,y,rfl,_,hl1,_,g0,g1,g2,g3,g4,g5,g6,g7,g8,g9⟩:=Cll_at (HH.out.2.now hb) hlt
    have HL:=zh (ai hl (ai hl1 hv))
    clear hl hl1 hv
    have hneq:=fun w=>run_neq_CllR w x y
    cases he:cllEqR x y
    ·have HE:=zh he
     go_wp2_with fail
     go_quiet (fail)
     go_wp2_with fail
     go_ret
     refine⟨z34 ?_,bel⟩
     rw[eq_comm,decide_eq_false_iff_not]
     intro e
     subst e
     rw[HL.out.1] at HL
     have:=HL.out.2.1
     cases this
     rw[(cllEqR_iff x x).2 rfl] at HE
     cases HE.out
    have HE:=zh he
    go_wp2_with fail
    go_quiet (fail)
    go_wp2_with fail
    go_roundw
    case rel =>
     refine⟨k+1,by omega,by go_num,?_,bel⟩
     rw[List.take_add_one,List.take_add_one,HL.out.1,HL.out.2.1,HL.out.2.2,(cllEqR_iff x y).1 HE.out]
    case measure=>simp[intOf];omega
   have hke:k=n:=by omega
   subst hke
   have e0:l.take k=l:=by rw[List.take_of_length_le (by rw[HH.out.1.len];exact nr _)]
   have e1:l1.take k=l1:=by rw[List.take_of_length_le (by rw[HH.out.2.len];exact nr _)]
   rw[e0,e1] at hv
   have HV:=zh hv
   clear hv e0 e1
   go_wp2_with fail
   go_ret
   exact⟨z34 (by rw[eq_comm,decide_eq_true_iff];exact HV.out),hb⟩
 have hd:((n:Int) != (n1:Int))=true:=by simp;omega
 have hf:decide (l=l1)=false:=by
  rw[decide_eq_false_iff_not]
  intro e
  exact hne (by rw[<-h.len,<-h1.len,e])
 rw[hf]
 clear h h1
 go_enter Tryz.func31,Tryz.ntmps31
 go_wp2_with fail
 go_ret
 exact⟨rfl,Below.refl _ _⟩
end Go.Proofs.YtldhlpjjcnlbcaaGreat
/- Rows of facts: slices.Clone, Equal. -/
set_option maxRecDepth 100000
set_option maxHeartbeats 8000000
namespace Go.Proofs.YtldhlpjjcnlbcaaGreat
open Go.RowKit
theorem Tryz.infoFct:(Tryz.prog.info? 72).map (fun i=>(i.zero,i.size,i.bytes))=some (some (.agg #[.string ⟨#[]⟩,.int .i64 0,.int .i64 0,.string ⟨#[]⟩,.int .i64 0,.int .i64 0,.string ⟨#[]⟩]),7,80):=by kernel_rfl
theorem oneFct (l:List Fct):∀ u∈l.flatMap Fct.cs,u.oneCell'=true:=by
 intro u hu
 obtain⟨x,_,hx⟩:=List.mem_flatMap.1 hu
 simp only[Fct.cs,List.mem_cons,List.not_mem_nil,or_false] at hx
 rcases hx with rfl | rfl | rfl | rfl | rfl | rfl | rfl<;>rfl
theorem lenFct (x:Fct):x.cs.length=7:=rfl
theorem Sl.cellsFct {w:World}{S:Nat -> Prop}{A:Option Addr}{n:Nat}{l:List Fct}(h:Sl w S 7 RFct A n l):∀ p,A=some p->∀ j u,(l.flatMap Fct.cs)[j]?=some u->w.cell? (p.add j)=some u :=
 Sl.cells (by decide) lenFct (fun _ _ h=>h.1) h
theorem ownFct {w:World}{base:Nat}{e:TypeId}{v:Value}{n:Nat}{l:List Fct}(h:w.ownsRow base e 7 v n (l.flatMap Fct.cs))(hl:l.length=n)(hw:∀ a∈l,a.wf) :
  ∃ A c,v=.slice A n c/\n<=c/\Sl w (old w) 7 RFct A n l:=own_slw Fct.cs Fct.wf lenFct h hl hw
def fctEqR (x y:Fct):Bool:=(x.name.toList==y.name.toList&&(x.key.k==y.key.k&&(x.key.n==y.key.n&&(x.key.s.toList==y.key.s.toList&&(x.has.k==y.has.k&&(x.has.n==y.has.n&&(x.has.s.toList==y.has.s.toList)))))))
theorem fctEqR_iff (x y:Fct):fctEqR x y=true↔x=y:=by
 simp only[fctEqR,Bool.and_eq_true,beq_iff_eq]
 constructor
 ·intro h
  obtain⟨a1,⟨a3,a4,a5⟩,⟨a6,a7,a8⟩⟩:=x
  obtain⟨b1,⟨b3,b4,b5⟩,⟨b6,b7,b8⟩⟩:=y
  simp only at h
  simp only[Fct.mk.injEq,Val.mk.injEq]
  grind [z2f]
 rintro rfl
 simp
theorem run_neq_Fct (w:World)(x y:Fct):(binOp .neq 72 (.agg #[.string x.name,.int .i64 x.key.k,.int .i64 x.key.n,.string x.key.s,.int .i64 x.has.k,.int .i64 x.has.n,.string x.has.s]) (.agg #[.string y.name,.int .i64 y.key.k,.int .i64 y.key.n,.string y.key.s,.int .i64 y.has.k,.int .i64 y.has.n,.string y.has.s])).run Tryz.prog w=.ok (.bool (!fctEqR x y)) w:=by
 go_simp
 unfold fctEqR
 (repeat' split)<;>simp_all
theorem clone_Fct (A:Option Addr)(n c:Nat)(l:List Fct)(w:World)(hn:inB 80 n)(h:Sl w (old w) 7 RFct A n l) :
  Calls Tryz.prog 39 #[.slice A n c] w (z8m Fct.cs 72 7 w l):=by
 cases A with
 | none =>
  obtain⟨rfl,rfl⟩:=h.of_none
  have hq:=fun w=>Lib.run_eql_slice_nil (P:=Tryz.prog) w 28 _ none 0 c 0 0 Tryz.underlying28
  go_enter Tryz.func39,Tryz.ntmps39
  go_wp2_with fail
  go_ret
  exact⟨_,rfl,World.ownsRow_nil _ _ _ _,Below.refl _ _⟩
 | some p =>
  obtain⟨i0,hi,hz0,hz1,hz2⟩:=info_parts Tryz.infoFct
  have hq:=fun w=>Lib.run_eql_slice_nil (P:=Tryz.prog) w 28 _ (some p) n c 0 0 Tryz.underlying28
  have hc:=h.cellsFct p rfl
  have hl:=h.len
  unfold inB at hn
  have HC:=zh hc
  clear hc h
  go_enter Tryz.func39,Tryz.ntmps39
  go_wp2_with (at_builtin;refine z12 rfl _ _ 28 rfl w.heap.size 72 i0 (.agg #[.string ⟨#[]⟩,.int .i64 0,.int .i64 0,.string ⟨#[]⟩,.int .i64 0,.int .i64 0,.string ⟨#[]⟩]) 7 80 Tryz.underlying28 hi hz0 hz1 hz2 rfl (by decide) _ 0 [] rfl (World.ownsRow_made w #[] 0 (nr _) (Nat.zero_le _) (by simp)) (some p) n c (l.flatMap Fct.cs) rfl (by rw[z0w _ 7 lenFct,hl]) (fun p' hp j u hj=>by cases hp;exact Lib.cell?_alloc_some _ (HC.out j u hj)) (by simp) (oneFct l) (by unfold maxLen;omega) (by omega) (by simp) ?_;intro v1 w1 hown1 hb1 hz1)
  go_ret
  refine⟨v1,rfl,by rw[hl];simpa using hown1,(Below.refl _ _).alloc (nr _) _ |>.trans hb1⟩
theorem equal_Fct (A:Option Addr)(n c:Nat)(l:List Fct)(A1:Option Addr)(n1 c1:Nat)(l1:List Fct)(w:World)(hn:inL n)(hn1:inL n1)(h:Sl w (old w) 7 RFct A n l)(h1:Sl w (old w) 7 RFct A1 n1 l1) :
  Calls Tryz.prog 66 #[.slice A n c,.slice A1 n1 c1] w (RetB w (decide (l=l1))):=by
 unfold inL at hn hn1
 by_cases hne:n=n1
 ·subst hne
  have HH:=zh (ai h h1)
  clear h h1
  go_enter Tryz.func66,Tryz.ntmps66
  go_wp2_with fail
  go_loopw [13] (fun i wr=>∃ k:Nat,k<=n/\i=.int .i64 k/\l.take k=l1.take k/\Below w.heap.size w wr) (fun i _=>n-(intOf i).toNat)
  case atStart=>exact⟨0,by omega,rfl,by simp,Below.refl _ _⟩
  case round =>
   obtain⟨k,hk,rfl,hv,hb⟩:=hrel
   by_cases hlt:k<n
   ·obtain⟨b,o,x,rfl,_,hl,_,h0,h1,h2,h3,h4,h5,h6⟩:=z7i (HH.out.1.now hb) hlt
    obtain⟨b1,o1,y,rfl,_,hl1,_,g0,g1,g2,g3,g4,g5,g6⟩:=z7i (HH.out.2.now hb) hlt
    have HL:=zh (ai hl (ai hl1 hv))
    clear hl hl1 hv
    have hneq:=fun w=>run_neq_Fct w x y
    cases he:fctEqR x y
    ·have HE:=zh he
     go_wp2_with fail
     go_quiet (fail)
     go_wp2_with fail
     go_ret
     refine⟨z34 ?_,bel⟩
     rw[eq_comm,decide_eq_false_iff_not]
     intro e
     subst e
     rw[HL.out.1] at HL
     have:=HL.out.2.1
     cases this
     rw[(fctEqR_iff x x).2 rfl] at HE
     cases HE.out
    have HE:=zh he
    go_wp2_with fail
    go_quiet (fail)
    go_wp2_with fail
    go_roundw
    case rel =>
     refine⟨k+1,by omega,by go_num,?_,bel⟩
     rw[List.take_add_one,List.take_add_one,HL.out.1,HL.out.2.1,HL.out.2.2,(fctEqR_iff x y).1 HE.out]
    case measure=>simp[intOf];omega
   have hke:k=n:=by omega
   subst hke
   have e0:l.take k=l:=by rw[List.take_of_length_le (by rw[HH.out.1.len];exact nr _)]
   have e1:l1.take k=l1:=by rw[List.take_of_length_le (by rw[HH.out.2.len];exact nr _)]
   rw[e0,e1] at hv
   have HV:=zh hv
   clear hv e0 e1
   go_wp2_with fail
   go_ret
   exact⟨z34 (by rw[eq_comm,decide_eq_true_iff];exact HV.out),hb⟩
 have hd:((n:Int) != (n1:Int))=true:=by simp;omega
 have hf:decide (l=l1)=false:=by
  rw[decide_eq_false_iff_not]
  intro e
  exact hne (by rw[<-h.len,<-h1.len,e])
 rw[hf]
 clear h h1
 go_enter Tryz.func66,Tryz.ntmps66
 go_wp2_with fail
 go_ret
 exact⟨rfl,Below.refl _ _⟩
theorem same_Facts (A:Option Addr)(n c:Nat)(l:List Fct)(A1:Option Addr)(n1 c1:Nat)(l1:List Fct)(w:World)(hn:inL n)(hn1:inL n1)(h:Sl w (old w) 7 RFct A n l)(h1:Sl w (old w) 7 RFct A1 n1 l1) :
  Calls Tryz.prog 30 #[.slice A n c,.slice A1 n1 c1] w (RetB w (decide (l=l1))):=by
 have HH:=zh (ai h h1)
 clear h h1
 go_enter Tryz.func30,Tryz.ntmps30
 go_wp2_with (refine (equal_Fct A n c l A1 n1 c1 l1 _ hn hn1 HH.out.1 HH.out.2).mono ?_;rintro e w1 ⟨rfl,hb1⟩)
 go_ret
 exact⟨rfl,hb1⟩
end Go.Proofs.YtldhlpjjcnlbcaaGreat
/- Rows of values: slices.Clone, Equal. -/
set_option maxRecDepth 100000
set_option maxHeartbeats 8000000
namespace Go.Proofs.YtldhlpjjcnlbcaaGreat
open Go.RowKit
theorem Tryz.infoValR:(Tryz.prog.info? 44).map (fun i=>(i.zero,i.size,i.bytes))=some (some (.agg #[.int .i64 0,.int .i64 0,.string ⟨#[]⟩]),3,32):=by kernel_rfl
theorem oneValR (l:List Val):∀ u∈l.flatMap Val.cs,u.oneCell'=true:=by
 intro u hu
 obtain⟨x,_,hx⟩:=List.mem_flatMap.1 hu
 simp only[Val.cs,List.mem_cons,List.not_mem_nil,or_false] at hx
 rcases hx with rfl | rfl | rfl<;>rfl
theorem z7f (x:Val):x.cs.length=3:=rfl
theorem Sl.cellsValR {w:World}{S:Nat -> Prop}{A:Option Addr}{n:Nat}{l:List Val}(h:Sl w S 3 RVal A n l):∀ p,A=some p->∀ j u,(l.flatMap Val.cs)[j]?=some u->w.cell? (p.add j)=some u :=
 Sl.cells (by decide) z7f (fun _ _ h=>h.1) h
theorem z6p {w:World}{base:Nat}{e:TypeId}{v:Value}{n:Nat}{l:List Val}(h:w.ownsRow base e 3 v n (l.flatMap Val.cs))(hl:l.length=n)(hw:∀ a∈l,a.wf) :
  ∃ A c,v=.slice A n c/\n<=c/\Sl w (old w) 3 RVal A n l:=own_slw Val.cs Val.wf z7f h hl hw
def zgs (x y:Val):Bool:=(x.k==y.k&&(x.n==y.n&&(x.s.toList==y.s.toList)))
theorem zc0 (x y:Val):zgs x y=true↔x=y:=by
 simp only[zgs,Bool.and_eq_true,beq_iff_eq]
 constructor
 ·intro h
  obtain⟨a1,a2,a3⟩:=x
  obtain⟨b1,b2,b3⟩:=y
  simp only at h
  simp only[Val.mk.injEq,Val.mk.injEq]
  grind [z2f]
 rintro rfl
 simp
theorem zgm (w:World)(x y:Val):(binOp .neq 44 (.agg #[.int .i64 x.k,.int .i64 x.n,.string x.s]) (.agg #[.int .i64 y.k,.int .i64 y.n,.string y.s])).run Tryz.prog w=.ok (.bool (!zgs x y)) w:=by
 go_simp
 unfold zgs
 (repeat' split)<;>simp_all
theorem clone_Val (A:Option Addr)(n c:Nat)(l:List Val)(w:World)(hn:inB 32 n)(h:Sl w (old w) 3 RVal A n l) :
  Calls Tryz.prog 41 #[.slice A n c] w (z8m Val.cs 44 3 w l):=by
 cases A with
 | none =>
  obtain⟨rfl,rfl⟩:=h.of_none
  have hq:=fun w=>Lib.run_eql_slice_nil (P:=Tryz.prog) w 30 _ none 0 c 0 0 Tryz.underlying30
  go_enter Tryz.func41,Tryz.ntmps41
  go_wp2_with fail
  go_ret
  exact⟨_,rfl,World.ownsRow_nil _ _ _ _,Below.refl _ _⟩
 | some p =>
  obtain⟨i0,hi,hz0,hz1,hz2⟩:=info_parts Tryz.infoValR
  have hq:=fun w=>Lib.run_eql_slice_nil (P:=Tryz.prog) w 30 _ (some p) n c 0 0 Tryz.underlying30
  have hc:=h.cellsValR p rfl
  have hl:=h.len
  unfold inB at hn
  have HC:=zh hc
  clear hc h
  go_enter Tryz.func41,Tryz.ntmps41
  go_wp2_with (at_builtin;refine z12 rfl _ _ 30 rfl w.heap.size 44 i0 (.agg #[.int .i64 0,.int .i64 0,.string ⟨#[]⟩]) 3 32 Tryz.underlying30 hi hz0 hz1 hz2 rfl (by decide) _ 0 [] rfl (World.ownsRow_made w #[] 0 (nr _) (Nat.zero_le _) (by simp)) (some p) n c (l.flatMap Val.cs) rfl (by rw[z0w _ 3 z7f,hl]) (fun p' hp j u hj=>by cases hp;exact Lib.cell?_alloc_some _ (HC.out j u hj)) (by simp) (oneValR l) (by unfold maxLen;omega) (by omega) (by simp) ?_;intro v1 w1 hown1 hb1 hz1)
  go_ret
  refine⟨v1,rfl,by rw[hl];simpa using hown1,(Below.refl _ _).alloc (nr _) _ |>.trans hb1⟩
theorem equal_Val (A:Option Addr)(n c:Nat)(l:List Val)(A1:Option Addr)(n1 c1:Nat)(l1:List Val)(w:World)(hn:inL n)(hn1:inL n1)(h:Sl w (old w) 3 RVal A n l)(h1:Sl w (old w) 3 RVal A1 n1 l1) :
  Calls Tryz.prog 38 #[.slice A n c,.slice A1 n1 c1] w (RetB w (decide (l=l1))):=by
 unfold inL at hn hn1
 by_cases hne:n=n1
 ·subst hne
  have HH:=zh (ai h h1)
  clear h h1
  go_enter Tryz.func38,Tryz.ntmps38
  go_wp2_with fail
  go_loopw [13] (fun i wr=>∃ k:Nat,k<=n/\i=.int .i64 k/\l.take k=l1.take k/\Below w.heap.size w wr) (fun i _=>n-(intOf i).toNat)
  case atStart=>exact⟨0,by omega,rfl,by simp,Below.refl _ _⟩
  case round =>
   obtain⟨k,hk,rfl,hv,hb⟩:=hrel
   by_cases hlt:k<n
   ·obtain⟨b,o,x,rfl,_,hl,_,h0,h1,h2⟩:=z2t (HH.out.1.now hb) hlt
    obtain⟨b1,o1,y,rfl,_,hl1,_,g0,g1,g2⟩:=z2t (HH.out.2.now hb) hlt
    have HL:=zh (ai hl (ai hl1 hv))
    clear hl hl1 hv
    have hneq:=fun w=>zgm w x y
    cases he:zgs x y
    ·have HE:=zh he
     go_wp2_with fail
     go_quiet (fail)
     go_wp2_with fail
     go_ret
     refine⟨z34 ?_,bel⟩
     rw[eq_comm,decide_eq_false_iff_not]
     intro e
     subst e
     rw[HL.out.1] at HL
     have:=HL.out.2.1
     cases this
     rw[(zc0 x x).2 rfl] at HE
     cases HE.out
    have HE:=zh he
    go_wp2_with fail
    go_quiet (fail)
    go_wp2_with fail
    go_roundw
    case rel =>
     refine⟨k+1,by omega,by go_num,?_,bel⟩
     rw[List.take_add_one,List.take_add_one,HL.out.1,HL.out.2.1,HL.out.2.2,(zc0 x y).1 HE.out]
    case measure=>simp[intOf];omega
   have hke:k=n:=by omega
   subst hke
   have e0:l.take k=l:=by rw[List.take_of_length_le (by rw[HH.out.1.len];exact nr _)]
   have e1:l1.take k=l1:=by rw[List.take_of_length_le (by rw[HH.out.2.len];exact nr _)]
   rw[e0,e1] at hv
   have HV:=zh hv
   clear hv e0 e1
   go_wp2_with fail
   go_ret
   exact⟨z34 (by rw[eq_comm,decide_eq_true_iff];exact HV.out),hb⟩
 have hd:((n:Int) != (n1:Int))=true:=by simp;omega
 have hf:decide (l=l1)=false:=by
  rw[decide_eq_false_iff_not]
  intro e
  exact hne (by rw[<-h.len,<-h1.len,e])
 rw[hf]
 clear h h1
 go_enter Tryz.func38,Tryz.ntmps38
 go_wp2_with fail
 go_ret
 exact⟨rfl,Below.refl _ _⟩
theorem zdd (A:Option Addr)(n c:Nat)(l:List Val)(A1:Option Addr)(n1 c1:Nat)(l1:List Val)(w:World)(hn:inL n)(hn1:inL n1)(h:Sl w (old w) 3 RVal A n l)(h1:Sl w (old w) 3 RVal A1 n1 l1) :
  Calls Tryz.prog 32 #[.slice A n c,.slice A1 n1 c1] w (RetB w (decide (l=l1))):=by
 have HH:=zh (ai h h1)
 clear h h1
 go_enter Tryz.func32,Tryz.ntmps32
 go_wp2_with (refine (equal_Val A n c l A1 n1 c1 l1 _ hn hn1 HH.out.1 HH.out.2).mono ?_;rintro e w1 ⟨rfl,hb1⟩)
 go_ret
 exact⟨rfl,hb1⟩
end Go.Proofs.YtldhlpjjcnlbcaaGreat
