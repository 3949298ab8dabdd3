/- engine.Hear. (printed by mkengh.py) -/
import Derived.Test.YtldhlpjjcnlbcaaGreatEng8
import Derived.Test.YtldhlpjjcnlbcaaGreatEngM
import Derived.Test.YtldhlpjjcnlbcaaGreatPrt4
import Derived.Test.YtldhlpjjcnlbcaaGreatCall4
set_option maxRecDepth 100000
set_option maxHeartbeats 8000000
namespace Go.Proofs.YtldhlpjjcnlbcaaGreat
open Go.RowKit
theorem hear_ok {c:Cll}{p:Pol}(h:z07 c p=0)(id:Int)(key has:Val):z07 (z43 c p id key has).1 p=0:=by
 unfold z43
 rw[if_pos h]
 by_cases ht:z71 c id key has=true
 ·rw[if_pos ht]
  have hg:=z7p h
  unfold z71 at ht
  simp only[Bool.and_eq_true,decide_eq_true_eq] at ht
  obtain⟨⟨⟨h1,_⟩,_⟩,h4⟩:=ht
  rcases z4v h with rfl | ⟨_,h2,h3⟩
  ·cases h1
  obtain⟨h5,_⟩:=zap h3
  unfold z2a at h2
  unfold z07
  dsimp only
  rw[if_pos hg,if_neg (by decide),if_neg (by decide),if_neg (by unfold z2a;dsimp only;omega),if_pos (by unfold z3q;simp[h5,h4])]
 rw[if_neg ht];exact h
def hearE (g:Eng)(l:Ltr):Eng×List Ltr×Bool×Int :=
 if engErr g≠0 then (noEng,[],false,engErr g)
 else if g.F.any (z0a l.field)=false then (noEng,[],false,5)
 else match g.cs[firstAt (z0a l.field) g.F]?,(g.F)[firstAt (z0a l.field) g.F]? with
  | some c,some f=>if (z43 c g.p l.id l.key l.answer).2.1=false\/l.answer.k≠f.type then (g,[],false,0)
    else ((becE { g with cs:=g.cs.set (firstAt (z0a l.field) g.F) (z43 c g.p l.id l.key l.answer).1 } []).1,(becE { g with cs:=g.cs.set (firstAt (z0a l.field) g.F) (z43 c g.p l.id l.key l.answer).1 } []).2.1,
     (becE { g with cs:=g.cs.set (firstAt (z0a l.field) g.F) (z43 c g.p l.id l.key l.answer).1 } []).2.2==0,(becE { g with cs:=g.cs.set (firstAt (z0a l.field) g.F) (z43 c g.p l.id l.key l.answer).1 } []).2.2)
  | _,_=>(noEng,[],false,0)
theorem hear_set {g:Eng}(h:engErr g=0){c:Cll}{i:Nat}(hc:g.cs[i]?=some c)(id:Int)(key has:Val):SetOk g.F g.p g.ins g.now (g.cs.set i (z43 c g.p id key has).1) g.last/\g.vs.length=g.F.length:=by
 obtain⟨⟨h1,h2,h3,h4,h5⟩,h6⟩:=zf1 (z85 h)
 refine⟨⟨h1,h2,h3,by rw[List.length_set,h4],fun c' hc'=>?_⟩,h6⟩
 rcases List.mem_or_eq_of_mem_set hc' with hc' | rfl
 ·exact h5 _ hc'
 exact hear_ok (h5 _ (List.mem_of_getElem? hc)) _ _ _
def HearIs (a:Nat)(w':World)(r:Eng×List Ltr×Bool×Int)(e:Ending):Prop :=
 ∃ B d A c A1 c1 A2 c2 A3 c3 A4 c4,e=.returned (.tuple #[.agg #[.slice B r.1.F.length d,.slice A r.1.P.length c,.int .i64 r.1.p.tries,.int .i64 r.1.p.base,.int .i64 r.1.p.cap,.slice A1 r.1.ins.length c1,.slice A2 r.1.cs.length c2,.slice A3 r.1.vs.length c3,.int .i64 r.1.now,.int .i64 r.1.last],.slice A4 r.2.1.length c4,.bool r.2.2.1,.int .i64 r.2.2.2]) /\
  (r.1.F.length<=d/\r.1.P.length<=c/\r.1.ins.length<=c1/\r.1.cs.length<=c2/\r.1.vs.length<=c3/\r.2.1.length<=c4) /\
  Sl w' (since a w') 9 (RFld w' (since a w')) B r.1.F.length r.1.F/\Sl w' (since a w') 8 (RPag w' (since a w')) A r.1.P.length r.1.P/\Sl w' (since a w') 7 RFct A1 r.1.ins.length r.1.ins/\Sl w' (since a w') 10 RCll A2 r.1.cs.length r.1.cs/\Sl w' (since a w') 3 RVal A3 r.1.vs.length r.1.vs/\Sl w' (since a w') 8 RLtr A4 r.2.1.length r.2.1
def RetHear (w:World)(r:Eng×List Ltr×Bool×Int)(e:Ending)(w':World):Prop:=HearIs w.heap.size w' r e/\Below w.heap.size w w'
theorem HearIs.nil0 {a:Nat}{w':World}(er:Int){e:Ending}(h:e=.returned (.tuple #[.agg #[.slice none 0 0,.slice none 0 0,.int .i64 0,.int .i64 0,.int .i64 0,.slice none 0 0,.slice none 0 0,.slice none 0 0,.int .i64 0,.int .i64 0],.slice none 0 0,.bool false,.int .i64 er])):HearIs a w' (noEng,[],false,er) e :=
 ⟨none,0,none,0,none,0,none,0,none,0,none,0,h,⟨nr _,nr _,nr _,nr _,nr _,nr _⟩,Sl.nil,Sl.nil,Sl.nil,Sl.nil,Sl.nil,Sl.nil⟩
theorem CopE.row {w w4 W9:World}{F:List Fld}{P:List Pag}{p:Pol}{ins:List Fct}{cs:List Cll}{vs:List Val}{now last:Int}{A5 A6 A7 A8 A9:Option Addr}{c5 c6 c7 c8 c9 N0 N1 N2 a:Nat}(h:CopE w F P p ins cs vs now last w4 A5 c5 A6 c6 A7 c7 A8 c8 A9 c9 N0 N1 N2)
  (h1:∀ x∈ins,x.wf)(h2:∀ x∈cs,x.wf)(h3:∀ x∈vs,x.wf)(ha:a<=w.heap.size)(hb:Below w4.heap.size w4 W9) :
  EngRow a W9 ⟨F,P,p,ins,cs,vs,now,last⟩ [] A5 c5 A6 c6 A7 c7 A8 c8 A9 c9 none 0:=by
 obtain⟨k5,k6,k7,k8,k9,s5,s6,o7,o8,o9,_,_,n0,n1,n2,n3⟩:=h
 obtain⟨_,_,e7,_,g7⟩:=z7g Fct.cs Fct.wf (fun _=>rfl) (z04 o7 hb) rfl h1
 cases e7
 obtain⟨_,_,e8,_,g8⟩:=z7g Cll.cs Cll.wf lenCll (z04 o8 hb) rfl h2
 cases e8
 obtain⟨_,_,e9,_,g9⟩:=z7g Val.cs Val.wf z7f (z04 o9 hb) rfl h3
 cases e9
 have hz:=hb.size
 refine⟨⟨k5,k6,k7,k8,k9,nr _⟩,s5.keepN z02 (fun b hb'=>⟨⟨by have:=hb'.1;omega,by have:=hb'.2;omega⟩,hb.block b (by have:=hb'.2;omega)⟩),s6.keepN z0d (fun b hb'=>⟨⟨by have:=hb'.1;omega,by have:=hb'.2;omega⟩,hb.block b (by have:=hb'.2;omega)⟩),
  g7.mono (fun b hb'=>⟨by have:=hb'.1;omega,hb'.2⟩),g8.mono (fun b hb'=>⟨by have:=hb'.1;omega,hb'.2⟩),g9.mono (fun b hb'=>⟨by have:=hb'.1;omega,hb'.2⟩),Sl.nil⟩
theorem hearE_bad {g:Eng}{l:Ltr}(h:engErr g≠0):hearE g l=(noEng,[],false,engErr g):=by unfold hearE;rw[if_pos h]
theorem hearE_none {g:Eng}{l:Ltr}(h:engErr g=0)(ha:g.F.any (z0a l.field)=false):hearE g l=(noEng,[],false,5):=by unfold hearE;rw[if_neg (by simpa using h),if_pos ha]
theorem hearE_not {g:Eng}{l:Ltr}{i:Nat}{c:Cll}{f:Fld}(h:engErr g=0)(ha:g.F.any (z0a l.field)=true)(hi:firstAt (z0a l.field) g.F=i)(hc:g.cs[i]?=some c)(hf:(g.F)[i]?=some f)(ht:(z43 c g.p l.id l.key l.answer).2.1=false\/l.answer.k≠f.type):hearE g l=(g,[],false,0):=by
 unfold hearE;rw[if_neg (by simpa using h),if_neg (by simp[ha]),hi,hc,hf];dsimp only;rw[if_pos ht]
theorem hearE_yes {g:Eng}{l:Ltr}{i:Nat}{c:Cll}{f:Fld}{r:Eng×List Ltr×Int}(h:engErr g=0)(ha:g.F.any (z0a l.field)=true)(hi:firstAt (z0a l.field) g.F=i)(hc:g.cs[i]?=some c)(hf:(g.F)[i]?=some f)(ht:¬ ((z43 c g.p l.id l.key l.answer).2.1=false\/l.answer.k≠f.type))
  (hr:r=becE { g with cs:=g.cs.set i (z43 c g.p l.id l.key l.answer).1 } []):hearE g l=(r.1,r.2.1,r.2.2==0,r.2.2):=by
 rw[hr];unfold hearE;rw[if_neg (by simpa using h),if_neg (by simp[ha]),hi,hc,hf];dsimp only;rw[if_neg ht]
theorem engine_Hear (B:Option Addr)(m d:Nat)(F:List Fld)(A:Option Addr)(n c:Nat)(P:List Pag)(p:Pol)(A1:Option Addr)(n1 c1:Nat)(ins:List Fct)(A2:Option Addr)(n2 c2:Nat)(cs:List Cll)(A3:Option Addr)(n3 c3:Nat)(vs:List Val)(now last:Int)(l:Ltr)(w:World)
  (hX:REn w B m d F A n c P A1 n1 c1 ins A2 n2 c2 cs A3 n3 c3 vs)(hO:z2i F)(hw:l.wf) :
  Calls Tryz.prog 18 #[.agg #[.slice B m d,.slice A n c,.int .i64 p.tries,.int .i64 p.base,.int .i64 p.cap,.slice A1 n1 c1,.slice A2 n2 c2,.slice A3 n3 c3,.int .i64 now,.int .i64 last],.agg #[.string l.field,.int .i64 l.id,.int .i64 l.key.k,.int .i64 l.key.n,.string l.key.s,.int .i64 l.answer.k,.int .i64 l.answer.n,.string l.answer.s]] w (RetHear w (hearE ⟨F,P,p,ins,cs,vs,now,last⟩ l)):=by
 have h1:=fun w h=>engine_Check B m d F A n c P p A1 n1 c1 ins A2 n2 c2 cs A3 n3 c3 vs now last w h hO
 have h2:=fun w h=>z39 B m d F l.field w (hX.1.1.l (by decide)) h
 have h3:=fun w h=>engine_Copy B m d F A n c P p A1 n1 c1 ins A2 n2 c2 cs A3 n3 c3 vs now last w h
 have hFm:F.length=m:=hX.1.2.2.2.2.1.len
 have hwf:(∀ x∈ins,x.wf)/\(∀ x∈cs,x.wf)/\(∀ x∈vs,x.wf):=⟨Sl.all_wf hX.2.1.2.2 fun _ _ h=>h.2,Sl.all_wf hX.2.2.1.2.2 fun _ _ h=>h.2,Sl.all_wf hX.2.2.2.2.2 fun _ _ h=>h.2⟩
 have hn1:ins.length=n1/\inL n1:=⟨hX.2.1.2.2.len,hX.2.1.1.l (by decide)⟩
 obtain⟨g,hg⟩:∃ g:Eng,g=⟨F,P,p,ins,cs,vs,now,last⟩:=⟨_,rfl⟩
 have hgF:g.F=F:=by rw[hg]
 have hgc:g.cs=cs:=by rw[hg]
 obtain⟨rr,hrr⟩:∃ rr,rr=hearE g l:=⟨_,rfl⟩
 rw[<-hg] at h1 ⊢
 rw[<-hrr]
 have HX:=zh hX
 by_cases z1:engErr g=0
 ·rw[z1] at h1
  cases hany:F.any (z0a l.field)
  ·have HR:=zh (hrr.trans (hearE_none z1 (by rw[hgF];exact hany)))
   rw[show z1w (z0a l.field) F=(0,5) by unfold z1w;rw[hany];rfl] at h2
   clear hX hg hgF hgc hrr z1 hany hwf hn1 hFm h3
   go_enter Tryz.func18,Tryz.ntmps18
   go_wp2_with (first
    | (go_at_call 12;refine (h1 _ (HX.out.now bel)).mono ?_;rintro e w1 ⟨rfl,hb1⟩;refine zb hb1 ?_;rintro ⟨hc1,hf1⟩ hz1 hy1 hx1;refine szz w1 w ?_;intros)
    | (go_at_call 51;refine (h2 _ (HX.out.1.2.2.2.2.1.nowN z02 bel)).mono ?_;rintro e w2 ⟨rfl,hb2⟩;refine zb hb2 ?_;rintro ⟨hc2,hf2⟩ hz2 hy2 hx2;refine szz w2 w ?_;intros;refine szz w2 w1 ?_;intros))
   refine bpr Tryz.results18 (.tuple #[.agg #[.slice none 0 0,.slice none 0 0,.int .i64 0,.int .i64 0,.int .i64 0,.slice none 0 0,.slice none 0 0,.slice none 0 0,.int .i64 0,.int .i64 0],.slice none 0 0,.bool false,.int .i64 5]) ?_
   rw[HR.out]
   exact⟨HearIs.nil0 5 rfl,bel⟩
  obtain⟨f,hf,_,hlt⟩:=z9s (z0a l.field) F hany
  obtain⟨hset0,hvl⟩:=zf1 (z85 z1)
  rw[hg] at hset0 hvl
  dsimp only at hset0 hvl
  have hcl:cs.length=F.length:=hset0.2.2.2.1
  obtain⟨i,hi⟩:∃ i,firstAt (z0a l.field) F=i:=⟨_,rfl⟩
  rw[show z1w (z0a l.field) F=((i:Int),0) by unfold z1w;rw[hany,hi];rfl] at h2
  rw[hi] at hf hlt
  obtain⟨c0,hc0⟩:∃ c0,cs[i]?=some c0:=⟨_,gq (by omega)⟩
  have him:i<m:=by omega
  have hii:(i:Int)<(m:Int):=by omega
  have hcw:=zar (hset0.2.2.2.2 c0 (List.mem_of_getElem? hc0))
  have hch:=fun w=>call_Hear c0.state c0.id c0.tries c0.key.k c0.key.n c0.key.s c0.has.k c0.has.n c0.has.s c0.next p.tries p.base p.cap l.id l.key.k l.key.n l.key.s l.answer.k l.answer.n l.answer.s w (z0s hcw.2.2.2.1.2.2) (z0s hcw.2.2.2.2.1.2.2) (z0s hw.2.2.2.2.2)
  obtain⟨r3,hr3⟩:∃ r3,r3=z43 c0 p l.id l.key l.answer:=⟨_,rfl⟩
  have hset:=(hear_set z1 (i:=i) (c:=c0) (by rw[hgc];exact hc0) l.id l.key l.answer).1
  rw[hg] at hset
  dsimp only at hset
  rw[<-hr3] at hset
  simp only[show (⟨c0.state,c0.id,c0.tries,⟨c0.key.k,c0.key.n,c0.key.s⟩,⟨c0.has.k,c0.has.n,c0.has.s⟩,c0.next⟩:Cll)=c0 from rfl,show (⟨p.tries,p.base,p.cap⟩:Pol)=p from rfl,show (⟨l.key.k,l.key.n,l.key.s⟩:Val)=l.key from rfl,show (⟨l.answer.k,l.answer.n,l.answer.s⟩:Val)=l.answer from rfl,<-hr3] at hch
  have hnot:=fun ht=>hrr.trans (hearE_not (i:=i) (c:=c0) (f:=f) z1 (by rw[hgF];exact hany) (by rw[hgF];exact hi) (by rw[hgc];exact hc0) (by rw[hgF];exact hf) ht)
  have hyes:=fun r ht hr=>hrr.trans (hearE_yes (i:=i) (c:=c0) (f:=f) (r:=r) z1 (by rw[hgF];exact hany) (by rw[hgF];exact hi) (by rw[hgc];exact hc0) (by rw[hgF];exact hf) ht hr)
  rw[hg] at hnot hyes
  dsimp only at hnot hyes
  rw[<-hr3] at hnot hyes
  clear hr3
  obtain⟨rc,tk,rn⟩:=r3
  dsimp only at hch hnot hyes hset
  have HE:=zh (ai hnot (ai hyes (ai hset (ai hvl (ai hcl (ai hO (ai hwf (ai hn1 (ai hFm (ai hc0 hf))))))))))
  clear hX hg hgF hgc hrr z1 hany hwf hn1 hFm hset0 hset hvl hcl hO hnot hyes hi hf hc0 hlt hcw hw
  go_enter Tryz.func18,Tryz.ntmps18
  go_upto_region 8 with (first
   | (go_at_call 12;refine (h1 _ (HX.out.now bel)).mono ?_;rintro e w1 ⟨rfl,hb1⟩;refine zb hb1 ?_;rintro ⟨hc1,hf1⟩ hz1 hy1 hx1;refine szz w1 w ?_;intros)
   | (go_at_call 51;refine (h2 _ (HX.out.1.2.2.2.2.1.nowN z02 bel)).mono ?_;rintro e w2 ⟨rfl,hb2⟩;refine zb hb2 ?_;rintro ⟨hc2,hf2⟩ hz2 hy2 hx2;refine szz w2 w ?_;intros;refine szz w2 w1 ?_;intros)
   | (go_at_call 13;refine (h3 _ (HX.out.now bel)).mono ?_;rintro e w4 ⟨A5,c5,A6,c6,A7,c7,A8,c8,A9,c9,N0,N1,N2,rfl,hcop,hb4⟩;refine zb hb4 ?_;rintro ⟨hc4,hf4⟩ hz4 hy4 hx4;refine szz w4 w ?_;intros;refine szz w4 w1 ?_;intros;refine szz w4 w2 ?_;intros))
  refine z0k ?_;intro W9 hW9
  have hR9:RBOX W9 (w.heap.size+2):=by rw[hW9];and_intros<;>go_simp
  have e1:W9.cell? ⟨w.heap.size+1,1,none⟩=some (.int .i64 l.id):=by rw[hW9];go_simp
  have e2:W9.cell? ⟨w.heap.size+1,2,none⟩=some (.int .i64 l.key.k):=by rw[hW9];go_simp
  have e3:W9.cell? ⟨w.heap.size+1,3,none⟩=some (.int .i64 l.key.n):=by rw[hW9];go_simp
  have e4:W9.cell? ⟨w.heap.size+1,4,none⟩=some (.string l.key.s):=by rw[hW9];go_simp
  have e5:W9.cell? ⟨w.heap.size+1,5,none⟩=some (.int .i64 l.answer.k):=by rw[hW9];go_simp
  have e6:W9.cell? ⟨w.heap.size+1,6,none⟩=some (.int .i64 l.answer.n):=by rw[hW9];go_simp
  have e7:W9.cell? ⟨w.heap.size+1,7,none⟩=some (.string l.answer.s):=by rw[hW9];go_simp
  have hBx:Below w.heap.size w W9:=by rw[hW9];exact bel
  have hw2:w.heap.size+3<=w2.heap.size:=by have:=hb1.size;have:=hb2.size;simp at *;omega
  obtain⟨hb9,hz9,hmc,hmf⟩:=mot_made hW9 HE.out.2.2.2.2.2.2.2.2.1 HE.out.2.2.2.2.1 HE.out.2.2.2.1
  obtain⟨hln,s5,s6,o7,o8,o9,q7,q8,q9',n0,n4⟩:=cop_rows hcop hb9 HE.out.2.2.2.2.2.2.2.2.1 HE.out.2.2.2.2.1 HE.out.2.2.2.1
  have hrow:=hcop.row (W9:=W9) HE.out.2.2.2.2.2.2.1.1 HE.out.2.2.2.2.2.2.1.2.1 HE.out.2.2.2.2.2.2.1.2.2 hw2 hb9
  obtain⟨M,hM⟩:∃ M,M=w4.heap.size:=⟨_,rfl⟩
  rw[<-hM] at hmc hmf q7 q8 q9' n4 ⊢
  obtain⟨gc,kc,ec,hbc,_⟩:=o8.form (by omega)
  cases ec
  have hMg:M≠gc:=fun e=>by have:=(q8 gc rfl).2.1;omega
  have hMl:M<W9.heap.size:=by omega
  have HM:=zh (ai hmc (ai hmf (ai s5 (ai s6 (ai o7 (ai o8 (ai o9 (ai q7 (ai q8 (ai q9' (ai n0 (ai n4 (ai hrow (ai hR9 hln))))))))))))))
  have HZ:=zh (ai hw2 (ai hz9 hM))
  obtain⟨z0,z1,z2,z3,z4,z5,z6,z7,z8,z9,z10⟩:=hmc
  have hyc:CLr W9 gc (i*10) c0:=z5q o8 HE.out.2.2.2.2.2.2.2.2.2.1 him
  have HSS:=zh (show ∀ y:World,Below W9.heap.size W9 y->(y.cell? ⟨M,6,none⟩=some (.slice (some ⟨gc,0,none⟩) m c8)/\(y.cell? ⟨M,2,none⟩=some (.int .i64 p.tries)/\(y.cell? ⟨M,3,none⟩=some (.int .i64 p.base)/\(y.cell? ⟨M,4,none⟩=some (.int .i64 p.cap)/\(CLr y gc (i*10) c0/\(y.cell? ⟨w.heap.size+1,1,none⟩=some (.int .i64 l.id)/\(y.cell? ⟨w.heap.size+1,2,none⟩=some (.int .i64 l.key.k)/\(y.cell? ⟨w.heap.size+1,3,none⟩=some (.int .i64 l.key.n)/\(y.cell? ⟨w.heap.size+1,4,none⟩=some (.string l.key.s)/\(y.cell? ⟨w.heap.size+1,5,none⟩=some (.int .i64 l.answer.k)/\(y.cell? ⟨w.heap.size+1,6,none⟩=some (.int .i64 l.answer.n)/\y.cell? ⟨w.heap.size+1,7,none⟩=some (.string l.answer.s)))))))))))) from fun y h=>⟨z00 z6 h,z00 z2 h,z00 z3 h,z00 z4 h,hyc.keep h,z00 e1 h,z00 e2 h,z00 e3 h,z00 e4 h,z00 e5 h,z00 e6 h,z00 e7 h⟩)
  clear hcop hW9 hR9 hmf s5 s6 o7 o8 o9 q7 q8 q9' n0 n4 hrow hln hbc hM hb1 hb2 hb4 hb9 hc1 hf1 hc2 hf2 hc4 hf4 hz9 z0 z1 z2 z3 z4 z5 z6 z7 z8 z9 z10 hyc e1 e2 e3 e4 e5 e6 e7 h1 h2 h3
  go_cut [12,13] (fun s12 s13 wx=>∃ g4:Nat,s12=.pointer (some ⟨g4,0,none⟩)/\s13=.bool tk/\W9.heap.size<=g4/\CL wx g4 rc/\Below W9.heap.size W9 wx)
  case first =>
   refine z0k ?_;intro u0' hu0'
   obtain⟨u0,hu0⟩:∃ y,y=u0'.drew:=⟨_,rfl⟩
   have hY0:Below W9.heap.size W9 u0:=by rw[hu0,hu0'];exact (Below.refl _ _).drew
   have hS0:=HSS.out u0 hY0
   refine z0r (fun w'=>w'.cell? ⟨M,6,none⟩=some (.slice (some ⟨gc,0,none⟩) m c8)/\(w'.cell? ⟨M,2,none⟩=some (.int .i64 p.tries)/\(w'.cell? ⟨M,3,none⟩=some (.int .i64 p.base)/\(w'.cell? ⟨M,4,none⟩=some (.int .i64 p.cap)/\(CLr w' gc (i*10) c0/\(w'.cell? ⟨w.heap.size+1,1,none⟩=some (.int .i64 l.id)/\(w'.cell? ⟨w.heap.size+1,2,none⟩=some (.int .i64 l.key.k)/\(w'.cell? ⟨w.heap.size+1,3,none⟩=some (.int .i64 l.key.n)/\(w'.cell? ⟨w.heap.size+1,4,none⟩=some (.string l.key.s)/\(w'.cell? ⟨w.heap.size+1,5,none⟩=some (.int .i64 l.answer.k)/\(w'.cell? ⟨w.heap.size+1,6,none⟩=some (.int .i64 l.answer.n)/\w'.cell? ⟨w.heap.size+1,7,none⟩=some (.string l.answer.s)))))))))))) 27 (by kernel_rfl) ?_
   rw[<-hu0]
   clear hu0' hu0
   refine zt 0 hS0 ?_
   simp only[Act.put,pq]
   refine zt 1 hS0 ?_
   simp only[Act.put,pq]
   refine zt 2 hS0 ?_
   simp only[Act.put,pq]
   refine zt 3 hS0 ?_
   simp only[Act.put,pq]
   refine zt 4 hS0 ?_
   simp only[Act.put,pq]
   refine zt 5 hS0 ?_
   simp only[Act.put,pq]
   refine zt 6 hS0 ?_
   simp only[Act.put,pq]
   refine zt 7 hS0 ?_
   simp only[Act.put,pq]
   refine zt 8 hS0 ?_
   simp only[Act.put,pq]
   refine zt 9 hS0 ?_
   simp only[Act.put,pq]
   refine zt 10 hS0 ?_
   simp only[Act.put,pq]
   refine zt 11 hS0 ?_
   simp only[Act.put,pq]
   refine zt 12 hS0 ?_
   simp only[Act.put,pq]
   refine zt 13 hS0 ?_
   simp only[Act.put,pq]
   refine zt 14 hS0 ?_
   simp only[Act.put,pq]
   refine zt 15 hS0 ?_
   simp only[Act.put,pq]
   refine zt 16 hS0 ?_
   simp only[Act.put,pq]
   refine zt 17 hS0 ?_
   simp only[Act.put,pq]
   refine zt 18 hS0 ?_
   simp only[Act.put,pq]
   refine z2s (i:=19) (j:=24) (o:=_) (p:=_) rfl rfl (by kernel_rfl) (fun K hK=>?_) (fun K hK=>?_)
   ·go_simp
    go_at_call 52;refine (hch _).mono ?_;rintro e u1 ⟨rfl,hb1⟩
    have hY1:=z01 hY0 hb1 hY0.size
    have hS1:=HSS.out u1 hY1
    refine hK.out _ _ (fun _=>hS1) ?_
    clear hK K
    try simp only[Act.put,pq]
    refine zt 20 hS1 ?_
    simp only[Act.put,pq]
    refine zt 21 hS1 ?_
    simp only[Act.put,pq]
    refine zt 22 hS1 ?_
    simp only[Act.put,pq]
    refine zt 23 hS1 ?_
    simp only[Act.put,pq]
    refine z06 (i:=24) (o:=_) rfl (by kernel_rfl) (fun K hK=>?_)
    go_simp
    obtain⟨u2,hu2⟩:∃ y,y=u1.alloc (.cells #[.int .i64 0,.int .i64 0,.int .i64 0,.int .i64 0,.int .i64 0,.string ⟨#[]⟩,.int .i64 0,.int .i64 0,.string ⟨#[]⟩,.int .i64 0] 62):=⟨_,rfl⟩
    rw[<-hu2]
    have hb2:Below u1.heap.size u1 u2:=by rw[hu2];exact (Below.refl _ _).alloc (nr _) _
    have hY2:=z01 hY1 hb2 hY1.size
    have hS2:=HSS.out u2 hY2
    have hG2:CBOX u2 u1.heap.size:=by rw[hu2];and_intros<;>go_simp
    clear hu2
    refine hK.out _ _ (fun _=>hS2) ?_
    clear hK K
    try simp only[Act.put,pq]
    have hgl:u1.heap.size<u2.heap.size:=hG2.lt
    obtain⟨l0,l1,l2,l3,l4,l5,l6,l7,l8,l9,n0,n1,n2,n3,n4,n5,n6,n7,n8,n9⟩:=hG2
    refine z06 (i:=25) (o:=_) rfl (by kernel_rfl) (fun K hK=>?_)
    go_simp
    refine hK.out _ _ (fun _=>HSS.out _ (bel10 hY2 hY1.size)) ?_
    clear hK K
    try simp only[Act.put,pq]
    refine z06 (i:=26) (o:=_) rfl (by kernel_rfl) (fun K hK=>?_)
    go_simp
    refine hK.out _ _ (fun _=>HSS.out _ (bel10 hY2 hY1.size)) ?_
    clear hK K
    try simp only[Act.put,pq]
    refine z06 (i:=27) (o:=_) rfl (by kernel_rfl) (fun K hK=>?_)
    go_simp
    refine hK.out _ _ (fun h=>absurd h (by decide)) ?_
    clear hK K
    refine z0f (by kernel_rfl) ?_ _
    try simp only[Act.put,pq]
    go_wp2_with fail
    go_meet
    refine⟨u1.heap.size,rfl,rfl,(show W9.heap.size<=u1.heap.size from hY1.size),(by and_intros<;>go_simp),(bel10 hY2 hY1.size)⟩
   go_simp
   obtain⟨u1,hu1⟩:∃ y,y=u0.alloc (.cells #[.int .i64 0,.int .i64 0,.int .i64 0,.int .i64 0,.int .i64 0,.string ⟨#[]⟩,.int .i64 0,.int .i64 0,.string ⟨#[]⟩,.int .i64 0] 62):=⟨_,rfl⟩
   rw[<-hu1]
   have hb1:Below u0.heap.size u0 u1:=by rw[hu1];exact (Below.refl _ _).alloc (nr _) _
   have hY1:=z01 hY0 hb1 hY0.size
   have hS1:=HSS.out u1 hY1
   have hG1:CBOX u1 u0.heap.size:=by rw[hu1];and_intros<;>go_simp
   clear hu1
   refine hK.out _ _ (fun _=>hS1) ?_
   clear hK K
   try simp only[Act.put,pq]
   refine z06 (i:=19) (o:=_) rfl (by kernel_rfl) (fun K hK=>?_)
   go_simp
   go_at_call 52;refine (hch _).mono ?_;rintro e u2 ⟨rfl,hb2⟩
   have hY2:=z01 hY1 hb2 hY1.size
   have hS2:=HSS.out u2 hY2
   have hG2:=hG1.keep hb2
   refine hK.out _ _ (fun _=>hS2) ?_
   clear hK K
   try simp only[Act.put,pq]
   refine zt 20 hS2 ?_
   simp only[Act.put,pq]
   refine zt 21 hS2 ?_
   simp only[Act.put,pq]
   refine zt 22 hS2 ?_
   simp only[Act.put,pq]
   refine zt 23 hS2 ?_
   simp only[Act.put,pq]
   have hgl:u0.heap.size<u2.heap.size:=hG2.lt
   obtain⟨l0,l1,l2,l3,l4,l5,l6,l7,l8,l9,n0,n1,n2,n3,n4,n5,n6,n7,n8,n9⟩:=hG2
   refine z06 (i:=25) (o:=_) rfl (by kernel_rfl) (fun K hK=>?_)
   go_simp
   refine hK.out _ _ (fun _=>HSS.out _ (bel10 hY2 hY0.size)) ?_
   clear hK K
   try simp only[Act.put,pq]
   refine z06 (i:=26) (o:=_) rfl (by kernel_rfl) (fun K hK=>?_)
   go_simp
   refine hK.out _ _ (fun _=>HSS.out _ (bel10 hY2 hY0.size)) ?_
   clear hK K
   try simp only[Act.put,pq]
   refine z06 (i:=27) (o:=_) rfl (by kernel_rfl) (fun K hK=>?_)
   go_simp
   refine hK.out _ _ (fun h=>absurd h (by decide)) ?_
   clear hK K
   refine z0f (by kernel_rfl) ?_ _
   try simp only[Act.put,pq]
   go_wp2_with fail
   go_meet
   refine⟨u0.heap.size,rfl,rfl,(show W9.heap.size<=u0.heap.size from hY0.size),(by and_intros<;>go_simp),(bel10 hY2 hY0.size)⟩
  case rest =>
   obtain⟨g4,rfl,rfl,hg4,hL,hb⟩:=hcut
   have hzc:=hb.size
   have hBc:Below w.heap.size w wc:=z01 hBx hb hBx.size
   have hg4w:g4<wc.heap.size:=block_lt_of_cell hL.1
   obtain⟨gmc,gmf,g5,g6,g7,g8,g9,gq7,gq8,gq9,gn0,gn4,grow,gR,gln⟩:=HM.out
   have kmc:=gmc.block (hb.block M hMl)
   have kmf:=gmf.block (hb.block M hMl)
   have k5:=g5.keepN z02 (w':=wc) (S':=z2u w2.heap.size N0) (fun b hb'=>⟨hb',hb.block b (by have:=hb'.2;omega)⟩)
   have k6:=g6.keepN z0d (w':=wc) (S':=z2u w2.heap.size N0) (fun b hb'=>⟨hb',hb.block b (by have:=hb'.2;omega)⟩)
   have k7:=z04 g7 hb
   have k8:=z04 g8 hb
   have k9:=z04 g9 hb
   have kR:=gR.block (hb.block _ (by have:=HZ.out;omega))
   have krow:=grow.put (w':=wc) (nr _) hb.size (fun b _ hb'=>hb.block b hb')
   have hbA:=HSS.out wc hb
   have t5:wc.cell? ⟨w.heap.size+1,5,none⟩=some (.int .i64 l.answer.k):=hbA.2.2.2.2.2.2.2.2.2.1
   obtain⟨b8,o8,f8,X8,C8,e8,hb8,hf8,hrep8,x0,x1,x2,x3,x4,x5,x6,x7,x8⟩:=z25 k5 him
   obtain rfl:f=f8:=Option.some.inj (HE.out.2.2.2.2.2.2.2.2.2.2.symm.trans hf8)
   subst e8
   have kmc':=kmc
   obtain⟨z0,z1,z2,z3,z4,z5,z6,z7,z8,z9,z10⟩:=kmc'
   have HK:=zh (ai kmc (ai kmf (ai k5 (ai k6 (ai k7 (ai k8 (ai k9 (ai kR krow))))))))
   have HB:=zh (ai hBc hg4)
   clear kmc kmf k5 k6 k7 k8 k9 kR krow hbA gmc gmf g5 g6 g7 g8 g9 grow gR hb hBc HSS hch hBx x0 x1 x3 x4 x5 x6 x7 x8 hrep8 hf8 hb8
   cases tk
   ·have HR:=zh (HE.out.1 (.inl rfl))
    go_upto_region 10 with (go_quiet (fail))
    obtain⟨⟨q0,q1,q2,q3,q4,q5,q6,q7,q8,q9⟩,r0,r1,r2,r3,r4,r5,r6,r7,r8,r9⟩:=HK.out.2.2.2.2.2.2.2.1
    have hl2:w.heap.size+2<wc.heap.size:=HK.out.2.2.2.2.2.2.2.1.lt
    go_wp2_with fail
    refine bpr Tryz.results18 (.tuple #[.agg #[.slice (some ⟨b8,o8,none⟩) m c5,.slice A6 P.length c6,.int .i64 p.tries,.int .i64 p.base,.int .i64 p.cap,.slice A7 ins.length c7,.slice (some ⟨gc,0,none⟩) m c8,.slice A9 m c9,.int .i64 now,.int .i64 last],.slice none 0 0,.bool false,.int .i64 0]) ?_
    generalize hWe:World.setCell _ _ _=We
    rw[HR.out]
    have hrw:=HK.out.2.2.2.2.2.2.2.2.put (w':=We) (a:=w.heap.size) (by omega) (by rw[<-hWe];simp) (fun b h1 h2=>by
     rw[<-hWe]
     iterate 10 rw[Below.heap_setCell _ _ _ _ (by simp only[ne_eq];omega)]
     try simp only[bqh])
    refine⟨⟨_,_,_,_,_,_,_,_,_,_,_,_,?_,hrw⟩,?_⟩
    ·dsimp only
     rw[HE.out.2.2.2.2.1,HE.out.2.2.2.1,HE.out.2.2.2.2.2.2.2.2.1]
     rfl
    rw[<-hWe]
    iterate 10 refine z03 ?_ (by dsimp only;omega)
    exact z08 HB.out.1 (show Below wc.heap.size wc _ from bel)
   by_cases hk:l.answer.k=f.type
   ·have hk':(l.answer.k != f.type)=false:=by simpa using hk
    have HT:=zh (show ¬ (true=false\/l.answer.k≠f.type) from fun h=>h.elim (fun h=>by cases h) (fun h=>h hk))
    clear hk
    go_upto_region 11 with (go_quiet (fail))
    refine z0k ?_;intro v0' hv0'
    obtain⟨v0,hv0⟩:∃ y,y=v0'.drew:=⟨_,rfl⟩
    have hV0:Below wc.heap.size wc v0:=by rw[hv0,hv0'];exact bel
    have hT0:v0.cell? ⟨M,6,none⟩=some (.slice (some ⟨gc,0,none⟩) m c8)/\CL v0 g4 rc:=⟨z00 z6 hV0,hL.keep hV0⟩
    refine z0r (fun w'=>w'.cell? ⟨M,6,none⟩=some (.slice (some ⟨gc,0,none⟩) m c8)/\CL w' g4 rc) 8 (by kernel_rfl) ?_
    rw[<-hv0]
    clear hv0' hv0 hL z0 z1 z2 z3 z4 z5 z6 z7 z8 z9 z10
    refine zt 0 hT0 ?_
    simp only[Act.put,pq]
    refine zt 1 hT0 ?_
    simp only[Act.put,pq]
    refine zt 2 hT0 ?_
    simp only[Act.put,pq]
    refine zt 3 hT0 ?_
    simp only[Act.put,pq]
    refine zt 4 hT0 ?_
    simp only[Act.put,pq]
    refine zt 5 hT0 ?_
    simp only[Act.put,pq]
    refine zt 6 hT0 ?_
    simp only[Act.put,pq]
    refine zt 7 hT0 ?_
    simp only[Act.put,pq]
    refine z06 (i:=8) (o:=_) rfl (by kernel_rfl) (fun K hK=>?_)
    have ho0:=z04 HK.out.2.2.2.2.2.1 hV0
    obtain⟨e0,e1,e2,e3,e4,e5,e6,e7,e8,e9⟩:=z5q ho0 HE.out.2.2.2.2.2.2.2.2.2.1 him
    have f0:=ho0.frozenAt (i*10)
    have f1:=ho0.frozenAt (i*10+1)
    have f2:=ho0.frozenAt (i*10+2)
    have f3:=ho0.frozenAt (i*10+3)
    have f4:=ho0.frozenAt (i*10+4)
    have f5:=ho0.frozenAt (i*10+5)
    have f6:=ho0.frozenAt (i*10+6)
    have f7:=ho0.frozenAt (i*10+7)
    have f8:=ho0.frozenAt (i*10+8)
    have f9:=ho0.frozenAt (i*10+9)
    have hgu:gc<v0.heap.size:=block_lt_of_cell e0
    go_simp
    refine hK.out _ _ (fun h=>absurd h (by decide)) ?_
    clear hK K
    refine z0f (by kernel_rfl) ?_ _
    try simp only[Act.put,pq]
    go_upto_region 12 with fail
    refine z0k ?_;intro W2 hW2
    have hst:W2.ownsRow N0 62 10 (.slice (some ⟨gc,0,none⟩) m c8) m ((cs.set i rc).flatMap Cll.cs):=by
     rw[hW2];exact calls_stored ho0 (by have:=HE.out.2.2.2.2.1;have:=HE.out.2.2.2.2.2.2.2.2.1;omega)
    have hblk:∀ bb:Nat,bb≠gc->W2.heap[bb]?=wc.heap[bb]?\/wc.heap.size<=bb:=fun bb hne=>by
     rcases Nat.lt_or_ge bb wc.heap.size with h | h
     ·left
      rw[hW2]
      iterate 10 rw[Below.heap_setCell _ _ _ _ (by exact hne)]
      exact hV0.block bb h
     exact .inr h
    have hz2:W2.heap.size=v0.heap.size:=by rw[hW2];simp
    have hzv:=hV0.size
    have hgN:=(gq8 gc rfl)
    have hB2:∀ x,x<=gc->x<=wc.heap.size->Below x wc W2:=fun x h h'=>by
     rw[hW2]
     iterate 10 refine z03 ?_ h
     exact hV0.mono h'
    have hbk:∀ bb:Nat,bb≠gc->bb<wc.heap.size->W2.heap[bb]?=wc.heap[bb]?:=fun bb h h'=>(hblk bb h).resolve_right (by omega)
    have hZ:=HZ.out
    have j7:=z09 HK.out.2.2.2.2.1 (w':=W2) (fun q hq h=>hbk q (fun e=>(gq7 q hq).2.2.1 (by rw[e];rfl)) h)
    have j9:=z09 HK.out.2.2.2.2.2.2.1 (w':=W2) (fun q hq h=>hbk q (fun e=>(gq8 gc rfl).2.2 (by rw[<-e];exact hq.symm)) h)
    have j5:=HK.out.2.2.1.keepN z02 (w':=W2) (S':=z2u w2.heap.size N0) (fun b hb'=>⟨hb',hbk b (by have:=hb'.2;omega) (by have:=hb'.2;omega)⟩)
    have j6:=HK.out.2.2.2.1.keepN z0d (w':=W2) (S':=z2u w2.heap.size N0) (fun b hb'=>⟨hb',hbk b (by have:=hb'.2;omega) (by have:=hb'.2;omega)⟩)
    obtain⟨i5,i6,i7,iSo,iSf,iSa⟩:=mot_rows (M:=M) (lv:=.slice none 0 0) (A8:=some ⟨gc,0,none⟩) (c8:=c8) (A9:=A9) (c9:=c9) (m:=m) j5 j6 j7 HE.out.2.2.2.2.2.2.1.1 (by omega) gn0 gn4 (fun q hq=>⟨by have:=(gq7 q hq).2.1;omega,(gq7 q hq).2.2.1,(gq7 q hq).2.2.2,fun e=>by cases e⟩) (fun q hq=>(gq8 q hq).1) (fun q hq=>(gq9 q hq).1) (fun q hq=>by cases hq)
    have hdone:=motor_done M m c5 F (some ⟨b8,o8,none⟩) _ A6 P.length c6 P p A7 ins.length c7 ins (some ⟨gc,0,none⟩) c8 A9 c9 (cs.set i rc) vs now last (.slice none 0 0) [] N0 W2
     ⟨HK.out.1.block (hbk M hMg (by omega)),HK.out.2.1.block (hbk M hMg (by omega)),hst,j9,World.ownsRow_nil _ _ _ _⟩ i5 i6 i7 (by rw[HE.out.2.2.2.2.2.2.2.1.1];exact HE.out.2.2.2.2.2.2.2.1.2) iSo iSf (fun q hq=>by cases hq)
     (fun e=>hMg (Option.some.inj e)) (fun e=>by have:=(gq9 M e.symm).2;omega) (fun q hq e=>(gq8 q hq).2.2 e) (by omega) HE.out.2.2.2.2.2.1 HE.out.2.2.1 HE.out.2.2.2.1 (Nat.zero_le _) (fun x hx=>absurd hx List.not_mem_nil) gln.1 gln.2.1 gln.2.2.1 gln.2.2.2.1 gln.2.2.2.2 (w.heap.size+3) (fun b hb'=>by have:=iSa b hb';omega) (by omega)
    obtain⟨r4,hr4⟩:∃ r4,r4=becE ⟨F,P,p,ins,cs.set i rc,vs,now,last⟩ []:=⟨_,rfl⟩
    rw[<-hr4] at hdone
    have HR:=zh (HE.out.2.1 r4 HT.out hr4)
    clear hr4
    obtain⟨⟨F',P',p',ins',cs',vs',now',last'⟩,ls',er'⟩:=r4
    have hR2:=HK.out.2.2.2.2.2.2.2.1.block (hbk (w.heap.size+2) (by omega) (by omega))
    have hBW:Below w.heap.size w W2:=HB.out.1.trans (hB2 w.heap.size (by omega) (by omega))
    have hM3:w.heap.size+3<=M:=by omega
    have hN3:w.heap.size+3<=N0:=by omega
    have hS3:w.heap.size+3<=W2.heap.size:=by omega
    clear hZ hz2 hW2 hst hblk hB2 j5 j6 j7 j9 i5 i6 i7 iSo iSf iSa ho0 hT0 e0 f0 e1 f1 e2 f2 e3 f3 e4 f4 e5 f5 e6 f6 e7 f7 e8 f8 e9 f9
    go_wp2_with (go_at_call 25;refine hdone.mono ?_;rintro e w5 ⟨⟨B',d',A',c',A1',c1',A2',c2',A3',c3',A4',c4',rfl,hrw⟩,hbb⟩;have hb5:=hbb (w.heap.size+3) (by omega) (by omega);have hz5:=hb5.size;have hl5:w.heap.size+2<w5.heap.size:=(by omega);obtain⟨⟨q0,q1,q2,q3,q4,q5,q6,q7,q8,q9⟩,r0,r1,r2,r3,r4,r5,r6,r7,r8,r9⟩:=hR2.block (hb5.block (w.heap.size+2) (by omega)))
    refine bpr Tryz.results18 (.tuple #[.agg #[.slice B' F'.length d',.slice A' P'.length c',.int .i64 p'.tries,.int .i64 p'.base,.int .i64 p'.cap,.slice A1' ins'.length c1',.slice A2' cs'.length c2',.slice A3' vs'.length c3',.int .i64 now',.int .i64 last'],.slice A4' ls'.length c4',.bool (er'==0),.int .i64 er']) ?_
    generalize hWe:World.alloc _ _=We
    rw[HR.out]
    have hrw':=EngRow.put (w':=We) (a:=w.heap.size) (show EngRow (w.heap.size+3) w5 ⟨F',P',p',ins',cs',vs',now',last'⟩ ls' B' d' A' c' A1' c1' A2' c2' A3' c3' A4' c4' from hrw) (by omega) (by rw[<-hWe];simp) (fun b h1 h2=>by
     rw[<-hWe,Below.heap_alloc _ _ _ (by simp;omega)]
     iterate 10 rw[Below.heap_setCell _ _ _ _ (by simp only[ne_eq];omega)])
    refine⟨⟨_,_,_,_,_,_,_,_,_,_,_,_,rfl,hrw'⟩,?_⟩
    rw[<-hWe]
    refine Below.alloc ?_ (by simp;omega) _
    iterate 10 refine z03 ?_ (by dsimp only;omega)
    exact hBW.trans (hbb w.heap.size (by omega) (by omega))
   have hk':(l.answer.k != f.type)=true:=by simpa using hk
   have HR:=zh (HE.out.1 (.inr hk))
   clear hk
   go_upto_region 10 with (go_quiet (fail))
   obtain⟨⟨q0,q1,q2,q3,q4,q5,q6,q7,q8,q9⟩,r0,r1,r2,r3,r4,r5,r6,r7,r8,r9⟩:=HK.out.2.2.2.2.2.2.2.1
   have hl2:w.heap.size+2<wc.heap.size:=HK.out.2.2.2.2.2.2.2.1.lt
   go_wp2_with fail
   refine bpr Tryz.results18 (.tuple #[.agg #[.slice (some ⟨b8,o8,none⟩) m c5,.slice A6 P.length c6,.int .i64 p.tries,.int .i64 p.base,.int .i64 p.cap,.slice A7 ins.length c7,.slice (some ⟨gc,0,none⟩) m c8,.slice A9 m c9,.int .i64 now,.int .i64 last],.slice none 0 0,.bool false,.int .i64 0]) ?_
   generalize hWe:World.setCell _ _ _=We
   rw[HR.out]
   have hrw:=HK.out.2.2.2.2.2.2.2.2.put (w':=We) (a:=w.heap.size) (by omega) (by rw[<-hWe];simp) (fun b h1 h2=>by
    rw[<-hWe]
    iterate 10 rw[Below.heap_setCell _ _ _ _ (by simp only[ne_eq];omega)]
    try simp only[bqh])
   refine⟨⟨_,_,_,_,_,_,_,_,_,_,_,_,?_,hrw⟩,?_⟩
   ·dsimp only
    rw[HE.out.2.2.2.2.1,HE.out.2.2.2.1,HE.out.2.2.2.2.2.2.2.2.1]
    rfl
   rw[<-hWe]
   iterate 10 refine z03 ?_ (by dsimp only;omega)
   exact z08 HB.out.1 (show Below wc.heap.size wc _ from bel)
 have gz:(engErr g != 0)=true:=by simpa using z1
 have HR:=zh (hrr.trans (hearE_bad z1))
 generalize engErr g=er at h1 gz HR
 clear hX hg hrr z1 hwf hn1 hFm h3 h2
 go_enter Tryz.func18,Tryz.ntmps18
 go_wp2_with (go_at_call 12;refine (h1 _ (HX.out.now bel)).mono ?_;rintro e w1 ⟨rfl,hb1⟩;refine zb hb1 ?_;rintro ⟨hc1,hf1⟩ hz1 hy1 hx1;refine szz w1 w ?_;intros)
 refine bpr Tryz.results18 (.tuple #[.agg #[.slice none 0 0,.slice none 0 0,.int .i64 0,.int .i64 0,.int .i64 0,.slice none 0 0,.slice none 0 0,.slice none 0 0,.int .i64 0,.int .i64 0],.slice none 0 0,.bool false,.int .i64 er]) ?_
 rw[HR.out]
 exact⟨HearIs.nil0 er rfl,bel⟩
end Go.Proofs.YtldhlpjjcnlbcaaGreat
