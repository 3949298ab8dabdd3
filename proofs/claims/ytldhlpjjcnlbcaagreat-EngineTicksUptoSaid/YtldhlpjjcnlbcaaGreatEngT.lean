/- engine.Tick. (printed by mkengt.py) -/
import Derived.Test.YtldhlpjjcnlbcaaGreatEng8
import Derived.Test.YtldhlpjjcnlbcaaGreatEngM
import Derived.Test.YtldhlpjjcnlbcaaGreatCall5
import Derived.Test.YtldhlpjjcnlbcaaGreatCall6
set_option maxRecDepth 100000
set_option maxHeartbeats 8000000
namespace Go.Proofs.YtldhlpjjcnlbcaaGreat
open Go.RowKit
theorem wake_ok {c:Cll}{p:Pol}(h:z07 c p=0){now:Int}(hn:0<=now/\now<=1073741824):z07 (z44 c p now).1 p=0:=by
 unfold z44
 rw[if_pos h,if_neg (by omega)]
 have hg:=z7p h
 by_cases h1:c.state=1/\c.next<=now
 ·rw[if_pos h1]
  rcases z4v h with rfl | ⟨_,h2,h3⟩
  ·cases h1.1
  obtain⟨h5,_⟩:=zap h3
  obtain⟨_,hb1,hb2,hb3⟩:=zc4 h h1.1
  have hbd:=z9a p (c.tries+1) hg
  have hno:isNo c.has=true:=by rw[hb3];decide +kernel
  unfold z2a at h2
  by_cases h6:c.tries=p.tries
  ·rw[if_pos h6]
   unfold z07
   dsimp only
   rw[if_pos hg,if_neg (by decide),if_neg (by decide),if_neg (by unfold z2a;dsimp only;omega),if_pos (by unfold z3q;simp[h5,hno,h6])]
  rw[if_neg h6]
  unfold z07
  dsimp only
  rw[if_pos hg,if_neg (by decide),if_neg (by decide),if_neg (by unfold z2a;dsimp only;omega),if_pos (by unfold z3q;simp[h5,hno])]
 rw[if_neg h1];exact h
def wakeC (p:Pol)(now:Int)(cs:List Cll):List Cll:=cs.map fun c=>(z44 c p now).1
def zal (F:List Fld)(p:Pol)(now:Int)(cs:List Cll):Nat -> List Ltr
 | 0=>[]
 | j+1=>match cs[j]?,(F)[j]? with
  | some c,some f=>if (z44 c p now).2.1=true then zal F p now cs j++[⟨f.name,(z44 c p now).1.id,(z44 c p now).1.key,noVal⟩] else zal F p now cs j
  | _,_=>zal F p now cs j
def tickE (g:Eng)(n:Int):Eng×List Ltr×Int :=
 if engErr g≠0 then (noEng,[],engErr g) else if n<1\/1000<n\/1073741824-g.now<n then (noEng,[],4)
 else becE { g with now:=g.now+n,cs:=wakeC g.p (g.now+n) g.cs } (zal g.F g.p (g.now+n) g.cs g.cs.length)
theorem wakeTo_next {F:List Fld}{p:Pol}{now:Int}{cs:List Cll}{j:Nat}{c:Cll}{f:Fld}(hc:cs[j]?=some c)(hf:(F)[j]?=some f) :
  zal F p now cs (j+1)=if (z44 c p now).2.1=true then zal F p now cs j++[⟨f.name,(z44 c p now).1.id,(z44 c p now).1.key,noVal⟩] else zal F p now cs j:=by
 rw[zal,hc];simp only[hf]
theorem wakeTo_len {F:List Fld}{p:Pol}{now:Int}{cs:List Cll}:∀ j,(zal F p now cs j).length<=j
 | 0=>nr _
 | j+1=>by
  have ih:=wakeTo_len (F:=F) (p:=p) (now:=now) (cs:=cs) j
  rw[zal]
  split
  ·split
   ·rw[List.length_append,List.length_singleton];omega
   omega
  omega
theorem wakeTo_wf {F:List Fld}{p:Pol}{now:Int}{cs:List Cll}(hF:∀ f∈F,inS f.name)(hc:∀ c∈cs,z07 c p=0)(hn:0<=now/\now<=1073741824):∀ j,∀ l∈zal F p now cs j,l.wf
 | 0=>fun l hl=>absurd hl List.not_mem_nil
 | j+1=>fun l hl=>by
  have ih:=wakeTo_wf hF hc hn j
  rw[zal] at hl
  split at hl
  ·rename_i c f h1 h2
   split at hl
   ·rcases List.mem_append.1 hl with hl | hl
    ·exact ih l hl
    rw[List.mem_singleton.1 hl]
    have hw:=zar (wake_ok (hc c (List.mem_of_getElem? h1)) hn)
    exact⟨hF f (List.mem_of_getElem? h2),hw.2.1,hw.2.2.2.1,ze1⟩
   exact ih l hl
  exact ih l hl
theorem tick_set {g:Eng}(h:engErr g=0){n:Int}(h1:1<=n)(h2:n<=1073741824-g.now):SetOk g.F g.p g.ins (g.now+n) (wakeC g.p (g.now+n) g.cs) g.last/\g.vs.length=g.F.length:=by
 obtain⟨⟨k1,k2,k3,k4,k5⟩,h6⟩:=zf1 (z85 h)
 refine⟨⟨k1,by omega,k3,by unfold wakeC;rw[List.length_map,k4],fun c' hc'=>?_⟩,h6⟩
 obtain⟨c,hc,rfl⟩:=List.mem_map.1 hc'
 exact wake_ok (k5 c hc) (by omega)
theorem wake_asks {c:Cll}{p:Pol}{now:Int}(h:(z44 c p now).2.1=true):(z44 c p now).1.state=1:=by
 unfold z44 at h ⊢
 split at h
 ·rename_i h0
  rw[if_pos h0]
  split at h
  ·cases h
  rename_i h1
  rw[if_neg h1]
  split at h
  ·rename_i h2
   rw[if_pos h2]
   split at h
   ·cases h
   rename_i h3;rw[if_neg h3]
  cases h
 cases h
theorem tickE_bad {g:Eng}{n:Int}(h:engErr g≠0):tickE g n=(noEng,[],engErr g):=by unfold tickE;rw[if_pos h]
theorem tickE_out {g:Eng}{n:Int}(h:engErr g=0)(hn:n<1\/1000<n\/1073741824-g.now<n):tickE g n=(noEng,[],4):=by unfold tickE;rw[if_neg (by simpa using h),if_pos hn]
theorem tickE_yes {g:Eng}{n:Int}(h:engErr g=0)(hn:¬ (n<1\/1000<n\/1073741824-g.now<n)):tickE g n=becE { g with now:=g.now+n,cs:=wakeC g.p (g.now+n) g.cs } (zal g.F g.p (g.now+n) g.cs g.cs.length):=by unfold tickE;rw[if_neg (by simpa using h),if_neg hn]
theorem engine_Tick (B:Option Addr)(m d:Nat)(F:List Fld)(A:Option Addr)(n c:Nat)(P:List Pag)(p:Pol)(A1:Option Addr)(n1 c1:Nat)(ins:List Fct)(A2:Option Addr)(n2 c2:Nat)(cs:List Cll)(A3:Option Addr)(n3 c3:Nat)(vs:List Val)(now last:Int)(t:Int)(w:World)
  (hX:REn w B m d F A n c P A1 n1 c1 ins A2 n2 c2 cs A3 n3 c3 vs)(hO:z2i F)(ht:inI t) :
  Calls Tryz.prog 20 #[.agg #[.slice B m d,.slice A n c,.int .i64 p.tries,.int .i64 p.base,.int .i64 p.cap,.slice A1 n1 c1,.slice A2 n2 c2,.slice A3 n3 c3,.int .i64 now,.int .i64 last],.int .i64 t] w (RetEng w (tickE ⟨F,P,p,ins,cs,vs,now,last⟩ t)):=by
 have h1:=fun w h=>engine_Check B m d F A n c P p A1 n1 c1 ins A2 n2 c2 cs A3 n3 c3 vs now last w h hO
 have h3:=fun w h=>engine_Copy B m d F A n c P p A1 n1 c1 ins A2 n2 c2 cs A3 n3 c3 vs now last w h
 have hFm:F.length=m:=hX.1.2.2.2.2.1.len
 have hwf:(∀ x∈ins,x.wf)/\(∀ x∈cs,x.wf)/\(∀ x∈vs,x.wf):=⟨Sl.all_wf hX.2.1.2.2 fun _ _ h=>h.2,Sl.all_wf hX.2.2.1.2.2 fun _ _ h=>h.2,Sl.all_wf hX.2.2.2.2.2 fun _ _ h=>h.2⟩
 have hn1:ins.length=n1/\inL n1:=⟨hX.2.1.2.2.len,hX.2.1.1.l (by decide)⟩
 obtain⟨g,hg⟩:∃ g:Eng,g=⟨F,P,p,ins,cs,vs,now,last⟩:=⟨_,rfl⟩
 obtain⟨rr,hrr⟩:∃ rr,rr=tickE g t:=⟨_,rfl⟩
 rw[<-hg] at h1 ⊢
 rw[<-hrr]
 have HX:=zh hX
 by_cases z1:engErr g=0
 ·rw[z1] at h1
  obtain⟨hset0,hvl⟩:=zf1 (z85 z1)
  have h14:=form14 (zft (z85 z1)).1
  have hout:=fun hn=>hrr.trans (tickE_out (n:=t) z1 hn)
  have hyes:=fun hn=>hrr.trans (tickE_yes (n:=t) z1 hn)
  rw[hg] at hset0 hvl hout hyes h14
  dsimp only at hset0 hvl hout hyes h14
  have hnow:=hset0.2.1
  have hcl:cs.length=F.length:=hset0.2.2.2.1
  have hwr:IntKind.i64.wrap (1073741824-now)=1073741824-now:=IntWalk.i64_in _ (by omega)
  have HE:=zh (ai hout (ai hyes (ai hset0 (ai hvl (ai hcl (ai hO (ai hwf (ai hn1 (ai hFm h14)))))))))
  by_cases a1:t<1
  ·have g1:decide (t<1)=true:=decide_eq_true a1
   have HR:=zh (HE.out.1 (.inl a1))
   clear a1
   clear hX hg hrr z1 hwf hn1 hset0 hvl hcl hO hout hyes hnow h14 hFm h3 HE
   go_enter Tryz.func20,Tryz.ntmps20
   go_wp2_with (go_at_call 12;refine (h1 _ (HX.out.now bel)).mono ?_;rintro e w1 ⟨rfl,hb1⟩;refine zb hb1 ?_;rintro ⟨hc1,hf1⟩ hz1 hy1 hx1;refine szz w1 w ?_;intros)
   refine bpr Tryz.results20 (.tuple #[.agg #[.slice none 0 0,.slice none 0 0,.int .i64 0,.int .i64 0,.int .i64 0,.slice none 0 0,.slice none 0 0,.slice none 0 0,.int .i64 0,.int .i64 0],.slice none 0 0,.int .i64 4]) ?_
   rw[HR.out]
   exact⟨EngIs.nil0 4 rfl,bel⟩
  have g1:decide (t<1)=false:=decide_eq_false a1
  by_cases a2:1000<t
  ·have g2:decide ((1000:Int)<t)=true:=decide_eq_true a2
   have HR:=zh (HE.out.1 (.inr (.inl a2)))
   clear a2
   clear hX hg hrr z1 hwf hn1 hset0 hvl hcl hO hout hyes hnow h14 hFm h3 HE
   go_enter Tryz.func20,Tryz.ntmps20
   go_wp2_with (go_at_call 12;refine (h1 _ (HX.out.now bel)).mono ?_;rintro e w1 ⟨rfl,hb1⟩;refine zb hb1 ?_;rintro ⟨hc1,hf1⟩ hz1 hy1 hx1;refine szz w1 w ?_;intros)
   refine bpr Tryz.results20 (.tuple #[.agg #[.slice none 0 0,.slice none 0 0,.int .i64 0,.int .i64 0,.int .i64 0,.slice none 0 0,.slice none 0 0,.slice none 0 0,.int .i64 0,.int .i64 0],.slice none 0 0,.int .i64 4]) ?_
   rw[HR.out]
   exact⟨EngIs.nil0 4 rfl,bel⟩
  have g2:decide ((1000:Int)<t)=false:=decide_eq_false a2
  by_cases a3:1073741824-now<t
  ·have g3:decide (1073741824-now<t)=true:=decide_eq_true a3
   have HR:=zh (HE.out.1 (.inr (.inr a3)))
   clear a3
   clear hX hg hrr z1 hwf hn1 hset0 hvl hcl hO hout hyes hnow h14 hFm h3 HE
   go_enter Tryz.func20,Tryz.ntmps20
   go_wp2_with (go_at_call 12;refine (h1 _ (HX.out.now bel)).mono ?_;rintro e w1 ⟨rfl,hb1⟩;refine zb hb1 ?_;rintro ⟨hc1,hf1⟩ hz1 hy1 hx1;refine szz w1 w ?_;intros)
   refine bpr Tryz.results20 (.tuple #[.agg #[.slice none 0 0,.slice none 0 0,.int .i64 0,.int .i64 0,.int .i64 0,.slice none 0 0,.slice none 0 0,.slice none 0 0,.int .i64 0,.int .i64 0],.slice none 0 0,.int .i64 4]) ?_
   rw[HR.out]
   exact⟨EngIs.nil0 4 rfl,bel⟩
  have g3:decide (1073741824-now<t)=false:=decide_eq_false a3
  have hwt:IntKind.i64.wrap (now+t)=now+t:=IntWalk.i64_in _ (by omega)
  have hset:=(tick_set (g:=g) (n:=t) z1 (by omega) (by rw[hg];dsimp only;omega)).1
  rw[hg] at hset
  dsimp only at hset
  have hnt:0<=now+t/\now+t<=1073741824:=by omega
  have HY:=zh (ai (HE.out.2.1 (fun h=>by omega)) (ai hset hnt))
  clear hFm hX hg hrr z1 hwf hn1 hset0 hvl hcl hO hout hyes hset a1 a2 a3 hnow h14 hnt
  go_enter Tryz.func20,Tryz.ntmps20
  go_upto_region 7 with (first
   | (go_at_call 12;refine (h1 _ (HX.out.now bel)).mono ?_;rintro e w1 ⟨rfl,hb1⟩;refine zb hb1 ?_;rintro ⟨hc1,hf1⟩ hz1 hy1 hx1;refine szz w1 w ?_;intros)
   | (go_at_call 13;refine (h3 _ (HX.out.now bel)).mono ?_;rintro e w4 ⟨A5,c5,A6,c6,A7,c7,A8,c8,A9,c9,N0,N1,N2,rfl,hcop,hb4⟩;refine zb hb4 ?_;rintro ⟨hc4,hf4⟩ hz4 hy4 hx4;refine szz w4 w ?_;intros;refine szz w4 w1 ?_;intros))
  refine z0k ?_;intro W9 hW9
  have hR9:RBOX W9 (w.heap.size+1):=by rw[hW9];and_intros<;>go_simp
  have hBx:Below w.heap.size w W9:=by rw[hW9];exact bel
  have hw2:w.heap.size+2<=w1.heap.size:=by have:=hb1.size;simp at *;omega
  obtain⟨hb9,hz9,hmc,hmf⟩:=mot_made hW9 HE.out.2.2.2.2.2.2.2.2.1 HE.out.2.2.2.2.1 HE.out.2.2.2.1
  obtain⟨hln,s5,s6,o7,o8,o9,q7,q8,q9',n0,n4⟩:=cop_rows hcop hb9 HE.out.2.2.2.2.2.2.2.2.1 HE.out.2.2.2.2.1 HE.out.2.2.2.1
  obtain⟨M,hM⟩:∃ M,M=w4.heap.size:=⟨_,rfl⟩
  rw[<-hM] at hmc hmf q7 q8 q9' n4 ⊢
  have hMl:M<W9.heap.size:=by omega
  have HhM:=zh hM
  clear hM hz9 hcop hW9 hb1 hb4 hb9 hc1 hf1 hc4 hf4 h1 h3
  have hmc':=hmc
  have hmf':=hmf
  obtain⟨z0,z1,z2,z3,z4,z5,z6,z7,z8,z9,z10⟩:=hmc'
  obtain⟨n5,n8,n9,n10⟩:=hmf'
  go_upto_region 8 with fail
  refine z0k ?_;intro W1 hW1
  have hC1:MotC W1 M (.slice A5 m c5) (.slice A6 P.length c6) p (.slice A7 ins.length c7) (.slice A8 m c8) (.slice A9 m c9) (now+t) last (.slice none 0 0):=by
   rw[hW1];and_intros<;>go_simp
  have hF1:MotF W1 M:=by
   rw[hW1];and_intros<;>go_simp
  have hz1:W1.heap.size=W9.heap.size:=by rw[hW1];simp
  have hk1:∀ bb:Nat,bb≠M->W1.heap[bb]?=W9.heap[bb]?:=fun bb hne=>by rw[hW1,Below.heap_setCell _ _ _ _ (by exact hne)]
  have hB1:Below w.heap.size w W1:=by rw[hW1];exact z03 hBx (by dsimp only;omega)
  have hR1:=hR9.block (hk1 (w.heap.size+1) (by omega))
  have k5:=s5.keepN z02 (w':=W1) (S':=z2u w1.heap.size N0) (fun b hb'=>⟨hb',hk1 b (by have:=hb'.2;omega)⟩)
  have k6:=s6.keepN z0d (w':=W1) (S':=z2u w1.heap.size N0) (fun b hb'=>⟨hb',hk1 b (by have:=hb'.2;omega)⟩)
  have k7:=z09 o7 (w':=W1) (fun q hq _=>hk1 q (by have:=(q7 q hq).2.1;omega))
  have k8:=z09 o8 (w':=W1) (fun q hq _=>hk1 q (by have:=(q8 q hq).2.1;omega))
  have k9:=z09 o9 (w':=W1) (fun q hq _=>hk1 q (by have:=(q9' q hq).2;omega))
  have hMa:some M≠(Value.slice A8 m c8).ownBlock:=fun e=>by have:=(q8 M e.symm).2.1;omega
  have HM:=zh (ai k5 (ai k6 (ai k7 (ai hR1 (ai q7 (ai q8 (ai q9' (ai n0 (ai n4 (ai hB1 (ai hln (ai hw2 (ai hMa HhM.out)))))))))))))
  have hmg0:MotG W1 M A5 m c5 (.slice A6 P.length c6) p (.slice A7 ins.length c7) A8 c8 A9 c9 (now+t) N0 (.slice none 0 0) (zal F p (now+t) cs 0) ⟨mapTo (fun c=>(z44 c p (now+t)).1) cs 0,vs,last,[]⟩:=⟨hC1,hF1,k8,k9,World.ownsRow_nil _ _ _ _⟩
  have HG0:=zh hmg0
  have z6:=hC1.2.2.2.2.2.2.1
  clear hW1 hmc hmf s5 s6 o7 o8 o9 hC1 hF1 hk1 hR9 hR1 k5 k6 k7 k8 k9 q7 q8 q9' n0 n4 hmg0 hB1 hBx hln z0 z1 z2 z3 z4 z5 z7 z8 z9 z10 n5 n8 n9 n10
  have hMl1:M<W1.heap.size:=by omega
  go_wp2_with fail
  go_loopw [54] (fun i wr=>∃ (k:Nat) (lw:Value),k<=m/\i=.int .i64 k/\Hid (MotG wr M A5 m c5 (.slice A6 P.length c6) p (.slice A7 ins.length c7) A8 c8 A9 c9 (now+t) N0 lw (zal F p (now+t) cs k) ⟨mapTo (fun c=>(z44 c p (now+t)).1) cs k,vs,last,[]⟩)/\Hid (∀ b,b<W1.heap.size->b≠M->some b≠(Value.slice A8 m c8).ownBlock->wr.heap[b]?=W1.heap[b]?)/\Hid (∀ q,lw.ownBlock=some q->W1.heap.size<=q)/\Hid (∀ B,B<=M->B<=N0->Below B W1 wr)/\W1.heap.size<=wr.heap.size) (fun i _=>m-(intOf i).toNat)
  case atStart=>exact⟨0,.slice none 0 0,Nat.zero_le _,rfl,HG0,zh (fun _ _ _ _=>rfl),zh (fun q hq=>by cases hq),zh (fun B _ _=>Below.refl _ _),nr _⟩
  case round =>
   obtain⟨k,lw,hk,rfl,hms,hfr,hlo,hbw,hzr⟩:=hrel
   by_cases hlt:k<m
   ·have hm0:0<m:=by omega
    have hm14:m<=14:=by have:=HE.out.2.2.2.2.2.2.2.2;omega
    have hkk:(k:Int)<(m:Int):=by omega
    obtain⟨c0,hc0⟩:∃ c0,cs[k]?=some c0:=⟨_,gq (by have:=HE.out.2.2.2.2.1;have:=HE.out.2.2.2.2.2.2.2.2.1;omega)⟩
    obtain⟨gc,kc,ec,_,_⟩:=hms.out.2.2.1.form hm0
    cases ec
    have hcm:(mapTo (fun c=>(z44 c p (now+t)).1) cs k)[k]?=some c0:=by rw[mapTo_at];exact hc0
    have hml:(mapTo (fun c=>(z44 c p (now+t)).1) cs k).length=m:=by rw[mapTo_len];have:=HE.out.2.2.2.2.1;have:=HE.out.2.2.2.2.2.2.2.2.1;omega
    have hnx:=mapTo_next (f:=fun c=>(z44 c p (now+t)).1) hc0
    have hok:=HE.out.2.2.1.2.2.2.2 c0 (List.mem_of_getElem? hc0)
    have hcw:=zar hok
    have hch:=fun w=>call_Wake c0.state c0.id c0.tries c0.key.k c0.key.n c0.key.s c0.has.k c0.has.n c0.has.s c0.next p.tries p.base p.cap (now+t) w (z0s hcw.2.2.2.1.2.2) (z0s hcw.2.2.2.2.1.2.2)
    obtain⟨r3,hr3⟩:∃ r3,r3=z44 c0 p (now+t):=⟨_,rfl⟩
    have hst1:=wake_asks (c:=c0) (p:=p) (now:=now+t)
    have hF5:=HM.out.1.keepN z02 (w':=wr) (S':=z2u w1.heap.size N0) (fun b hb'=>⟨hb',hfr.out b (by have:=hb'.2;have:=HM.out.2.2.2.2.2.2.2.2.1;omega) (by have:=hb'.2;have:=HM.out.2.2.2.2.2.2.2.2.1;omega) (fun e=>by have:=(HM.out.2.2.2.2.2.1 b e.symm).1;have:=hb'.2;omega)⟩)
    obtain⟨b8,o8,f,X8,C8,e8,hb8,hf,hrep8,_⟩:=z25 hF5 hlt
    subst e8
    have hwn:=wakeTo_next (p:=p) (now:=now+t) hc0 hf
    simp only[show (⟨c0.state,c0.id,c0.tries,⟨c0.key.k,c0.key.n,c0.key.s⟩,⟨c0.has.k,c0.has.n,c0.has.s⟩,c0.next⟩:Cll)=c0 from rfl,show (⟨p.tries,p.base,p.cap⟩:Pol)=p from rfl,<-hr3] at hch
    rw[<-hr3] at hst1 hwn
    try dsimp only at hnx
    rw[<-hr3] at hnx
    clear hr3
    obtain⟨rc,tk,rn⟩:=r3
    dsimp only at hch hst1 hwn hnx
    obtain⟨y0,y1,y2,y3,y4,y5,y6,y7,y8,y9⟩:=z5q hms.out.2.2.1 hcm hlt
    have hgcr:gc<wr.heap.size:=block_lt_of_cell y0
    have hMr:M<wr.heap.size:=by omega
    have HK:=zh (ai hc0 (ai hcm (ai hml (ai hnx (ai hst1 (ai hwn (ai hf hF5)))))))
    clear hc0 hcm hml hnx hst1 hwn hf hF5 hok hcw hrep8 hb8
    go_upto_region 11 with fail
    refine z0k ?_;intro U0 hU0
    have hBU:Below wr.heap.size wr U0:=by rw[hU0];exact bel
    have hzU:U0.heap.size=wr.heap.size+1:=by rw[hU0];simp
    have hxc:CL U0 wr.heap.size c0:=by rw[hU0];and_intros<;>go_simp
    have hmU:=hms.out.1.block (hBU.block M hMr)
    have HSS:=zh (show ∀ y:World,Below U0.heap.size U0 y->(CL y wr.heap.size c0/\(y.cell? ⟨M,2,none⟩=some (.int .i64 p.tries)/\(y.cell? ⟨M,3,none⟩=some (.int .i64 p.base)/\(y.cell? ⟨M,4,none⟩=some (.int .i64 p.cap)/\y.cell? ⟨M,8,none⟩=some (.int .i64 (now+t)))))) from fun y h=>⟨hxc.keep h,z00 hmU.2.2.1 h,z00 hmU.2.2.2.1 h,z00 hmU.2.2.2.2.1 h,z00 hmU.2.2.2.2.2.2.2.2.1 h⟩)
    clear hU0 hmU hxc y0 y1 y2 y3 y4 y5 y6 y7 y8 y9 z6
    go_cut [11,12] (fun s11 s12 wx=>∃ g4:Nat,s11=.pointer (some ⟨g4,0,none⟩)/\s12=.bool tk/\U0.heap.size<=g4/\CL wx g4 rc/\Below U0.heap.size U0 wx)
    case first =>
     refine z0k ?_;intro u0' hu0'
     obtain⟨u0,hu0⟩:∃ y,y=u0'.drew:=⟨_,rfl⟩
     have hY0:Below U0.heap.size U0 u0:=by rw[hu0,hu0'];exact (Below.refl _ _).drew
     have hS0:=HSS.out u0 hY0
     refine z0r (fun w'=>CL w' wr.heap.size c0/\(w'.cell? ⟨M,2,none⟩=some (.int .i64 p.tries)/\(w'.cell? ⟨M,3,none⟩=some (.int .i64 p.base)/\(w'.cell? ⟨M,4,none⟩=some (.int .i64 p.cap)/\w'.cell? ⟨M,8,none⟩=some (.int .i64 (now+t)))))) 19 (by kernel_rfl) ?_
     rw[<-hu0]
     clear hu0' hu0
     refine zt 0 hS0 ?_
     simp only[Act.put,pq]
     refine zt 1 hS0 ?_
     simp only[Act.put,pq]
     refine zt 2 hS0 ?_
     simp only[Act.put,pq]
     refine zt 3 hS0 ?_
     simp only[Act.put,pq]
     refine zt 4 hS0 ?_
     simp only[Act.put,pq]
     refine zt 5 hS0 ?_
     simp only[Act.put,pq]
     refine zt 6 hS0 ?_
     simp only[Act.put,pq]
     refine zt 7 hS0 ?_
     simp only[Act.put,pq]
     refine zt 8 hS0 ?_
     simp only[Act.put,pq]
     refine zt 9 hS0 ?_
     simp only[Act.put,pq]
     refine zt 10 hS0 ?_
     simp only[Act.put,pq]
     refine z2s (i:=11) (j:=16) (o:=_) (p:=_) rfl rfl (by kernel_rfl) (fun K hK=>?_) (fun K hK=>?_)
     ·go_simp
      go_at_call 55;refine (hch _).mono ?_;rintro e u1 ⟨rfl,hb1⟩
      have hY1:=z01 hY0 hb1 hY0.size
      have hS1:=HSS.out u1 hY1
      refine hK.out _ _ (fun _=>hS1) ?_
      clear hK K
      try simp only[Act.put,pq]
      refine zt 12 hS1 ?_
      simp only[Act.put,pq]
      refine zt 13 hS1 ?_
      simp only[Act.put,pq]
      refine zt 14 hS1 ?_
      simp only[Act.put,pq]
      refine zt 15 hS1 ?_
      simp only[Act.put,pq]
      refine z06 (i:=16) (o:=_) rfl (by kernel_rfl) (fun K hK=>?_)
      go_simp
      obtain⟨u2,hu2⟩:∃ y,y=u1.alloc (.cells #[.int .i64 0,.int .i64 0,.int .i64 0,.int .i64 0,.int .i64 0,.string ⟨#[]⟩,.int .i64 0,.int .i64 0,.string ⟨#[]⟩,.int .i64 0] 62):=⟨_,rfl⟩
      rw[<-hu2]
      have hb2:Below u1.heap.size u1 u2:=by rw[hu2];exact (Below.refl _ _).alloc (nr _) _
      have hY2:=z01 hY1 hb2 hY1.size
      have hS2:=HSS.out u2 hY2
      have hG2:CBOX u2 u1.heap.size:=by rw[hu2];and_intros<;>go_simp
      clear hu2
      refine hK.out _ _ (fun _=>hS2) ?_
      clear hK K
      try simp only[Act.put,pq]
      have hgl:u1.heap.size<u2.heap.size:=hG2.lt
      obtain⟨l0,l1,l2,l3,l4,l5,l6,l7,l8,l9,n0,n1,n2,n3,n4,n5,n6,n7,n8,n9⟩:=hG2
      refine z06 (i:=17) (o:=_) rfl (by kernel_rfl) (fun K hK=>?_)
      go_simp
      refine hK.out _ _ (fun _=>HSS.out _ (bel10 hY2 hY1.size)) ?_
      clear hK K
      try simp only[Act.put,pq]
      refine z06 (i:=18) (o:=_) rfl (by kernel_rfl) (fun K hK=>?_)
      go_simp
      refine hK.out _ _ (fun _=>HSS.out _ (bel10 hY2 hY1.size)) ?_
      clear hK K
      try simp only[Act.put,pq]
      refine z06 (i:=19) (o:=_) rfl (by kernel_rfl) (fun K hK=>?_)
      go_simp
      refine hK.out _ _ (fun h=>absurd h (by decide)) ?_
      clear hK K
      refine z0f (by kernel_rfl) ?_ _
      try simp only[Act.put,pq]
      go_wp2_with fail
      go_meet
      refine⟨u1.heap.size,rfl,rfl,(show U0.heap.size<=u1.heap.size from hY1.size),(by and_intros<;>go_simp),(bel10 hY2 hY1.size)⟩
     go_simp
     obtain⟨u1,hu1⟩:∃ y,y=u0.alloc (.cells #[.int .i64 0,.int .i64 0,.int .i64 0,.int .i64 0,.int .i64 0,.string ⟨#[]⟩,.int .i64 0,.int .i64 0,.string ⟨#[]⟩,.int .i64 0] 62):=⟨_,rfl⟩
     rw[<-hu1]
     have hb1:Below u0.heap.size u0 u1:=by rw[hu1];exact (Below.refl _ _).alloc (nr _) _
     have hY1:=z01 hY0 hb1 hY0.size
     have hS1:=HSS.out u1 hY1
     have hG1:CBOX u1 u0.heap.size:=by rw[hu1];and_intros<;>go_simp
     clear hu1
     refine hK.out _ _ (fun _=>hS1) ?_
     clear hK K
     try simp only[Act.put,pq]
     refine z06 (i:=11) (o:=_) rfl (by kernel_rfl) (fun K hK=>?_)
     go_simp
     go_at_call 55;refine (hch _).mono ?_;rintro e u2 ⟨rfl,hb2⟩
     have hY2:=z01 hY1 hb2 hY1.size
     have hS2:=HSS.out u2 hY2
     have hG2:=hG1.keep hb2
     refine hK.out _ _ (fun _=>hS2) ?_
     clear hK K
     try simp only[Act.put,pq]
     refine zt 12 hS2 ?_
     simp only[Act.put,pq]
     refine zt 13 hS2 ?_
     simp only[Act.put,pq]
     refine zt 14 hS2 ?_
     simp only[Act.put,pq]
     refine zt 15 hS2 ?_
     simp only[Act.put,pq]
     have hgl:u0.heap.size<u2.heap.size:=hG2.lt
     obtain⟨l0,l1,l2,l3,l4,l5,l6,l7,l8,l9,n0,n1,n2,n3,n4,n5,n6,n7,n8,n9⟩:=hG2
     refine z06 (i:=17) (o:=_) rfl (by kernel_rfl) (fun K hK=>?_)
     go_simp
     refine hK.out _ _ (fun _=>HSS.out _ (bel10 hY2 hY0.size)) ?_
     clear hK K
     try simp only[Act.put,pq]
     refine z06 (i:=18) (o:=_) rfl (by kernel_rfl) (fun K hK=>?_)
     go_simp
     refine hK.out _ _ (fun _=>HSS.out _ (bel10 hY2 hY0.size)) ?_
     clear hK K
     try simp only[Act.put,pq]
     refine z06 (i:=19) (o:=_) rfl (by kernel_rfl) (fun K hK=>?_)
     go_simp
     refine hK.out _ _ (fun h=>absurd h (by decide)) ?_
     clear hK K
     refine z0f (by kernel_rfl) ?_ _
     try simp only[Act.put,pq]
     go_wp2_with fail
     go_meet
     refine⟨u0.heap.size,rfl,rfl,(show U0.heap.size<=u0.heap.size from hY0.size),(by and_intros<;>go_simp),(bel10 hY2 hY0.size)⟩
    case rest =>
     obtain⟨g4,rfl,rfl,hg4,hL,hb⟩:=hcut
     have hBc:Below wr.heap.size wr wc:=z01 hBU hb hBU.size
     have hzc:=hb.size
     have z6:wc.cell? ⟨M,6,none⟩=some (.slice (some ⟨gc,0,none⟩) m c8):=z00 hms.out.1.2.2.2.2.2.2.1 hBc
     clear HSS hch hb hBU
     go_upto_region 12 with fail
     refine z0k ?_;intro v0' hv0'
     obtain⟨v0,hv0⟩:∃ y,y=v0'.drew:=⟨_,rfl⟩
     have hV0:Below wc.heap.size wc v0:=by rw[hv0,hv0'];exact (Below.refl _ _).drew
     have hT0:v0.cell? ⟨M,6,none⟩=some (.slice (some ⟨gc,0,none⟩) m c8)/\CL v0 g4 rc:=⟨z00 z6 hV0,hL.keep hV0⟩
     refine z0r (fun w'=>w'.cell? ⟨M,6,none⟩=some (.slice (some ⟨gc,0,none⟩) m c8)/\CL w' g4 rc) 8 (by kernel_rfl) ?_
     rw[<-hv0]
     clear hv0' hv0 hL z6
     refine zt 0 hT0 ?_
     simp only[Act.put,pq]
     refine zt 1 hT0 ?_
     simp only[Act.put,pq]
     refine zt 2 hT0 ?_
     simp only[Act.put,pq]
     refine zt 3 hT0 ?_
     simp only[Act.put,pq]
     refine zt 4 hT0 ?_
     simp only[Act.put,pq]
     refine zt 5 hT0 ?_
     simp only[Act.put,pq]
     refine zt 6 hT0 ?_
     simp only[Act.put,pq]
     refine zt 7 hT0 ?_
     simp only[Act.put,pq]
     refine z06 (i:=8) (o:=_) rfl (by kernel_rfl) (fun K hK=>?_)
     have hBv:Below wr.heap.size wr v0:=z01 hBc hV0 hBc.size
     have ho0:=z04 hms.out.2.2.1 hBv
     obtain⟨e0,e1,e2,e3,e4,e5,e6,e7,e8,e9⟩:=z5q ho0 HK.out.2.1 hlt
     have f0:=ho0.frozenAt (k*10)
     have f1:=ho0.frozenAt (k*10+1)
     have f2:=ho0.frozenAt (k*10+2)
     have f3:=ho0.frozenAt (k*10+3)
     have f4:=ho0.frozenAt (k*10+4)
     have f5:=ho0.frozenAt (k*10+5)
     have f6:=ho0.frozenAt (k*10+6)
     have f7:=ho0.frozenAt (k*10+7)
     have f8:=ho0.frozenAt (k*10+8)
     have f9:=ho0.frozenAt (k*10+9)
     have hgu:gc<v0.heap.size:=block_lt_of_cell e0
     go_simp
     refine hK.out _ _ (fun h=>absurd h (by decide)) ?_
     clear hK K
     refine z0f (by kernel_rfl) ?_ _
     try simp only[Act.put,pq]
     go_upto_if 83 with fail
     refine z0k ?_;intro W2 hW2
     have hst:W2.ownsRow N0 62 10 (.slice (some ⟨gc,0,none⟩) m c8) m (((mapTo (fun c=>(z44 c p (now+t)).1) cs k).set k rc).flatMap Cll.cs):=by
      rw[hW2];exact calls_stored ho0 (by rw[HK.out.2.2.1];exact hlt)
     have hbk:∀ bb:Nat,bb≠gc->bb<wr.heap.size->W2.heap[bb]?=wr.heap[bb]?:=fun bb hne h=>by
      rw[hW2]
      iterate 10 rw[Below.heap_setCell _ _ _ _ (by exact hne)]
      exact hBv.block bb h
     have hz2:W2.heap.size=v0.heap.size:=by rw[hW2];simp
     have hzv:=hV0.size
     have hgN:=HM.out.2.2.2.2.2.1 gc rfl
     have hB2:∀ x,x<=gc->x<=wr.heap.size->Below x wr W2:=fun x h h'=>by
      rw[hW2]
      iterate 10 refine z03 ?_ h
      exact hBv.mono h'
     have hMg:M≠gc:=by omega
     have hC2:=hms.out.1.block (hbk M hMg hMr)
     have hF2:=hms.out.2.1.block (hbk M hMg hMr)
     have hv2:=z09 hms.out.2.2.2.1 (w':=W2) (fun q hq h=>hbk q (fun e=>hgN.2.2 (by rw[<-e];exact hq.symm)) h)
     have hl2:=z09 hms.out.2.2.2.2 (w':=W2) (fun q hq h=>hbk q (fun e=>by have:=hlo.out q hq;omega) h)
     have hfr2:∀ b,b<W1.heap.size->b≠M->some b≠(Value.slice (some ⟨gc,0,none⟩) m c8).ownBlock->W2.heap[b]?=W1.heap[b]?:=fun b h h' h''=>(hbk b (fun e=>h'' (by rw[e];rfl)) (by omega)).trans (hfr.out b h h' h'')
     have hb2:∀ B,B<=M->B<=N0->Below B W1 W2:=fun B h h'=>(hbw.out B h h').trans (hB2 B (by omega) (by omega))
     have hN0:N0<=M:=HM.out.2.2.2.2.2.2.2.2.1
     clear hW2 hBv ho0 hT0 hgu e0 f0 e1 f1 e2 f2 e3 f3 e4 f4 e5 f5 e6 f6 e7 f7 e8 f8 e9 f9
     cases tk
     ·have HQ:=zh (ai hC2 (ai hF2 (ai hst (ai hv2 (ai hl2 (ai hfr2 hb2))))))
      clear hC2 hF2 hst hv2 hl2 hfr2 hb2
      go_wp2_with fail
      go_roundw
      case rel =>
       refine⟨k+1,lw,by omega,by go_num,zh ?_,zh HQ.out.2.2.2.2.2.1,hlo,zh HQ.out.2.2.2.2.2.2,by omega⟩
       rw[HK.out.2.2.2.2.2.1,if_neg (by decide),HK.out.2.2.2.1]
       exact⟨HQ.out.1,HQ.out.2.1,HQ.out.2.2.1,HQ.out.2.2.2.1,HQ.out.2.2.2.2.1⟩
      case measure=>simp[intOf];omega
     have hS2:=HK.out.2.2.2.2.2.2.2.keepN z02 (w':=W2) (S':=z2u w1.heap.size N0) (fun b hb'=>⟨hb',hbk b (by have:=hb'.2;omega) (by have:=hb'.2;omega)⟩)
     have hask:=motor_ask M k m c5 F b8 o8 (z2u w1.heap.size N0) (.slice A6 P.length c6) p (.slice A7 ins.length c7) gc c8 ((mapTo (fun c=>(z44 c p (now+t)).1) cs k).set k rc) (.slice A9 m c9) (now+t) last lw _ _ N0 W2 hC2 hF2 hS2 (fun b hb'=>by have:=hb'.2;omega) (by have:=HE.out.2.2.2.2.2.2.2.2;omega) hst
      (by simpa using hl2) (by have:=wakeTo_len (F:=F) (p:=p) (now:=now+t) (cs:=cs) k;have:=HE.out.2.2.2.2.2.2.2.2;omega) hlt f HK.out.2.2.2.2.2.2.1 rc (by rw[List.getElem?_set,if_pos rfl,if_pos (by rw[HK.out.2.2.1];exact hlt)]) (HK.out.2.2.2.2.1 rfl) (fun e=>by have:=hlo.out M e;omega) (by omega)
     have HQ:=zh (ai hst (ai hv2 (ai hfr2 hb2)))
     clear hC2 hF2 hst hv2 hl2 hfr2 hb2 hS2
     go_wp2_with (go_at_call 56;refine hask.mono ?_;rintro e w5 ⟨rfl,lv5,hC5,hF5,hl5,hfr5,hob5,hb5⟩)
     have H5:=zh (ai hC5 (ai hF5 (ai hl5 (ai hfr5 (ai hob5 hb5)))))
     have hz5:=(hb5 0 (Nat.zero_le _) (Nat.zero_le _)).size
     clear hC5 hF5 hl5 hfr5 hob5 hb5 hask
     go_roundw
     case rel =>
      have hlb:∀ q,lw.ownBlock=some q->W1.heap.size<=q:=hlo.out
      refine⟨k+1,lv5,by omega,by go_num,zh ?_,zh (fun b h h' h''=>?_),zh (fun q hq=>?_),zh (fun B h h'=>(HQ.out.2.2.2 B h h').trans (H5.out.2.2.2.2.2 B h h')),by omega⟩
      ·rw[HK.out.2.2.2.2.2.1,if_pos (by trivial),HK.out.2.2.2.1]
       refine⟨H5.out.1,H5.out.2.1,z09 HQ.out.1 (fun q hq h=>H5.out.2.2.2.1 q h (by have e:gc=q:=Option.some.inj hq;omega) (fun e=>by have:=hlb q e.symm;have e':gc=q:=Option.some.inj hq;omega)),z09 HQ.out.2.1 (fun q hq h=>H5.out.2.2.2.1 q h (by have:=(HM.out.2.2.2.2.2.2.1 q hq).2;omega) (fun e=>by have:=hlb q e.symm;have:=(HM.out.2.2.2.2.2.2.1 q hq).2;omega)),?_⟩
       rw[List.append_nil,List.length_append,List.length_singleton]
       exact H5.out.2.2.1
      ·exact (H5.out.2.2.2.1 b (by omega) h' (fun e=>by have:=hlb b e.symm;omega)).trans (HQ.out.2.2.1 b h h' h'')
      rcases H5.out.2.2.2.2.1 with h | ⟨k',h,hk'⟩
      ·exact hlb q (h.symm.trans hq)
      rw[h] at hq;have:=Option.some.inj hq;omega
     case measure=>simp[intOf];omega
   obtain rfl:k=m:=by omega
   have hM:=HM.out.2.2.2.2.2.2.2.2.2.2.2.2.2
   have hnM:=HM.out.2.2.2.2.2.2.2.2.1
   have hw2':=HM.out.2.2.2.2.2.2.2.2.2.2.2.1
   have hn0:=HM.out.2.2.2.2.2.2.2.1
   obtain⟨l5,l6,l7,l8,l9⟩:=HM.out.2.2.2.2.2.2.2.2.2.2.1
   have hfb:∀ b,b<M->some b≠(Value.slice A8 k c8).ownBlock->wr.heap[b]?=W1.heap[b]?:=fun b h h'=>hfr.out b (by omega) (by omega) h'
   have j7:=z09 HM.out.2.2.1 (w':=wr) (fun q hq h=>hfb q (HM.out.2.2.2.2.1 q hq).2.1 (HM.out.2.2.2.2.1 q hq).2.2.1)
   have hin:∀ b,z2u w1.heap.size N0 b->wr.heap[b]?=W1.heap[b]?:=fun b hb'=>hfb b (by have:=hb'.2;omega) (fun e=>by have:=(HM.out.2.2.2.2.2.1 b e.symm).1;have:=hb'.2;omega)
   have j5:=HM.out.1.keepN z02 (w':=wr) (S':=z2u w1.heap.size N0) (fun b hb'=>⟨hb',hin b hb'⟩)
   have j6:=HM.out.2.1.keepN z0d (w':=wr) (S':=z2u w1.heap.size N0) (fun b hb'=>⟨hb',hin b hb'⟩)
   obtain⟨i5,i6,i7,iSo,iSf,iSa⟩:=mot_rows (M:=M) (lv:=lw) (A8:=A8) (c8:=c8) (A9:=A9) (c9:=c9) (m:=k) j5 j6 j7 HE.out.2.2.2.2.2.2.1.1 (by omega) hn0 hnM (fun q hq=>⟨by have:=(HM.out.2.2.2.2.1 q hq).2.1;omega,(HM.out.2.2.2.2.1 q hq).2.2.1,(HM.out.2.2.2.2.1 q hq).2.2.2,fun e=>by have:=hlo.out q e.symm;have:=(HM.out.2.2.2.2.1 q hq).2.1;omega⟩) (fun q hq=>(HM.out.2.2.2.2.2.1 q hq).1) (fun q hq=>(HM.out.2.2.2.2.2.2.1 q hq).1) (fun q hq=>by have:=hlo.out q hq;omega)
   have hmg:=hms.out
   have hkc:cs.length<=k:=by have:=HE.out.2.2.2.2.1;have:=HE.out.2.2.2.2.2.2.2.2.1;omega
   have hkl:cs.length=k:=by have:=HE.out.2.2.2.2.1;have:=HE.out.2.2.2.2.2.2.2.2.1;omega
   rw[mapTo_all hkc] at hmg
   have hset:=HY.out.2.1
   unfold wakeC at hset
   have hdone:=motor_done M k c5 F A5 _ A6 P.length c6 P p A7 ins.length c7 ins A8 c8 A9 c9 (cs.map fun c=>(z44 c p (now+t)).1) vs (now+t) last lw _ N0 wr hmg i5 i6 i7 (by rw[HE.out.2.2.2.2.2.2.2.1.1];exact HE.out.2.2.2.2.2.2.2.1.2) iSo iSf (fun q hq=>by have h:=hlo.out q hq;exact⟨by omega,fun e=>by have:=(HM.out.2.2.2.2.2.1 q e.symm).2.1;omega,fun e=>by have:=(HM.out.2.2.2.2.2.2.1 q e.symm).2;omega⟩)
    HM.out.2.2.2.2.2.2.2.2.2.2.2.2.1 (fun e=>by have:=(HM.out.2.2.2.2.2.2.1 M e.symm).2;omega) (fun q hq=>(HM.out.2.2.2.2.2.1 q hq).2.2) (by omega) HE.out.2.2.2.2.2.1 hset HE.out.2.2.2.1 (by have:=wakeTo_len (F:=F) (p:=p) (now:=now+t) (cs:=cs) k;have:=HE.out.2.2.2.2.2.2.2.2;omega) (wakeTo_wf (fun f hf=>(HE.out.2.2.2.2.2.1.2 f hf).1) HE.out.2.2.1.2.2.2.2 HY.out.2.2 k) l5 l6 l7 l8 l9 (w.heap.size+2) (fun b hb'=>by have:=iSa b hb';omega) (by omega)
   obtain⟨r4,hr4⟩:∃ r4,r4=becE ⟨F,P,p,ins,cs.map fun c=>(z44 c p (now+t)).1,vs,now+t,last⟩ (zal F p (now+t) cs k):=⟨_,rfl⟩
   rw[<-hr4] at hdone
   have HR:=zh (HY.out.1.trans (show _=r4 by rw[hr4,hkl];rfl))
   clear hr4
   obtain⟨⟨F',P',p',ins',cs',vs',now',last'⟩,ls',er'⟩:=r4
   have hR2:=HM.out.2.2.2.1.block (hfb (w.heap.size+1) (by omega) (fun e=>by have:=(HM.out.2.2.2.2.2.1 _ e.symm).1;omega))
   have hBW:Below w.heap.size w wr:=HM.out.2.2.2.2.2.2.2.2.2.1.trans (hbw.out w.heap.size (by omega) (by omega))
   have hM3:w.heap.size+2<=M:=by omega
   have hN3:w.heap.size+2<=N0:=by omega
   have hS3:w.heap.size+2<=wr.heap.size:=by omega
   clear hM hkl j5 j6 j7 i5 i6 i7 iSo iSf iSa hin hfb hset z6 hmg
   go_wp2_with (go_at_call 25;refine hdone.mono ?_;rintro e w5 ⟨⟨B',d',A',c',A1',c1',A2',c2',A3',c3',A4',c4',rfl,hrw⟩,hbb⟩;have hb5:=hbb (w.heap.size+2) (by omega) (by omega);have hz5:=hb5.size;have hl5:w.heap.size+1<w5.heap.size:=(by omega);obtain⟨⟨q0,q1,q2,q3,q4,q5,q6,q7,q8,q9⟩,r0,r1,r2,r3,r4,r5,r6,r7,r8,r9⟩:=hR2.block (hb5.block (w.heap.size+1) (by omega)))
   refine bpr Tryz.results20 (.tuple #[.agg #[.slice B' F'.length d',.slice A' P'.length c',.int .i64 p'.tries,.int .i64 p'.base,.int .i64 p'.cap,.slice A1' ins'.length c1',.slice A2' cs'.length c2',.slice A3' vs'.length c3',.int .i64 now',.int .i64 last'],.slice A4' ls'.length c4',.int .i64 er']) ?_
   generalize hWe:World.setCell _ _ _=We
   rw[HR.out]
   have hrw':=EngRow.put (w':=We) (a:=w.heap.size) (show EngRow (w.heap.size+2) w5 ⟨F',P',p',ins',cs',vs',now',last'⟩ ls' B' d' A' c' A1' c1' A2' c2' A3' c3' A4' c4' from hrw) (by omega) (by rw[<-hWe];simp) (fun b h1 h2=>by
    rw[<-hWe]
    iterate 10 rw[Below.heap_setCell _ _ _ _ (by simp only[ne_eq];omega)])
   refine⟨⟨_,_,_,_,_,_,_,_,_,_,_,_,rfl,hrw'⟩,?_⟩
   rw[<-hWe]
   iterate 10 refine z03 ?_ (by dsimp only;omega)
   exact hBW.trans (hbb w.heap.size (by omega) (by omega))
 have gz:(engErr g != 0)=true:=by simpa using z1
 have HR:=zh (hrr.trans (tickE_bad z1))
 generalize engErr g=er at h1 gz HR
 clear hX hg hrr z1 hwf hn1 hFm h3
 go_enter Tryz.func20,Tryz.ntmps20
 go_wp2_with (go_at_call 12;refine (h1 _ (HX.out.now bel)).mono ?_;rintro e w1 ⟨rfl,hb1⟩;refine zb hb1 ?_;rintro ⟨hc1,hf1⟩ hz1 hy1 hx1;refine szz w1 w ?_;intros)
 refine bpr Tryz.results20 (.tuple #[.agg #[.slice none 0 0,.slice none 0 0,.int .i64 0,.int .i64 0,.int .i64 0,.slice none 0 0,.slice none 0 0,.slice none 0 0,.int .i64 0,.int .i64 0],.slice none 0 0,.int .i64 er]) ?_
 rw[HR.out]
 exact⟨EngIs.nil0 er rfl,bel⟩
end Go.Proofs.YtldhlpjjcnlbcaaGreat
