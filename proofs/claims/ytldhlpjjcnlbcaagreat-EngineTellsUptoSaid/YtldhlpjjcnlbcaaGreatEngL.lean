/- engine.Tell. (printed by mkengl.py) -/
import Derived.Test.YtldhlpjjcnlbcaaGreatEng8
import Derived.Test.YtldhlpjjcnlbcaaGreatEngM
import Derived.Test.YtldhlpjjcnlbcaaGreatPrt4
import Derived.Test.YtldhlpjjcnlbcaaGreatAsk
set_option maxRecDepth 100000
set_option maxHeartbeats 8000000
namespace Go.Proofs.YtldhlpjjcnlbcaaGreat
open Go.RowKit
def putIn (name:ByteArray)(v:Val)(x:Fct):Fct:=if z0y name x=true then ⟨x.name,x.key,v⟩ else x
def tellI (name:ByteArray)(v:Val)(l:List Fct):List Fct:=if l.any (z0y name)=true then l.map (putIn name v) else l++[⟨name,noVal,v⟩]
def tellE (g:Eng)(name:ByteArray)(v:Val):Eng×List Ltr×Int :=
 if engErr g≠0 then (noEng,[],engErr g) else if z19 g.F name v≠0 then (noEng,[],z19 g.F name v) else becE { g with ins:=tellI name v g.ins } []
theorem told_ok {F:List Fld}{name:ByteArray}{v:Val}(h2:z19 F name v=0):valCheck v=0:=by
 unfold z19 at h2
 split at h2
 ·cases h2
 split at h2
 ·split at h2
  ·rename_i hk;exact ((z23 _).1 hk.1).1
  cases h2
 cases h2
theorem put_one {F:List Fld}{l:List Fct}(h:factsCheck F l=0){name:ByteArray}{v:Val}{i:Nat}{x:Fct}(hi:firstAt (z0y name) l=i)(hx:l[i]?=some x)(hs:z0y name x=true) :
  l.set i ⟨x.name,x.key,v⟩=l.map (putIn name v):=by
 have hil:=(List.getElem?_eq_some_iff.1 hx).1
 apply List.ext_getElem?
 intro k
 rw[List.getElem?_map,List.getElem?_set]
 by_cases hk:i=k
 ·subst hk
  rw[if_pos rfl,if_pos hil,hx,Option.map_some]
  unfold putIn
  rw[if_pos hs]
 rw[if_neg hk]
 cases hy:l[k]? with
 | none=>rfl
 | some y =>
  rw[Option.map_some]
  unfold putIn
  rw[if_neg]
  intro hn
  rcases Nat.lt_or_gt_of_ne hk with h1 | h1
  ·have h3:=facts_apart h hy
   rw[List.any_eq_false] at h3
   refine h3 x (List.mem_of_getElem? (i:=i) (by rw[List.getElem?_take_of_lt h1];exact hx)) ?_
   unfold z0y at hs hn ⊢
   simp only[beq_iff_eq] at hs hn ⊢
   rw[hs,hn]
  have h3:=z74 (z0y name) l i
  rw[hi] at h3
  rcases h3 with h3 | h3
  ·omega
  rw[List.any_eq_false] at h3
  exact h3 y (List.mem_of_getElem? (i:=k) (by rw[List.getElem?_take_of_lt h1];exact hy)) hn
theorem tellI_len {name:ByteArray}{v:Val}{l:List Fct}:(tellI name v l).length<=l.length+1:=by
 unfold tellI
 split
 ·rw[List.length_map];omega
 rw[List.length_append,List.length_singleton];exact nr _
theorem tell_set {g:Eng}(h:engErr g=0){name:ByteArray}{v:Val}(ht:z19 g.F name v=0):SetOk g.F g.p (tellI name v g.ins) g.now g.cs g.last/\g.vs.length=g.F.length:=by
 obtain⟨⟨⟨a1,a2,a3,a4⟩,h2,h3,h4,h5⟩,h6⟩:=zf1 (z85 h)
 refine⟨⟨⟨a1,a2,fun x hx=>?_,a4⟩,h2,h3,h4,h5⟩,h6⟩
 unfold tellI at hx
 split at hx
 ·obtain⟨y,hy,rfl⟩:=List.mem_map.1 hx
  unfold putIn
  split
  ·exact told_ok ht
  exact a3 y hy
 rcases List.mem_append.1 hx with hx | hx
 ·exact a3 x hx
 rw[List.mem_singleton.1 hx];exact told_ok ht
theorem tellI_wf {name:ByteArray}{v:Val}{l:List Fct}(hn:inS name)(hv:v.wf)(hl:∀ x∈l,x.wf):∀ x∈tellI name v l,x.wf:=by
 intro x hx
 unfold tellI at hx
 split at hx
 ·obtain⟨y,hy,rfl⟩:=List.mem_map.1 hx
  unfold putIn
  split
  ·exact⟨(hl y hy).1,(hl y hy).2.1,hv⟩
  exact hl y hy
 rcases List.mem_append.1 hx with hx | hx
 ·exact hl x hx
 rw[List.mem_singleton.1 hx];exact⟨hn,ze1,hv⟩
theorem tellE_bad {g:Eng}{name:ByteArray}{v:Val}(h:engErr g≠0):tellE g name v=(noEng,[],engErr g):=by unfold tellE;rw[if_pos h]
theorem tellE_out {g:Eng}{name:ByteArray}{v:Val}(h:engErr g=0)(ht:z19 g.F name v≠0):tellE g name v=(noEng,[],z19 g.F name v):=by unfold tellE;rw[if_neg (by simpa using h),if_pos ht]
theorem tellE_yes {g:Eng}{name:ByteArray}{v:Val}(h:engErr g=0)(ht:z19 g.F name v=0):tellE g name v=becE { g with ins:=tellI name v g.ins } []:=by unfold tellE;rw[if_neg (by simpa using h),if_neg (by simpa using ht)]
theorem flat_setF (l:List Fct)(k:Nat)(x:Fct)(v:Val)(hx:l[k]?=some x) :
  (((l.flatMap Fct.cs).set (k*7+4) (.int .i64 v.k)).set (k*7+5) (.int .i64 v.n)).set (k*7+6) (.string v.s)=(l.set k ⟨x.name,x.key,v⟩).flatMap Fct.cs:=by
 obtain⟨hk,rfl⟩:=List.getElem?_eq_some_iff.1 hx
 have e:l=l.take k++l[k]::l.drop (k+1):=by rw[List.getElem_cons_drop,List.take_append_drop]
 have hlen:((l.take k).flatMap Fct.cs).length=k*7:=by rw[z0w _ 7 (fun _=>rfl),List.length_take,Nat.min_eq_left (by omega)]
 have e1:l.flatMap Fct.cs=(l.take k).flatMap Fct.cs++(l[k].cs++(l.drop (k+1)).flatMap Fct.cs):=by
  conv=>lhs;rw[e]
  rw[List.flatMap_append,List.flatMap_cons]
 have e2:(l.set k ⟨l[k].name,l[k].key,v⟩).flatMap Fct.cs=(l.take k).flatMap Fct.cs++((Fct.mk l[k].name l[k].key v).cs++(l.drop (k+1)).flatMap Fct.cs):=by
  rw[List.set_eq_take_append_cons_drop,if_pos hk,List.flatMap_append,List.flatMap_cons]
 rw[e2,e1]
 generalize (l.take k).flatMap Fct.cs=L at *
 generalize (l.drop (k+1)).flatMap Fct.cs=R at *
 rw[List.set_append_right _ _ (by omega),List.set_append_right _ _ (by omega),List.set_append_right _ _ (by omega),hlen]
 rw[show k*7+4-k*7=4 by omega,show k*7+5-k*7=5 by omega,show k*7+6-k*7=6 by omega]
 simp[Fct.cs]
theorem facts_stored {w:World}{base g m cap i:Nat}{l:List Fct}{x:Fct}{v:Val}(h:w.ownsRow base 72 7 (.slice (some ⟨g,0,none⟩) m cap) m (l.flatMap Fct.cs))(hx:l[i]?=some x) :
  (((w.setCell ⟨g,i*7+4,none⟩ (.int .i64 v.k)).setCell ⟨g,i*7+5,none⟩ (.int .i64 v.n)).setCell ⟨g,i*7+6,none⟩ (.string v.s)).ownsRow base 72 7 (.slice (some ⟨g,0,none⟩) m cap) m ((l.set i ⟨x.name,x.key,v⟩).flatMap Fct.cs):=by
 have h:=(((h.stored (i*7+4) (.int .i64 v.k)).1.stored (i*7+5) (.int .i64 v.n)).1.stored (i*7+6) (.string v.s)).1
 rw[flat_setF l i x v hx] at h
 exact h
theorem cells_ownF {w:World}{base g n cap k:Nat}{l:List Fct}{e:TypeId}{x:Fct}(h:w.ownsRow base e 7 (.slice (some ⟨g,0,none⟩) n cap) n (l.flatMap Fct.cs))(hx:l[k]?=some x)(hk:k<n) :
  w.cell? ⟨g,k*7+4,none⟩=some (.int .i64 x.has.k)/\w.cell? ⟨g,k*7+5,none⟩=some (.int .i64 x.has.n)/\w.cell? ⟨g,k*7+6,none⟩=some (.string x.has.s):=by
 have f:=fun j hj=>z87 Fct.cs 7 (fun _=>rfl) l k j x hx hj
 exact⟨by rw[h.cellAt _ (by omega),f 4 (by decide)];rfl,by rw[h.cellAt _ (by omega),f 5 (by decide)];rfl,by rw[h.cellAt _ (by omega),f 6 (by decide)];rfl⟩
theorem tell_has {F:List Fld}{ins:List Fct}{name:ByteArray}{v:Val}(h:factsCheck F ins=0)(ha:ins.any (z0y name)=true):∃ x,ins[firstAt (z0y name) ins]?=some x/\ins.set (firstAt (z0y name) ins) ⟨x.name,x.key,v⟩=tellI name v ins:=by
 obtain⟨x,hx,hp,_⟩:=z9s (z0y name) ins ha
 refine⟨x,hx,?_⟩
 unfold tellI
 rw[if_pos ha]
 exact put_one h rfl hx (List.find?_some hp)
theorem tell_new {ins:List Fct}{name:ByteArray}{v:Val}(ha:ins.any (z0y name)=false):(ins++[Fct.mk name noVal noVal])[ins.length]?=some ⟨name,noVal,noVal⟩/\(ins++[Fct.mk name noVal noVal]).set ins.length ⟨name,noVal,v⟩=tellI name v ins:=by
 refine⟨by rw[List.getElem?_append_right (nr _),Nat.sub_self];rfl,?_⟩
 unfold tellI
 rw[ha,if_neg (by decide),List.set_append_right _ _ (nr _),Nat.sub_self]
 rfl
theorem tell_1 (name:ByteArray)(g:Nat)(x:Fct)(w:World)(h:w.cell? ⟨g,0,none⟩=some (.string name)) :
  Calls Tryz.prog 49 #[.agg #[.string x.name,.int .i64 x.key.k,.int .i64 x.key.n,.string x.key.s,.int .i64 x.has.k,.int .i64 x.has.n,.string x.has.s],.pointer (some ⟨g,0,none⟩)] w
   fun e w'=>e=.returned (.bool (z0y name x))/\Below w.heap.size w w':=by
 have hg:=block_lt_of_cell h
 simp only at hg
 go_enter Tryz.func49,Tryz.ntmps49
 go_wp2
 go_ret
 exact⟨rfl,bel⟩
theorem cf_tell1 (args:Array Value)(w:World):(callFunc 49 args).run Tryz.prog w=.ok (.enter 49 args) w :=
 cf _ _ Tryz.func49 (by kernel_rfl) (by kernel_rfl) args w
theorem engine_Tell (B:Option Addr)(m d:Nat)(F:List Fld)(A:Option Addr)(n c:Nat)(P:List Pag)(p:Pol)(A1:Option Addr)(n1 c1:Nat)(ins:List Fct)(A2:Option Addr)(n2 c2:Nat)(cs:List Cll)(A3:Option Addr)(n3 c3:Nat)(vs:List Val)(now last:Int)(name:ByteArray)(v:Val)(w:World)
  (hX:REn w B m d F A n c P A1 n1 c1 ins A2 n2 c2 cs A3 n3 c3 vs)(hO:z2i F)(hn:inS name)(hv:v.wf) :
  Calls Tryz.prog 16 #[.agg #[.slice B m d,.slice A n c,.int .i64 p.tries,.int .i64 p.base,.int .i64 p.cap,.slice A1 n1 c1,.slice A2 n2 c2,.slice A3 n3 c3,.int .i64 now,.int .i64 last],.string name,.agg #[.int .i64 v.k,.int .i64 v.n,.string v.s]] w (RetEng w (tellE ⟨F,P,p,ins,cs,vs,now,last⟩ name v)):=by
 have h1:=fun w h=>engine_Check B m d F A n c P p A1 n1 c1 ins A2 n2 c2 cs A3 n3 c3 vs now last w h hO
 have h2:=fun w h=>z98 B m d F name v.k v.n v.s w (hX.1.1.l (by decide)) h (z0s hv.2.2)
 rw[show (⟨v.k,v.n,v.s⟩:Val)=v from rfl] at h2
 have h3:=fun w h=>engine_Copy B m d F A n c P p A1 n1 c1 ins A2 n2 c2 cs A3 n3 c3 vs now last w h
 have hFm:F.length=m:=hX.1.2.2.2.2.1.len
 have hwf:(∀ x∈ins,x.wf)/\(∀ x∈cs,x.wf)/\(∀ x∈vs,x.wf):=⟨Sl.all_wf hX.2.1.2.2 fun _ _ h=>h.2,Sl.all_wf hX.2.2.1.2.2 fun _ _ h=>h.2,Sl.all_wf hX.2.2.2.2.2 fun _ _ h=>h.2⟩
 obtain⟨g,hg⟩:∃ g:Eng,g=⟨F,P,p,ins,cs,vs,now,last⟩:=⟨_,rfl⟩
 have hgF:g.F=F:=by rw[hg]
 obtain⟨rr,hrr⟩:∃ rr,rr=tellE g name v:=⟨_,rfl⟩
 rw[<-hg] at h1 ⊢
 rw[<-hrr]
 have HX:=zh hX
 by_cases z1:engErr g=0
 ·rw[z1] at h1
  by_cases z2:z19 F name v=0
  ·rw[z2] at h2
   obtain⟨hset0,hvl⟩:=zf1 (z85 z1)
   obtain⟨hfe,_,hfc,_,_⟩:=zft (z85 z1)
   have h14:=form14 hfe
   have hin:=facts_len hfc
   have hset:=(tell_set (name:=name) (v:=v) z1 (by rw[hgF];exact z2)).1
   have hyes:=hrr.trans (tellE_yes z1 (by rw[hgF];exact z2))
   rw[hg] at hset0 hvl h14 hin hfc hset hyes
   dsimp only at hset0 hvl h14 hin hfc hset hyes
   have hcl:cs.length=F.length:=hset0.2.2.2.1
   have hm14:m<=14:=by omega
   have hi14:ins.length<=14:=by omega
   have HE:=zh (ai hyes (ai hset (ai hvl (ai hcl (ai hO (ai hwf (ai hfc (ai hFm (ai hn hv)))))))))
   clear hX hg hgF hrr z1 z2 hwf hFm hset0 hset hvl hcl hO hyes hfe hfc h14 hin hn hv
   go_enter Tryz.func16,Tryz.ntmps16
   go_upto_region 8 with (first
    | (go_at_call 12;refine (h1 _ (HX.out.now bel)).mono ?_;rintro e w1 ⟨rfl,hb1⟩;refine zb hb1 ?_;rintro ⟨hc1,hf1⟩ hz1 hy1 hx1;refine szz w1 w ?_;intros)
    | (go_at_call 47;refine (h2 _ (HX.out.1.2.2.2.2.1.nowN z02 bel)).mono ?_;rintro e w2 ⟨rfl,hb2⟩;refine zb hb2 ?_;rintro ⟨hc2,hf2⟩ hz2 hy2 hx2;refine szz w2 w ?_;intros;refine szz w2 w1 ?_;intros)
    | (go_at_call 13;refine (h3 _ (HX.out.now bel)).mono ?_;rintro e w4 ⟨A5,c5,A6,c6,A7,c7,A8,c8,A9,c9,N0,N1,N2,rfl,hcop,hb4⟩;refine zb hb4 ?_;rintro ⟨hc4,hf4⟩ hz4 hy4 hx4;refine szz w4 w ?_;intros;refine szz w4 w1 ?_;intros;refine szz w4 w2 ?_;intros))
   refine z0k ?_;intro W9 hW9
   have hR9:RBOX W9 (w.heap.size+3):=by rw[hW9];and_intros<;>go_simp
   have e1:W9.cell? ⟨w.heap.size+1,0,none⟩=some (.string name):=by rw[hW9];go_simp
   have e2:W9.cell? ⟨w.heap.size+2,0,none⟩=some (.int .i64 v.k):=by rw[hW9];go_simp
   have e3:W9.cell? ⟨w.heap.size+2,1,none⟩=some (.int .i64 v.n):=by rw[hW9];go_simp
   have e4:W9.cell? ⟨w.heap.size+2,2,none⟩=some (.string v.s):=by rw[hW9];go_simp
   have hBx:Below w.heap.size w W9:=by rw[hW9];exact bel
   have hw2:w.heap.size+4<=w2.heap.size:=by have:=hb1.size;have:=hb2.size;simp at *;omega
   obtain⟨hb9,hz9,hmc,hmf⟩:=mot_made hW9 HE.out.2.2.2.2.2.2.2.1 HE.out.2.2.2.1 HE.out.2.2.1
   obtain⟨hln,s5,s6,o7,o8,o9,q7,q8,q9',n0,n4⟩:=cop_rows hcop hb9 HE.out.2.2.2.2.2.2.2.1 HE.out.2.2.2.1 HE.out.2.2.1
   obtain⟨M,hM⟩:∃ M,M=w4.heap.size:=⟨_,rfl⟩
   rw[<-hM] at hmc hmf q7 q8 q9' n4 ⊢
   have hMl:M<W9.heap.size:=by omega
   obtain⟨A7',c7',e7,_,hs7⟩:=ownFct o7 rfl HE.out.2.2.2.2.2.1.1
   cases e7
   have z5:=hmc.2.2.2.2.2.1
   have hix:=facts_IndexFunc (z0y name) 49 (.pointer (some ⟨w.heap.size+1,0,none⟩)) A7 ins.length c7 ins W9 (by unfold inL;omega) hs7 cf_tell1 (fun wr k x hb _ _=>tell_1 name (w.heap.size+1) x wr (z00 e1 hb))
   obtain⟨ix,hixe⟩:∃ ix,ix=idxOf (z0y name) ins:=⟨_,rfl⟩
   rw[<-hixe] at hix
   have HM:=zh (ai hmc (ai hmf (ai s5 (ai s6 (ai o7 (ai o8 (ai o9 (ai q7 (ai q8 (ai q9' (ai n0 (ai n4 (ai hR9 (ai hln (ai hBx (ai e1 (ai e2 (ai e3 e4))))))))))))))))))
   have HZ:=zh (ai hw2 (ai hz9 (ai hM hixe)))
   clear hcop hW9 hR9 hmc hmf s5 s6 o7 o8 o9 q7 q8 q9' n0 n4 hln hM hb1 hb2 hb4 hb9 hc1 hf1 hc2 hf2 hc4 hf4 hz9 e1 e2 e3 e4 h1 h2 h3 hixe hs7 hBx
   go_upto_if 41 with (go_at_call 48;refine hix.mono ?_;rintro e w6 ⟨rfl,hb6⟩)
   refine z0k ?_;intro W6 hW6
   have hB6:Below W9.heap.size W9 W6:=by rw[hW6];exact hb6
   have hz6:=hB6.size
   have HC:=zh (ai hB6 (ai (HM.out.1.block (hB6.block M hMl)) (ai (HM.out.2.1.block (hB6.block M hMl)) (ai (z04 HM.out.2.2.2.2.1 hB6) (z00 HM.out.2.2.2.2.2.2.2.2.2.2.2.2.2.2.2.1 hB6)))))
   clear hW6 hb6 hix z5 hB6
   go_cut [12] (fun s12 wx=>∃ (i:Nat) (L:List Fct) (x:Fct) (iv:Option Addr) (ci:Nat),s12=.int .i64 i/\i<L.length/\Hid (L[i]?=some x/\L.set i ⟨x.name,x.key,v⟩=tellI name v ins)/\L.length<=15/\Hid (MotC wx M (.slice A5 m c5) (.slice A6 P.length c6) p (.slice iv L.length ci) (.slice A8 m c8) (.slice A9 m c9) now last (.slice none 0 0))/\Hid (MotF wx M) /\
    Hid (wx.ownsRow N0 72 7 (.slice iv L.length ci) L.length (L.flatMap Fct.cs))/\L.length<=ci/\Hid (∀ q,(Value.slice iv L.length ci).ownBlock=some q->(Value.slice A7 ins.length c7).ownBlock=some q\/W6.heap.size<=q)/\Hid (∀ b,b<W6.heap.size->b≠M->some b≠(Value.slice A7 ins.length c7).ownBlock->wx.heap[b]?=W6.heap[b]?)/\W6.heap.size<=wx.heap.size/\Hid (∀ B,B<=M->B<=N0->Below B W6 wx))
   case first =>
    by_cases hneg:ix<0
    ·have gn:decide (ix<0)=true:=decide_eq_true hneg
     have hany:ins.any (z0y name)=false:=by
      have h:=HZ.out.2.2.2
      unfold idxOf at h
      cases ha:ins.any (z0y name)
      ·rfl
      rw[ha,if_pos rfl] at h;omega
     have HN:=zh (tell_new (v:=v) hany)
     have z5:=HC.out.2.1.2.2.2.2.2.1
     clear hany
     obtain⟨i0,ei,ez0,ez1,ez2⟩:=info_parts Tryz.infoFct
     go_upto_region 11 with fail
     refine z0k ?_;intro v0' hv0'
     obtain⟨u0,hu0⟩:∃ y,y=v0'.drew:=⟨_,rfl⟩
     have hB1:Below W6.heap.size W6 u0:=by rw[hu0,hv0'];exact (Below.refl _ _).drew
     have hMl6:M<W6.heap.size:=by omega
     have hn6:w.heap.size+1<W6.heap.size:=by have:=HZ.out;omega
     have HS1:=zh (show ∀ y:World,y.heap[M]?=W6.heap[M]?->y.heap[w.heap.size+1]?=W6.heap[w.heap.size+1]?->(y.cell? ⟨M,5,none⟩=some (.slice A7 ins.length c7)/\y.cell? ⟨w.heap.size+1,0,none⟩=some (.string name)) from fun y h h'=>⟨(cob M 5 h).trans z5,(cob (w.heap.size+1) (0) h').trans HC.out.2.2.2.2⟩)
     have hS0:=HS1.out u0 (hB1.block M hMl6) (hB1.block _ hn6)
     refine z0r (fun w'=>w'.cell? ⟨M,5,none⟩=some (.slice A7 ins.length c7)/\w'.cell? ⟨w.heap.size+1,0,none⟩=some (.string name)) 13 (by kernel_rfl) ?_
     rw[<-hu0]
     clear hu0 hv0' z5
     refine zt 0 hS0 ?_
     simp only[Act.put,pq]
     refine zt 1 hS0 ?_
     simp only[Act.put,pq]
     refine zt 2 hS0 ?_
     simp only[Act.put,pq]
     refine zt 3 hS0 ?_
     simp only[Act.put,pq]
     refine zt 4 hS0 ?_
     simp only[Act.put,pq]
     refine zt 5 hS0 ?_
     simp only[Act.put,pq]
     refine zt 6 hS0 ?_
     simp only[Act.put,pq]
     refine zt 7 hS0 ?_
     simp only[Act.put,pq]
     refine z06 (i:=8) (o:=_) rfl (by kernel_rfl) (fun K hK=>?_)
     go_simp
     obtain⟨u1,hu1⟩:∃ y,y=u0.alloc (.cells #[.string name,.int .i64 0,.int .i64 0,.string ⟨#[]⟩,.int .i64 0,.int .i64 0,.string ⟨#[]⟩] 72):=⟨_,rfl⟩
     rw[<-hu1]
     have hb1:Below u0.heap.size u0 u1:=by rw[hu1];exact (Below.refl _ _).alloc (nr _) _
     have hB2:=z01 hB1 hb1 hB1.size
     have hnew:∀ pp,some (⟨u0.heap.size,0,none⟩:Addr)=some pp->∀ j u,(Fct.mk name noVal noVal).cs[j]?=some u->u1.cell? (pp.add j)=some u:=by
      rw[hu1]
      exact fun pp hp j u hj=>by cases hp;exact z63 _ (Fct.mk name noVal noVal).cs _ j u hj
     clear hu1
     have hS1:=HS1.out u1 (hB2.block M hMl6) (hB2.block _ hn6)
     refine hK.out _ _ (fun _=>hS1) ?_
     clear hK K
     try simp only[Act.put,pq]
     refine z06 (i:=9) (o:=_) rfl (by kernel_rfl) (fun K hK=>?_)
     refine z0z rfl (.tmp 53) (.tmp 56) 28 rfl N0 72 i0 _ 7 80 Tryz.underlying28 ei ez0 ez1 ez2 rfl (by decide) (.slice A7 ins.length c7) ins.length _ rfl (z04 HC.out.2.2.2.1 hB2) _ 1 1 (Fct.mk name noVal noVal).cs rfl rfl hnew (by simp) (by simp[Fct.cs,Value.oneCell']) (by unfold maxLen;omega) (by omega) (by have:=hB2.size;have:=HM.out.2.2.2.2.2.2.2.2.2.2.2.1;omega) ?_
     intro lv' u2 ho2 hgr hob
     obtain⟨g5,cap5,rfl,_,_⟩:=ho2.form (by omega)
     obtain⟨_,_,e5,hcap⟩:=z4p ho2
     cases e5
     have hzz:=hB2.size
     have h7M:∀ q,(Value.slice A7 ins.length c7).ownBlock=some q->N0<=q/\q<M:=fun q hq=>⟨(HM.out.2.2.2.2.2.2.2.1 q hq).1,(HM.out.2.2.2.2.2.2.2.1 q hq).2.1⟩
     have hM2:u2.heap[M]?=W6.heap[M]?:=(hgr.block M (by omega) (fun e=>by have:=(h7M M e.symm).2;omega)).trans (hB2.block M hMl6)
     have hS2:=HS1.out u2 hM2 ((hgr.block (w.heap.size+1) (by omega) (fun e=>by have:=(h7M _ e.symm).1;have:=HZ.out;have:=HM.out.2.2.2.2.2.2.2.2.2.2.1;omega)).trans (hB2.block _ hn6))
     refine hK.out _ _ (fun _=>hS2) ?_
     clear hK K
     try simp only[Act.put,pq]
     refine zt 10 hS2 ?_
     simp only[Act.put,pq]
     refine zt 11 hS2 ?_
     simp only[Act.put,pq]
     refine zt 12 hS2 ?_
     simp only[Act.put,pq]
     refine z06 (i:=13) (o:=_) rfl (by kernel_rfl) (fun K hK=>?_)
     have hC2:=HC.out.2.1.block hM2
     have hF2:=HC.out.2.2.1.block hM2
     obtain⟨z0,z1,z2,z3,z4,z5,z6,z7,z8,z9,z10⟩:=hC2
     obtain⟨n5,n8,n9,n10⟩:=hF2
     have hM3:M<u2.heap.size:=block_lt_of_cell z0
     go_simp
     refine hK.out _ _ (fun h=>absurd h (by decide)) ?_
     clear hK K
     refine z0f (by kernel_rfl) ?_ _
     try simp only[Act.put,pq]
     have hne:(Value.slice (some ⟨g5,0,none⟩) (ins.length+1) cap5).ownBlock≠some M:=by
      rcases hob with h | h
      ·rw[h];exact fun e=>by have:=(h7M M e).2;omega
      rw[h];intro e;have:=Option.some.inj e;omega
     go_wp2_with fail
     go_meet
     refine⟨ins.length,ins++[Fct.mk name noVal noVal],⟨name,noVal,noVal⟩,some ⟨g5,0,none⟩,cap5,rfl,?_⟩
     rw[List.length_append,List.length_singleton]
     refine⟨by omega,HN,by omega,zh (by and_intros<;>go_simp),zh (by and_intros<;>go_simp),zh ?_,hcap,zh (fun q hq=>?_),zh (fun b hb1' hbM hbl=>?_),?_,zh (fun B hBM hBb=>?_)⟩
     ·rw[List.flatMap_append]
      exact ownsRow_setCell_other (by simpa using ho2) hne _
     ·rcases hob with h | h
      ·exact .inl (h.symm.trans hq)
      rw[h] at hq;have:=Option.some.inj hq;exact .inr (by omega)
     ·rw[Below.heap_setCell _ _ _ _ (by exact hbM),hgr.block b (by omega) hbl,hB2.block b (by omega)]
     ·have:=hgr.size;simp;omega
     refine z03 ?_ hBM
     refine Below.grown (hB2.mono (by omega)) hgr (by omega) (fun kk hk=>?_)
     exact Nat.le_trans hBb (h7M kk hk).1
    have gn:decide (ix<0)=false:=decide_eq_false hneg
    have gp:0<=ix:=by omega
    have hany:ins.any (z0y name)=true:=by
     have h:=HZ.out.2.2.2
     unfold idxOf at h
     cases ha:ins.any (z0y name)
     ·rw[ha,if_neg (by decide)] at h;omega
     rfl
    obtain⟨x,hx⟩:=tell_has (v:=v) HE.out.2.2.2.2.2.2.1 hany
    have hixn:ix=(firstAt (z0y name) ins:Int):=by
     have h:=HZ.out.2.2.2
     unfold idxOf at h
     rw[hany,if_pos rfl] at h
     exact h
    have HH:=zh (ai hx hixn)
    clear hany hixn hx
    go_wp2_with fail
    go_meet
    rw[HH.out.2]
    refine⟨firstAt (z0y name) ins,ins,x,A7,c7,rfl,(List.getElem?_eq_some_iff.1 HH.out.1.1).1,zh HH.out.1,by omega,zh HC.out.2.1,zh HC.out.2.2.1,zh HC.out.2.2.2.1,HM.out.2.2.2.2.2.2.2.2.2.2.2.2.2.1.2.2.1,zh (fun q hq=>.inl hq),zh (fun _ _ _ _=>rfl),nr _,zh (fun B _ _=>Below.refl _ _)⟩
   case rest =>
    obtain⟨i,L,x,iv,ci,rfl,hil,hLx,hL15,hmc,hmf,hrow,hlc,hob,hfr,hzc,hbc⟩:=hcut
    obtain⟨gi,ki,ei,_,_⟩:=hrow.out.form (by omega)
    cases ei
    have hii:(i:Int)<(L.length:Int):=by omega
    obtain⟨gq7,gq8,gq9,gn0,gn4,gR,gln,gBx,_,ge2,ge3,ge4⟩:=HM.out.2.2.2.2.2.2.2
    have hZ:=ai HZ.out.1 (ai (Nat.le_of_eq HZ.out.2.1) (ai (Nat.le_of_eq HZ.out.2.1.symm) (ai (Nat.le_of_eq HZ.out.2.2.1) (Nat.le_of_eq HZ.out.2.2.1.symm))))
    have hMl6:M<W6.heap.size:=by omega
    have hMc:M<wc.heap.size:=by omega
    have h7n:∀ q,q<N0->some q≠(Value.slice A7 ins.length c7).ownBlock:=fun q hq e=>by have:=(gq7 q e.symm).1;omega
    have hc2:∀ q,q<N0->wc.heap[q]?=W9.heap[q]?:=fun q hq=>(hfr.out q (by omega) (by omega) (h7n q hq)).trans (HC.out.1.block q (by omega))
    have z5:=hmc.out.2.2.2.2.2.1
    have hgic:gi<wc.heap.size:=(hrow.out.lt gi rfl).2
    have hgN:N0<=gi:=(hrow.out.lt gi rfl).1
    have hgM:gi≠M:=fun e=>by
     rcases hob.out gi rfl with h | h
     ·have:=(gq7 gi h).2.1;omega
     omega
    have t2:=(cob (w.heap.size+2) (0) (hc2 _ (by omega))).trans ge2
    have t3:=(cob (w.heap.size+2) (1) (hc2 _ (by omega))).trans ge3
    have t4:=(cob (w.heap.size+2) (2) (hc2 _ (by omega))).trans ge4
    go_upto_region 12 with fail
    refine z0k ?_;intro v0' hv0'
    obtain⟨v0,hv0⟩:∃ y,y=v0'.drew:=⟨_,rfl⟩
    have hV0:Below wc.heap.size wc v0:=by rw[hv0,hv0'];exact (Below.refl _ _).drew
    have hT0:v0.cell? ⟨M,5,none⟩=some (.slice (some ⟨gi,0,none⟩) L.length ci)/\(v0.cell? ⟨w.heap.size+2,0,none⟩=some (.int .i64 v.k)/\(v0.cell? ⟨w.heap.size+2,1,none⟩=some (.int .i64 v.n)/\v0.cell? ⟨w.heap.size+2,2,none⟩=some (.string v.s))):=⟨z00 z5 hV0,z00 t2 hV0,z00 t3 hV0,z00 t4 hV0⟩
    refine z0r (fun w'=>w'.cell? ⟨M,5,none⟩=some (.slice (some ⟨gi,0,none⟩) L.length ci)/\(w'.cell? ⟨w.heap.size+2,0,none⟩=some (.int .i64 v.k)/\(w'.cell? ⟨w.heap.size+2,1,none⟩=some (.int .i64 v.n)/\w'.cell? ⟨w.heap.size+2,2,none⟩=some (.string v.s)))) 9 (by kernel_rfl) ?_
    rw[<-hv0]
    clear hv0' hv0 z5 t2 t3 t4
    refine zt 0 hT0 ?_
    simp only[Act.put,pq]
    refine zt 1 hT0 ?_
    simp only[Act.put,pq]
    refine zt 2 hT0 ?_
    simp only[Act.put,pq]
    refine zt 3 hT0 ?_
    simp only[Act.put,pq]
    refine zt 4 hT0 ?_
    simp only[Act.put,pq]
    refine zt 5 hT0 ?_
    simp only[Act.put,pq]
    refine zt 6 hT0 ?_
    simp only[Act.put,pq]
    refine zt 7 hT0 ?_
    simp only[Act.put,pq]
    refine zt 8 hT0 ?_
    simp only[Act.put,pq]
    refine z06 (i:=9) (o:=_) rfl (by kernel_rfl) (fun K hK=>?_)
    have ho0:=z04 hrow.out hV0
    obtain⟨e4,e5,e6⟩:=cells_ownF ho0 hLx.out.1 hil
    have f4:=ho0.frozenAt (i*7+4)
    have f5:=ho0.frozenAt (i*7+5)
    have f6:=ho0.frozenAt (i*7+6)
    have hgu:gi<v0.heap.size:=block_lt_of_cell e4
    go_simp
    refine hK.out _ _ (fun h=>absurd h (by decide)) ?_
    clear hK K
    refine z0f (by kernel_rfl) ?_ _
    try simp only[Act.put,pq]
    go_upto_region 13 with fail
    refine z0k ?_;intro W2 hW2
    have hst:W2.ownsRow N0 72 7 (.slice (some ⟨gi,0,none⟩) L.length ci) L.length ((L.set i ⟨x.name,x.key,v⟩).flatMap Fct.cs):=by
     rw[hW2];exact facts_stored ho0 hLx.out.1
    have hbk:∀ bb:Nat,bb≠gi->bb<wc.heap.size->W2.heap[bb]?=wc.heap[bb]?:=fun bb hne h=>by
     rw[hW2]
     iterate 3 rw[Below.heap_setCell _ _ _ _ (by exact hne)]
     exact hV0.block bb h
    have hz2:W2.heap.size=v0.heap.size:=by rw[hW2];simp
    have hzv:=hV0.size
    have hB2:∀ x,x<=N0->Below x wc W2:=fun x h=>by
     rw[hW2]
     iterate 3 refine z03 ?_ (by show x<=gi;omega)
     exact hV0.mono (by omega)
    have hll:L.length=(tellI name v ins).length:=by rw[<-hLx.out.2,List.length_set]
    rw[hLx.out.2] at hst
    rw[hll] at hst hlc
    have h9:∀ b,b<M->b≠gi->some b≠(Value.slice A7 ins.length c7).ownBlock->W2.heap[b]?=W9.heap[b]?:=fun b hb hne hn7=>(hbk b hne (by omega)).trans ((hfr.out b (by omega) (by omega) hn7).trans (HC.out.1.block b (by omega)))
    have hgi8:some gi≠(Value.slice A8 m c8).ownBlock:=fun e=>by
     rcases hob.out gi rfl with h | h
     ·exact (gq7 gi h).2.2.1 e
     have:=(gq8 gi e.symm).2.1;omega
    have hgi9:some gi≠(Value.slice A9 m c9).ownBlock:=fun e=>by
     rcases hob.out gi rfl with h | h
     ·exact (gq7 gi h).2.2.2 e
     have:=(gq9 gi e.symm).2;omega
    have j8:=z09 HM.out.2.2.2.2.2.1 (w':=W2) (fun q hq _=>h9 q (gq8 q hq).2.1 (fun e=>hgi8 (by rw[<-e];exact hq.symm)) (fun e=>(gq7 q e.symm).2.2.1 hq.symm))
    have j9:=z09 HM.out.2.2.2.2.2.2.1 (w':=W2) (fun q hq _=>h9 q (gq9 q hq).2 (fun e=>hgi9 (by rw[<-e];exact hq.symm)) (fun e=>(gq7 q e.symm).2.2.2 hq.symm))
    have hin:∀ b,z2u w2.heap.size N0 b->W2.heap[b]?=W9.heap[b]?:=fun b hb'=>h9 b (by have:=hb'.2;omega) (by have:=hb'.2;omega) (h7n b hb'.2)
    have j5:=HM.out.2.2.1.keepN z02 (w':=W2) (S':=z2u w2.heap.size N0) (fun b hb'=>⟨hb',hin b hb'⟩)
    have j6:=HM.out.2.2.2.1.keepN z0d (w':=W2) (S':=z2u w2.heap.size N0) (fun b hb'=>⟨hb',hin b hb'⟩)
    have htw:=tellI_wf HE.out.2.2.2.2.2.2.2.2.1 HE.out.2.2.2.2.2.2.2.2.2 HE.out.2.2.2.2.2.1.1
    obtain⟨i5,i6,i7,iSo,iSf,iSa⟩:=mot_rows (M:=M) (lv:=.slice none 0 0) (A8:=A8) (c8:=c8) (A9:=A9) (c9:=c9) (m:=m) j5 j6 hst htw (by omega) gn0 gn4 (fun q hq=>by have e:gi=q:=Option.some.inj hq;subst e;exact⟨hgM,hgi8,hgi9,fun e=>by cases e⟩) (fun q hq=>(gq8 q hq).1) (fun q hq=>(gq9 q hq).1) (fun q hq=>by cases hq)
    have hmc2:=hmc.out.block (hbk M (fun e=>hgM e.symm) hMc)
    have hmf2:=hmf.out.block (hbk M (fun e=>hgM e.symm) hMc)
    rw[hll] at hmc2
    have hset:=HE.out.2.1
    have hdone:=motor_done M m c5 F A5 _ A6 P.length c6 P p (some ⟨gi,0,none⟩) (tellI name v ins).length ci (tellI name v ins) A8 c8 A9 c9 cs vs now last (.slice none 0 0) [] N0 W2
     ⟨hmc2,hmf2,j8,j9,World.ownsRow_nil _ _ _ _⟩ i5 i6 i7 (by unfold inL;omega) iSo iSf (fun q hq=>by cases hq)
     (fun e=>by have:=(gq8 M e.symm).2.1;omega) (fun e=>by have:=(gq9 M e.symm).2;omega) (fun q hq=>(gq8 q hq).2.2) (by omega) HE.out.2.2.2.2.1 hset HE.out.2.2.1 (Nat.zero_le _) (fun x hx=>absurd hx List.not_mem_nil) gln.1 gln.2.1 hlc gln.2.2.2.1 gln.2.2.2.2 (w.heap.size+4) (fun b hb'=>by have:=iSa b hb';omega) (by omega)
    obtain⟨r4,hr4⟩:∃ r4,r4=becE ⟨F,P,p,tellI name v ins,cs,vs,now,last⟩ []:=⟨_,rfl⟩
    rw[<-hr4] at hdone
    have HR:=zh (HE.out.1.trans hr4.symm)
    clear hr4
    obtain⟨⟨F',P',p',ins',cs',vs',now',last'⟩,ls',er'⟩:=r4
    have hR2:=gR.block (h9 (w.heap.size+3) (by omega) (by omega) (h7n _ (by omega)))
    have hBW:Below w.heap.size w W2:=(gBx.trans (HC.out.1.mono (by omega))).trans ((hbc.out w.heap.size (by omega) (by omega)).trans (hB2 w.heap.size (by omega)))
    have hM3:w.heap.size+4<=M:=by omega
    have hN3:w.heap.size+4<=N0:=by omega
    have hS3:w.heap.size+4<=W2.heap.size:=by omega
    clear hZ hz2 hll hW2 hst hB2 j5 j6 j8 j9 i5 i6 i7 iSo iSf iSa ho0 hT0 e4 e5 e6 f4 f5 f6 hmc hmf hrow hfr hbc hob hc2 h9 hin hset hmc2 hmf2 hbk hLx ge2 ge3 ge4
    go_wp2_with (go_at_call 25;refine hdone.mono ?_;rintro e w5 ⟨⟨B',d',A',c',A1',c1',A2',c2',A3',c3',A4',c4',rfl,hrw⟩,hbb⟩;have hb5:=hbb (w.heap.size+4) (by omega) (by omega);have hz5:=hb5.size;have hl5:w.heap.size+3<w5.heap.size:=(by omega);obtain⟨⟨q0,q1,q2,q3,q4,q5,q6,q7,q8,q9⟩,r0,r1,r2,r3,r4,r5,r6,r7,r8,r9⟩:=hR2.block (hb5.block (w.heap.size+3) (by omega)))
    refine bpr Tryz.results16 (.tuple #[.agg #[.slice B' F'.length d',.slice A' P'.length c',.int .i64 p'.tries,.int .i64 p'.base,.int .i64 p'.cap,.slice A1' ins'.length c1',.slice A2' cs'.length c2',.slice A3' vs'.length c3',.int .i64 now',.int .i64 last'],.slice A4' ls'.length c4',.int .i64 er']) ?_
    generalize hWe:World.setCell _ _ _=We
    rw[HR.out]
    have hrw':=EngRow.put (w':=We) (a:=w.heap.size) (show EngRow (w.heap.size+4) w5 ⟨F',P',p',ins',cs',vs',now',last'⟩ ls' B' d' A' c' A1' c1' A2' c2' A3' c3' A4' c4' from hrw) (by omega) (by rw[<-hWe];simp) (fun b h1 h2=>by
     rw[<-hWe]
     iterate 10 rw[Below.heap_setCell _ _ _ _ (by simp only[ne_eq];omega)])
    refine⟨⟨_,_,_,_,_,_,_,_,_,_,_,_,rfl,hrw'⟩,?_⟩
    rw[<-hWe]
    iterate 10 refine z03 ?_ (by dsimp only;omega)
    exact hBW.trans (hbb w.heap.size (by omega) (by omega))
  have gz:(z19 F name v != 0)=true:=by simpa using z2
  have HR:=zh (hrr.trans (tellE_out z1 (by rw[hgF];exact z2)))
  rw[hgF] at HR
  generalize z19 F name v=er at h2 gz HR
  clear hX hg hgF hrr z1 z2 hwf hFm h3
  go_enter Tryz.func16,Tryz.ntmps16
  go_wp2_with (first
   | (go_at_call 12;refine (h1 _ (HX.out.now bel)).mono ?_;rintro e w1 ⟨rfl,hb1⟩;refine zb hb1 ?_;rintro ⟨hc1,hf1⟩ hz1 hy1 hx1;refine szz w1 w ?_;intros)
   | (go_at_call 47;refine (h2 _ (HX.out.1.2.2.2.2.1.nowN z02 bel)).mono ?_;rintro e w2 ⟨rfl,hb2⟩;refine zb hb2 ?_;rintro ⟨hc2,hf2⟩ hz2 hy2 hx2;refine szz w2 w ?_;intros;refine szz w2 w1 ?_;intros))
  refine bpr Tryz.results16 (.tuple #[.agg #[.slice none 0 0,.slice none 0 0,.int .i64 0,.int .i64 0,.int .i64 0,.slice none 0 0,.slice none 0 0,.slice none 0 0,.int .i64 0,.int .i64 0],.slice none 0 0,.int .i64 er]) ?_
  rw[HR.out]
  exact⟨EngIs.nil0 er rfl,bel⟩
 have gz:(engErr g != 0)=true:=by simpa using z1
 have HR:=zh (hrr.trans (tellE_bad z1))
 generalize engErr g=er at h1 gz HR
 clear hX hg hgF hrr z1 hwf hFm h3 h2
 go_enter Tryz.func16,Tryz.ntmps16
 go_wp2_with (go_at_call 12;refine (h1 _ (HX.out.now bel)).mono ?_;rintro e w1 ⟨rfl,hb1⟩;refine zb hb1 ?_;rintro ⟨hc1,hf1⟩ hz1 hy1 hx1;refine szz w1 w ?_;intros)
 refine bpr Tryz.results16 (.tuple #[.agg #[.slice none 0 0,.slice none 0 0,.int .i64 0,.int .i64 0,.int .i64 0,.slice none 0 0,.slice none 0 0,.slice none 0 0,.int .i64 0,.int .i64 0],.slice none 0 0,.int .i64 er]) ?_
 rw[HR.out]
 exact⟨EngIs.nil0 er rfl,bel⟩
end Go.Proofs.YtldhlpjjcnlbcaaGreat
