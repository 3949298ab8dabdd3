/- Texts merged (mergeh.py): MacP. -/
import Derived.Test.YtldhlpjjcnlbcaaGreatMacB
import Derived.Test.YtldhlpjjcnlbcaaGreatTypes
import Derived.Test.YtldhlpjjcnlbcaaGreatPrt3
/- Texts merged: MacO MacP. -/
set_option maxRecDepth 100000
set_option maxHeartbeats 8000000
/- The walks of the machine's parts: first, bool, all. Each by what 'of' makes of formulas that are smaller. -/
namespace Go.Proofs.YtldhlpjjcnlbcaaGreat
open Go.RowKit Go.Maps
abbrev Exp.cs (x:Exp)(A:Option Addr)(c:Nat):List Value:=[.int .i64 x.op,.int .i64 x.v.k,.int .i64 x.v.n,.string x.v.s,.string x.name,.slice A x.args.length c]
def OfN (l:List Fct)(fb n N:Nat):Prop:=∀ (x:Exp) (A:Option Addr) (c:Nat) (w:World),x.nodes<=N->prtN x=0->XRep w (old w) (x.cs A c) x->MapIs w Tryz.prog 9 fb n (z7d l) ->
 Calls Tryz.prog 120 #[.map (some fb),.agg (x.cs A c).toArray] w (RetV w (evX l x))
def Val.isBool (v:Val):Bool:=v.k==2
def RetVB (w:World)(v:Val)(b:Bool)(e:Ending)(w':World):Prop:=e=.returned (.tuple #[v.ag,.bool b])/\Below w.heap.size w w'
theorem z6x {v:Val}(h:valCheck v=0):∃ n s,v=⟨1,n,s⟩\/(v=⟨2,n,s⟩/\(n=0\/n=1))\/v=⟨3,n,s⟩\/v=⟨4,n,s⟩\/v=⟨5,n,s⟩:=by
 have hk:=z35 h
 obtain⟨k,n,s⟩:=v
 refine⟨n,s,?_⟩
 simp only at hk
 rcases (by omega:k=1\/k=2\/k=3\/k=4\/k=5) with rfl | rfl | rfl | rfl | rfl
 ·exact .inl rfl
 ·exact .inr (.inl ⟨rfl,(zes h rfl).1⟩)
 ·exact .inr (.inr (.inl rfl))
 ·exact .inr (.inr (.inr (.inl rfl)))
 exact .inr (.inr (.inr (.inr rfl)))
theorem kid0 {w:World}{A:Option Addr}{n:Nat}{xs:List Exp}(h:Sl w (old w) 6 (XRep w (old w)) A n xs)(hn:0<n) :
  ∃ b o a X C,A=some ⟨b,o,none⟩/\b<w.heap.size/\xs[0]?=some a/\XRep w (old w) (a.cs X C) a/\(w.cell? ⟨b,o,none⟩=some (.int .i64 a.op)/\w.cell? ⟨b,o+1,none⟩=some (.int .i64 a.v.k)/\w.cell? ⟨b,o+2,none⟩=some (.int .i64 a.v.n) /\
   w.cell? ⟨b,o+3,none⟩=some (.string a.v.s)/\w.cell? ⟨b,o+4,none⟩=some (.string a.name)/\w.cell? ⟨b,o+5,none⟩=some (.slice X a.args.length C)):=by
 obtain⟨b,o,a,X,C,rfl,hb,hl,hx,x0,x1,x2,x3,x4,x5⟩:=z1g h hn
 simp only[Nat.zero_mul,Nat.add_zero] at x0 x1 x2 x3 x4 x5
 exact⟨b,o,a,X,C,rfl,hb,hl,hx,x0,x1,x2,x3,x4,x5⟩
theorem kid1 {w:World}{b o n:Nat}{xs:List Exp}(h:Sl w (old w) 6 (XRep w (old w)) (some ⟨b,o,none⟩) n xs)(hn:1<n) :
  ∃ a X C,xs[1]?=some a/\XRep w (old w) (a.cs X C) a/\(w.cell? ⟨b,o+6,none⟩=some (.int .i64 a.op)/\w.cell? ⟨b,o+6+1,none⟩=some (.int .i64 a.v.k)/\w.cell? ⟨b,o+6+2,none⟩=some (.int .i64 a.v.n) /\
   w.cell? ⟨b,o+6+3,none⟩=some (.string a.v.s)/\w.cell? ⟨b,o+6+4,none⟩=some (.string a.name)/\w.cell? ⟨b,o+6+5,none⟩=some (.slice X a.args.length C)):=by
 obtain⟨b',o',a,X,C,e,hb,hl,hx,x0,x1,x2,x3,x4,x5⟩:=z1g h hn
 cases e
 simp only[Nat.one_mul] at x0 x1 x2 x3 x4 x5
 exact⟨a,X,C,hl,hx,x0,x1,x2,x3,x4,x5⟩
theorem kid2 {w:World}{b o n:Nat}{xs:List Exp}(h:Sl w (old w) 6 (XRep w (old w)) (some ⟨b,o,none⟩) n xs)(hn:2<n) :
  ∃ a X C,xs[2]?=some a/\XRep w (old w) (a.cs X C) a/\(w.cell? ⟨b,o+12,none⟩=some (.int .i64 a.op)/\w.cell? ⟨b,o+12+1,none⟩=some (.int .i64 a.v.k)/\w.cell? ⟨b,o+12+2,none⟩=some (.int .i64 a.v.n) /\
   w.cell? ⟨b,o+12+3,none⟩=some (.string a.v.s)/\w.cell? ⟨b,o+12+4,none⟩=some (.string a.name)/\w.cell? ⟨b,o+12+5,none⟩=some (.slice X a.args.length C)):=by
 obtain⟨b',o',a,X,C,e,hb,hl,hx,x0,x1,x2,x3,x4,x5⟩:=z1g h hn
 cases e
 simp only[show 2*6=12 from rfl] at x0 x1 x2 x3 x4 x5
 exact⟨a,X,C,hl,hx,x0,x1,x2,x3,x4,x5⟩
section
variable (l:List Fct) (hl:z8y l) (fb n N:Nat) (IH:OfN l fb n N)
include hl IH
theorem machine_bool (x:Exp)(A:Option Addr)(c:Nat)(w:World)(hN:x.nodes<=N)(hp:prtN x=0)(hx:XRep w (old w) (x.cs A c) x)(hm:MapIs w Tryz.prog 9 fb n (z7d l)) :
  Calls Tryz.prog 161 #[.map (some fb),.agg (x.cs A c).toArray] w (RetV w (boolV (evX l x))):=by
 have ho:=fun w h h'=>IH x A c w hN hp h h'
 have HH:=zh (ai hx hm)
 obtain⟨m,s,hv⟩:=z6x (z5a hl x.nodes x (nr _) hp)
 clear hx hm IH hl hp
 rcases hv with hv | ⟨hv,_⟩ | hv | hv | hv
 all_goals
  rw[hv] at ho ⊢
  simp only[boolV,reduceIte,Int.reduceEq,or_true,true_or,or_self]
  clear hv
  go_enter Tryz.func161,Tryz.ntmps161
  go_wp2_with (first
   | (go_at_call 120;refine (ho _ (HH.out.1.keep (z05 bel)) (HH.out.2.below (show Below w.heap.size w _ from bel) HH.out.2.lt)).mono ?_;rintro e w1 ⟨rfl,hb1⟩;refine zb hb1 ?_;rintro ⟨hc1,hf1⟩ hz1 hy1 hx1;refine szz w1 w ?_;intros;dsimp only)
   | (go_at_call 159;refine (z45 _ _).mono ?_;rintro e w2 ⟨rfl,hb2⟩;refine zb hb2 ?_;rintro ⟨hc2,hf2⟩ hz2 hy2 hx2;refine szz w2 w ?_;intros;refine szz w2 w1 ?_;intros;dsimp only))
 ·exact bpr Tryz.results161 (.agg #[.int .i64 5,.int .i64 9,.string ⟨#[]⟩]) ⟨rfl,bel⟩
 ·exact bpr Tryz.results161 (.agg #[.int .i64 2,.int .i64 m,.string s]) ⟨rfl,bel⟩
 ·exact bpr Tryz.results161 (.agg #[.int .i64 5,.int .i64 9,.string ⟨#[]⟩]) ⟨rfl,bel⟩
 ·exact bpr Tryz.results161 (.agg #[.int .i64 4,.int .i64 m,.string s]) ⟨rfl,bel⟩
 exact bpr Tryz.results161 (.agg #[.int .i64 5,.int .i64 m,.string s]) ⟨rfl,bel⟩
theorem zdx (x a:Exp)(A:Option Addr)(c:Nat)(w:World)(ha:x.args[0]?=some a)(hN:a.nodes<=N)(hp:prtN a=0)(hx:XRep w (old w) (x.cs A c) x)(hm:MapIs w Tryz.prog 9 fb n (z7d l)) :
  Calls Tryz.prog 160 #[.map (some fb),.agg (x.cs A c).toArray] w (RetVB w (boolV (evX l a)) (evX l a).isBool):=by
 obtain⟨i1,i2,i3,i4,i5,hsl,hch⟩:=hx.kids
 have h0:0<x.args.length:=(List.getElem?_eq_some_iff.1 ha).1
 have hlen:x.args.length<=1759218604416:=by unfold inB at i4;omega
 obtain⟨b,o,a',X,C,rfl,hbl,ha',hxa,x0,x1,x2,x3,x4,x5⟩:=kid0 hsl h0
 rw[ha] at ha'
 cases ha'
 have ho:=fun w h h'=>IH a X C w hN hp h h'
 have HH:=zh (ai hxa hm)
 obtain⟨m,s,hv⟩:=z6x (z5a hl a.nodes a (nr _) hp)
 clear hx hm IH hl hp hsl hch i1 i2 i3 i4 i5 hxa ha
 rcases hv with hv | ⟨hv,_⟩ | hv | hv | hv
 all_goals
  rw[hv] at ho ⊢
  simp only[boolV,Val.isBool,reduceIte,Int.reduceEq,or_true,true_or,or_self]
  clear hv
  go_enter Tryz.func160,Tryz.ntmps160
  go_wp2_with (first
   | (go_at_call 120;refine (ho _ (HH.out.1.keep (z05 bel)) (HH.out.2.below (show Below w.heap.size w _ from bel) HH.out.2.lt)).mono ?_;rintro e w1 ⟨rfl,hb1⟩;refine zb hb1 ?_;rintro ⟨hc1,hf1⟩ hz1 hy1 hx1;refine szz w1 w ?_;intros;dsimp only)
   | (go_at_call 159;refine (z45 _ _).mono ?_;rintro e w2 ⟨rfl,hb2⟩;refine zb hb2 ?_;rintro ⟨hc2,hf2⟩ hz2 hy2 hx2;refine szz w2 w ?_;intros;refine szz w2 w1 ?_;intros;dsimp only))
 ·exact bpr Tryz.results160 (.tuple #[.agg #[.int .i64 5,.int .i64 9,.string ⟨#[]⟩],.bool false]) ⟨rfl,bel⟩
 ·go_region
  all_goals
   go_wp2_with fail
   exact bpr Tryz.results160 (.tuple #[.agg #[.int .i64 2,.int .i64 m,.string s],.bool true]) ⟨rfl,bel⟩
 ·exact bpr Tryz.results160 (.tuple #[.agg #[.int .i64 5,.int .i64 9,.string ⟨#[]⟩],.bool false]) ⟨rfl,bel⟩
 ·go_region
  all_goals
   go_wp2_with fail
   exact bpr Tryz.results160 (.tuple #[.agg #[.int .i64 4,.int .i64 m,.string s],.bool false]) ⟨rfl,bel⟩
 go_region
 all_goals
  go_wp2_with fail
  exact bpr Tryz.results160 (.tuple #[.agg #[.int .i64 5,.int .i64 m,.string s],.bool false]) ⟨rfl,bel⟩
end
end Go.Proofs.YtldhlpjjcnlbcaaGreat
/- The walks of the machine: all arguments, and of. -/
namespace Go.Proofs.YtldhlpjjcnlbcaaGreat
open Go.RowKit Go.Maps
def Box3 (w:World)(b:Nat)(v:Val):Prop :=
 (w.cell? ⟨b,0,none⟩=some (.int .i64 v.k)/\w.cell? ⟨b,1,none⟩=some (.int .i64 v.n)/\w.cell? ⟨b,2,none⟩=some (.string v.s))/\(w.frozen? ⟨b,0,none⟩=false/\w.frozen? ⟨b,1,none⟩=false/\w.frozen? ⟨b,2,none⟩=false)
theorem Box3.of_block {w w':World}{b:Nat}{v:Val}(h:w'.heap[b]?=w.heap[b]?)(hb:Box3 w b v):Box3 w' b v:=by
 obtain⟨⟨h1,h2,h3⟩,h4,h5,h6⟩:=hb
 exact⟨⟨(World.cell?_of_block (w:=w) (a:=⟨b,0,none⟩) h).trans h1,(World.cell?_of_block (w:=w) (a:=⟨b,1,none⟩) h).trans h2,(World.cell?_of_block (w:=w) (a:=⟨b,2,none⟩) h).trans h3⟩,
  (World.frozen?_of_block (w:=w) (a:=⟨b,0,none⟩) h).trans h4,(World.frozen?_of_block (w:=w) (a:=⟨b,1,none⟩) h).trans h5,(World.frozen?_of_block (w:=w) (a:=⟨b,2,none⟩) h).trans h6⟩
theorem Own.over {α:Type}{w w':World}{base:Nat}{e:TypeId}{size:Nat}{R:World->(Nat -> Prop)->List Value->α->Prop}{v:Value}{l:List α}(K:Keeps R)(h:Own w base e size R v l)(hz:w.heap.size<=w'.heap.size)
  (hb:∀ b,base<=b->b<w.heap.size->w'.heap[b]?=w.heap[b]?):Own w' base e size R v l:=by
 obtain⟨C,h1,h2,h3,h4⟩:=h
 refine⟨C,?_,h2,h3,fun i c a hc ha=>K _ _ _ _ _ _ (h4 i c a hc ha) fun b hb'=>⟨⟨hb'.1,Nat.lt_of_lt_of_le hb'.2.1 hz,hb'.2.2⟩,hb b hb'.1 hb'.2.1⟩⟩
 obtain⟨a1,a2⟩:=h1
 refine⟨a1,?_⟩
 rcases a2 with a2 | ⟨g,cap,cur,rfl,hg,hh,r⟩
 ·exact .inl a2
 refine .inr ⟨g,cap,cur,rfl,hg,?_,r⟩
 have hlt:g<w.heap.size:=by
  rcases Nat.lt_or_ge g w.heap.size with h | h
  ·exact h
  rw[Array.getElem?_eq_none h] at hh;cases hh
 rw[hb g hg hlt];exact hh
def zgh (vs:List Val):Val:=bif vs.any (fun v=>v.k==4) then pendV else noVal
def RetAll (w:World)(vs:List Val)(e:Ending)(w':World):Prop :=
 (match lackV vs with
  | some v=>∃ sv,e=.returned (.tuple #[sv,v.ag])
  | none=>∃ A c,e=.returned (.tuple #[.slice A vs.length c,noVal.ag])/\Sl w' (old w') 3 RVal A vs.length vs)/\Below w.heap.size w w'
theorem zd4 {vs:List Val}{k:Nat}{v:Val}(h0:(vs.take k).any (fun v=>v.k==5)=false)(h1:vs[k]?=some v)(h2:v.k=5):lackV vs=some v:=by
 unfold lackV
 rw[zbn h0 h1 (by simpa using h2)]
theorem lackV_pend {vs:List Val}(hv:∀ v∈vs,valCheck v=0)(h0:vs.any (fun v=>v.k==5)=false)(h1:vs.any (fun v=>v.k==4)=true):lackV vs=some pendV:=by
 unfold lackV
 rw[z5e _ _ h0]
 dsimp only
 cases hf:vs.find? (fun v=>v.k==4) with
 | none =>
  rw[List.any_eq_true] at h1
  obtain⟨v,hm,hk⟩:=h1
  rw[List.find?_eq_none] at hf
  exact absurd hk (hf v hm)
 | some v =>
  have hk:=List.find?_some hf
  rw[zet (hv v (List.mem_of_find?_eq_some hf)) (by simpa using hk)];rfl
theorem z6m {vs:List Val}(h0:vs.any (fun v=>v.k==5)=false)(h1:vs.any (fun v=>v.k==4)=false):lackV vs=none:=by
 unfold lackV
 rw[z5e _ _ h0]
 dsimp only
 rw[z5e _ _ h1]
theorem z9k {α:Type}{vs:List α}{k:Nat}{v:α}(h:vs[k]?=some v):vs.take (k+1)=vs.take k++[v]:=by rw[List.take_add_one,h];rfl
theorem zd7 {vs:List Val}{k:Nat}{v:Val}(h:vs[k]?=some v)(h4:v.k≠4):zgh (vs.take (k+1))=zgh (vs.take k):=by
 unfold zgh
 have e:(v.k==4)=false:=by simpa using h4
 rw[z9k h,List.any_append];simp[e]
theorem pendOf_hit {vs:List Val}{k:Nat}{v:Val}(h:vs[k]?=some v)(h4:v.k=4):zgh (vs.take (k+1))=pendV:=by
 unfold zgh
 have e:(v.k==4)=true:=by simpa using h4
 rw[z9k h,List.any_append];simp[e]
theorem z64 {op:Int}{vs:List Val}(ho:op=15\/op=16)(h:(vAt vs 0).isBool=false):opV op vs=boolV (vAt vs 0):=by
 unfold opV
 rw[if_pos ho,if_neg (by simpa [Val.isBool] using h)]
theorem opV_short {op:Int}{vs:List Val}{m:Int}{s:ByteArray}(ho:op=15\/op=16)(h:vAt vs 0=⟨2,m,s⟩)(hm:(m==1)=(op==16)):opV op vs=⟨2,m,s⟩:=by
 unfold opV
 rw[if_pos ho,h,if_pos rfl,if_pos hm]
theorem opV_long {op:Int}{vs:List Val}{m:Int}{s:ByteArray}(ho:op=15\/op=16)(h:vAt vs 0=⟨2,m,s⟩)(hm:¬ (m==1)=(op==16)):opV op vs=boolV (vAt vs 1):=by
 unfold opV
 rw[if_pos ho,h,if_pos rfl,if_neg hm]
theorem opV_if0 {vs:List Val}(h:(vAt vs 0).isBool=false):opV 17 vs=boolV (vAt vs 0):=by
 unfold opV
 rw[if_neg (by decide),if_pos rfl,if_neg (by simpa [Val.isBool] using h)]
theorem opV_if1 {vs:List Val}{s:ByteArray}(h:vAt vs 0=⟨2,1,s⟩):opV 17 vs=vAt vs 1:=by
 unfold opV
 rw[if_neg (by decide),if_pos rfl,h,if_pos rfl,if_pos rfl]
theorem opV_if2 {vs:List Val}{s:ByteArray}(h:vAt vs 0=⟨2,0,s⟩):opV 17 vs=vAt vs 2:=by
 unfold opV
 rw[if_neg (by decide),if_pos rfl,h,if_pos rfl,if_neg (by simp)]
theorem opV_rest {op:Int}{vs:List Val}(h:op≠15/\op≠16/\op≠17):opV op vs=(lackV vs).getD (appV op vs):=by
 unfold opV
 rw[if_neg (by omega),if_neg (by omega)]
theorem Tryz.infoVal:(Tryz.prog.info? 44).map (fun i=>(i.zero,i.size,i.bytes))=some (some (.agg #[.int .i64 0,.int .i64 0,.string ⟨#[]⟩]),3,32):=by kernel_rfl
section
variable (l:List Fct) (hl:z8y l) (fb n N:Nat) (IH:OfN l fb n N)
include hl IH
theorem machine_all (xs:List Exp)(A:Option Addr)(c:Nat)(w:World)(hxs:∀ a∈xs,a.nodes<=N/\prtN a=0)(hn:xs.length<=1759218604416)(h:Sl w (old w) 6 (XRep w (old w)) A xs.length xs)(hm:MapIs w Tryz.prog 9 fb n (z7d l)) :
  Calls Tryz.prog 162 #[.map (some fb),.slice A xs.length c] w (RetAll w (xs.map (evX l))):=by
 have hvs:∀ v∈xs.map (evX l),valCheck v=0:=by
  intro v hv
  obtain⟨a,ha,rfl⟩:=List.mem_map.1 hv
  exact z5a hl a.nodes a (nr _) (hxs a ha).2
 obtain⟨vs,hvv⟩:∃ vs,xs.map (evX l)=vs:=⟨_,rfl⟩
 have hlen:vs.length=xs.length:=by rw[<-hvv,List.length_map]
 have hat:∀ (k:Nat) (a:Exp),xs[k]?=some a->vs[k]?=some (evX l a):=by intro k a hk;rw[<-hvv,List.getElem?_map,hk];rfl
 rw[hvv] at hvs ⊢
 have HI:=zh IH
 have HH:=zh (ai h (ai hm (ai hxs (ai hvs (ai hat hlen)))))
 obtain⟨j0,hj0,iz0,iz1,iz2⟩:=info_parts Tryz.infoVal
 clear IH h hm hxs hvs hat hvv hlen hl
 go_enter Tryz.func162,Tryz.ntmps162
 go_wp2_with fail
 go_loopw [6,13] (fun out i wr=>∃ (k:Nat) (A':Option Addr) (c':Nat) (p:Val),k<=xs.length/\i=.int .i64 k/\out=.slice A' k c'/\Hid (Own wr (w.heap.size+2) 44 3 (fun _ _=>RVal) (.slice A' k c') (vs.take k))/\Hid ((vs.take k).any (fun v=>v.k==5)=false)/\Hid (zgh (vs.take k)=p)/\Hid (Box3 wr w.heap.size noVal)/\Hid (Box3 wr (w.heap.size+1) p)/\Below w.heap.size w wr/\w.heap.size+2<=wr.heap.size) (fun _ i _=>xs.length-(intOf i).toNat)
 case atStart=>exact⟨0,none,0,noVal,by omega,rfl,rfl,zh Own.nil,zh (by simp),zh rfl,zh ⟨⟨by go_simp;rfl,by go_simp;rfl,by go_simp;rfl⟩,by go_simp,by go_simp,by go_simp⟩,zh ⟨⟨by go_simp;rfl,by go_simp;rfl,by go_simp;rfl⟩,by go_simp,by go_simp,by go_simp⟩,bel,by simp⟩
 case round =>
  obtain⟨k,A',c',p,hk,rfl,rfl,hown,hz,hpd,hb0,hb1,hbr,hsz⟩:=hrel
  obtain⟨⟨v0,v1,v2⟩,u0,u1,u2⟩:=hb0.out
  obtain⟨⟨p0,p1,p2⟩,q0,q1,q2⟩:=hb1.out
  have hlw:w.heap.size<wr.heap.size:=by omega
  have hlw1:w.heap.size+1<wr.heap.size:=by omega
  by_cases hlt:k<xs.length
  ·obtain⟨b,o,a,X,C,hAe,hbl,hla,hxa,x0,x1,x2,x3,x4,x5⟩:=z1g (HH.out.1.nowN z0e hbr) hlt
   subst hAe
   have hbl':b<wr.heap.size:=hbl
   have hia:=fun w h h'=>HI.out a X C w (HH.out.2.2.1 a (List.mem_of_getElem? hla)).1 (HH.out.2.2.1 a (List.mem_of_getElem? hla)).2 h h'
   obtain⟨m,s,hv⟩:=z6x (HH.out.2.2.2.1 _ (List.mem_of_getElem? (HH.out.2.2.2.2.1 k a hla)))
   have hvk:=HH.out.2.2.2.2.1 k a hla
   have hwv:=z48 (HH.out.2.2.2.1 _ (List.mem_of_getElem? hvk))
   have hlk:(vs.take k).length=k:=by rw[List.length_take];have:=HH.out.2.2.2.2.2;omega
   have HO:=zh (ai hxa hlk)
   clear hxa hla hbl hlk
   rcases hv with hv | ⟨hv,_⟩ | hv | hv | hv
   ·have HW:=zh (hv▸hwv:(⟨1,m,s⟩:Val).wf)
    rw[hv] at hia hvk
    have HV:=zh hvk
    clear hv hvk hwv
    go_wp2_with (first
     | (go_at_call 120;refine (hia _ (HO.out.1.keep (z05 bel)) ((HH.out.2.1.below hbr HH.out.2.1.lt).below (show Below wr.heap.size wr _ from bel) (Nat.lt_of_lt_of_le HH.out.2.1.lt hbr.size))).mono ?_;rintro e w3 ⟨rfl,hb3⟩;refine zb hb3 ?_;rintro ⟨hc3,hf3⟩ hz3 hy3 hx3;refine szz w3 wr ?_;intros;refine szz w3 w ?_;intros;dsimp only)
     | (at_builtin;refine z16 (z0t RVal) rfl (.tmp 28) (.tmp 30) 30 rfl (w.heap.size+2) 44 j0 _ 3 32 Tryz.underlying30 hj0 iz0 iz1 iz2 rfl (by decide) (.slice A' k c') (vs.take k) rfl (hown.out.keep (z0t _) (show Below wr.heap.size wr _ from bel)) [.int .i64 1,.int .i64 m,.string s] 44 rfl _ rfl (by simp) rfl (by simp[Value.oneCell']) (by rw[HO.out.2];omega) (by rw[HO.out.2];unfold maxLen;omega) (by simp;omega) ⟨1,m,s⟩ ⟨rfl,HW.out⟩ ?_;intro g' cap w5 hown5 hb5 hz5 hk5 _;rw[HO.out.2] at hown5 ⊢))
    go_roundw
    case rel =>
     have hke0:=hk5 w.heap.size (by simp;omega) (fun e=>by have:=(hown.out.lt _ e.symm).1;omega)
     have hke1:=hk5 (w.heap.size+1) (by simp;omega) (fun e=>by have:=(hown.out.lt _ e.symm).1;omega)
     have etk:vs.take k++[_]=vs.take (k+1):=(z9k HV.out).symm
     rw[etk] at hown5
     exact⟨k+1,some ⟨g',0,none⟩,cap,p,by omega,by go_num,rfl,zh hown5,zh (z4e hz.out HV.out rfl),zh ((zd7 HV.out (by simp)).trans hpd.out),zh (Box3.of_block hke0 ⟨⟨by go_simp,by go_simp,by go_simp⟩,by go_simp,by go_simp,by go_simp⟩),zh (Box3.of_block hke1 ⟨⟨by go_simp,by go_simp,by go_simp⟩,by go_simp,by go_simp,by go_simp⟩),z01 (show Below w.heap.size w _ from bel) hb5 (by omega),by simp at hz5;omega⟩
    case measure=>simp[intOf];omega
   ·have HW:=zh (hv▸hwv:(⟨2,m,s⟩:Val).wf)
    rw[hv] at hia hvk
    have HV:=zh hvk
    clear hv hvk hwv
    go_wp2_with (first
     | (go_at_call 120;refine (hia _ (HO.out.1.keep (z05 bel)) ((HH.out.2.1.below hbr HH.out.2.1.lt).below (show Below wr.heap.size wr _ from bel) (Nat.lt_of_lt_of_le HH.out.2.1.lt hbr.size))).mono ?_;rintro e w3 ⟨rfl,hb3⟩;refine zb hb3 ?_;rintro ⟨hc3,hf3⟩ hz3 hy3 hx3;refine szz w3 wr ?_;intros;refine szz w3 w ?_;intros;dsimp only)
     | (at_builtin;refine z16 (z0t RVal) rfl (.tmp 28) (.tmp 30) 30 rfl (w.heap.size+2) 44 j0 _ 3 32 Tryz.underlying30 hj0 iz0 iz1 iz2 rfl (by decide) (.slice A' k c') (vs.take k) rfl (hown.out.keep (z0t _) (show Below wr.heap.size wr _ from bel)) [.int .i64 2,.int .i64 m,.string s] 44 rfl _ rfl (by simp) rfl (by simp[Value.oneCell']) (by rw[HO.out.2];omega) (by rw[HO.out.2];unfold maxLen;omega) (by simp;omega) ⟨2,m,s⟩ ⟨rfl,HW.out⟩ ?_;intro g' cap w5 hown5 hb5 hz5 hk5 _;rw[HO.out.2] at hown5 ⊢))
    go_roundw
    case rel =>
     have hke0:=hk5 w.heap.size (by simp;omega) (fun e=>by have:=(hown.out.lt _ e.symm).1;omega)
     have hke1:=hk5 (w.heap.size+1) (by simp;omega) (fun e=>by have:=(hown.out.lt _ e.symm).1;omega)
     have etk:vs.take k++[_]=vs.take (k+1):=(z9k HV.out).symm
     rw[etk] at hown5
     exact⟨k+1,some ⟨g',0,none⟩,cap,p,by omega,by go_num,rfl,zh hown5,zh (z4e hz.out HV.out rfl),zh ((zd7 HV.out (by simp)).trans hpd.out),zh (Box3.of_block hke0 ⟨⟨by go_simp,by go_simp,by go_simp⟩,by go_simp,by go_simp,by go_simp⟩),zh (Box3.of_block hke1 ⟨⟨by go_simp,by go_simp,by go_simp⟩,by go_simp,by go_simp,by go_simp⟩),z01 (show Below w.heap.size w _ from bel) hb5 (by omega),by simp at hz5;omega⟩
    case measure=>simp[intOf];omega
   ·have HW:=zh (hv▸hwv:(⟨3,m,s⟩:Val).wf)
    rw[hv] at hia hvk
    have HV:=zh hvk
    clear hv hvk hwv
    go_wp2_with (first
     | (go_at_call 120;refine (hia _ (HO.out.1.keep (z05 bel)) ((HH.out.2.1.below hbr HH.out.2.1.lt).below (show Below wr.heap.size wr _ from bel) (Nat.lt_of_lt_of_le HH.out.2.1.lt hbr.size))).mono ?_;rintro e w3 ⟨rfl,hb3⟩;refine zb hb3 ?_;rintro ⟨hc3,hf3⟩ hz3 hy3 hx3;refine szz w3 wr ?_;intros;refine szz w3 w ?_;intros;dsimp only)
     | (at_builtin;refine z16 (z0t RVal) rfl (.tmp 28) (.tmp 30) 30 rfl (w.heap.size+2) 44 j0 _ 3 32 Tryz.underlying30 hj0 iz0 iz1 iz2 rfl (by decide) (.slice A' k c') (vs.take k) rfl (hown.out.keep (z0t _) (show Below wr.heap.size wr _ from bel)) [.int .i64 3,.int .i64 m,.string s] 44 rfl _ rfl (by simp) rfl (by simp[Value.oneCell']) (by rw[HO.out.2];omega) (by rw[HO.out.2];unfold maxLen;omega) (by simp;omega) ⟨3,m,s⟩ ⟨rfl,HW.out⟩ ?_;intro g' cap w5 hown5 hb5 hz5 hk5 _;rw[HO.out.2] at hown5 ⊢))
    go_roundw
    case rel =>
     have hke0:=hk5 w.heap.size (by simp;omega) (fun e=>by have:=(hown.out.lt _ e.symm).1;omega)
     have hke1:=hk5 (w.heap.size+1) (by simp;omega) (fun e=>by have:=(hown.out.lt _ e.symm).1;omega)
     have etk:vs.take k++[_]=vs.take (k+1):=(z9k HV.out).symm
     rw[etk] at hown5
     exact⟨k+1,some ⟨g',0,none⟩,cap,p,by omega,by go_num,rfl,zh hown5,zh (z4e hz.out HV.out rfl),zh ((zd7 HV.out (by simp)).trans hpd.out),zh (Box3.of_block hke0 ⟨⟨by go_simp,by go_simp,by go_simp⟩,by go_simp,by go_simp,by go_simp⟩),zh (Box3.of_block hke1 ⟨⟨by go_simp,by go_simp,by go_simp⟩,by go_simp,by go_simp,by go_simp⟩),z01 (show Below w.heap.size w _ from bel) hb5 (by omega),by simp at hz5;omega⟩
    case measure=>simp[intOf];omega
   ·obtain⟨rfl,rfl⟩:m=0/\s=⟨#[]⟩:=by
     have:=zet (HH.out.2.2.2.1 _ (List.mem_of_getElem? hvk)) (by rw[hv])
     rw[hv] at this
     injection this with _ h1 h2
     exact⟨h1,h2⟩
    have HW:=zh (hv▸hwv:(⟨4,0,⟨#[]⟩⟩:Val).wf)
    rw[hv] at hia hvk
    have HV:=zh hvk
    clear hv hvk hwv
    go_wp2_with (first
     | (go_at_call 120;refine (hia _ (HO.out.1.keep (z05 bel)) ((HH.out.2.1.below hbr HH.out.2.1.lt).below (show Below wr.heap.size wr _ from bel) (Nat.lt_of_lt_of_le HH.out.2.1.lt hbr.size))).mono ?_;rintro e w3 ⟨rfl,hb3⟩;refine zb hb3 ?_;rintro ⟨hc3,hf3⟩ hz3 hy3 hx3;refine szz w3 wr ?_;intros;refine szz w3 w ?_;intros;dsimp only)
     | (at_builtin;refine z16 (z0t RVal) rfl (.tmp 28) (.tmp 30) 30 rfl (w.heap.size+2) 44 j0 _ 3 32 Tryz.underlying30 hj0 iz0 iz1 iz2 rfl (by decide) (.slice A' k c') (vs.take k) rfl (hown.out.over (z0t _) (by simp;omega) (by intro b hq1 hq2;rw[Below.heap_alloc _ _ _ (by simp;omega),RowKit.Below.heap_setCell _ _ _ _ (by simp;omega),RowKit.Below.heap_setCell _ _ _ _ (by simp;omega),RowKit.Below.heap_setCell _ _ _ _ (by simp;omega)];exact (show Below wr.heap.size wr _ from bel).block b hq2)) [.int .i64 4,.int .i64 0,.string ⟨#[]⟩] 44 rfl _ rfl (by simp) rfl (by simp[Value.oneCell']) (by rw[HO.out.2];omega) (by rw[HO.out.2];unfold maxLen;omega) (by simp;omega) ⟨4,0,⟨#[]⟩⟩ ⟨rfl,HW.out⟩ ?_;intro g' cap w5 hown5 hb5 hz5 hk5 _;rw[HO.out.2] at hown5 ⊢))
    go_roundw
    case rel =>
     have d0:w3.cell? ⟨w.heap.size+1,0,none⟩=some (.int .i64 p.k):=by go_simp
     have d1:w3.cell? ⟨w.heap.size+1,1,none⟩=some (.int .i64 p.n):=by go_simp
     have d2:w3.cell? ⟨w.heap.size+1,2,none⟩=some (.string p.s):=by go_simp
     have hke0:=hk5 w.heap.size (by simp;omega) (fun e=>by have:=(hown.out.lt _ e.symm).1;omega)
     have hke1:=hk5 (w.heap.size+1) (by simp;omega) (fun e=>by have:=(hown.out.lt _ e.symm).1;omega)
     have etk:vs.take k++[_]=vs.take (k+1):=(z9k HV.out).symm
     rw[etk] at hown5
     exact⟨k+1,some ⟨g',0,none⟩,cap,pendV,by omega,by go_num,rfl,zh hown5,zh (z4e hz.out HV.out rfl),zh (pendOf_hit HV.out rfl),zh (Box3.of_block hke0 ⟨⟨by go_simp,by go_simp,by go_simp⟩,by go_simp,by go_simp,by go_simp⟩),zh (Box3.of_block hke1 ⟨⟨by go_simp;rfl,by go_simp;rfl,by go_simp;rfl⟩,by go_simp,by go_simp,by go_simp⟩),z01 (show Below w.heap.size w _ from bel) hb5 (by omega),by simp at hz5;omega⟩
    case measure=>simp[intOf];omega
   rw[hv] at hia hvk
   have HL:=zh (zd4 hz.out hvk rfl)
   clear hv hvk hwv
   go_wp2_with (go_at_call 120;refine (hia _ (HO.out.1.keep (z05 bel)) ((HH.out.2.1.below hbr HH.out.2.1.lt).below (show Below wr.heap.size wr _ from bel) (Nat.lt_of_lt_of_le HH.out.2.1.lt hbr.size))).mono ?_;rintro e w3 ⟨rfl,hb3⟩;refine zb hb3 ?_;rintro ⟨hc3,hf3⟩ hz3 hy3 hx3;refine szz w3 wr ?_;intros;refine szz w3 w ?_;intros;dsimp only)
   have d0:w3.cell? ⟨w.heap.size,0,none⟩=some (.int .i64 0):=by go_simp;rfl
   have d1:w3.cell? ⟨w.heap.size,1,none⟩=some (.int .i64 0):=by go_simp;rfl
   have d2:w3.cell? ⟨w.heap.size,2,none⟩=some (.string ⟨#[]⟩):=by go_simp;rfl
   go_region
   all_goals
    go_wp2_with fail
    refine bpr Tryz.results162 (.tuple #[.slice none 0 0,.agg #[.int .i64 5,.int .i64 m,.string s]]) ?_
    unfold RetAll
    rw[HL.out]
    exact⟨⟨_,rfl⟩,bel⟩
  have hke:k=xs.length:=by omega
  have hll:=HH.out.2.2.2.2.2
  have htk:vs.take k=vs:=List.take_of_length_le (by omega)
  rw[htk] at hown hz hpd
  subst hke
  have key:∀ W:World,wr.heap.size<=W.heap.size->(∀ b,w.heap.size+2<=b->b<wr.heap.size->W.heap[b]?=wr.heap[b]?) ->
    ∃ A c,(Ending.returned (.tuple #[.slice A' xs.length c',noVal.ag])=.returned (.tuple #[.slice A vs.length c,noVal.ag]))/\Sl W (old W) 3 RVal A vs.length vs:=by
   intro W h1 h2
   obtain⟨A2,c2,e2,_,hs⟩:=(hown.out.over (z0t _) h1 h2).sl (z0t _)
   exact⟨A2,c2,by rw[e2],hs.mono fun b hb=>hb.2⟩
  have HK:=zh (ai key (ai hz.out hpd.out))
  clear key hll htk hown hz hpd
  go_wp2_with fail
  go_region
  all_goals
   go_wp2_with fail
   refine bpr Tryz.results162 (.tuple #[.slice A' xs.length c',.agg #[.int .i64 p.k,.int .i64 p.n,.string p.s]]) ?_
   obtain⟨key,hz,hpd⟩:=HK.out
   unfold RetAll
   cases hq:vs.any (fun v=>v.k==4)
   ·rw[z6m hz hq]
    have hp:p=noVal:=by rw[<-hpd];unfold zgh;rw[hq];rfl
    subst hp
    exact⟨key _ (by simp) (by intro b hq1 hq2;simp only[heap_drew];rw[RowKit.Below.heap_setCell _ _ _ _ (by simp;omega),RowKit.Below.heap_setCell _ _ _ _ (by simp;omega),RowKit.Below.heap_setCell _ _ _ _ (by simp;omega)]),bel⟩
   rw[lackV_pend HH.out.2.2.2.1 hz hq]
   have hp:p=pendV:=by rw[<-hpd];unfold zgh;rw[hq];rfl
   subst hp
   exact⟨⟨_,rfl⟩,bel⟩
theorem machine_of_step:OfN l fb n (N+1):=by
 intro x A c w hN hp hx hm
 obtain⟨i1,i2,i3,i4,i5,hsl,hch⟩:=hx.kids
 obtain⟨p1,p2,p3,p4⟩:=z7n hp
 have hkid:∀ a∈x.args,a.nodes<=N/\prtN a=0:=by
  intro a ha
  obtain⟨i,hi⟩:=List.mem_iff_getElem?.1 ha
  exact⟨by have:=hch i a hi;omega,p4 a ha⟩
 have hlen:x.args.length<=1759218604416:=by unfold inB at i4;omega
 have hks:=Tryz.keyStr' x.name i3
 have HH:=zh (ai hsl (ai hm (ai hx (ai hkid hlen))))
 have HI:=zh IH
 have HP3:=zh p3
 clear hsl hch hx hN i1 i2 i3 i4 i5 hm p4 hp p3 hkid IH hlen
 rcases (by omega:x.op=1\/x.op=2\/(x.op=15\/x.op=16)\/x.op=17\/(3<=x.op/\x.op<=18/\x.op≠15/\x.op≠16/\x.op≠17)) with ho | ho | ho | ho | ho
 ·rw[evX_const l ho]
  clear hks
  go_enter Tryz.func120,Tryz.ntmps120
  go_wp2_with fail
  exact bpr Tryz.results120 (.agg #[.int .i64 x.v.k,.int .i64 x.v.n,.string x.v.s]) ⟨rfl,bel⟩
 ·rw[evX_ref l ho]
  have hf:=zf3 x.name l
  cases hv:factV l x.name with
  | none =>
   rw[hv] at hf
   have HM:=zh (ai hf hks)
   clear hf hks hv
   go_enter Tryz.func120,Tryz.ntmps120
   go_wp2_with (first
    | (at_lookup;refine z0u _ rfl _ _ 151 rfl 9 44 (Maps.string_keyed Tryz.underlying9) Tryz.underlying151 (Tryz.zeroVal _) fb n _ rfl (HH.out.2.1.below (show Below w.heap.size w _ from bel) HH.out.2.1.lt) _ _ rfl HM.out.2 ?_;rw[HM.out.1];simp only[Option.map_none,Option.getD_none,Option.isSome_none])
    | (go_at_call 159;refine (z45 _ _).mono ?_;rintro e w2 ⟨rfl,hb2⟩;refine zb hb2 ?_;rintro ⟨hc2,hf2⟩ hz2 hy2 hx2;refine szz w2 w ?_;intros;dsimp only))
   exact bpr Tryz.results120 (.agg #[.int .i64 5,.int .i64 5,.string ⟨#[]⟩]) ⟨rfl,bel⟩
  | some u =>
   rw[hv] at hf
   have HM:=zh (ai hf hks)
   clear hf hks hv
   simp only[Option.getD_some]
   go_enter Tryz.func120,Tryz.ntmps120
   go_wp2_with (at_lookup;refine z0u _ rfl _ _ 151 rfl 9 44 (Maps.string_keyed Tryz.underlying9) Tryz.underlying151 (Tryz.zeroVal _) fb n _ rfl (HH.out.2.1.below (show Below w.heap.size w _ from bel) HH.out.2.1.lt) _ _ rfl HM.out.2 ?_;rw[HM.out.1];simp only[Option.map_some,Option.getD_some,Option.isSome_some])
   exact bpr Tryz.results120 (.agg #[.int .i64 u.k,.int .i64 u.n,.string u.s]) ⟨rfl,bel⟩
 ·have h2:x.args.length=2:=by
   have h:=HP3.out
   rcases ho with e | e
   ·rw[e] at h;have h:(x.args.length:Int)=2:=h;omega
   rw[e] at h;have h:(x.args.length:Int)=2:=h;omega
  obtain⟨b,o,a,X,C,rfl,hbl,ha,hxa,x0,x1,x2,x3,x4,x5⟩:=kid0 HH.out.1 (by omega)
  obtain⟨a1,X1,C1,ha1,hxa1,y0,y1,y2,y3,y4,y5⟩:=kid1 HH.out.1 (by omega)
  have hka:=HH.out.2.2.2.1 a (List.mem_of_getElem? ha)
  have hka1:=HH.out.2.2.2.1 a1 (List.mem_of_getElem? ha1)
  have hfirst:=fun w h h'=>zdx l hl fb n N HI.out x a (some ⟨b,o,none⟩) c w ha hka.1 hka.2 h h'
  have hbool:=fun w h h'=>machine_bool l hl fb n N HI.out a1 X1 C1 w hka1.1 hka1.2 h h'
  have HX1:=zh hxa1
  obtain⟨m,s,hv⟩:=z6x (z5a hl a.nodes a (nr _) hka.2)
  rw[evX_app l (by omega) (by omega)]
  have hv0:vAt (x.args.map (evX l)) 0=evX l a:=zag l ha
  have hv1:vAt (x.args.map (evX l)) 1=evX l a1:=zag l ha1
  have hn1:1<x.args.length:=by omega
  have hn2:(1:Int)<(x.args.length:Int):=by omega
  by_cases hb:(evX l a).isBool=false
  ·rw[z64 ho (by rw[hv0];exact hb),hv0]
   rw[hb] at hfirst
   generalize boolV (evX l a)=u at hfirst
   clear hb hv hv0 hv1 ha ha1 hxa hxa1 hka hka1 hbool hks h2 HP3
   rcases ho with ho | ho
   all_goals
    have ho1:(x.op==1)=false:=by rw[ho];rfl
    have ho2:(x.op==2)=false:=by rw[ho];rfl
    first | (have ho3:(x.op==15)=true:=(by rw[ho];rfl)) | (have ho3:(x.op==15)=false:=(by rw[ho];rfl))
    first | (have ho4:(x.op==16)=true:=(by rw[ho];rfl)) | (have ho4:(x.op==16)=false:=(by rw[ho];rfl))
    clear ho
    go_enter Tryz.func120,Tryz.ntmps120
    go_wp2_with (go_at_call 160;refine (hfirst _ (HH.out.2.2.1.keep (z05 bel)) (HH.out.2.1.below (show Below w.heap.size w _ from bel) HH.out.2.1.lt)).mono ?_;rintro e w1 ⟨rfl,hb1⟩;refine zb hb1 ?_;rintro ⟨hc1,hf1⟩ hz1 hy1 hx1;refine szz w1 w ?_;intros;have hbl1:b<w1.heap.size:=(by omega);have hbl2:b<w.heap.size+2:=(by omega);have hbl3:b<w.heap.size+1+1:=(by omega);dsimp only)
    exact bpr Tryz.results120 (.agg #[.int .i64 u.k,.int .i64 u.n,.string u.s]) ⟨rfl,bel⟩
  obtain⟨hv,hm01⟩:evX l a=⟨2,m,s⟩/\(m=0\/m=1):=by
   rcases hv with hv | hv | hv | hv | hv
   ·rw[hv] at hb;exact absurd rfl hb
   ·exact hv
   ·rw[hv] at hb;exact absurd rfl hb
   ·rw[hv] at hb;exact absurd rfl hb
   rw[hv] at hb;exact absurd rfl hb
  rw[hv] at hfirst hv0
  simp only[boolV,Val.isBool,reduceIte,Int.reduceEq,or_self,BEq.rfl] at hfirst
  have hshort:=opV_short ho hv0
  have hlong:=opV_long ho hv0
  rw[hv1] at hlong
  generalize boolV (evX l a1)=u at hbool hlong
  clear hb hv hv0 hv1 ha ha1 hxa hxa1 hka hka1 hks h2 HP3
  rcases ho with ho | ho<;>rcases hm01 with rfl | rfl
  ·rw[hshort (by rw[ho];rfl)]
   have ho1:(x.op==1)=false:=by rw[ho];rfl
   have ho2:(x.op==2)=false:=by rw[ho];rfl
   first | (have ho3:(x.op==15)=true:=(by rw[ho];rfl)) | (have ho3:(x.op==15)=false:=(by rw[ho];rfl))
   first | (have ho4:(x.op==16)=true:=(by rw[ho];rfl)) | (have ho4:(x.op==16)=false:=(by rw[ho];rfl))
   clear hshort hlong ho
   go_enter Tryz.func120,Tryz.ntmps120
   go_wp2_with (go_at_call 160;refine (hfirst _ (HH.out.2.2.1.keep (z05 bel)) (HH.out.2.1.below (show Below w.heap.size w _ from bel) HH.out.2.1.lt)).mono ?_;rintro e w1 ⟨rfl,hb1⟩;refine zb hb1 ?_;rintro ⟨hc1,hf1⟩ hz1 hy1 hx1;refine szz w1 w ?_;intros;have hbl1:b<w1.heap.size:=(by omega);have hbl2:b<w.heap.size+2:=(by omega);have hbl3:b<w.heap.size+1+1:=(by omega);dsimp only)
   exact bpr Tryz.results120 (.agg #[.int .i64 2,.int .i64 0,.string s]) ⟨rfl,bel⟩
  ·rw[hlong (by rw[ho];decide)]
   have ho1:(x.op==1)=false:=by rw[ho];rfl
   have ho2:(x.op==2)=false:=by rw[ho];rfl
   first | (have ho3:(x.op==15)=true:=(by rw[ho];rfl)) | (have ho3:(x.op==15)=false:=(by rw[ho];rfl))
   first | (have ho4:(x.op==16)=true:=(by rw[ho];rfl)) | (have ho4:(x.op==16)=false:=(by rw[ho];rfl))
   clear hshort hlong ho
   go_enter Tryz.func120,Tryz.ntmps120
   go_wp2_with (first
   | (go_at_call 160;refine (hfirst _ (HH.out.2.2.1.keep (z05 bel)) (HH.out.2.1.below (show Below w.heap.size w _ from bel) HH.out.2.1.lt)).mono ?_;rintro e w1 ⟨rfl,hb1⟩;refine zb hb1 ?_;rintro ⟨hc1,hf1⟩ hz1 hy1 hx1;refine szz w1 w ?_;intros;have hbl1:b<w1.heap.size:=(by omega);have hbl2:b<w.heap.size+2:=(by omega);have hbl3:b<w.heap.size+1+1:=(by omega);dsimp only)
   | (go_at_call 161;refine (hbool _ (HX1.out.keep (z05 bel)) (HH.out.2.1.below (show Below w.heap.size w _ from bel) HH.out.2.1.lt)).mono ?_;rintro e w2 ⟨rfl,hb2⟩;refine zb hb2 ?_;rintro ⟨hc2,hf2⟩ hz2 hy2 hx2;refine szz w2 w ?_;intros;refine szz w2 w1 ?_;intros;dsimp only))
   exact bpr Tryz.results120 (.agg #[.int .i64 u.k,.int .i64 u.n,.string u.s]) ⟨rfl,bel⟩
  ·rw[hlong (by rw[ho];decide)]
   have ho1:(x.op==1)=false:=by rw[ho];rfl
   have ho2:(x.op==2)=false:=by rw[ho];rfl
   first | (have ho3:(x.op==15)=true:=(by rw[ho];rfl)) | (have ho3:(x.op==15)=false:=(by rw[ho];rfl))
   first | (have ho4:(x.op==16)=true:=(by rw[ho];rfl)) | (have ho4:(x.op==16)=false:=(by rw[ho];rfl))
   clear hshort hlong ho
   go_enter Tryz.func120,Tryz.ntmps120
   go_wp2_with (first
   | (go_at_call 160;refine (hfirst _ (HH.out.2.2.1.keep (z05 bel)) (HH.out.2.1.below (show Below w.heap.size w _ from bel) HH.out.2.1.lt)).mono ?_;rintro e w1 ⟨rfl,hb1⟩;refine zb hb1 ?_;rintro ⟨hc1,hf1⟩ hz1 hy1 hx1;refine szz w1 w ?_;intros;have hbl1:b<w1.heap.size:=(by omega);have hbl2:b<w.heap.size+2:=(by omega);have hbl3:b<w.heap.size+1+1:=(by omega);dsimp only)
   | (go_at_call 161;refine (hbool _ (HX1.out.keep (z05 bel)) (HH.out.2.1.below (show Below w.heap.size w _ from bel) HH.out.2.1.lt)).mono ?_;rintro e w2 ⟨rfl,hb2⟩;refine zb hb2 ?_;rintro ⟨hc2,hf2⟩ hz2 hy2 hx2;refine szz w2 w ?_;intros;refine szz w2 w1 ?_;intros;dsimp only))
   exact bpr Tryz.results120 (.agg #[.int .i64 u.k,.int .i64 u.n,.string u.s]) ⟨rfl,bel⟩
  rw[hshort (by rw[ho];rfl)]
  have ho1:(x.op==1)=false:=by rw[ho];rfl
  have ho2:(x.op==2)=false:=by rw[ho];rfl
  first | (have ho3:(x.op==15)=true:=(by rw[ho];rfl)) | (have ho3:(x.op==15)=false:=(by rw[ho];rfl))
  first | (have ho4:(x.op==16)=true:=(by rw[ho];rfl)) | (have ho4:(x.op==16)=false:=(by rw[ho];rfl))
  clear hshort hlong ho
  go_enter Tryz.func120,Tryz.ntmps120
  go_wp2_with (go_at_call 160;refine (hfirst _ (HH.out.2.2.1.keep (z05 bel)) (HH.out.2.1.below (show Below w.heap.size w _ from bel) HH.out.2.1.lt)).mono ?_;rintro e w1 ⟨rfl,hb1⟩;refine zb hb1 ?_;rintro ⟨hc1,hf1⟩ hz1 hy1 hx1;refine szz w1 w ?_;intros;have hbl1:b<w1.heap.size:=(by omega);have hbl2:b<w.heap.size+2:=(by omega);have hbl3:b<w.heap.size+1+1:=(by omega);dsimp only)
  exact bpr Tryz.results120 (.agg #[.int .i64 2,.int .i64 1,.string s]) ⟨rfl,bel⟩
 ·have h2:x.args.length=3:=by
   have h:=HP3.out
   rw[ho] at h;have h:(x.args.length:Int)=3:=h;omega
  obtain⟨b,o,a,X,C,rfl,hbl,ha,hxa,x0,x1,x2,x3,x4,x5⟩:=kid0 HH.out.1 (by omega)
  have hka:=HH.out.2.2.2.1 a (List.mem_of_getElem? ha)
  have hfirst:=fun w h h'=>zdx l hl fb n N HI.out x a (some ⟨b,o,none⟩) c w ha hka.1 hka.2 h h'
  obtain⟨m,s,hv⟩:=z6x (z5a hl a.nodes a (nr _) hka.2)
  rw[evX_app l (by omega) (by omega),ho]
  have ho1:(x.op==1)=false:=by rw[ho];rfl
  have ho2:(x.op==2)=false:=by rw[ho];rfl
  have ho3:(x.op==15)=false:=by rw[ho];rfl
  have ho4:(x.op==16)=false:=by rw[ho];rfl
  have ho5:(x.op==17)=true:=by rw[ho];rfl
  have hv0:vAt (x.args.map (evX l)) 0=evX l a:=zag l ha
  have hn1:1<x.args.length:=by omega
  have hn2:(1:Int)<(x.args.length:Int):=by omega
  have hn3:2<x.args.length:=by omega
  have hn4:(2:Int)<(x.args.length:Int):=by omega
  by_cases hb:(evX l a).isBool=false
  ·rw[opV_if0 (by rw[hv0];exact hb),hv0]
   rw[hb] at hfirst
   generalize boolV (evX l a)=u at hfirst
   clear hb hv hv0 ha hxa hka hks h2 HP3 ho
   go_enter Tryz.func120,Tryz.ntmps120
   go_wp2_with (go_at_call 160;refine (hfirst _ (HH.out.2.2.1.keep (z05 bel)) (HH.out.2.1.below (show Below w.heap.size w _ from bel) HH.out.2.1.lt)).mono ?_;rintro e w1 ⟨rfl,hb1⟩;refine zb hb1 ?_;rintro ⟨hc1,hf1⟩ hz1 hy1 hx1;refine szz w1 w ?_;intros;have hbl1:b<w1.heap.size:=(by omega);have hbl2:b<w.heap.size+2:=(by omega);have hbl3:b<w.heap.size+1+1:=(by omega);dsimp only)
   exact bpr Tryz.results120 (.agg #[.int .i64 u.k,.int .i64 u.n,.string u.s]) ⟨rfl,bel⟩
  obtain⟨hv,hm01⟩:evX l a=⟨2,m,s⟩/\(m=0\/m=1):=by
   rcases hv with hv | hv | hv | hv | hv
   ·rw[hv] at hb;exact absurd rfl hb
   ·exact hv
   ·rw[hv] at hb;exact absurd rfl hb
   ·rw[hv] at hb;exact absurd rfl hb
   rw[hv] at hb;exact absurd rfl hb
  rw[hv] at hfirst hv0
  simp only[boolV,Val.isBool,reduceIte,Int.reduceEq,or_self,BEq.rfl] at hfirst
  rcases hm01 with rfl | rfl
  ·obtain⟨a1,X1,C1,ha1,hxa1,y0,y1,y2,y3,y4,y5⟩:=kid2 HH.out.1 (by omega)
   have hka1:=HH.out.2.2.2.1 a1 (List.mem_of_getElem? ha1)
   have hof:=fun w h h'=>HI.out a1 X1 C1 w hka1.1 hka1.2 h h'
   have HX1:=zh hxa1
   rw[opV_if2 hv0,show vAt (x.args.map (evX l)) 2=evX l a1 from zag l ha1]
   generalize evX l a1=u at hof
   clear hb hv hv0 ha ha1 hxa hxa1 hka hka1 hks HP3 ho h2
   go_enter Tryz.func120,Tryz.ntmps120
   go_wp2_with (first
   | (go_at_call 160;refine (hfirst _ (HH.out.2.2.1.keep (z05 bel)) (HH.out.2.1.below (show Below w.heap.size w _ from bel) HH.out.2.1.lt)).mono ?_;rintro e w1 ⟨rfl,hb1⟩;refine zb hb1 ?_;rintro ⟨hc1,hf1⟩ hz1 hy1 hx1;refine szz w1 w ?_;intros;have hbl1:b<w1.heap.size:=(by omega);have hbl2:b<w.heap.size+2:=(by omega);have hbl3:b<w.heap.size+1+1:=(by omega);dsimp only)
   | (go_at_call 120;refine (hof _ (HX1.out.keep (z05 bel)) (HH.out.2.1.below (show Below w.heap.size w _ from bel) HH.out.2.1.lt)).mono ?_;rintro e w2 ⟨rfl,hb2⟩;refine zb hb2 ?_;rintro ⟨hc2,hf2⟩ hz2 hy2 hx2;refine szz w2 w ?_;intros;refine szz w2 w1 ?_;intros;dsimp only))
   exact bpr Tryz.results120 (.agg #[.int .i64 u.k,.int .i64 u.n,.string u.s]) ⟨rfl,bel⟩
  obtain⟨a1,X1,C1,ha1,hxa1,y0,y1,y2,y3,y4,y5⟩:=kid1 HH.out.1 (by omega)
  have hka1:=HH.out.2.2.2.1 a1 (List.mem_of_getElem? ha1)
  have hof:=fun w h h'=>HI.out a1 X1 C1 w hka1.1 hka1.2 h h'
  have HX1:=zh hxa1
  rw[opV_if1 hv0,show vAt (x.args.map (evX l)) 1=evX l a1 from zag l ha1]
  generalize evX l a1=u at hof
  clear hb hv hv0 ha ha1 hxa hxa1 hka hka1 hks HP3 ho h2
  go_enter Tryz.func120,Tryz.ntmps120
  go_wp2_with (first
  | (go_at_call 160;refine (hfirst _ (HH.out.2.2.1.keep (z05 bel)) (HH.out.2.1.below (show Below w.heap.size w _ from bel) HH.out.2.1.lt)).mono ?_;rintro e w1 ⟨rfl,hb1⟩;refine zb hb1 ?_;rintro ⟨hc1,hf1⟩ hz1 hy1 hx1;refine szz w1 w ?_;intros;have hbl1:b<w1.heap.size:=(by omega);have hbl2:b<w.heap.size+2:=(by omega);have hbl3:b<w.heap.size+1+1:=(by omega);dsimp only)
  | (go_at_call 120;refine (hof _ (HX1.out.keep (z05 bel)) (HH.out.2.1.below (show Below w.heap.size w _ from bel) HH.out.2.1.lt)).mono ?_;rintro e w2 ⟨rfl,hb2⟩;refine zb hb2 ?_;rintro ⟨hc2,hf2⟩ hz2 hy2 hx2;refine szz w2 w ?_;intros;refine szz w2 w1 ?_;intros;dsimp only))
  exact bpr Tryz.results120 (.agg #[.int .i64 u.k,.int .i64 u.n,.string u.s]) ⟨rfl,bel⟩
 have hall:=fun w h h'=>machine_all l hl fb n N HI.out x.args A c w HH.out.2.2.2.1 HH.out.2.2.2.2 h h'
 have hvs:∀ v∈x.args.map (evX l),valCheck v=0:=by
  intro v hv
  obtain⟨a,ha,rfl⟩:=List.mem_map.1 hv
  exact z5a hl a.nodes a (nr _) (HH.out.2.2.2.1 a ha).2
 have hln:((x.args.map (evX l)).length:Int)=argsN x.op:=by rw[List.length_map];exact HP3.out
 rw[evX_app l (by omega) (by omega),opV_rest (by omega)]
 generalize x.args.map (evX l)=vs at hall hvs hln
 have ho1:(x.op==1)=false:=by simpa using (by omega:x.op≠1)
 have ho2:(x.op==2)=false:=by simpa using (by omega:x.op≠2)
 have ho15:(x.op==15)=false:=by simpa using (by omega:x.op≠15)
 have ho16:(x.op==16)=false:=by simpa using (by omega:x.op≠16)
 have ho17:(x.op==17)=false:=by simpa using (by omega:x.op≠17)
 cases hlk:lackV vs with
 | some v =>
  have HLK:=zh hlk
  have hvk:(v.k != 0)=true:=by
   have:=z35 (hvs v (lackV_mem hlk))
   simpa using (by omega:v.k≠0)
  simp only[Option.getD_some]
  clear hks hvs hln hlk HP3 ho
  go_enter Tryz.func120,Tryz.ntmps120
  go_wp2_with (go_at_call 162;refine (hall _ (HH.out.1.nowN z0e bel) (HH.out.2.1.below (show Below w.heap.size w _ from bel) HH.out.2.1.lt)).mono ?_;rintro e w1 hq1;unfold RetAll at hq1;rw[HLK.out] at hq1;obtain⟨⟨sv,rfl⟩,hb1⟩:=hq1;refine zb hb1 ?_;rintro ⟨hc1,hf1⟩ hz1 hy1 hx1;refine szz w1 w ?_;intros;dsimp only)
  exact bpr Tryz.results120 (.agg #[.int .i64 v.k,.int .i64 v.n,.string v.s]) ⟨rfl,bel⟩
 | none =>
  have HLK:=zh hlk
  have happ:=fun A2 c2 w h=>eval_apply A2 vs.length c2 vs x.op w h (by unfold isChoice;omega) hln hvs
  simp only[Option.getD_none]
  generalize appV x.op vs=u at happ
  clear hks hvs hln hlk HP3 ho
  go_enter Tryz.func120,Tryz.ntmps120
  go_wp2_with (first
   | (go_at_call 162;refine (hall _ (HH.out.1.nowN z0e bel) (HH.out.2.1.below (show Below w.heap.size w _ from bel) HH.out.2.1.lt)).mono ?_;rintro e w1 hq1;unfold RetAll at hq1;rw[HLK.out] at hq1;obtain⟨⟨A2,c2,rfl,hs2⟩,hb1⟩:=hq1;refine zb hb1 ?_;rintro ⟨hc1,hf1⟩ hz1 hy1 hx1;refine szz w1 w ?_;intros;dsimp only)
   | (go_at_call 163;refine (happ _ _ _ (hs2.now bel)).mono ?_;rintro e w2 ⟨rfl,hb2⟩;refine zb hb2 ?_;rintro ⟨hc2,hf2⟩ hz2 hy2 hx2;refine szz w2 w ?_;intros;refine szz w2 w1 ?_;intros;dsimp only))
  exact bpr Tryz.results120 (.agg #[.int .i64 u.k,.int .i64 u.n,.string u.s]) ⟨rfl,bel⟩
end
theorem zdw (l:List Fct)(hl:z8y l)(fb n:Nat):∀ N,OfN l fb n N
 | 0=>by
  intro x A c w hN
  obtain⟨op,v,nm,args⟩:=x
  simp[Exp.nodes] at hN
 | N+1=>machine_of_step l hl fb n N (zdw l hl fb n N)
end Go.Proofs.YtldhlpjjcnlbcaaGreat
