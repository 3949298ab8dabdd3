/- Texts merged (mergeh.py): One Orc. -/
import Derived.Test.YtldhlpjjcnlbcaaGreatVals
import Derived.Test.YtldhlpjjcnlbcaaGreatValdA
import Derived.Test.YtldhlpjjcnlbcaaGreatEvo
import Derived.Test.YtldhlpjjcnlbcaaGreatPrt4
import Derived.Test.YtldhlpjjcnlbcaaGreatAsk
import Derived.Test.YtldhlpjjcnlbcaaGreatFCk
/- Texts merged: Valu One. -/
set_option maxRecDepth 100000
set_option maxHeartbeats 8000000
/- The reference valued, ValueBy; and eval.Of. -/
namespace Go.Proofs.YtldhlpjjcnlbcaaGreat
open Go.RowKit Go.Maps
theorem factV_hit {l:List Fct}{nm:ByteArray}{k:Nat}{y:Fct}(h0:(l.take k).any (z0y nm)=false)(h1:l[k]?=some y)(h2:z0y nm y=true):factV l nm=some y.has:=by
 unfold factV;rw[zbn h0 h1 h2];rfl
theorem factV_none {l:List Fct}{nm:ByteArray}(h0:l.any (z0y nm)=false):factV l nm=none:=by
 unfold factV;rw[z5e _ _ h0];rfl
section
variable (l:List Fct) (hl:z8y l) (F:Option Addr) (nF cF N:Nat) (IH:ValN l F nF cF N)
theorem valued_ref (hnF:inL nF)(x:Exp)(A:Option Addr)(c:Nat)(w:World)(ho2:x.op=2)(hF:Sl w (old w) 7 RFct F nF l) :
  Calls Tryz.prog 127 #[.agg (x.cs A c).toArray,.slice F nF cF] w (RetV w ((factV l x.name).getD (z1m 5))):=by
 have hob:(x.op==1)=false:=by rw[ho2];rfl
 have hob2:(x.op==2)=true:=by rw[ho2];rfl
 obtain⟨out,hout⟩:∃ v,(factV l x.name).getD (z1m 5)=v:=⟨_,rfl⟩
 rw[hout]
 have HO:=zh hout
 have HF:=zh (ai hF hF.len)
 unfold inL at hnF
 clear ho2 hF hout
 go_enter Tryz.func127,Tryz.ntmps127
 go_wp2_with fail
 obtain⟨W,hW⟩:∃ W,W=((w.alloc (.cells #[.int .i64 x.op,.int .i64 x.v.k,.int .i64 x.v.n,.string x.v.s,.string x.name,.slice A x.args.length c] 78)).alloc (.cells #[.int .i64 0,.int .i64 0,.string ⟨#[]⟩] 44)):=⟨_,rfl⟩
 have hb0:Below w.heap.size w W:=by rw[hW];exact bel
 have d0:W.cell? ⟨w.heap.size,2,none⟩=some (.int .i64 x.v.n):=by rw[hW];go_simp
 have d1:W.cell? ⟨w.heap.size,4,none⟩=some (.string x.name):=by rw[hW];go_simp
 have r0:W.cell? ⟨w.heap.size+1,0,none⟩=some (.int .i64 0):=by rw[hW];go_simp
 have r1:W.cell? ⟨w.heap.size+1,1,none⟩=some (.int .i64 0):=by rw[hW];go_simp
 have r2:W.cell? ⟨w.heap.size+1,2,none⟩=some (.string ⟨#[]⟩):=by rw[hW];go_simp
 have q0:W.frozen? ⟨w.heap.size+1,0,none⟩=false:=by rw[hW];go_simp
 have q1:W.frozen? ⟨w.heap.size+1,1,none⟩=false:=by rw[hW];go_simp
 have q2:W.frozen? ⟨w.heap.size+1,2,none⟩=false:=by rw[hW];go_simp
 have hsz:w.heap.size+2<=W.heap.size:=by rw[hW];simp
 rw[<-hW]
 clear hW
 have HB0:=zh hb0
 clear hb0
 go_loopw [31] (fun i wr=>∃ k:Nat,k<=nF/\i=.int .i64 k/\Hid ((l.take k).any (z0y x.name)=false)/\Below W.heap.size W wr) (fun i _=>nF-(intOf i).toNat)
 case atStart=>exact⟨0,by omega,rfl,zh (by simp),Below.refl _ _⟩
 case round =>
  obtain⟨k,hk,rfl,hz,hbr⟩:=hrel
  have HBr:=zh (show Below w.heap.size w wr from z01 HB0.out hbr (by omega))
  have hw1:w.heap.size<W.heap.size:=by omega
  have hw2:w.heap.size+1<W.heap.size:=by omega
  refine zb hbr ?_;rintro ⟨hcr,hfr⟩ hzr hyr hxr;refine szz wr w ?_;intros;refine szz wr W ?_;intros
  by_cases hlt:k<nF
  ·obtain⟨b,o,y,hFe,hbl,hy,hwf,x0,x1,x2,x3,x4,x5,x6⟩:=z7i (HF.out.1.now HBr.out) hlt
   subst hFe
   have hbl':b<wr.heap.size:=hbl
   have HL:=zh hy
   have hsn:z0y x.name y=(y.name.toList==x.name.toList):=rfl
   clear hy hwf hbl
   cases hp:(y.name.toList==x.name.toList)
   ·have HP:=zh (hsn.trans hp)
    clear hsn
    go_wp2_with fail
    go_roundw
    case rel=>exact⟨k+1,by omega,by go_num,zh (z4e hz.out HL.out HP.out),bel⟩
    case measure=>simp[intOf];omega
   have HD:=zh (show y.has=out by rw[<-HO.out,factV_hit hz.out HL.out (hsn.trans hp)];rfl)
   have hBw:=HBr.out
   clear hsn
   go_wp2_with fail
   exact bpr Tryz.results127 (.agg #[.int .i64 y.has.k,.int .i64 y.has.n,.string y.has.s]) ⟨by rw[HD.out],bel⟩
  have hke:k=nF:=by omega
  subst hke
  have HD:=zh (show z1m 5=out by rw[<-HO.out,factV_none (by have h:=hz.out;rwa [List.take_of_length_le (by rw[HF.out.2];exact nr _)] at h)];rfl)
  have hBw:=HBr.out
  go_wp2_with (go_at_call 129;refine (z68 _ _).mono ?_;rintro e w6 ⟨rfl,hb6⟩;refine zb hb6 ?_;rintro ⟨hc6,hf6⟩ hz6 hy6 hx6;refine szz w6 w ?_;intros;refine szz w6 W ?_;intros;refine szz w6 wr ?_;intros;dsimp only)
  exact bpr Tryz.results127 (.agg #[.int .i64 5,.int .i64 5,.string ⟨#[]⟩]) ⟨by rw[<-HD.out];rfl,bel⟩
theorem valued_con (x:Exp)(A:Option Addr)(c:Nat)(w:World)(ho1:x.op=1) :
  Calls Tryz.prog 127 #[.agg (x.cs A c).toArray,.slice F nF cF] w (RetV w x.v):=by
 have hob:(x.op==1)=true:=by rw[ho1];rfl
 clear ho1
 go_enter Tryz.func127,Tryz.ntmps127
 go_wp2_with fail
 exact bpr Tryz.results127 (.agg #[.int .i64 x.v.k,.int .i64 x.v.n,.string x.v.s]) ⟨rfl,bel⟩
include hl IH
theorem valued_step (hnF:inL nF):ValN l F nF cF (N+1):=by
 intro x A c w hN hp hx hF
 obtain⟨i1,i2,i3,i4,i5,hsl,hch⟩:=hx.kids
 obtain⟨p1,p2,p3,p4⟩:=z7n hp
 have hkid:∀ a∈x.args,a.nodes<=N/\prtN a=0:=by
  intro a ha
  obtain⟨i,hi⟩:=List.mem_iff_getElem?.1 ha
  exact⟨by have:=hch i a hi;omega,p4 a ha⟩
 have hok:∀ a∈x.args,valCheck (evX l a)=0:=fun a ha=>z5a hl a.nodes a (nr _) (hkid a ha).2
 by_cases ho1:x.op=1
 ·rw[evX_const l ho1];exact valued_con F nF cF x A c w ho1
 by_cases ho2:x.op=2
 ·rw[evX_ref l ho2];exact valued_ref l F nF cF hnF x A c w ho2 hF
 rw[evX_app l ho1 ho2]
 rcases (by omega:x.op=15\/x.op=16\/x.op=17\/(x.op=3\/x.op=4\/x.op=18)\/(x.op=5\/x.op=6\/x.op=7\/x.op=8\/x.op=9\/x.op=10\/x.op=11\/x.op=12\/x.op=13\/x.op=14)) with ho | ho | ho | ho | ho
 ·rw[ho];exact valued_15 l hl F nF cF N IH x A c w ho p3 hkid hx hF
 ·rw[ho];exact valued_16 l hl F nF cF N IH x A c w ho p3 hkid hx hF
 ·rw[ho];exact valued_17 l hl F nF cF N IH x A c w ho p3 hkid hx hF
 ·rw[opV_rest (by omega)]
  have hn:x.args.length=1:=by
   rcases ho with h | h | h<;>(rw[h] at p3;have p3:(x.args.length:Int)=1:=p3;omega)
  obtain⟨a0,ha⟩:∃ a0,x.args=[a0]:=by
   match x.args,hn with
   | [a0],_=>exact⟨a0,rfl⟩
  have h0:x.args[0]?=some a0:=by rw[ha];rfl
  have m0:a0∈x.args:=by rw[ha];simp
  rw[show x.args.map (evX l)=[evX l a0] by rw[ha];rfl]
  exact valued_one l F nF cF N IH x a0 _ h0 A c w ho hn rfl (hkid a0 m0) (hok a0 m0) hx hF
 rw[opV_rest (by omega)]
 have hn:x.args.length=2:=by
  rcases ho with h | h | h | h | h | h | h | h | h | h<;>(rw[h] at p3;have p3:(x.args.length:Int)=2:=p3;omega)
 obtain⟨a0,a1,ha⟩:∃ a0 a1,x.args=[a0,a1]:=by
  match x.args,hn with
  | [a0,a1],_=>exact⟨a0,a1,rfl⟩
 have h0:x.args[0]?=some a0:=by rw[ha];rfl
 have h1:x.args[1]?=some a1:=by rw[ha];rfl
 have m0:a0∈x.args:=by rw[ha];simp
 have m1:a1∈x.args:=by rw[ha];simp
 rw[show x.args.map (evX l)=[evX l a0,evX l a1] by rw[ha];rfl]
 refine valued_two l F nF cF N IH x a0 _ h0 a1 _ h1 A c w ?_ hn rfl (hkid a0 m0) (hok a0 m0) rfl (hkid a1 m1) (hok a1 m1) hx hF
 rcases ho with h | h | h | h | h | h | h | h | h | h
 ·rw[h];exact .inr ⟨by decide,z76,appMul,zec⟩
 ·rw[h];exact .inr ⟨by decide,z4c,appDiv,za1⟩
 ·rw[h];exact .inr ⟨by decide,z51,appMod,zeb⟩
 ·rw[h];exact .inr ⟨by decide,z8q,appAdd,zea⟩
 ·rw[h];exact .inr ⟨by decide,z7m,appSub,zed⟩
 all_goals exact .inl (by omega)
end
theorem zhm (l:List Fct)(hl:z8y l)(F:Option Addr)(nF cF:Nat)(hnF:inL nF):∀ N,ValN l F nF cF N
 | 0=>by
  intro x A c w hN
  obtain⟨op,v,nm,args⟩:=x
  simp[Exp.nodes] at hN
 | N+1=>valued_step l hl F nF cF N (zhm l hl F nF cF hnF N) hnF
end Go.Proofs.YtldhlpjjcnlbcaaGreat
/- Texts merged: EvB One. -/
/- The reference ValueBy. -/
namespace Go.Proofs.YtldhlpjjcnlbcaaGreat
open Go.RowKit Go.Maps
theorem za3 (l:List Fct)(L:Option Addr)(n d:Nat)(x:Exp)(A:Option Addr)(c:Nat)(w:World)(hn:inL n)(hx:XRep w (old w) (x.cs A c) x)(hl:Sl w (old w) 7 RFct L n l) :
  Calls Tryz.prog 78 #[.agg (x.cs A c).toArray,.slice L n d] w (RetVE w (evalRes l x)):=by
 have hck:=fun w h=>z33 x A c w h
 have hn':=hn
 unfold inL at hn
 have HH:=zh (ai hx (ai hl hl.len))
 clear hx hl
 by_cases he:exprErr x=0
 ·have HP:=zh (ai he (z1f he))
  obtain⟨res,hres⟩:∃ r,evalRes l x=r:=⟨_,rfl⟩
  rw[hres]
  have HR:=zh hres
  have HN:=zh hn'
  simp only[he] at hck
  clear he hres hn'
  go_enter Tryz.func78,Tryz.ntmps78
  go_wp2_with (go_at_call 126;refine (hck _ (HH.out.1.keep (z05 bel))).mono ?_;rintro e w1 ⟨rfl,hb1⟩;refine zb hb1 ?_;rintro ⟨hc1,hf1⟩ hz1 hy1 hx1;refine szz w1 w ?_;intros)
  have HB1:=zh (show Below w.heap.size w w1 from bel)
  have d0:w1.cell? ⟨w.heap.size,0,none⟩=some (.int .i64 x.op):=by go_simp
  have d1:w1.cell? ⟨w.heap.size,1,none⟩=some (.int .i64 x.v.k):=by go_simp
  have d2:w1.cell? ⟨w.heap.size,2,none⟩=some (.int .i64 x.v.n):=by go_simp
  have d3:w1.cell? ⟨w.heap.size,3,none⟩=some (.string x.v.s):=by go_simp
  have d4:w1.cell? ⟨w.heap.size,4,none⟩=some (.string x.name):=by go_simp
  have d5:w1.cell? ⟨w.heap.size,5,none⟩=some (.slice A x.args.length c):=by go_simp
  have r0:w1.cell? ⟨w.heap.size+1,0,none⟩=some (.int .i64 0):=by go_simp
  have r1:w1.cell? ⟨w.heap.size+1,1,none⟩=some (.int .i64 0):=by go_simp
  have r2:w1.cell? ⟨w.heap.size+1,2,none⟩=some (.string ⟨#[]⟩):=by go_simp
  have q0:w1.frozen? ⟨w.heap.size+1,0,none⟩=false:=by go_simp
  have q1:w1.frozen? ⟨w.heap.size+1,1,none⟩=false:=by go_simp
  have q2:w1.frozen? ⟨w.heap.size+1,2,none⟩=false:=by go_simp
  have hs1:w.heap.size<w1.heap.size:=by omega
  have hs2:w.heap.size+1<w1.heap.size:=by omega
  clear hc1 hf1 hb1
  go_loopw [18] (fun i wr=>∃ k:Nat,k<=n/\i=.int .i64 k/\Hid (z0g (hasErr l) k=0)/\Below w1.heap.size w1 wr) (fun i _=>n-(intOf i).toNat)
  case atStart=>exact⟨0,by omega,rfl,zh rfl,Below.refl _ _⟩
  case round =>
   obtain⟨k,hk,rfl,hz,hbr⟩:=hrel
   have HBr:=zh (show Below w.heap.size w wr from z01 HB1.out hbr (by omega))
   refine zb hbr ?_;rintro ⟨hcr,hfr⟩ hzr hyr hxr;refine szz wr w ?_;intros;refine szz wr w1 ?_;intros
   have hBw:=HBr.out
   by_cases hlt:k<n
   ·obtain⟨b,o,y,rfl,hbl,hy,hwf,x0,x1,x2,x3,x4,x5,x6⟩:=z7i (HH.out.2.1.now HBr.out) hlt
    have hbl':b<wr.heap.size:=hbl
    have hch:=fun w=>z21 y.has.k y.has.n y.has.s w (z0s hwf.2.2.2.2)
    rw[show (⟨y.has.k,y.has.n,y.has.s⟩:Val)=y.has from rfl] at hch
    have HL:=zh hy
    clear hy hwf hbl
    by_cases hv:valCheck y.has=0
    ·have HV:=zh hv
     rw[hv] at hch
     clear hv
     go_wp2_with (go_at_call 124;refine (hch _).mono ?_;rintro e w2 ⟨rfl,hb2⟩;refine zb hb2 ?_;rintro ⟨hc2,hf2⟩ hz2 hy2 hx2;refine szz w2 w ?_;intros;refine szz w2 wr ?_;intros)
     go_roundw
     case rel=>exact⟨k+1,by omega,by go_num,zh (z0i hz.out ((z88 HL.out).trans HV.out)),z01 hbr (show Below wr.heap.size wr _ from bel) (by omega)⟩
     case measure=>simp[intOf];omega
    have HE:=zh (show (noVal,valCheck y.has)=res by rw[<-HR.out];exact (evalRes_fct HP.out.1 (zfx hz.out HL.out hv) hv).symm)
    generalize valCheck y.has=ve at hch hv HE
    have hv':(ve != 0)=true:=by simpa using hv
    clear hv
    go_wp2_with (go_at_call 124;refine (hch _).mono ?_;rintro e w2 ⟨rfl,hb2⟩;refine zb hb2 ?_;rintro ⟨hc2,hf2⟩ hz2 hy2 hx2;refine szz w2 w ?_;intros;refine szz w2 wr ?_;intros)
    exact bpr Tryz.results78 (.tuple #[.agg #[.int .i64 0,.int .i64 0,.string ⟨#[]⟩],.int .i64 ve]) ⟨by rw[<-HE.out];rfl,bel⟩
   have hke:k=n:=by omega
   have hfe:z1q l=0:=by unfold z1q;rw[HH.out.2.2,<-hke];exact hz.out
   have hvl:=fun w h h'=>zhm l (z4x hfe) L n d HN.out x.nodes x A c w (nr _) HP.out.2 h h'
   have HE:=zh (show (evX l x,0)=res by rw[<-HR.out];exact (z6k HP.out.1 hfe).symm)
   generalize evX l x=u at hvl HE
   clear hfe hz
   subst hke
   go_wp2_with (go_at_call 127;refine (hvl _ (HH.out.1.keep (z05 bel)) (HH.out.2.1.now bel)).mono ?_;rintro e w3 ⟨rfl,hb3⟩;refine zb hb3 ?_;rintro ⟨hc3,hf3⟩ hz3 hy3 hx3;refine szz w3 w ?_;intros;refine szz w3 wr ?_;intros;dsimp only)
   exact bpr Tryz.results78 (.tuple #[.agg #[.int .i64 u.k,.int .i64 u.n,.string u.s],.int .i64 0]) ⟨by rw[<-HE.out],bel⟩
 obtain⟨ee,hee⟩:∃ e,exprErr x=e:=⟨_,rfl⟩
 rw[evalRes_bad hee (by rw[<-hee];exact he)]
 have heb:(ee != 0)=true:=by rw[<-hee];simpa using he
 simp only[hee] at hck
 clear he hee
 go_enter Tryz.func78,Tryz.ntmps78
 go_wp2_with (go_at_call 126;refine (hck _ (HH.out.1.keep (z05 bel))).mono ?_;rintro e w1 ⟨rfl,hb1⟩;refine zb hb1 ?_;rintro ⟨hc1,hf1⟩ hz1 hy1 hx1;refine szz w1 w ?_;intros)
 exact bpr Tryz.results78 (.tuple #[.agg #[.int .i64 0,.int .i64 0,.string ⟨#[]⟩],.int .i64 ee]) ⟨rfl,bel⟩
end Go.Proofs.YtldhlpjjcnlbcaaGreat
/- whole.One and the reference OneOf. -/
namespace Go.Proofs.YtldhlpjjcnlbcaaGreat
open Go.RowKit Go.Maps
def inV (f:Fld)(l:List Fct):Val:=(factV l f.name).getD ⟨0+f.type,0,⟨#[]⟩⟩
def oneV (f:Fld)(ins orc kn:List Fct):Val:=if f.kind=1 then inV f ins else if f.kind=3 then askV orc f.name (evalRes kn f.source).1 else (evalRes kn f.source).1
theorem zfu (l:List Fct)(x:Exp):(evalRes l x).1.s.size<=maxLen:=by
 unfold evalRes
 split
 ·exact Nat.zero_le _
 rename_i h
 split
 ·exact Nat.zero_le _
 rename_i h1
 have he:exprErr x=0:=by simpa using h
 have hf:z1q l=0:=by simpa using h1
 have:=z6d (z5a (z4x hf) x.nodes x (nr _) (z1f he))
 show (evX l x).s.size<=maxLen
 unfold maxLen;omega
abbrev Fld.cz (f:Fld)(X:Option Addr)(C:Nat):List Value:=[.string f.name,.int .i64 f.kind,.int .i64 f.type,.int .i64 f.source.op,.int .i64 f.source.v.k,.int .i64 f.source.v.n,.string f.source.v.s,.string f.source.name,.slice X f.source.args.length C]
theorem factV_hit' {l:List Fct}{nm:ByteArray}{k:Nat}{y:Fct}(h0:(l.take k).any (z0y nm)=false)(h1:l[k]?=some y)(h2:z0y nm y=true):factV l nm=some y.has:=by
 unfold factV;rw[zbn h0 h1 h2];rfl
theorem factV_none' {l:List Fct}{nm:ByteArray}(h0:l.any (z0y nm)=false):factV l nm=none:=by
 unfold factV;rw[z5e _ _ h0];rfl
def inD (f:Fld)(l:List Fct)(k:Nat):Val:=inV f (l.drop k)
theorem inD_hit {f:Fld}{l:List Fct}{k:Nat}{y:Fct}(h:l[k]?=some y)(hx:z0y f.name y=true):inD f l k=y.has:=by
 unfold inD inV factV;rw[drop_at h,List.find?_cons_of_pos hx];rfl
theorem inD_miss {f:Fld}{l:List Fct}{k:Nat}{y:Fct}(h:l[k]?=some y)(hx:z0y f.name y=false):inD f l k=inD f l (k+1):=by
 unfold inD inV factV;rw[drop_at h,List.find?_cons_of_neg (by simp[hx])]
theorem zew (f:Fld)(X:Option Addr)(C:Nat)(A1:Option Addr)(n1 c1:Nat)(l1:List Fct)(A2:Option Addr)(n2 c2:Nat)(l2:List Fct)(A3:Option Addr)(n3 c3:Nat)(l3:List Fct)(w:World)(hn1:inL n1)(hn2:inL n2)(hn3:inL n3)
  (hf:RFld w (old w) (f.cz X C) f)(h1:Sl w (old w) 7 RFct A1 n1 l1)(h2:Sl w (old w) 7 RFct A2 n2 l2)(h3:Sl w (old w) 7 RFct A3 n3 l3) :
  Calls Tryz.prog 73 #[.agg (f.cz X C).toArray,.slice A1 n1 c1,.slice A2 n2 c2,.slice A3 n3 c3] w (RetV w (oneV f l1 l2 l3)):=by
 obtain⟨i1,i2,i3,xs,hxe,hx⟩:=hf
 injection hxe with _ hxe
 injection hxe with _ hxe
 injection hxe with _ hxe
 subst hxe
 by_cases hk:f.kind=1
 ·rw[show oneV f l1 l2 l3=inV f l1 by unfold oneV;rw[if_pos hk]]
  have hkb:(f.kind==1)=true:=by rw[hk];rfl
  obtain⟨out,hout⟩:∃ v,inV f l1=v:=⟨_,rfl⟩
  rw[hout]
  have HO:=zh hout
  have HF:=zh (ai h1 h1.len)
  unfold inL at hn1
  clear hk hx h1 h2 h3 i1 i2 i3 hout hn2 hn3
  go_enter Tryz.func73,Tryz.ntmps73
  go_wp2_with fail
  obtain⟨W,hW⟩:∃ W,W=((w.alloc (.cells #[.string f.name,.int .i64 f.kind,.int .i64 f.type,.int .i64 f.source.op,.int .i64 f.source.v.k,.int .i64 f.source.v.n,.string f.source.v.s,.string f.source.name,.slice X f.source.args.length C] 80)).alloc (.cells #[.int .i64 0,.int .i64 0,.string ⟨#[]⟩] 44)):=⟨_,rfl⟩
  have hb0:Below w.heap.size w W:=by rw[hW];exact bel
  have d0:W.cell? ⟨w.heap.size,0,none⟩=some (.string f.name):=by rw[hW];go_simp
  have d1:W.cell? ⟨w.heap.size,2,none⟩=some (.int .i64 f.type):=by rw[hW];go_simp
  have r0:W.cell? ⟨w.heap.size+1,0,none⟩=some (.int .i64 0):=by rw[hW];go_simp
  have r1:W.cell? ⟨w.heap.size+1,1,none⟩=some (.int .i64 0):=by rw[hW];go_simp
  have r2:W.cell? ⟨w.heap.size+1,2,none⟩=some (.string ⟨#[]⟩):=by rw[hW];go_simp
  have q0:W.frozen? ⟨w.heap.size+1,0,none⟩=false:=by rw[hW];go_simp
  have q1:W.frozen? ⟨w.heap.size+1,1,none⟩=false:=by rw[hW];go_simp
  have q2:W.frozen? ⟨w.heap.size+1,2,none⟩=false:=by rw[hW];go_simp
  have hsz:w.heap.size+2<=W.heap.size:=by rw[hW];simp
  rw[<-hW]
  clear hW
  have HB0:=zh hb0
  clear hb0
  go_loopw [18] (fun i wr=>∃ k:Nat,k<=n1/\i=.int .i64 k/\Hid ((l1.take k).any (z0y f.name)=false)/\Below W.heap.size W wr) (fun i _=>n1-(intOf i).toNat)
  case atStart=>exact⟨0,by omega,rfl,zh (by simp),Below.refl _ _⟩
  case round =>
   obtain⟨k,hk,rfl,hz,hbr⟩:=hrel
   have HBr:=zh (show Below w.heap.size w wr from z01 HB0.out hbr (by omega))
   have hw1:w.heap.size<W.heap.size:=by omega
   have hw2:w.heap.size+1<W.heap.size:=by omega
   refine zb hbr ?_;rintro ⟨hcr,hfr⟩ hzr hyr hxr;refine szz wr w ?_;intros;refine szz wr W ?_;intros
   by_cases hlt:k<n1
   ·obtain⟨b,o,y,hFe,hbl,hy,hwf,x0,x1,x2,x3,x4,x5,x6⟩:=z7i (HF.out.1.now HBr.out) hlt
    subst hFe
    have hbl':b<wr.heap.size:=hbl
    have HL:=zh hy
    have hsn:z0y f.name y=(y.name.toList==f.name.toList):=rfl
    clear hy hwf hbl
    cases hp:(y.name.toList==f.name.toList)
    ·have HP:=zh (hsn.trans hp)
     clear hsn
     go_wp2_with fail
     go_roundw
     case rel=>exact⟨k+1,by omega,by go_num,zh (z4e hz.out HL.out HP.out),bel⟩
     case measure=>simp[intOf];omega
    have HD:=zh (show y.has=out by rw[<-HO.out];unfold inV;rw[factV_hit' hz.out HL.out (hsn.trans hp)];rfl)
    have hBw:=HBr.out
    clear hsn
    go_wp2_with fail
    exact bpr Tryz.results73 (.agg #[.int .i64 y.has.k,.int .i64 y.has.n,.string y.has.s]) ⟨by rw[HD.out],bel⟩
   have hke:k=n1:=by omega
   subst hke
   have HD:=zh (show (⟨0+f.type,0,⟨#[]⟩⟩:Val)=out by rw[<-HO.out];unfold inV;rw[factV_none' (by have h:=hz.out;rwa [List.take_of_length_le (by rw[HF.out.2];exact nr _)] at h)];rfl)
   have hBw:=HBr.out
   go_wp2_with fail
   exact bpr Tryz.results73 (.agg #[.int .i64 f.type,.int .i64 0,.string ⟨#[]⟩]) ⟨by rw[<-HD.out];simp,bel⟩
 have hkb:(f.kind==1)=false:=by simpa using hk
 have ho:=fun w h h'=>zf2 l3 A3 n3 c3 f.source X C w hn3 h h'
 have hsz:=zfu l3 f.source
 have HH:=zh (ai hx (ai h2 h3))
 rw[show oneV f l1 l2 l3=if f.kind=3 then askV l2 f.name (evalRes l3 f.source).1 else (evalRes l3 f.source).1 by unfold oneV;rw[if_neg hk]]
 generalize evalRes l3 f.source=r at ho hsz
 obtain⟨v,e0⟩:=r
 dsimp only at hsz
 by_cases hk3:f.kind=3
 ·have hk3b:(f.kind==3)=true:=by rw[hk3];rfl
  rw[if_pos hk3]
  have ha:=fun w h=>whole_Asked A2 n2 c2 l2 f.name v w hn2 hsz h
  generalize askV l2 f.name v=u at ha
  clear hk hk3 hx h1 h2 h3 i1 i2 i3 hsz
  go_enter Tryz.func73,Tryz.ntmps73
  go_wp2_with (first
   | (go_at_call 71;refine (ho _ (HH.out.1.keep (z05 bel)) (HH.out.2.2.now bel)).mono ?_;rintro e w1 ⟨rfl,hb1⟩;refine zb hb1 ?_;rintro ⟨hc1,hf1⟩ hz1 hy1 hx1;refine szz w1 w ?_;intros;dsimp only)
   | (go_at_call 123;refine (ha _ (HH.out.2.1.now bel)).mono ?_;rintro e w2 ⟨rfl,hb2⟩;refine zb hb2 ?_;rintro ⟨hc2,hf2⟩ hz2 hy2 hx2;refine szz w2 w ?_;intros;refine szz w2 w1 ?_;intros;dsimp only))
  exact bpr Tryz.results73 (.agg #[.int .i64 u.k,.int .i64 u.n,.string u.s]) ⟨rfl,bel⟩
 have hk3b:(f.kind==3)=false:=by simpa using hk3
 rw[if_neg hk3]
 clear hk hk3 hx h1 h2 h3 i1 i2 i3 hsz
 go_enter Tryz.func73,Tryz.ntmps73
 go_wp2_with (go_at_call 71;refine (ho _ (HH.out.1.keep (z05 bel)) (HH.out.2.2.now bel)).mono ?_;rintro e w1 ⟨rfl,hb1⟩;refine zb hb1 ?_;rintro ⟨hc1,hf1⟩ hz1 hy1 hx1;refine szz w1 w ?_;intros;dsimp only)
 exact bpr Tryz.results73 (.agg #[.int .i64 v.k,.int .i64 v.n,.string v.s]) ⟨rfl,bel⟩
theorem zee (f:Fld)(X:Option Addr)(C:Nat)(A1:Option Addr)(n1 c1:Nat)(l1:List Fct)(A2:Option Addr)(n2 c2:Nat)(l2:List Fct)(A3:Option Addr)(n3 c3:Nat)(l3:List Fct)(w:World)(hn1:inL n1)(hn2:inL n2)(hn3:inL n3)
  (hf:RFld w (old w) (f.cz X C) f)(h1:Sl w (old w) 7 RFct A1 n1 l1)(h2:Sl w (old w) 7 RFct A2 n2 l2)(h3:Sl w (old w) 7 RFct A3 n3 l3) :
  Calls Tryz.prog 77 #[.agg (f.cz X C).toArray,.slice A1 n1 c1,.slice A2 n2 c2,.slice A3 n3 c3] w (RetV w (oneV f l1 l2 l3)):=by
 obtain⟨i1,i2,i3,xs,hxe,hx⟩:=hf
 injection hxe with _ hxe
 injection hxe with _ hxe
 injection hxe with _ hxe
 subst hxe
 by_cases hk:f.kind=1
 ·rw[show oneV f l1 l2 l3=inV f l1 by unfold oneV;rw[if_pos hk]]
  have hkb:(f.kind==1)=true:=by rw[hk];rfl
  obtain⟨out,hout⟩:∃ v,inV f l1=v:=⟨_,rfl⟩
  rw[hout]
  have HO:=zh hout
  have HF:=zh (ai h1 h1.len)
  unfold inL at hn1
  clear hk hx h1 h2 h3 i1 i2 i3 hout hn2 hn3
  go_enter Tryz.func77,Tryz.ntmps77
  go_wp2_with fail
  obtain⟨W,hW⟩:∃ W,W=((w.alloc (.cells #[.string f.name,.int .i64 f.kind,.int .i64 f.type,.int .i64 f.source.op,.int .i64 f.source.v.k,.int .i64 f.source.v.n,.string f.source.v.s,.string f.source.name,.slice X f.source.args.length C] 80)).alloc (.cells #[.int .i64 0,.int .i64 0,.string ⟨#[]⟩] 44)):=⟨_,rfl⟩
  have hb0:Below w.heap.size w W:=by rw[hW];exact bel
  have d0:W.cell? ⟨w.heap.size,0,none⟩=some (.string f.name):=by rw[hW];go_simp
  have d1:W.cell? ⟨w.heap.size,2,none⟩=some (.int .i64 f.type):=by rw[hW];go_simp
  have r0:W.cell? ⟨w.heap.size+1,0,none⟩=some (.int .i64 0):=by rw[hW];go_simp
  have r1:W.cell? ⟨w.heap.size+1,1,none⟩=some (.int .i64 0):=by rw[hW];go_simp
  have r2:W.cell? ⟨w.heap.size+1,2,none⟩=some (.string ⟨#[]⟩):=by rw[hW];go_simp
  have q0:W.frozen? ⟨w.heap.size+1,0,none⟩=false:=by rw[hW];go_simp
  have q1:W.frozen? ⟨w.heap.size+1,1,none⟩=false:=by rw[hW];go_simp
  have q2:W.frozen? ⟨w.heap.size+1,2,none⟩=false:=by rw[hW];go_simp
  have hsz:W.heap.size=w.heap.size+2:=by rw[hW];simp
  have hsz1:w.heap.size+2=W.heap.size:=hsz.symm
  have HZ:=zh hsz
  rw[<-hW]
  clear hW hsz
  simp only[hsz1]
  have HB0:=zh hb0
  clear hb0 hsz1
  have hw1:w.heap.size<W.heap.size:=by have:=HZ.out;omega
  have hw2:w.heap.size+1<W.heap.size:=by have:=HZ.out;omega
  go_loopw [10] (fun i wr=>∃ (k:Nat) (v:Val),k<=n1/\i=.int .i64 ((k:Int)-1)/\Hid (inD f l1 k=v)/\wr.cell? ⟨W.heap.size,0,none⟩=some (.int .i64 v.k)/\wr.cell? ⟨W.heap.size,1,none⟩=some (.int .i64 v.n)/\wr.cell? ⟨W.heap.size,2,none⟩=some (.string v.s)/\(wr.frozen? ⟨W.heap.size,0,none⟩=false/\wr.frozen? ⟨W.heap.size,1,none⟩=false/\wr.frozen? ⟨W.heap.size,2,none⟩=false)/\Below W.heap.size W wr/\W.heap.size<wr.heap.size) (fun i _=>(intOf i+1).toNat)
  case atStart=>exact⟨n1,⟨0+f.type,0,⟨#[]⟩⟩,nr _,rfl,zh (by unfold inD inV factV;rw[List.drop_of_length_le (by rw[HF.out.2];exact nr _)];rfl),by go_simp,by go_simp,by go_simp,by go_simp,bel,by simp⟩
  case round =>
   obtain⟨k,v,hk',hi,hz,v0,v1,v2,⟨u0,u1,u2⟩,hbr,hsz⟩:=hrel
   have HBr:=zh (show Below w.heap.size w wr from z01 HB0.out hbr (by omega))
   refine zb hbr ?_;rintro ⟨hcr,hfr⟩ hzr hyr hxr;refine szz wr w ?_;intros;refine szz wr W ?_;intros
   rcases k with _ | m
   ·have hi':=hi.trans (congrArg (Value.int .i64) (by omega:((0:Nat):Int)-1=-1))
    clear hi
    subst hi'
    have HE:=zh (show v=out by rw[<-hz.out,<-HO.out];rfl)
    have hBw:=HBr.out
    go_wp2_with fail
    exact bpr Tryz.results77 (.agg #[.int .i64 v.k,.int .i64 v.n,.string v.s]) ⟨by rw[HE.out],bel⟩
   have hi':=hi.trans (congrArg (Value.int .i64) (by omega:((m+1:Nat):Int)-1=(m:Int)))
   clear hi
   subst hi'
   obtain⟨b,o,y,hFe,hbl,hl,hwf,x0,x1,x2,x3,x4,x5,x6⟩:=z7i (HF.out.1.now HBr.out) (show m<n1 by omega)
   subst hFe
   have hbl':b<wr.heap.size:=hbl
   have HL:=zh hl
   have hsn:z0y f.name y=(y.name.toList==f.name.toList):=rfl
   clear hl hwf hbl
   cases hp:(y.name.toList==f.name.toList)
   ·have HP:=zh (show inD f l1 m=v by rw[inD_miss HL.out (hsn.trans hp)];exact hz.out)
    clear hsn
    go_wp2_with fail
    go_quiet (fail)
    go_wp2_with fail
    go_roundw
    case rel=>exact⟨m,v,by omega,by go_num,HP,by go_simp,by go_simp,by go_simp,by go_simp,bel,by simp;omega⟩
    case measure=>simp[intOf]
   have HP:=zh (show inD f l1 m=y.has from inD_hit HL.out (hsn.trans hp))
   clear hsn
   go_wp2_with fail
   go_quiet (fail)
   go_wp2_with fail
   go_roundw
   case rel=>exact⟨m,y.has,by omega,by go_num,HP,by go_simp,by go_simp,by go_simp,by go_simp,bel,by simp;omega⟩
   case measure=>simp[intOf]
 have hkb:(f.kind==1)=false:=by simpa using hk
 have ho:=fun w h h'=>za3 l3 A3 n3 c3 f.source X C w hn3 h h'
 have hsz:=zfu l3 f.source
 have HH:=zh (ai hx (ai h2 h3))
 rw[show oneV f l1 l2 l3=if f.kind=3 then askV l2 f.name (evalRes l3 f.source).1 else (evalRes l3 f.source).1 by unfold oneV;rw[if_neg hk]]
 generalize evalRes l3 f.source=r at ho hsz
 obtain⟨v,e0⟩:=r
 dsimp only at hsz
 by_cases hk3:f.kind=3
 ·have hk3b:(f.kind==3)=true:=by rw[hk3];rfl
  rw[if_pos hk3]
  have ha:=fun w h=>ref_AskedOf A2 n2 c2 l2 f.name v w hn2 hsz h
  generalize askV l2 f.name v=u at ha
  clear hk hk3 hx h1 h2 h3 i1 i2 i3 hsz
  go_enter Tryz.func77,Tryz.ntmps77
  go_wp2_with (first
   | (go_at_call 78;refine (ho _ (HH.out.1.keep (z05 bel)) (HH.out.2.2.now bel)).mono ?_;rintro e w1 ⟨rfl,hb1⟩;refine zb hb1 ?_;rintro ⟨hc1,hf1⟩ hz1 hy1 hx1;refine szz w1 w ?_;intros;dsimp only)
   | (go_at_call 125;refine (ha _ (HH.out.2.1.now bel)).mono ?_;rintro e w2 ⟨rfl,hb2⟩;refine zb hb2 ?_;rintro ⟨hc2,hf2⟩ hz2 hy2 hx2;refine szz w2 w ?_;intros;refine szz w2 w1 ?_;intros;dsimp only))
  exact bpr Tryz.results77 (.agg #[.int .i64 u.k,.int .i64 u.n,.string u.s]) ⟨rfl,bel⟩
 have hk3b:(f.kind==3)=false:=by simpa using hk3
 rw[if_neg hk3]
 clear hk hk3 hx h1 h2 h3 i1 i2 i3 hsz
 go_enter Tryz.func77,Tryz.ntmps77
 go_wp2_with (go_at_call 78;refine (ho _ (HH.out.1.keep (z05 bel)) (HH.out.2.2.now bel)).mono ?_;rintro e w1 ⟨rfl,hb1⟩;refine zb hb1 ?_;rintro ⟨hc1,hf1⟩ hz1 hy1 hx1;refine szz w1 w ?_;intros;dsimp only)
 exact bpr Tryz.results77 (.agg #[.int .i64 v.k,.int .i64 v.n,.string v.s]) ⟨rfl,bel⟩
end Go.Proofs.YtldhlpjjcnlbcaaGreat
/- whole.Oracle and the reference OracleFault. -/
set_option maxRecDepth 100000
set_option maxHeartbeats 8000000
--TRYSZ (some lists of worlds name one that is not there)
namespace Go.Proofs.YtldhlpjjcnlbcaaGreat
open Go.RowKit
def z27 (x z:Fct):Bool:=z.name.toList==x.name.toList&&valEq z.key x.key
def good (fl:List Fld)(x:Fct)(y:Fld):Bool:=z0b x.key&&(x.key.k==(tyRes fl y.source).1&&(valCheck x.has==0&&(x.has.k==y.type||x.has.k==5)))
def ze3 (fl:List Fld)(l:List Fct)(i:Nat):Int:=match l[i]? with
 | none=>0
 | some x=>match fl[firstAt (z0a x.name) fl]? with
  | none=>5
  | some y=>if y.kind=3 then (if good fl x y then (if (l.take i).any (z27 x) then 6 else 0) else 9) else 2
def oracleErr (fl:List Fld)(l:List Fct):Int:=z0g (ze3 fl l) l.length
end Go.Proofs.YtldhlpjjcnlbcaaGreat
