/- Texts merged (mergeh.py): ValdN Evo. -/
import Derived.Test.YtldhlpjjcnlbcaaGreatVald
import Derived.Test.YtldhlpjjcnlbcaaGreatMacP
import Derived.Test.YtldhlpjjcnlbcaaGreatPrt3
/- The walk of the reference valued at ops that take values. (Printed by mkvald.py N.) -/
set_option maxRecDepth 100000
set_option maxHeartbeats 8000000
namespace Go.Proofs.YtldhlpjjcnlbcaaGreat
open Go.RowKit Go.Maps
theorem valued_two (l:List Fct)(F:Option Addr)(nF cF N:Nat)(IH:ValN l F nF cF N)(x a0:Exp)(v0:Val)(ha0:x.args[0]?=some a0)(a1:Exp)(v1:Val)(ha1:x.args[1]?=some a1)(A:Option Addr)(c:Nat)(w:World)(ho:(x.op=10\/11<=x.op/\x.op<=14)\/(5<=x.op/\x.op<=9)/\∃ g:Int->Int->Int×Int,(∀ v0 v1:Val,appV x.op [v0,v1]=bif [v0,v1].all (fun v=>v.k==1) then numV (g v0.n v1.n) else z1m 9)/\(∀ (a b:Int)(w:World),Calls Tryz.prog 170 #[.int .i64 x.op,.int .i64 a,.int .i64 b] w fun e w'=>e=.returned (.tuple #[.int .i64 (g a b).1,.int .i64 (g a b).2])/\∃ n,w'=w.drewN n))(hn:x.args.length=2)
  (e0:evX l a0=v0)(hp0:a0.nodes<=N/\prtN a0=0)(hv0:valCheck v0=0)(e1:evX l a1=v1)(hp1:a1.nodes<=N/\prtN a1=0)(hv1:valCheck v1=0)(hx:XRep w (old w) (x.cs A c) x)(hF:Sl w (old w) 7 RFct F nF l) :
  Calls Tryz.prog 127 #[.agg (x.cs A c).toArray,.slice F nF cF] w (RetV w ((lackV [v0,v1]).getD (appV x.op [v0,v1]))):=by
 obtain⟨i1,i2,i3,i4,i5,hsl,hch⟩:=hx.kids
 obtain⟨b,o,a0',X,C,rfl,hbl,ha0',hxa,x0,x1,x2,x3,x4,x5⟩:=kid0 hsl (by omega)
 rw[ha0] at ha0'
 cases ha0'
 have hq0:=fun w h h'=>IH a0 X C w hp0.1 hp0.2 h h'
 rw[e0] at hq0
 obtain⟨a1',X1,C1,ha1',hxa1,y0,y1,y2,y3,y4,y5⟩:=kid1 hsl (by omega)
 rw[ha1] at ha1'
 cases ha1'
 have hq1:=fun w h h'=>IH a1 X1 C1 w hp1.1 hp1.2 h h'
 rw[e1] at hq1
 have HX1:=zh hxa1
 have hn1:1<x.args.length:=by omega
 have hn2:(1:Int)<(x.args.length:Int):=by omega
 have hnn:((x.args.length:Int)==2)=true:=by rw[hn];rfl
 have hwf1:=z48 hv1
 have hor:5<=x.op/\x.op<=14:=by rcases ho with (h | h) | ⟨h,-⟩<;>omega
 have hof:∀ k:Int,(k<5\/14<k)->(x.op==k)=false:=fun k h=>by simp;omega
 have ho1:(x.op==1)=false:=hof 1 (by omega)
 have ho2:(x.op==2)=false:=hof 2 (by omega)
 have ho15:(x.op==15)=false:=hof 15 (by omega)
 have ho16:(x.op==16)=false:=hof 16 (by omega)
 have ho17:(x.op==17)=false:=hof 17 (by omega)
 clear hof hor
 have hn0:0<x.args.length:=by omega
 have HX0:=zh hxa
 have HF:=zh hF
 have hwf0:=z48 hv0
 obtain⟨j0,hj0,iz0,iz1,iz2⟩:=info_parts Tryz.infoVal
 have HOP:=zh ho
 obtain⟨vs,hvs⟩:∃ vs,[v0,v1]=vs:=⟨_,rfl⟩
 have hlv:vs.length=2:=by rw[<-hvs];rfl
 have HV:=zh (ai hvs hlv)
 have hc:=fun w=>zck v0.k v0.n v0.s v1.k v1.n v1.s w (by have:=z6d hv0;unfold maxLen;omega) (by have:=z6d hv1;unfold maxLen;omega)
 rw[show (⟨v0.k,v0.n,v0.s⟩:Val)=v0 from rfl,show (⟨v1.k,v1.n,v1.s⟩:Val)=v1 from rfl] at hc
 have HKI:=zh (Tryz.keyInt x.op i1)
 have hsum:v0.s.size+v1.s.size<=80:=by have:=z6d hv0;have:=z6d hv1;omega
 rw[hvs]
 obtain⟨out,hout⟩:∃ u,(lackV vs).getD (appV x.op vs)=u:=⟨_,rfl⟩
 rw[hout]
 have HO:=zh hout
 clear hout hvs hlv hx hsl hch i1 i2 i3 i4 i5 hF hxa ho hn IH e0 hp0 hv0 e1 hp1 hv1 hxa1 ha1 ha0
 go_enter Tryz.func127,Tryz.ntmps127
 go_wp2_with fail
 refine (hq0 _ (HX0.out.keep (z05 bel)) (HF.out.now bel)).mono ?_;rintro e w1 ⟨rfl,hb1⟩;refine zb hb1 ?_;rintro ⟨hc1,hf1⟩ hz1 hy1 hx1;refine szz w1 w ?_;intros;dsimp only
 have hbb2:b<w.heap.size+2:=by omega
 have hbb3:b<w.heap.size+1+1:=by omega
 have hbb1:b<w1.heap.size:=by omega
 have hown1:=Own.fresh w1 44 v0 hwf0
 go_wp2_with fail
 refine (hq1 _ (HX1.out.keep (z05 bel)) (HF.out.now bel)).mono ?_;rintro e w2 ⟨rfl,hb2⟩;refine zb hb2 ?_;rintro ⟨hc2,hf2⟩ hz2 hy2 hx2;refine szz w2 w ?_;intros;refine szz w2 w1 ?_;intros;dsimp only
 go_wp2_with (at_builtin;refine z16 (z0t RVal) rfl (.tmp 150) (.tmp 157) 30 rfl w1.heap.size 44 j0 _ 3 32 Tryz.underlying30 hj0 iz0 iz1 iz2 rfl (by decide) (.slice (some ⟨w1.heap.size,0,none⟩) 1 1) [v0] rfl (hown1.keep (z0t _) hb2) [.int .i64 v1.k,.int .i64 v1.n,.string v1.s] 44 rfl _ rfl (by simp) rfl (by simp[Value.oneCell']) (by simp) (by unfold maxLen;simp) (by omega) v1 ⟨rfl,hwf1⟩ ?_;intro g' cap w3 hown3 hb3' hz3' _ _)
 have hb3:Below w1.heap.size w1 w3:=z01 (z01 (Below.alloc (Below.refl _ w1) (nr _) _) hb2 (by simp)) hb3' (nr _)
 obtain⟨A3,c3,e3,_,hs3⟩:=hown3.sl (z0t _)
 cases e3
 clear hown1 hown3 hb2 hb3'
 try clear hc2 hf2
 have hs4:Sl w3 (old w3) 3 RVal (some ⟨g',0,none⟩) 2 [v0,v1]:=hs3.mono fun _ h=>h.2
 rw[HV.out.1] at hs4
 have HS:=zh hs4
 clear hs3 hs4 hwf0 hwf1
 refine zb hb3 ?_;rintro ⟨hc3,hf3⟩ hz3 hy3 hx3;refine szz w3 w ?_;intros;refine szz w3 w1 ?_;intros
 have r0:w3.cell? ⟨w.heap.size+1,0,none⟩=some (.int .i64 0):=by go_simp
 have r1:w3.cell? ⟨w.heap.size+1,1,none⟩=some (.int .i64 0):=by go_simp
 have r2:w3.cell? ⟨w.heap.size+1,2,none⟩=some (.string ⟨#[]⟩):=by go_simp
 have q0:w3.frozen? ⟨w.heap.size+1,0,none⟩=false:=by go_simp
 have q1:w3.frozen? ⟨w.heap.size+1,1,none⟩=false:=by go_simp
 have q2:w3.frozen? ⟨w.heap.size+1,2,none⟩=false:=by go_simp
 have d0:w3.cell? ⟨w.heap.size,0,none⟩=some (.int .i64 x.op):=by go_simp
 have HB3:=zh (show Below w.heap.size w w3 from bel)
 go_loopw [161] (fun i wr=>∃ k:Nat,k<=2/\i=.int .i64 k/\Hid ((vs.take k).any (fun v=>v.k==5)=false)/\Below w3.heap.size w3 wr) (fun i _=>2-(intOf i).toNat)
 case atStart=>exact⟨0,by omega,rfl,zh (by simp),Below.refl _ _⟩
 case round =>
  obtain⟨k,hk,rfl,hz,hbr⟩:=hrel
  refine zb hbr ?_;rintro ⟨hcr,hfr⟩ hzr hyr hxr;refine szz wr w ?_;intros;refine szz wr w1 ?_;intros;refine szz wr w3 ?_;intros
  have HBr:=zh (show Below w.heap.size w wr from z01 HB3.out hbr (by omega))
  by_cases hlt:k<2
  ·obtain⟨b',o',v,hAe,hbl',hlk,hwf,z0,z1,z2⟩:=z2t (HS.out.now hbr) hlt
   cases hAe
   simp only[Nat.zero_add] at z0 z1 z2
   have HL:=zh hlk
   clear hlk hwf
   cases hp:(v.k==5)
   ·have HP:=zh hp
    go_wp2_with fail
    go_roundw
    case rel=>exact⟨k+1,by omega,by go_num,zh (z4e hz.out HL.out HP.out),bel⟩
    case measure=>simp[intOf];omega
   have hbo:=zd4 hz.out HL.out (by simpa using hp)
   have HD:=zh (show v=out by rw[<-HO.out,hbo];rfl)
   clear hbo
   have hBw:=HBr.out
   go_wp2_with fail
   exact bpr Tryz.results127 (.agg #[.int .i64 v.k,.int .i64 v.n,.string v.s]) ⟨by rw[HD.out],bel⟩
  have hke:k=2:=by omega
  subst hke
  have HNa:=zh (show vs.any (fun v=>v.k==5)=false by have h:=hz.out;rwa [List.take_of_length_le (by rw[HV.out.2];exact nr _)] at h)
  have HSa:=zh (HS.out.now hbr)
  clear hz hlt hk
  generalize hwq:wr=wa at *
  clear hwq
  have HBa:=HBr
  clear HBr
  go_wp2_with fail
  go_loopw [172] (fun i wr=>∃ k:Nat,k<=2/\i=.int .i64 k/\Hid ((vs.take k).any (fun v=>v.k==4)=false)/\Below wa.heap.size wa wr) (fun i _=>2-(intOf i).toNat)
  case atStart=>exact⟨0,by omega,rfl,zh (by simp),Below.refl _ _⟩
  case round =>
   obtain⟨k,hk,rfl,hz,hbr⟩:=hrel
   refine zb hbr ?_;rintro ⟨hcr,hfr⟩ hzr hyr hxr;refine szz wr w ?_;intros;refine szz wr w1 ?_;intros;refine szz wr wa ?_;intros
   have HBr:=zh (show Below w.heap.size w wr from z01 HBa.out hbr (by omega))
   by_cases hlt:k<2
   ·obtain⟨b',o',v,hAe,hbl',hlk,hwf,z0,z1,z2⟩:=z2t (HSa.out.now hbr) hlt
    cases hAe
    simp only[Nat.zero_add] at z0 z1 z2
    have HL:=zh hlk
    clear hlk hwf
    cases hp:(v.k==4)
    ·have HP:=zh hp
     go_wp2_with fail
     go_roundw
     case rel=>exact⟨k+1,by omega,by go_num,zh (z4e hz.out HL.out HP.out),bel⟩
     case measure=>simp[intOf];omega
    have hbo:=lackV_pend1 HNa.out hz.out HL.out (by simpa using hp)
    have HD:=zh (show v=out by rw[<-HO.out,hbo];rfl)
    clear hbo
    have hBw:=HBr.out
    go_wp2_with fail
    exact bpr Tryz.results127 (.agg #[.int .i64 v.k,.int .i64 v.n,.string v.s]) ⟨by rw[HD.out],bel⟩
   have hke:k=2:=by omega
   subst hke
   have HNb:=zh (show vs.any (fun v=>v.k==4)=false by have h:=hz.out;rwa [List.take_of_length_le (by rw[HV.out.2];exact nr _)] at h)
   have HSb:=zh (HSa.out.now hbr)
   clear hz hlt hk
   generalize hwq:wr=wb at *
   clear hwq
   have HBb:=HBr
   clear HBr
   rcases HOP.out with (he | he) | he
   ·have ho11:(x.op==11)=false:=by rw[he];rfl
    have ho12:(x.op==12)=false:=by rw[he];rfl
    have ho13:(x.op==13)=false:=by rw[he];rfl
    have ho14:(x.op==14)=false:=by rw[he];rfl
    have ho4:(x.op==4)=false:=by rw[he];rfl
    have ho10:(x.op==10)=true:=by rw[he];rfl
    have ho18:(x.op==18)=false:=by rw[he];rfl
    have ho3:(x.op==3)=false:=by rw[he];rfl
    have hO:(lackV vs).getD (appV 10 vs)=out:=by rw[<-he];exact HO.out
    have HOk:=zh hO
    clear he hO
    go_wp2_with fail
    have hA:(bif vs.all (fun v=>v.k==3) then joinV v0.s v1.s else z1m 9)=out:=by rw[<-HOk.out,z6m HNa.out HNb.out,<-HV.out.1];exact (app10 v0 v1).symm
    have HA:=zh hA
    clear hA
    go_loopw [223] (fun i wr=>∃ k:Nat,k<=2/\i=.int .i64 k/\Hid ((vs.take k).all (fun v=>v.k==3)=true)/\Below wb.heap.size wb wr) (fun i _=>2-(intOf i).toNat)
    case atStart=>exact⟨0,by omega,rfl,zh (by simp),Below.refl _ _⟩
    case round =>
     obtain⟨k,hk,rfl,hz,hbr⟩:=hrel
     refine zb hbr ?_;rintro ⟨hcr,hfr⟩ hzr hyr hxr;refine szz wr w ?_;intros;refine szz wr w1 ?_;intros;refine szz wr wb ?_;intros
     have HBr:=zh (show Below w.heap.size w wr from z01 HBb.out hbr (by omega))
     by_cases hlt:k<2
     ·obtain⟨b',o',v,hAe,hbl',hlk,hwf,z0,z1,z2⟩:=z2t (HSb.out.now hbr) hlt
      cases hAe
      simp only[Nat.zero_add] at z0 z1 z2
      have HL:=zh hlk
      clear hlk hwf
      cases hp:(v.k==3)
      ·have hp':(v.k != 3)=true:=by simp only[bne,hp,Bool.not_false]
       have HD:=zh (show z1m 9=out by
        rw[<-HA.out,show vs.all (fun v=>v.k==3)=false from List.all_eq_false.2 ⟨v,List.mem_of_getElem? HL.out,by rw[hp];decide⟩];rfl)
       have hBw:=HBr.out
       clear hp
       go_wp2_with (go_at_call 129;refine (z68 _ _).mono ?_;rintro e w6 ⟨rfl,hb6⟩;refine zb hb6 ?_;rintro ⟨hc6,hf6⟩ hz6 hy6 hx6;refine szz w6 w ?_;intros;refine szz w6 w1 ?_;intros;refine szz w6 wr ?_;intros;dsimp only)
       exact bpr Tryz.results127 (.agg #[.int .i64 5,.int .i64 9,.string ⟨#[]⟩]) ⟨by rw[<-HD.out];rfl,bel⟩
      have hp':(v.k != 3)=false:=by simp only[bne,hp,Bool.not_true]
      have HP:=zh hp
      clear hp
      go_wp2_with fail
      go_roundw
      case rel=>exact⟨k+1,by omega,by go_num,zh (by rw[List.take_add_one,HL.out,List.all_append,hz.out];simp[HP.out]),bel⟩
      case measure=>simp[intOf];omega
     have hke:k=2:=by omega
     subst hke
     have hall:vs.all (fun v=>v.k==3)=true:=by have h:=hz.out;rwa [List.take_of_length_le (by rw[HV.out.2];exact nr _)] at h
     have HD:=zh (show joinV v0.s v1.s=out by rw[<-HA.out,hall];rfl)
     have HSc:=zh (HSb.out.now hbr)
     clear hz hlt hk hall
     generalize hwq:wr=wz at *
     clear hwq
     have hBw:=HBr.out
     obtain⟨gb,go,ge,hgl,⟨g0,g1,g2⟩,g3,g4,g5⟩:=two_at (show Sl wz (old wz) 3 RVal _ 2 [v0,v1] from by rw[HV.out.1];exact HSc.out)
     cases ge
     simp only[Nat.zero_add] at g1 g2 g3 g4 g5
     by_cases hs:v0.s.size+v1.s.size<=40
     ·have HE:=zh (show ⟨3,0,v0.s++v1.s⟩=out by rw[<-HD.out];unfold joinV;rw[if_pos hs])
      have hs1:(v0.s.size:Int)+v1.s.size<=40:=by omega
      have hs2:decide ((v0.s.size:Int)+v1.s.size<=40)=true:=by simpa using hs1
      go_wp2_with fail
      go_quiet (fail)
      go_wp2_with fail
      exact bpr Tryz.results127 (.agg #[.int .i64 3,.int .i64 0,.string (v0.s++v1.s)]) ⟨by rw[<-HE.out],bel⟩
     have HE:=zh (show z1m 1=out by rw[<-HD.out];unfold joinV;rw[if_neg hs])
     have hs1:¬ (v0.s.size:Int)+v1.s.size<=40:=by omega
     have hs2:decide ((v0.s.size:Int)+v1.s.size<=40)=false:=by simpa using hs1
     go_wp2_with fail
     go_quiet (fail)
     go_wp2_with (go_at_call 129;refine (z68 _ _).mono ?_;rintro e w6 ⟨rfl,hb6⟩;refine zb hb6 ?_;rintro ⟨hc6,hf6⟩ hz6 hy6 hx6;refine szz w6 w ?_;intros;refine szz w6 w1 ?_;intros;refine szz w6 wz ?_;intros;dsimp only)
     exact bpr Tryz.results127 (.agg #[.int .i64 5,.int .i64 1,.string ⟨#[]⟩]) ⟨by rw[<-HE.out];rfl,bel⟩
   ·have HC:=zh he
    clear he
    rcases (show (x.op==11)=true\/(x.op==11)=false/\(x.op==12)=true\/(x.op==11)=false/\(x.op==12)=false/\(x.op==13)=true\/(x.op==11)=false/\(x.op==12)=false/\(x.op==13)=false/\(x.op==14)=true by have:=HC.out;simp;omega) with ho11 | ⟨ho11,ho12⟩ | ⟨ho11,ho12,ho13⟩ | ⟨ho11,ho12,ho13,ho14⟩
    all_goals
     go_wp2_with fail
     have hA:cmpV x.op (z2p v0 v1)=out:=by
      have h:appV x.op [v0,v1]=cmpV x.op (z2p v0 v1):=by unfold appV;rw[if_pos HC.out];rfl
      rw[<-HO.out,z6m HNa.out HNb.out,<-HV.out.1];exact h.symm
     have HSc:=zh HSb.out
     obtain⟨gb,go,ge,hgl,⟨g0,g1,g2⟩,g3,g4,g5⟩:=two_at (show Sl wb (old wb) 3 RVal _ 2 [v0,v1] from by rw[HV.out.1];exact HSc.out)
     cases ge
     simp only[Nat.zero_add] at g1 g2 g3 g4 g5
     have hBw:=HBb.out
     have hB0:Below w.heap.size w wb.drew:=bel
     obtain⟨r,hr | hr⟩:=zer v0 v1
     ·have hrr:=valOrder_one hr
      have HT:=zh (boolMap_at x.op HC.out.1 HC.out.2 hrr)
      rw[hr] at hc hA
      have HD:=zh (show z6g (cmpTruth x.op r)=out from hA)
      have hmm:=@run_makeMap Tryz.prog
      clear hr hA hrr
      generalize cmpTruth x.op r=t at HT HD
      go_region_law (go_simp;go_at_call 168;refine (hc _).mono ?_;rintro e w5 ⟨rfl,hb5⟩;replace hb5:Below wb.heap.size wb w5:=z01 (Below.drew (Below.refl _ wb)) hb5 (nr _);refine zb hb5 ?_;rintro ⟨hc5,hf5⟩ hz5 hy5 hx5;refine szz w5 w ?_;intros;refine szz w5 w1 ?_;intros;refine szz w5 wb ?_;intros;dsimp only)
      all_goals
       go_wp2_with (first
        | (refine z1a _ rfl _ (.const (.int .i64 11)) _ 185 rfl 3 4 (Maps.int_keyed Tryz.underlying3) Tryz.underlying185 _ 0 _ rfl (MapIs.made _ _ _) (by unfold maxLen;omega) _ _ _ rfl rfl (Tryz.keyInt 11 (by decide)) ?_;intro u0 hm0 hg0)
        | (refine z1a _ rfl _ (.const (.int .i64 12)) _ 185 rfl 3 4 (Maps.int_keyed Tryz.underlying3) Tryz.underlying185 _ 1 _ rfl hm0 (by unfold maxLen;omega) _ _ _ rfl rfl (Tryz.keyInt 12 (by decide)) ?_;intro u1 hm1 hg1)
        | (refine z1a _ rfl _ (.const (.int .i64 13)) _ 185 rfl 3 4 (Maps.int_keyed Tryz.underlying3) Tryz.underlying185 _ 2 _ rfl hm1 (by unfold maxLen;omega) _ _ _ rfl rfl (Tryz.keyInt 13 (by decide)) ?_;intro u2 hm2 hg2)
        | (refine z1a _ rfl _ (.const (.int .i64 14)) _ 185 rfl 3 4 (Maps.int_keyed Tryz.underlying3) Tryz.underlying185 _ 3 _ rfl hm2 (by unfold maxLen;omega) _ _ _ rfl rfl (Tryz.keyInt 14 (by decide)) ?_;intro w4 hm3 hg3;have s0:w5.heap.size<=u0.heap.size:=(by have:=hg0.size;simp at this;omega);have s1:=Nat.le_trans s0 hg1.size;have s2:=Nat.le_trans s1 hg2.size;have hb4:Below w5.heap.size w5 w4:=((((Below.alloc (Below.refl _ w5) (nr _) _).grown hg0 (by simp) (fun j e=>by cases e;exact nr _)).grown hg1 s0 (fun j e=>by cases e;exact nr _)).grown hg2 s1 (fun j e=>by cases e;exact nr _)).grown hg3 s2 (fun j e=>by cases e;exact nr _);clear s0 s1 s2 hm0 hm1 hm2 hg0 hg1 hg2 hg3;refine zb hb4 ?_;rintro ⟨hc4,hf4⟩ hz4 hy4 hx4;refine szz w4 w ?_;intros;refine szz w4 w1 ?_;intros;refine szz w4 w5 ?_;intros)
        | (at_lookup;refine z2g _ rfl _ _ 185 rfl 3 4 (Maps.int_keyed Tryz.underlying3) Tryz.underlying185 (Tryz.zeroBool _) _ 4 (boolMap r) rfl hm3 _ _ rfl HKI.out ?_;rw[HT.out])
        | (go_at_call 169;refine (ref_yes _ _).mono ?_;rintro e w6 ⟨rfl,hb6⟩;refine zb hb6 ?_;rintro ⟨hc6,hf6⟩ hz6 hy6 hx6;refine szz w6 w ?_;intros;refine szz w6 w1 ?_;intros;refine szz w6 w5 ?_;intros;refine szz w6 w4 ?_;intros;dsimp only))
       exact bpr Tryz.results127 (.agg #[.int .i64 2,.int .i64 (z6g t).n,.string ⟨#[]⟩]) ⟨by rw[<-HD.out];rfl,bel⟩
     rw[hr] at hc hA
     have HD:=zh (show z1m 9=out from hA)
     clear hr hA
     go_region_law (go_simp;go_at_call 168;refine (hc _).mono ?_;rintro e w5 ⟨rfl,hb5⟩;replace hb5:Below wb.heap.size wb w5:=z01 (Below.drew (Below.refl _ wb)) hb5 (nr _);refine zb hb5 ?_;rintro ⟨hc5,hf5⟩ hz5 hy5 hx5;refine szz w5 w ?_;intros;refine szz w5 w1 ?_;intros;refine szz w5 wb ?_;intros;dsimp only)
     all_goals
      go_wp2_with (go_at_call 129;refine (z68 _ _).mono ?_;rintro e w6 ⟨rfl,hb6⟩;refine zb hb6 ?_;rintro ⟨hc6,hf6⟩ hz6 hy6 hx6;refine szz w6 w ?_;intros;refine szz w6 w1 ?_;intros;refine szz w6 w5 ?_;intros;dsimp only)
      exact bpr Tryz.results127 (.agg #[.int .i64 5,.int .i64 9,.string ⟨#[]⟩]) ⟨by rw[<-HD.out];rfl,bel⟩
   obtain⟨⟨hk5,hk9⟩,g,happ,hNO⟩:=he
   have ho11:(x.op==11)=false:=by simp;omega
   have ho12:(x.op==12)=false:=by simp;omega
   have ho13:(x.op==13)=false:=by simp;omega
   have ho14:(x.op==14)=false:=by simp;omega
   have ho4:(x.op==4)=false:=by simp;omega
   have ho10:(x.op==10)=false:=by simp;omega
   have ho18:(x.op==18)=false:=by simp;omega
   have ho3:(x.op==3)=false:=by simp;omega
   have HNO:=zh (ai happ hNO)
   clear happ hNO hk5 hk9
   go_wp2_with fail
   have hA:(bif vs.all (fun v=>v.k==1) then numV (g v0.n v1.n) else z1m 9)=out:=by rw[<-HO.out,z6m HNa.out HNb.out,<-HV.out.1];exact (HNO.out.1 v0 v1).symm
   have HA:=zh hA
   clear hA
   go_loopw [223] (fun i wr=>∃ k:Nat,k<=2/\i=.int .i64 k/\Hid ((vs.take k).all (fun v=>v.k==1)=true)/\Below wb.heap.size wb wr) (fun i _=>2-(intOf i).toNat)
   case atStart=>exact⟨0,by omega,rfl,zh (by simp),Below.refl _ _⟩
   case round =>
    obtain⟨k,hk,rfl,hz,hbr⟩:=hrel
    refine zb hbr ?_;rintro ⟨hcr,hfr⟩ hzr hyr hxr;refine szz wr w ?_;intros;refine szz wr w1 ?_;intros;refine szz wr wb ?_;intros
    have HBr:=zh (show Below w.heap.size w wr from z01 HBb.out hbr (by omega))
    by_cases hlt:k<2
    ·obtain⟨b',o',v,hAe,hbl',hlk,hwf,z0,z1,z2⟩:=z2t (HSb.out.now hbr) hlt
     cases hAe
     simp only[Nat.zero_add] at z0 z1 z2
     have HL:=zh hlk
     clear hlk hwf
     cases hp:(v.k==1)
     ·have hp':(v.k != 1)=true:=by simp only[bne,hp,Bool.not_false]
      have HD:=zh (show z1m 9=out by
       rw[<-HA.out,show vs.all (fun v=>v.k==1)=false from List.all_eq_false.2 ⟨v,List.mem_of_getElem? HL.out,by rw[hp];decide⟩];rfl)
      have hBw:=HBr.out
      clear hp
      go_wp2_with (go_at_call 129;refine (z68 _ _).mono ?_;rintro e w6 ⟨rfl,hb6⟩;refine zb hb6 ?_;rintro ⟨hc6,hf6⟩ hz6 hy6 hx6;refine szz w6 w ?_;intros;refine szz w6 w1 ?_;intros;refine szz w6 wr ?_;intros;dsimp only)
      exact bpr Tryz.results127 (.agg #[.int .i64 5,.int .i64 9,.string ⟨#[]⟩]) ⟨by rw[<-HD.out];rfl,bel⟩
     have hp':(v.k != 1)=false:=by simp only[bne,hp,Bool.not_true]
     have HP:=zh hp
     clear hp
     go_wp2_with fail
     go_roundw
     case rel=>exact⟨k+1,by omega,by go_num,zh (by rw[List.take_add_one,HL.out,List.all_append,hz.out];simp[HP.out]),bel⟩
     case measure=>simp[intOf];omega
    have hke:k=2:=by omega
    subst hke
    have hall:vs.all (fun v=>v.k==1)=true:=by have h:=hz.out;rwa [List.take_of_length_le (by rw[HV.out.2];exact nr _)] at h
    have HD:=zh (show numV (g v0.n v1.n)=out by rw[<-HA.out,hall];rfl)
    have HSc:=zh (HSb.out.now hbr)
    clear hz hlt hk hall
    generalize hwq:wr=wz at *
    clear hwq
    have hBw:=HBr.out
    obtain⟨gb,go,ge,hgl,⟨g0,g1,g2⟩,g3,g4,g5⟩:=two_at (show Sl wz (old wz) 3 RVal _ 2 [v0,v1] from by rw[HV.out.1];exact HSc.out)
    cases ge
    simp only[Nat.zero_add] at g1 g2 g3 g4 g5
    have hN:∀ w,Calls Tryz.prog 170 #[.int .i64 x.op,.int .i64 v0.n,.int .i64 v1.n] w fun e w'=>e=.returned (.tuple #[.int .i64 (g v0.n v1.n).1,.int .i64 (g v0.n v1.n).2])/\∃ n,w'=w.drewN n:=HNO.out.2 v0.n v1.n
    obtain⟨r,e,hr⟩:∃ r e,g v0.n v1.n=(r,e):=⟨_,_,rfl⟩
    rw[hr] at hN HD
    clear hr
    dsimp only at hN
    have hB0:Below w.heap.size w wz.drew:=bel
    by_cases he:e=0
    ·subst he
     have HE:=zh (show ⟨1,r,⟨#[]⟩⟩=out by rw[<-HD.out];rfl)
     go_wp2_with fail
     go_quiet ((go_at_call 170;refine Calls.quiet_of (hN _)))
     go_wp2_with fail
     exact bpr Tryz.results127 (.agg #[.int .i64 1,.int .i64 r,.string ⟨#[]⟩]) ⟨by rw[<-HE.out],bel⟩
    have he':(e != 0)=true:=by simpa using he
    have HE:=zh (show z1m e=out by rw[<-HD.out];unfold numV;rw[if_neg he])
    clear he
    go_wp2_with fail
    go_quiet ((go_at_call 170;refine Calls.quiet_of (hN _)))
    go_wp2_with (go_at_call 129;refine (z68 _ _).mono ?_;rintro e w6 ⟨rfl,hb6⟩;refine zb hb6 ?_;rintro ⟨hc6,hf6⟩ hz6 hy6 hx6;refine szz w6 w ?_;intros;refine szz w6 w1 ?_;intros;refine szz w6 wz ?_;intros;dsimp only)
    exact bpr Tryz.results127 (.agg #[.int .i64 5,.int .i64 e,.string ⟨#[]⟩]) ⟨by rw[<-HE.out];rfl,bel⟩
open Go.RowKit Go.Maps
def evalRes (l:List Fct)(x:Exp):Val×Int:=if exprErr x≠0 then (noVal,exprErr x) else if z1q l≠0 then (noVal,z1q l) else (evX l x,0)
def RetVE (w:World)(r:Val×Int)(e:Ending)(w':World):Prop:=e=.returned (.tuple #[r.1.ag,.int .i64 r.2])/\Below w.heap.size w w'
theorem z1f {x:Exp}(h:exprErr x=0):prtN x=0:=by
 unfold exprErr at h
 split at h
 ·cases h
 split at h
 ·cases h
 exact h
theorem evalRes_bad {l:List Fct}{x:Exp}{e:Int}(h:exprErr x=e)(h0:e≠0):evalRes l x=(noVal,e):=by
 unfold evalRes;rw[if_pos (by rw[h];exact h0),h]
theorem evalRes_fct {l:List Fct}{x:Exp}{e:Int}(h:exprErr x=0)(h1:z1q l=e)(h0:e≠0):evalRes l x=(noVal,e):=by
 unfold evalRes;rw[if_neg (by simpa using h),if_pos (by rw[h1];exact h0),h1]
theorem z6k {l:List Fct}{x:Exp}(h:exprErr x=0)(h1:z1q l=0):evalRes l x=(evX l x,0):=by
 unfold evalRes;rw[if_neg (by simpa using h),if_neg (by simpa using h1)]
theorem zf2 (l:List Fct)(L:Option Addr)(n d:Nat)(x:Exp)(A:Option Addr)(c:Nat)(w:World)(hn:inL n)(hx:XRep w (old w) (x.cs A c) x)(hl:Sl w (old w) 7 RFct L n l) :
  Calls Tryz.prog 71 #[.agg (x.cs A c).toArray,.slice L n d] w (RetVE w (evalRes l x)):=by
 have hck:=fun w h=>z46 x A c w h
 have hft:=fun w h=>eval_facts L n d l w hn h
 have HX:=zh (ai hx hl)
 clear hx hl
 by_cases he:exprErr x=0
 ·have HP:=zh (z1f he)
  by_cases hf:z1q l=0
  ·have hof:=fun fb w h h'=>zdw l (z4x hf) fb n x.nodes x A c w (nr _) HP.out h h'
   rw[z6k he hf]
   have HF:=zh hf
   simp only[he] at hck
   generalize evX l x=u at hof
   clear he hf
   go_enter Tryz.func71,Tryz.ntmps71
   go_wp2_with (first
    | (go_at_call 118;refine (hck _ (HX.out.1.keep (z05 bel))).mono ?_;rintro e w1 ⟨rfl,hb1⟩;refine zb hb1 ?_;rintro ⟨hc1,hf1⟩ hz1 hy1 hx1;refine szz w1 w ?_;intros)
    | (go_at_call 119;refine (hft _ (HX.out.2.now bel)).mono ?_;rintro e w2 hq2;unfold RetF at hq2;rw[if_pos HF.out] at hq2;obtain⟨⟨rfl,hM2⟩,hb2⟩:=hq2;refine zb hb2 ?_;rintro ⟨hc2,hf2⟩ hz2 hy2 hx2;refine szz w2 w ?_;intros;refine szz w2 w1 ?_;intros;dsimp only)
    | (go_at_call 120;refine (hof _ _ (HX.out.1.keep (z05 bel)) hM2).mono ?_;rintro e w3 ⟨rfl,hb3⟩;refine zb hb3 ?_;rintro ⟨hc3,hf3⟩ hz3 hy3 hx3;refine szz w3 w ?_;intros;refine szz w3 w1 ?_;intros;refine szz w3 w2 ?_;intros;dsimp only))
   exact bpr Tryz.results71 (.tuple #[.agg #[.int .i64 u.k,.int .i64 u.n,.string u.s],.int .i64 0]) ⟨rfl,bel⟩
  obtain⟨fe,hfe⟩:∃ e,z1q l=e:=⟨_,rfl⟩
  rw[evalRes_fct he hfe (by rw[<-hfe];exact hf)]
  have hfb:(fe != 0)=true:=by rw[<-hfe];simpa using hf
  have HF:=zh (ai hf hfe)
  simp only[he] at hck
  clear he hf hfe
  go_enter Tryz.func71,Tryz.ntmps71
  go_wp2_with (first
   | (go_at_call 118;refine (hck _ (HX.out.1.keep (z05 bel))).mono ?_;rintro e w1 ⟨rfl,hb1⟩;refine zb hb1 ?_;rintro ⟨hc1,hf1⟩ hz1 hy1 hx1;refine szz w1 w ?_;intros)
   | (go_at_call 119;refine (hft _ (HX.out.2.now bel)).mono ?_;rintro e w2 hq2;unfold RetF at hq2;rw[if_neg HF.out.1,HF.out.2] at hq2;obtain⟨rfl,hb2⟩:=hq2;refine zb hb2 ?_;rintro ⟨hc2,hf2⟩ hz2 hy2 hx2;refine szz w2 w ?_;intros;refine szz w2 w1 ?_;intros;dsimp only))
  exact bpr Tryz.results71 (.tuple #[.agg #[.int .i64 0,.int .i64 0,.string ⟨#[]⟩],.int .i64 fe]) ⟨rfl,bel⟩
 obtain⟨ee,hee⟩:∃ e,exprErr x=e:=⟨_,rfl⟩
 rw[evalRes_bad hee (by rw[<-hee];exact he)]
 have heb:(ee != 0)=true:=by rw[<-hee];simpa using he
 simp only[hee] at hck
 clear he hee
 go_enter Tryz.func71,Tryz.ntmps71
 go_wp2_with (go_at_call 118;refine (hck _ (HX.out.1.keep (z05 bel))).mono ?_;rintro e w1 ⟨rfl,hb1⟩;refine zb hb1 ?_;rintro ⟨hc1,hf1⟩ hz1 hy1 hx1;refine szz w1 w ?_;intros)
 exact bpr Tryz.results71 (.tuple #[.agg #[.int .i64 0,.int .i64 0,.string ⟨#[]⟩],.int .i64 ee]) ⟨rfl,bel⟩
end Go.Proofs.YtldhlpjjcnlbcaaGreat
