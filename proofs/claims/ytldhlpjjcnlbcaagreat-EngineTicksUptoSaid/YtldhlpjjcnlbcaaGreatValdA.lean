/- Texts merged (mergeh.py): ValdA. -/
import Derived.Test.YtldhlpjjcnlbcaaGreatVald
/- The walk of the reference valued at ops that take values. (Printed by mkvald.py A.) -/
set_option maxRecDepth 100000
set_option maxHeartbeats 8000000
namespace Go.Proofs.YtldhlpjjcnlbcaaGreat
open Go.RowKit Go.Maps
theorem valued_one (l:List Fct)(F:Option Addr)(nF cF N:Nat)(IH:ValN l F nF cF N)(x a0:Exp)(v0:Val)(ha0:x.args[0]?=some a0)(A:Option Addr)(c:Nat)(w:World)(ho:x.op=3\/x.op=4\/x.op=18)(hn:x.args.length=1)
  (e0:evX l a0=v0)(hp0:a0.nodes<=N/\prtN a0=0)(hv0:valCheck v0=0)(hx:XRep w (old w) (x.cs A c) x)(hF:Sl w (old w) 7 RFct F nF l) :
  Calls Tryz.prog 127 #[.agg (x.cs A c).toArray,.slice F nF cF] w (RetV w ((lackV [v0]).getD (appV x.op [v0]))):=by
 obtain⟨i1,i2,i3,i4,i5,hsl,hch⟩:=hx.kids
 obtain⟨b,o,a0',X,C,rfl,hbl,ha0',hxa,x0,x1,x2,x3,x4,x5⟩:=kid0 hsl (by omega)
 rw[ha0] at ha0'
 cases ha0'
 have hq0:=fun w h h'=>IH a0 X C w hp0.1 hp0.2 h h'
 rw[e0] at hq0
 have hnn:((x.args.length:Int)==2)=false:=by rw[hn];rfl
 have hof:∀ k:Int,k≠3/\k≠4/\k≠18->(x.op==k)=false:=fun k h=>by simp;omega
 have ho1:(x.op==1)=false:=hof 1 (by omega)
 have ho2:(x.op==2)=false:=hof 2 (by omega)
 have ho15:(x.op==15)=false:=hof 15 (by omega)
 have ho16:(x.op==16)=false:=hof 16 (by omega)
 have ho17:(x.op==17)=false:=hof 17 (by omega)
 clear hof
 have hn0:0<x.args.length:=by omega
 have HX0:=zh hxa
 have HF:=zh hF
 have hwf0:=z48 hv0
 obtain⟨j0,hj0,iz0,iz1,iz2⟩:=info_parts Tryz.infoVal
 have HOP:=zh ho
 obtain⟨vs,hvs⟩:∃ vs,[v0]=vs:=⟨_,rfl⟩
 have hlv:vs.length=1:=by rw[<-hvs];rfl
 have HV:=zh (ai hvs hlv)
 have HW3:=zh (show v0.k=1->wrap64 (-v0.n)=-v0.n from fun hk=>by have h:=z11 (zfp hv0 hk).1;unfold wrap64;omega)
 rw[hvs]
 obtain⟨out,hout⟩:∃ u,(lackV vs).getD (appV x.op vs)=u:=⟨_,rfl⟩
 rw[hout]
 have HO:=zh hout
 clear hout hvs hlv hx hsl hch i1 i2 i3 i4 i5 hF hxa ho hn IH e0 hp0 hv0 ha0
 go_enter Tryz.func127,Tryz.ntmps127
 go_wp2_with fail
 refine (hq0 _ (HX0.out.keep (z05 bel)) (HF.out.now bel)).mono ?_;rintro e w1 ⟨rfl,hb1⟩;refine zb hb1 ?_;rintro ⟨hc1,hf1⟩ hz1 hy1 hx1;refine szz w1 w ?_;intros;dsimp only
 have hbb2:b<w.heap.size+2:=by omega
 have hbb3:b<w.heap.size+1+1:=by omega
 have hbb1:b<w1.heap.size:=by omega
 go_wp2_with fail
 obtain⟨A3,c3,e3,_,hs3⟩:=(Own.fresh w1 44 v0 hwf0).sl (z0t _)
 cases e3
 have hb3:Below w1.heap.size w1 (w1.alloc (.cells #[.int .i64 v0.k,.int .i64 v0.n,.string v0.s] 44)):=Below.alloc (Below.refl _ w1) (nr _) _
 generalize hw3:w1.alloc (.cells #[.int .i64 v0.k,.int .i64 v0.n,.string v0.s] 44)=w3 at *
 clear hw3
 have hs4:Sl w3 (old w3) 3 RVal (some ⟨w1.heap.size,0,none⟩) 1 [v0]:=hs3.mono fun _ h=>h.2
 rw[HV.out.1] at hs4
 have HS:=zh hs4
 clear hs3 hs4 hwf0
 refine zb hb3 ?_;rintro ⟨hc3,hf3⟩ hz3 hy3 hx3;refine szz w3 w ?_;intros;refine szz w3 w1 ?_;intros
 have r0:w3.cell? ⟨w.heap.size+1,0,none⟩=some (.int .i64 0):=by go_simp
 have r1:w3.cell? ⟨w.heap.size+1,1,none⟩=some (.int .i64 0):=by go_simp
 have r2:w3.cell? ⟨w.heap.size+1,2,none⟩=some (.string ⟨#[]⟩):=by go_simp
 have q0:w3.frozen? ⟨w.heap.size+1,0,none⟩=false:=by go_simp
 have q1:w3.frozen? ⟨w.heap.size+1,1,none⟩=false:=by go_simp
 have q2:w3.frozen? ⟨w.heap.size+1,2,none⟩=false:=by go_simp
 have d0:w3.cell? ⟨w.heap.size,0,none⟩=some (.int .i64 x.op):=by go_simp
 have HB3:=zh (show Below w.heap.size w w3 from bel)
 go_loopw [161] (fun i wr=>∃ k:Nat,k<=1/\i=.int .i64 k/\Hid ((vs.take k).any (fun v=>v.k==5)=false)/\Below w3.heap.size w3 wr) (fun i _=>1-(intOf i).toNat)
 case atStart=>exact⟨0,by omega,rfl,zh (by simp),Below.refl _ _⟩
 case round =>
  obtain⟨k,hk,rfl,hz,hbr⟩:=hrel
  refine zb hbr ?_;rintro ⟨hcr,hfr⟩ hzr hyr hxr;refine szz wr w ?_;intros;refine szz wr w1 ?_;intros;refine szz wr w3 ?_;intros
  have HBr:=zh (show Below w.heap.size w wr from z01 HB3.out hbr (by omega))
  by_cases hlt:k<1
  ·obtain⟨b',o',v,hAe,hbl',hlk,hwf,z0,z1,z2⟩:=z2t (HS.out.now hbr) hlt
   cases hAe
   simp only[Nat.zero_add] at z0 z1 z2
   have HL:=zh hlk
   clear hlk hwf
   cases hp:(v.k==5)
   ·have HP:=zh hp
    go_wp2_with fail
    go_roundw
    case rel=>exact⟨k+1,by omega,by go_num,zh (z4e hz.out HL.out HP.out),bel⟩
    case measure=>simp[intOf];omega
   have hbo:=zd4 hz.out HL.out (by simpa using hp)
   have HD:=zh (show v=out by rw[<-HO.out,hbo];rfl)
   clear hbo
   have hBw:=HBr.out
   go_wp2_with fail
   exact bpr Tryz.results127 (.agg #[.int .i64 v.k,.int .i64 v.n,.string v.s]) ⟨by rw[HD.out],bel⟩
  have hke:k=1:=by omega
  subst hke
  have HNa:=zh (show vs.any (fun v=>v.k==5)=false by have h:=hz.out;rwa [List.take_of_length_le (by rw[HV.out.2];exact nr _)] at h)
  have HSa:=zh (HS.out.now hbr)
  clear hz hlt hk
  generalize hwq:wr=wa at *
  clear hwq
  have HBa:=HBr
  clear HBr
  go_wp2_with fail
  go_loopw [172] (fun i wr=>∃ k:Nat,k<=1/\i=.int .i64 k/\Hid ((vs.take k).any (fun v=>v.k==4)=false)/\Below wa.heap.size wa wr) (fun i _=>1-(intOf i).toNat)
  case atStart=>exact⟨0,by omega,rfl,zh (by simp),Below.refl _ _⟩
  case round =>
   obtain⟨k,hk,rfl,hz,hbr⟩:=hrel
   refine zb hbr ?_;rintro ⟨hcr,hfr⟩ hzr hyr hxr;refine szz wr w ?_;intros;refine szz wr w1 ?_;intros;refine szz wr wa ?_;intros
   have HBr:=zh (show Below w.heap.size w wr from z01 HBa.out hbr (by omega))
   by_cases hlt:k<1
   ·obtain⟨b',o',v,hAe,hbl',hlk,hwf,z0,z1,z2⟩:=z2t (HSa.out.now hbr) hlt
    cases hAe
    simp only[Nat.zero_add] at z0 z1 z2
    have HL:=zh hlk
    clear hlk hwf
    cases hp:(v.k==4)
    ·have HP:=zh hp
     go_wp2_with fail
     go_roundw
     case rel=>exact⟨k+1,by omega,by go_num,zh (z4e hz.out HL.out HP.out),bel⟩
     case measure=>simp[intOf];omega
    have hbo:=lackV_pend1 HNa.out hz.out HL.out (by simpa using hp)
    have HD:=zh (show v=out by rw[<-HO.out,hbo];rfl)
    clear hbo
    have hBw:=HBr.out
    go_wp2_with fail
    exact bpr Tryz.results127 (.agg #[.int .i64 v.k,.int .i64 v.n,.string v.s]) ⟨by rw[HD.out],bel⟩
   have hke:k=1:=by omega
   subst hke
   have HNb:=zh (show vs.any (fun v=>v.k==4)=false by have h:=hz.out;rwa [List.take_of_length_le (by rw[HV.out.2];exact nr _)] at h)
   have HSb:=zh (HSa.out.now hbr)
   clear hz hlt hk
   generalize hwq:wr=wb at *
   clear hwq
   have HBb:=HBr
   clear HBr
   rcases HOP.out with he | he | he
   ·have ho11:(x.op==11)=false:=by rw[he];rfl
    have ho12:(x.op==12)=false:=by rw[he];rfl
    have ho13:(x.op==13)=false:=by rw[he];rfl
    have ho14:(x.op==14)=false:=by rw[he];rfl
    have ho4:(x.op==4)=false:=by rw[he];rfl
    have ho10:(x.op==10)=false:=by rw[he];rfl
    have ho18:(x.op==18)=false:=by rw[he];rfl
    have ho3:(x.op==3)=true:=by rw[he];rfl
    have hO:(lackV vs).getD (appV 3 vs)=out:=by rw[<-he];exact HO.out
    have HOk:=zh hO
    clear he hO
    go_wp2_with fail
    have hA:(bif vs.all (fun v=>v.k==1) then ⟨1,-v0.n,⟨#[]⟩⟩ else z1m 9)=out:=by rw[<-HOk.out,z6m HNa.out HNb.out,<-HV.out.1];exact (app3 v0).symm
    have HA:=zh hA
    clear hA
    go_loopw [223] (fun i wr=>∃ k:Nat,k<=1/\i=.int .i64 k/\Hid ((vs.take k).all (fun v=>v.k==1)=true)/\Below wb.heap.size wb wr) (fun i _=>1-(intOf i).toNat)
    case atStart=>exact⟨0,by omega,rfl,zh (by simp),Below.refl _ _⟩
    case round =>
     obtain⟨k,hk,rfl,hz,hbr⟩:=hrel
     refine zb hbr ?_;rintro ⟨hcr,hfr⟩ hzr hyr hxr;refine szz wr w ?_;intros;refine szz wr w1 ?_;intros;refine szz wr wb ?_;intros
     have HBr:=zh (show Below w.heap.size w wr from z01 HBb.out hbr (by omega))
     by_cases hlt:k<1
     ·obtain⟨b',o',v,hAe,hbl',hlk,hwf,z0,z1,z2⟩:=z2t (HSb.out.now hbr) hlt
      cases hAe
      simp only[Nat.zero_add] at z0 z1 z2
      have HL:=zh hlk
      clear hlk hwf
      cases hp:(v.k==1)
      ·have hp':(v.k != 1)=true:=by simp only[bne,hp,Bool.not_false]
       have HD:=zh (show z1m 9=out by
        rw[<-HA.out,show vs.all (fun v=>v.k==1)=false from List.all_eq_false.2 ⟨v,List.mem_of_getElem? HL.out,by rw[hp];decide⟩];rfl)
       have hBw:=HBr.out
       clear hp
       go_wp2_with (go_at_call 129;refine (z68 _ _).mono ?_;rintro e w6 ⟨rfl,hb6⟩;refine zb hb6 ?_;rintro ⟨hc6,hf6⟩ hz6 hy6 hx6;refine szz w6 w ?_;intros;refine szz w6 w1 ?_;intros;refine szz w6 wr ?_;intros;dsimp only)
       exact bpr Tryz.results127 (.agg #[.int .i64 5,.int .i64 9,.string ⟨#[]⟩]) ⟨by rw[<-HD.out];rfl,bel⟩
      have hp':(v.k != 1)=false:=by simp only[bne,hp,Bool.not_true]
      have HP:=zh hp
      clear hp
      go_wp2_with fail
      go_roundw
      case rel=>exact⟨k+1,by omega,by go_num,zh (by rw[List.take_add_one,HL.out,List.all_append,hz.out];simp[HP.out]),bel⟩
      case measure=>simp[intOf];omega
     have hke:k=1:=by omega
     subst hke
     have hall:vs.all (fun v=>v.k==1)=true:=by have h:=hz.out;rwa [List.take_of_length_le (by rw[HV.out.2];exact nr _)] at h
     have HD:=zh (show ⟨1,-v0.n,⟨#[]⟩⟩=out by rw[<-HA.out,hall];rfl)
     have HSc:=zh (HSb.out.now hbr)
     have hw3:=HW3.out (by rw[<-HV.out.1] at hall;simpa using hall)
     clear hz hlt hk hall
     generalize hwq:wr=wz at *
     clear hwq
     have hBw:=HBr.out
     obtain⟨gb,go,ge,hgl,g0,g1,g2⟩:=one_at (show Sl wz (old wz) 3 RVal _ 1 [v0] from by rw[HV.out.1];exact HSc.out)
     cases ge
     simp only[Nat.zero_add] at g1 g2
     go_wp2_with fail
     exact bpr Tryz.results127 (.agg #[.int .i64 1,.int .i64 (-v0.n),.string ⟨#[]⟩]) ⟨by rw[<-HD.out],bel⟩
   ·have ho11:(x.op==11)=false:=by rw[he];rfl
    have ho12:(x.op==12)=false:=by rw[he];rfl
    have ho13:(x.op==13)=false:=by rw[he];rfl
    have ho14:(x.op==14)=false:=by rw[he];rfl
    have ho4:(x.op==4)=true:=by rw[he];rfl
    have ho10:(x.op==10)=false:=by rw[he];rfl
    have ho18:(x.op==18)=false:=by rw[he];rfl
    have ho3:(x.op==3)=false:=by rw[he];rfl
    have hO:(lackV vs).getD (appV 4 vs)=out:=by rw[<-he];exact HO.out
    have HOk:=zh hO
    clear he hO
    go_wp2_with fail
    have hA:(bif vs.all (fun v=>v.k==2) then z6g (v0.n==0) else z1m 9)=out:=by rw[<-HOk.out,z6m HNa.out HNb.out,<-HV.out.1];exact (app4 v0).symm
    have HA:=zh hA
    clear hA
    go_loopw [223] (fun i wr=>∃ k:Nat,k<=1/\i=.int .i64 k/\Hid ((vs.take k).all (fun v=>v.k==2)=true)/\Below wb.heap.size wb wr) (fun i _=>1-(intOf i).toNat)
    case atStart=>exact⟨0,by omega,rfl,zh (by simp),Below.refl _ _⟩
    case round =>
     obtain⟨k,hk,rfl,hz,hbr⟩:=hrel
     refine zb hbr ?_;rintro ⟨hcr,hfr⟩ hzr hyr hxr;refine szz wr w ?_;intros;refine szz wr w1 ?_;intros;refine szz wr wb ?_;intros
     have HBr:=zh (show Below w.heap.size w wr from z01 HBb.out hbr (by omega))
     by_cases hlt:k<1
     ·obtain⟨b',o',v,hAe,hbl',hlk,hwf,z0,z1,z2⟩:=z2t (HSb.out.now hbr) hlt
      cases hAe
      simp only[Nat.zero_add] at z0 z1 z2
      have HL:=zh hlk
      clear hlk hwf
      cases hp:(v.k==2)
      ·have hp':(v.k != 2)=true:=by simp only[bne,hp,Bool.not_false]
       have HD:=zh (show z1m 9=out by
        rw[<-HA.out,show vs.all (fun v=>v.k==2)=false from List.all_eq_false.2 ⟨v,List.mem_of_getElem? HL.out,by rw[hp];decide⟩];rfl)
       have hBw:=HBr.out
       clear hp
       go_wp2_with (go_at_call 129;refine (z68 _ _).mono ?_;rintro e w6 ⟨rfl,hb6⟩;refine zb hb6 ?_;rintro ⟨hc6,hf6⟩ hz6 hy6 hx6;refine szz w6 w ?_;intros;refine szz w6 w1 ?_;intros;refine szz w6 wr ?_;intros;dsimp only)
       exact bpr Tryz.results127 (.agg #[.int .i64 5,.int .i64 9,.string ⟨#[]⟩]) ⟨by rw[<-HD.out];rfl,bel⟩
      have hp':(v.k != 2)=false:=by simp only[bne,hp,Bool.not_true]
      have HP:=zh hp
      clear hp
      go_wp2_with fail
      go_roundw
      case rel=>exact⟨k+1,by omega,by go_num,zh (by rw[List.take_add_one,HL.out,List.all_append,hz.out];simp[HP.out]),bel⟩
      case measure=>simp[intOf];omega
     have hke:k=1:=by omega
     subst hke
     have hall:vs.all (fun v=>v.k==2)=true:=by have h:=hz.out;rwa [List.take_of_length_le (by rw[HV.out.2];exact nr _)] at h
     have HD:=zh (show z6g (v0.n==0)=out by rw[<-HA.out,hall];rfl)
     have HSc:=zh (HSb.out.now hbr)
     clear hz hlt hk hall
     generalize hwq:wr=wz at *
     clear hwq
     have hBw:=HBr.out
     obtain⟨gb,go,ge,hgl,g0,g1,g2⟩:=one_at (show Sl wz (old wz) 3 RVal _ 1 [v0] from by rw[HV.out.1];exact HSc.out)
     cases ge
     simp only[Nat.zero_add] at g1 g2
     cases hq:v0.n==0
     ·rw[hq] at HD
      go_wp2_with (go_at_call 169;refine (ref_yes _ _).mono ?_;rintro e w6 ⟨rfl,hb6⟩;refine zb hb6 ?_;rintro ⟨hc6,hf6⟩ hz6 hy6 hx6;refine szz w6 w ?_;intros;refine szz w6 w1 ?_;intros;refine szz w6 wz ?_;intros;dsimp only)
      exact bpr Tryz.results127 (.agg #[.int .i64 2,.int .i64 0,.string ⟨#[]⟩]) ⟨by rw[<-HD.out];rfl,bel⟩
     rw[hq] at HD
     go_wp2_with (go_at_call 169;refine (ref_yes _ _).mono ?_;rintro e w6 ⟨rfl,hb6⟩;refine zb hb6 ?_;rintro ⟨hc6,hf6⟩ hz6 hy6 hx6;refine szz w6 w ?_;intros;refine szz w6 w1 ?_;intros;refine szz w6 wz ?_;intros;dsimp only)
     exact bpr Tryz.results127 (.agg #[.int .i64 2,.int .i64 1,.string ⟨#[]⟩]) ⟨by rw[<-HD.out];rfl,bel⟩
   have ho11:(x.op==11)=false:=by rw[he];rfl
   have ho12:(x.op==12)=false:=by rw[he];rfl
   have ho13:(x.op==13)=false:=by rw[he];rfl
   have ho14:(x.op==14)=false:=by rw[he];rfl
   have ho4:(x.op==4)=false:=by rw[he];rfl
   have ho10:(x.op==10)=false:=by rw[he];rfl
   have ho18:(x.op==18)=true:=by rw[he];rfl
   have ho3:(x.op==3)=false:=by rw[he];rfl
   have hO:(lackV vs).getD (appV 18 vs)=out:=by rw[<-he];exact HO.out
   have HOk:=zh hO
   clear he hO
   go_wp2_with fail
   have hA:(bif vs.all (fun v=>v.k==3) then ⟨1,v0.s.size,⟨#[]⟩⟩ else z1m 9)=out:=by rw[<-HOk.out,z6m HNa.out HNb.out,<-HV.out.1];exact (app18 v0).symm
   have HA:=zh hA
   clear hA
   go_loopw [223] (fun i wr=>∃ k:Nat,k<=1/\i=.int .i64 k/\Hid ((vs.take k).all (fun v=>v.k==3)=true)/\Below wb.heap.size wb wr) (fun i _=>1-(intOf i).toNat)
   case atStart=>exact⟨0,by omega,rfl,zh (by simp),Below.refl _ _⟩
   case round =>
    obtain⟨k,hk,rfl,hz,hbr⟩:=hrel
    refine zb hbr ?_;rintro ⟨hcr,hfr⟩ hzr hyr hxr;refine szz wr w ?_;intros;refine szz wr w1 ?_;intros;refine szz wr wb ?_;intros
    have HBr:=zh (show Below w.heap.size w wr from z01 HBb.out hbr (by omega))
    by_cases hlt:k<1
    ·obtain⟨b',o',v,hAe,hbl',hlk,hwf,z0,z1,z2⟩:=z2t (HSb.out.now hbr) hlt
     cases hAe
     simp only[Nat.zero_add] at z0 z1 z2
     have HL:=zh hlk
     clear hlk hwf
     cases hp:(v.k==3)
     ·have hp':(v.k != 3)=true:=by simp only[bne,hp,Bool.not_false]
      have HD:=zh (show z1m 9=out by
       rw[<-HA.out,show vs.all (fun v=>v.k==3)=false from List.all_eq_false.2 ⟨v,List.mem_of_getElem? HL.out,by rw[hp];decide⟩];rfl)
      have hBw:=HBr.out
      clear hp
      go_wp2_with (go_at_call 129;refine (z68 _ _).mono ?_;rintro e w6 ⟨rfl,hb6⟩;refine zb hb6 ?_;rintro ⟨hc6,hf6⟩ hz6 hy6 hx6;refine szz w6 w ?_;intros;refine szz w6 w1 ?_;intros;refine szz w6 wr ?_;intros;dsimp only)
      exact bpr Tryz.results127 (.agg #[.int .i64 5,.int .i64 9,.string ⟨#[]⟩]) ⟨by rw[<-HD.out];rfl,bel⟩
     have hp':(v.k != 3)=false:=by simp only[bne,hp,Bool.not_true]
     have HP:=zh hp
     clear hp
     go_wp2_with fail
     go_roundw
     case rel=>exact⟨k+1,by omega,by go_num,zh (by rw[List.take_add_one,HL.out,List.all_append,hz.out];simp[HP.out]),bel⟩
     case measure=>simp[intOf];omega
    have hke:k=1:=by omega
    subst hke
    have hall:vs.all (fun v=>v.k==3)=true:=by have h:=hz.out;rwa [List.take_of_length_le (by rw[HV.out.2];exact nr _)] at h
    have HD:=zh (show ⟨1,v0.s.size,⟨#[]⟩⟩=out by rw[<-HA.out,hall];rfl)
    have HSc:=zh (HSb.out.now hbr)
    clear hz hlt hk hall
    generalize hwq:wr=wz at *
    clear hwq
    have hBw:=HBr.out
    obtain⟨gb,go,ge,hgl,g0,g1,g2⟩:=one_at (show Sl wz (old wz) 3 RVal _ 1 [v0] from by rw[HV.out.1];exact HSc.out)
    cases ge
    simp only[Nat.zero_add] at g1 g2
    go_wp2_with fail
    exact bpr Tryz.results127 (.agg #[.int .i64 1,.int .i64 v0.s.size,.string ⟨#[]⟩]) ⟨by rw[<-HD.out],bel⟩
end Go.Proofs.YtldhlpjjcnlbcaaGreat
