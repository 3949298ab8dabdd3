/- Texts merged (mergeh.py): Vals. -/
import Derived.Test.YtldhlpjjcnlbcaaGreatVald
/- The reference valued, wholly. (Printed by mkvals.py.) -/
set_option maxRecDepth 100000
set_option maxHeartbeats 8000000
namespace Go.Proofs.YtldhlpjjcnlbcaaGreat
open Go.RowKit Go.Maps
section
variable (l:List Fct) (hl:z8y l) (F:Option Addr) (nF cF N:Nat) (IH:ValN l F nF cF N)
include hl IH
theorem valued_15 (x:Exp)(A:Option Addr)(c:Nat)(w:World)(ho:x.op=15)(hp3:(x.args.length:Int)=argsN x.op)(hkid:∀ a∈x.args,a.nodes<=N/\prtN a=0)(hx:XRep w (old w) (x.cs A c) x)(hF:Sl w (old w) 7 RFct F nF l) :
  Calls Tryz.prog 127 #[.agg (x.cs A c).toArray,.slice F nF cF] w (RetV w (opV 15 (x.args.map (evX l)))):=by
 obtain⟨i1,i2,i3,i4,i5,hsl,hch⟩:=hx.kids
 have h2:x.args.length=2:=by
  have h:=hp3
  rw[ho] at h;have h:(x.args.length:Int)=2:=h;omega
 obtain⟨b,o,a,X,C,rfl,hbl,ha,hxa,x0,x1,x2,x3,x4,x5⟩:=kid0 hsl (by omega)
 have hka:=hkid a (List.mem_of_getElem? ha)
 have hq0:=fun w h h'=>IH a X C w hka.1 hka.2 h h'
 have HX0:=zh hxa
 have HF:=zh hF
 have hv0e:vAt (x.args.map (evX l)) 0=evX l a:=zag l ha
 have hok:=z5a hl a.nodes a (nr _) hka.2
 obtain⟨v0,e0⟩:∃ v,evX l a=v:=⟨_,rfl⟩
 rw[e0] at hq0 hv0e hok
 have hn0:0<x.args.length:=by omega
 have hn1:1<x.args.length:=by omega
 have hn2:(1:Int)<(x.args.length:Int):=by omega
 have ho1:(x.op==1)=false:=by rw[ho];rfl
 have ho2:(x.op==2)=false:=by rw[ho];rfl
 have ho15:(x.op==15)=true:=by rw[ho];rfl
 have ho16:(x.op==16)=false:=by rw[ho];rfl
 have ho17:(x.op==17)=false:=by rw[ho];rfl
 obtain⟨m,s,hv⟩:=z6x hok
 rcases hv with rfl | ⟨rfl,hm01⟩ | rfl | rfl | rfl
 ·rw[z64 (by omega) (by rw[hv0e];rfl),hv0e]
  clear hx hsl hch i1 i2 i3 i4 i5 hF hxa ho hp3 hkid IH e0 ha hka h2 hok hv0e
  go_enter Tryz.func127,Tryz.ntmps127
  go_wp2_with fail
  refine (hq0 _ (HX0.out.keep (z05 bel)) (HF.out.now bel)).mono ?_;rintro e w1 ⟨rfl,hb1⟩;refine zb hb1 ?_;rintro ⟨hc1,hf1⟩ hz1 hy1 hx1;refine szz w1 w ?_;intros;dsimp only
  have hbb2:b<w.heap.size+2:=by omega
  have hbb3:b<w.heap.size+1+1:=by omega
  have hbb1:b<w1.heap.size:=by omega
  go_wp2_with (go_at_call 129;refine (z68 _ _).mono ?_;rintro e w6 ⟨rfl,hb6⟩;refine zb hb6 ?_;rintro ⟨hc6,hf6⟩ hz6 hy6 hx6;refine szz w6 w ?_;intros;refine szz w6 w1 ?_;intros;dsimp only)
  exact bpr Tryz.results127 (.agg #[.int .i64 5,.int .i64 9,.string ⟨#[]⟩]) ⟨rfl,bel⟩
 ·rcases hm01 with rfl | rfl
  ·rw[opV_short (by omega) hv0e rfl]
   clear hx hsl hch i1 i2 i3 i4 i5 hF hxa ho hp3 hkid IH e0 ha hka h2 hok hv0e
   go_enter Tryz.func127,Tryz.ntmps127
   go_wp2_with fail
   refine (hq0 _ (HX0.out.keep (z05 bel)) (HF.out.now bel)).mono ?_;rintro e w1 ⟨rfl,hb1⟩;refine zb hb1 ?_;rintro ⟨hc1,hf1⟩ hz1 hy1 hx1;refine szz w1 w ?_;intros;dsimp only
   have hbb2:b<w.heap.size+2:=by omega
   have hbb3:b<w.heap.size+1+1:=by omega
   have hbb1:b<w1.heap.size:=by omega
   go_wp2_with fail
   exact bpr Tryz.results127 (.agg #[.int .i64 2,.int .i64 0,.string s]) ⟨rfl,bel⟩
  obtain⟨a1,X1,C1,ha1,hxa1,y0,y1,y2,y3,y4,y5⟩:=kid1 hsl (by omega)
  have hka1:=hkid a1 (List.mem_of_getElem? ha1)
  have hq1:=fun w h h'=>IH a1 X1 C1 w hka1.1 hka1.2 h h'
  have HX1:=zh hxa1
  have hv1e:vAt (x.args.map (evX l)) 1=evX l a1:=zag l ha1
  have hok1:=z5a hl a1.nodes a1 (nr _) hka1.2
  obtain⟨v1,e1⟩:∃ v,evX l a1=v:=⟨_,rfl⟩
  rw[e1] at hq1 hv1e hok1
  rw[opV_long (by omega) hv0e (by simp),hv1e]
  obtain⟨m1,s1,hv1⟩:=z6x hok1
  rcases hv1 with rfl | ⟨rfl,_⟩ | rfl | rfl | rfl
  ·clear hx hsl hch i1 i2 i3 i4 i5 hF hxa ho hp3 hkid IH e0 ha hka h2 hok hv0e e1 ha1 hka1 hxa1 hv1e
   go_enter Tryz.func127,Tryz.ntmps127
   go_wp2_with fail
   refine (hq0 _ (HX0.out.keep (z05 bel)) (HF.out.now bel)).mono ?_;rintro e w1 ⟨rfl,hb1⟩;refine zb hb1 ?_;rintro ⟨hc1,hf1⟩ hz1 hy1 hx1;refine szz w1 w ?_;intros;dsimp only
   have hbb2:b<w.heap.size+2:=by omega
   have hbb3:b<w.heap.size+1+1:=by omega
   have hbb1:b<w1.heap.size:=by omega
   go_wp2_with fail
   refine (hq1 _ (HX1.out.keep (z05 bel)) (HF.out.now bel)).mono ?_;rintro e w2 ⟨rfl,hb2⟩;refine zb hb2 ?_;rintro ⟨hc2,hf2⟩ hz2 hy2 hx2;refine szz w2 w ?_;intros;refine szz w2 w1 ?_;intros;dsimp only
   go_wp2_with (go_at_call 129;refine (z68 _ _).mono ?_;rintro e w6 ⟨rfl,hb6⟩;refine zb hb6 ?_;rintro ⟨hc6,hf6⟩ hz6 hy6 hx6;refine szz w6 w ?_;intros;refine szz w6 w1 ?_;intros;refine szz w6 w2 ?_;intros;dsimp only)
   exact bpr Tryz.results127 (.agg #[.int .i64 5,.int .i64 9,.string ⟨#[]⟩]) ⟨rfl,bel⟩
  ·clear hx hsl hch i1 i2 i3 i4 i5 hF hxa ho hp3 hkid IH e0 ha hka h2 hok hv0e e1 ha1 hka1 hxa1 hv1e
   go_enter Tryz.func127,Tryz.ntmps127
   go_wp2_with fail
   refine (hq0 _ (HX0.out.keep (z05 bel)) (HF.out.now bel)).mono ?_;rintro e w1 ⟨rfl,hb1⟩;refine zb hb1 ?_;rintro ⟨hc1,hf1⟩ hz1 hy1 hx1;refine szz w1 w ?_;intros;dsimp only
   have hbb2:b<w.heap.size+2:=by omega
   have hbb3:b<w.heap.size+1+1:=by omega
   have hbb1:b<w1.heap.size:=by omega
   go_wp2_with fail
   refine (hq1 _ (HX1.out.keep (z05 bel)) (HF.out.now bel)).mono ?_;rintro e w2 ⟨rfl,hb2⟩;refine zb hb2 ?_;rintro ⟨hc2,hf2⟩ hz2 hy2 hx2;refine szz w2 w ?_;intros;refine szz w2 w1 ?_;intros;dsimp only
   go_wp2_with fail
   exact bpr Tryz.results127 (.agg #[.int .i64 2,.int .i64 m1,.string s1]) ⟨rfl,bel⟩
  ·clear hx hsl hch i1 i2 i3 i4 i5 hF hxa ho hp3 hkid IH e0 ha hka h2 hok hv0e e1 ha1 hka1 hxa1 hv1e
   go_enter Tryz.func127,Tryz.ntmps127
   go_wp2_with fail
   refine (hq0 _ (HX0.out.keep (z05 bel)) (HF.out.now bel)).mono ?_;rintro e w1 ⟨rfl,hb1⟩;refine zb hb1 ?_;rintro ⟨hc1,hf1⟩ hz1 hy1 hx1;refine szz w1 w ?_;intros;dsimp only
   have hbb2:b<w.heap.size+2:=by omega
   have hbb3:b<w.heap.size+1+1:=by omega
   have hbb1:b<w1.heap.size:=by omega
   go_wp2_with fail
   refine (hq1 _ (HX1.out.keep (z05 bel)) (HF.out.now bel)).mono ?_;rintro e w2 ⟨rfl,hb2⟩;refine zb hb2 ?_;rintro ⟨hc2,hf2⟩ hz2 hy2 hx2;refine szz w2 w ?_;intros;refine szz w2 w1 ?_;intros;dsimp only
   go_wp2_with (go_at_call 129;refine (z68 _ _).mono ?_;rintro e w6 ⟨rfl,hb6⟩;refine zb hb6 ?_;rintro ⟨hc6,hf6⟩ hz6 hy6 hx6;refine szz w6 w ?_;intros;refine szz w6 w1 ?_;intros;refine szz w6 w2 ?_;intros;dsimp only)
   exact bpr Tryz.results127 (.agg #[.int .i64 5,.int .i64 9,.string ⟨#[]⟩]) ⟨rfl,bel⟩
  ·clear hx hsl hch i1 i2 i3 i4 i5 hF hxa ho hp3 hkid IH e0 ha hka h2 hok hv0e e1 ha1 hka1 hxa1 hv1e
   go_enter Tryz.func127,Tryz.ntmps127
   go_wp2_with fail
   refine (hq0 _ (HX0.out.keep (z05 bel)) (HF.out.now bel)).mono ?_;rintro e w1 ⟨rfl,hb1⟩;refine zb hb1 ?_;rintro ⟨hc1,hf1⟩ hz1 hy1 hx1;refine szz w1 w ?_;intros;dsimp only
   have hbb2:b<w.heap.size+2:=by omega
   have hbb3:b<w.heap.size+1+1:=by omega
   have hbb1:b<w1.heap.size:=by omega
   go_wp2_with fail
   refine (hq1 _ (HX1.out.keep (z05 bel)) (HF.out.now bel)).mono ?_;rintro e w2 ⟨rfl,hb2⟩;refine zb hb2 ?_;rintro ⟨hc2,hf2⟩ hz2 hy2 hx2;refine szz w2 w ?_;intros;refine szz w2 w1 ?_;intros;dsimp only
   go_wp2_with fail
   exact bpr Tryz.results127 (.agg #[.int .i64 4,.int .i64 m1,.string s1]) ⟨rfl,bel⟩
  clear hx hsl hch i1 i2 i3 i4 i5 hF hxa ho hp3 hkid IH e0 ha hka h2 hok hv0e e1 ha1 hka1 hxa1 hv1e
  go_enter Tryz.func127,Tryz.ntmps127
  go_wp2_with fail
  refine (hq0 _ (HX0.out.keep (z05 bel)) (HF.out.now bel)).mono ?_;rintro e w1 ⟨rfl,hb1⟩;refine zb hb1 ?_;rintro ⟨hc1,hf1⟩ hz1 hy1 hx1;refine szz w1 w ?_;intros;dsimp only
  have hbb2:b<w.heap.size+2:=by omega
  have hbb3:b<w.heap.size+1+1:=by omega
  have hbb1:b<w1.heap.size:=by omega
  go_wp2_with fail
  refine (hq1 _ (HX1.out.keep (z05 bel)) (HF.out.now bel)).mono ?_;rintro e w2 ⟨rfl,hb2⟩;refine zb hb2 ?_;rintro ⟨hc2,hf2⟩ hz2 hy2 hx2;refine szz w2 w ?_;intros;refine szz w2 w1 ?_;intros;dsimp only
  go_wp2_with fail
  exact bpr Tryz.results127 (.agg #[.int .i64 5,.int .i64 m1,.string s1]) ⟨rfl,bel⟩
 ·rw[z64 (by omega) (by rw[hv0e];rfl),hv0e]
  clear hx hsl hch i1 i2 i3 i4 i5 hF hxa ho hp3 hkid IH e0 ha hka h2 hok hv0e
  go_enter Tryz.func127,Tryz.ntmps127
  go_wp2_with fail
  refine (hq0 _ (HX0.out.keep (z05 bel)) (HF.out.now bel)).mono ?_;rintro e w1 ⟨rfl,hb1⟩;refine zb hb1 ?_;rintro ⟨hc1,hf1⟩ hz1 hy1 hx1;refine szz w1 w ?_;intros;dsimp only
  have hbb2:b<w.heap.size+2:=by omega
  have hbb3:b<w.heap.size+1+1:=by omega
  have hbb1:b<w1.heap.size:=by omega
  go_wp2_with (go_at_call 129;refine (z68 _ _).mono ?_;rintro e w6 ⟨rfl,hb6⟩;refine zb hb6 ?_;rintro ⟨hc6,hf6⟩ hz6 hy6 hx6;refine szz w6 w ?_;intros;refine szz w6 w1 ?_;intros;dsimp only)
  exact bpr Tryz.results127 (.agg #[.int .i64 5,.int .i64 9,.string ⟨#[]⟩]) ⟨rfl,bel⟩
 ·rw[z64 (by omega) (by rw[hv0e];rfl),hv0e]
  clear hx hsl hch i1 i2 i3 i4 i5 hF hxa ho hp3 hkid IH e0 ha hka h2 hok hv0e
  go_enter Tryz.func127,Tryz.ntmps127
  go_wp2_with fail
  refine (hq0 _ (HX0.out.keep (z05 bel)) (HF.out.now bel)).mono ?_;rintro e w1 ⟨rfl,hb1⟩;refine zb hb1 ?_;rintro ⟨hc1,hf1⟩ hz1 hy1 hx1;refine szz w1 w ?_;intros;dsimp only
  have hbb2:b<w.heap.size+2:=by omega
  have hbb3:b<w.heap.size+1+1:=by omega
  have hbb1:b<w1.heap.size:=by omega
  go_wp2_with fail
  exact bpr Tryz.results127 (.agg #[.int .i64 4,.int .i64 m,.string s]) ⟨rfl,bel⟩
 rw[z64 (by omega) (by rw[hv0e];rfl),hv0e]
 clear hx hsl hch i1 i2 i3 i4 i5 hF hxa ho hp3 hkid IH e0 ha hka h2 hok hv0e
 go_enter Tryz.func127,Tryz.ntmps127
 go_wp2_with fail
 refine (hq0 _ (HX0.out.keep (z05 bel)) (HF.out.now bel)).mono ?_;rintro e w1 ⟨rfl,hb1⟩;refine zb hb1 ?_;rintro ⟨hc1,hf1⟩ hz1 hy1 hx1;refine szz w1 w ?_;intros;dsimp only
 have hbb2:b<w.heap.size+2:=by omega
 have hbb3:b<w.heap.size+1+1:=by omega
 have hbb1:b<w1.heap.size:=by omega
 go_wp2_with fail
 exact bpr Tryz.results127 (.agg #[.int .i64 5,.int .i64 m,.string s]) ⟨rfl,bel⟩
theorem valued_16 (x:Exp)(A:Option Addr)(c:Nat)(w:World)(ho:x.op=16)(hp3:(x.args.length:Int)=argsN x.op)(hkid:∀ a∈x.args,a.nodes<=N/\prtN a=0)(hx:XRep w (old w) (x.cs A c) x)(hF:Sl w (old w) 7 RFct F nF l) :
  Calls Tryz.prog 127 #[.agg (x.cs A c).toArray,.slice F nF cF] w (RetV w (opV 16 (x.args.map (evX l)))):=by
 obtain⟨i1,i2,i3,i4,i5,hsl,hch⟩:=hx.kids
 have h2:x.args.length=2:=by
  have h:=hp3
  rw[ho] at h;have h:(x.args.length:Int)=2:=h;omega
 obtain⟨b,o,a,X,C,rfl,hbl,ha,hxa,x0,x1,x2,x3,x4,x5⟩:=kid0 hsl (by omega)
 have hka:=hkid a (List.mem_of_getElem? ha)
 have hq0:=fun w h h'=>IH a X C w hka.1 hka.2 h h'
 have HX0:=zh hxa
 have HF:=zh hF
 have hv0e:vAt (x.args.map (evX l)) 0=evX l a:=zag l ha
 have hok:=z5a hl a.nodes a (nr _) hka.2
 obtain⟨v0,e0⟩:∃ v,evX l a=v:=⟨_,rfl⟩
 rw[e0] at hq0 hv0e hok
 have hn0:0<x.args.length:=by omega
 have hn1:1<x.args.length:=by omega
 have hn2:(1:Int)<(x.args.length:Int):=by omega
 have ho1:(x.op==1)=false:=by rw[ho];rfl
 have ho2:(x.op==2)=false:=by rw[ho];rfl
 have ho15:(x.op==15)=false:=by rw[ho];rfl
 have ho16:(x.op==16)=true:=by rw[ho];rfl
 have ho17:(x.op==17)=false:=by rw[ho];rfl
 obtain⟨m,s,hv⟩:=z6x hok
 rcases hv with rfl | ⟨rfl,hm01⟩ | rfl | rfl | rfl
 ·rw[z64 (by omega) (by rw[hv0e];rfl),hv0e]
  clear hx hsl hch i1 i2 i3 i4 i5 hF hxa ho hp3 hkid IH e0 ha hka h2 hok hv0e
  go_enter Tryz.func127,Tryz.ntmps127
  go_wp2_with fail
  refine (hq0 _ (HX0.out.keep (z05 bel)) (HF.out.now bel)).mono ?_;rintro e w1 ⟨rfl,hb1⟩;refine zb hb1 ?_;rintro ⟨hc1,hf1⟩ hz1 hy1 hx1;refine szz w1 w ?_;intros;dsimp only
  have hbb2:b<w.heap.size+2:=by omega
  have hbb3:b<w.heap.size+1+1:=by omega
  have hbb1:b<w1.heap.size:=by omega
  go_wp2_with (go_at_call 129;refine (z68 _ _).mono ?_;rintro e w6 ⟨rfl,hb6⟩;refine zb hb6 ?_;rintro ⟨hc6,hf6⟩ hz6 hy6 hx6;refine szz w6 w ?_;intros;refine szz w6 w1 ?_;intros;dsimp only)
  exact bpr Tryz.results127 (.agg #[.int .i64 5,.int .i64 9,.string ⟨#[]⟩]) ⟨rfl,bel⟩
 ·rcases hm01 with rfl | rfl
  ·obtain⟨a1,X1,C1,ha1,hxa1,y0,y1,y2,y3,y4,y5⟩:=kid1 hsl (by omega)
   have hka1:=hkid a1 (List.mem_of_getElem? ha1)
   have hq1:=fun w h h'=>IH a1 X1 C1 w hka1.1 hka1.2 h h'
   have HX1:=zh hxa1
   have hv1e:vAt (x.args.map (evX l)) 1=evX l a1:=zag l ha1
   have hok1:=z5a hl a1.nodes a1 (nr _) hka1.2
   obtain⟨v1,e1⟩:∃ v,evX l a1=v:=⟨_,rfl⟩
   rw[e1] at hq1 hv1e hok1
   rw[opV_long (by omega) hv0e (by simp),hv1e]
   obtain⟨m1,s1,hv1⟩:=z6x hok1
   rcases hv1 with rfl | ⟨rfl,_⟩ | rfl | rfl | rfl
   ·clear hx hsl hch i1 i2 i3 i4 i5 hF hxa ho hp3 hkid IH e0 ha hka h2 hok hv0e e1 ha1 hka1 hxa1 hv1e
    go_enter Tryz.func127,Tryz.ntmps127
    go_wp2_with fail
    refine (hq0 _ (HX0.out.keep (z05 bel)) (HF.out.now bel)).mono ?_;rintro e w1 ⟨rfl,hb1⟩;refine zb hb1 ?_;rintro ⟨hc1,hf1⟩ hz1 hy1 hx1;refine szz w1 w ?_;intros;dsimp only
    have hbb2:b<w.heap.size+2:=by omega
    have hbb3:b<w.heap.size+1+1:=by omega
    have hbb1:b<w1.heap.size:=by omega
    go_wp2_with fail
    refine (hq1 _ (HX1.out.keep (z05 bel)) (HF.out.now bel)).mono ?_;rintro e w2 ⟨rfl,hb2⟩;refine zb hb2 ?_;rintro ⟨hc2,hf2⟩ hz2 hy2 hx2;refine szz w2 w ?_;intros;refine szz w2 w1 ?_;intros;dsimp only
    go_wp2_with (go_at_call 129;refine (z68 _ _).mono ?_;rintro e w6 ⟨rfl,hb6⟩;refine zb hb6 ?_;rintro ⟨hc6,hf6⟩ hz6 hy6 hx6;refine szz w6 w ?_;intros;refine szz w6 w1 ?_;intros;refine szz w6 w2 ?_;intros;dsimp only)
    exact bpr Tryz.results127 (.agg #[.int .i64 5,.int .i64 9,.string ⟨#[]⟩]) ⟨rfl,bel⟩
   ·clear hx hsl hch i1 i2 i3 i4 i5 hF hxa ho hp3 hkid IH e0 ha hka h2 hok hv0e e1 ha1 hka1 hxa1 hv1e
    go_enter Tryz.func127,Tryz.ntmps127
    go_wp2_with fail
    refine (hq0 _ (HX0.out.keep (z05 bel)) (HF.out.now bel)).mono ?_;rintro e w1 ⟨rfl,hb1⟩;refine zb hb1 ?_;rintro ⟨hc1,hf1⟩ hz1 hy1 hx1;refine szz w1 w ?_;intros;dsimp only
    have hbb2:b<w.heap.size+2:=by omega
    have hbb3:b<w.heap.size+1+1:=by omega
    have hbb1:b<w1.heap.size:=by omega
    go_wp2_with fail
    refine (hq1 _ (HX1.out.keep (z05 bel)) (HF.out.now bel)).mono ?_;rintro e w2 ⟨rfl,hb2⟩;refine zb hb2 ?_;rintro ⟨hc2,hf2⟩ hz2 hy2 hx2;refine szz w2 w ?_;intros;refine szz w2 w1 ?_;intros;dsimp only
    go_wp2_with fail
    exact bpr Tryz.results127 (.agg #[.int .i64 2,.int .i64 m1,.string s1]) ⟨rfl,bel⟩
   ·clear hx hsl hch i1 i2 i3 i4 i5 hF hxa ho hp3 hkid IH e0 ha hka h2 hok hv0e e1 ha1 hka1 hxa1 hv1e
    go_enter Tryz.func127,Tryz.ntmps127
    go_wp2_with fail
    refine (hq0 _ (HX0.out.keep (z05 bel)) (HF.out.now bel)).mono ?_;rintro e w1 ⟨rfl,hb1⟩;refine zb hb1 ?_;rintro ⟨hc1,hf1⟩ hz1 hy1 hx1;refine szz w1 w ?_;intros;dsimp only
    have hbb2:b<w.heap.size+2:=by omega
    have hbb3:b<w.heap.size+1+1:=by omega
    have hbb1:b<w1.heap.size:=by omega
    go_wp2_with fail
    refine (hq1 _ (HX1.out.keep (z05 bel)) (HF.out.now bel)).mono ?_;rintro e w2 ⟨rfl,hb2⟩;refine zb hb2 ?_;rintro ⟨hc2,hf2⟩ hz2 hy2 hx2;refine szz w2 w ?_;intros;refine szz w2 w1 ?_;intros;dsimp only
    go_wp2_with (go_at_call 129;refine (z68 _ _).mono ?_;rintro e w6 ⟨rfl,hb6⟩;refine zb hb6 ?_;rintro ⟨hc6,hf6⟩ hz6 hy6 hx6;refine szz w6 w ?_;intros;refine szz w6 w1 ?_;intros;refine szz w6 w2 ?_;intros;dsimp only)
    exact bpr Tryz.results127 (.agg #[.int .i64 5,.int .i64 9,.string ⟨#[]⟩]) ⟨rfl,bel⟩
   ·clear hx hsl hch i1 i2 i3 i4 i5 hF hxa ho hp3 hkid IH e0 ha hka h2 hok hv0e e1 ha1 hka1 hxa1 hv1e
    go_enter Tryz.func127,Tryz.ntmps127
    go_wp2_with fail
    refine (hq0 _ (HX0.out.keep (z05 bel)) (HF.out.now bel)).mono ?_;rintro e w1 ⟨rfl,hb1⟩;refine zb hb1 ?_;rintro ⟨hc1,hf1⟩ hz1 hy1 hx1;refine szz w1 w ?_;intros;dsimp only
    have hbb2:b<w.heap.size+2:=by omega
    have hbb3:b<w.heap.size+1+1:=by omega
    have hbb1:b<w1.heap.size:=by omega
    go_wp2_with fail
    refine (hq1 _ (HX1.out.keep (z05 bel)) (HF.out.now bel)).mono ?_;rintro e w2 ⟨rfl,hb2⟩;refine zb hb2 ?_;rintro ⟨hc2,hf2⟩ hz2 hy2 hx2;refine szz w2 w ?_;intros;refine szz w2 w1 ?_;intros;dsimp only
    go_wp2_with fail
    exact bpr Tryz.results127 (.agg #[.int .i64 4,.int .i64 m1,.string s1]) ⟨rfl,bel⟩
   clear hx hsl hch i1 i2 i3 i4 i5 hF hxa ho hp3 hkid IH e0 ha hka h2 hok hv0e e1 ha1 hka1 hxa1 hv1e
   go_enter Tryz.func127,Tryz.ntmps127
   go_wp2_with fail
   refine (hq0 _ (HX0.out.keep (z05 bel)) (HF.out.now bel)).mono ?_;rintro e w1 ⟨rfl,hb1⟩;refine zb hb1 ?_;rintro ⟨hc1,hf1⟩ hz1 hy1 hx1;refine szz w1 w ?_;intros;dsimp only
   have hbb2:b<w.heap.size+2:=by omega
   have hbb3:b<w.heap.size+1+1:=by omega
   have hbb1:b<w1.heap.size:=by omega
   go_wp2_with fail
   refine (hq1 _ (HX1.out.keep (z05 bel)) (HF.out.now bel)).mono ?_;rintro e w2 ⟨rfl,hb2⟩;refine zb hb2 ?_;rintro ⟨hc2,hf2⟩ hz2 hy2 hx2;refine szz w2 w ?_;intros;refine szz w2 w1 ?_;intros;dsimp only
   go_wp2_with fail
   exact bpr Tryz.results127 (.agg #[.int .i64 5,.int .i64 m1,.string s1]) ⟨rfl,bel⟩
  rw[opV_short (by omega) hv0e rfl]
  clear hx hsl hch i1 i2 i3 i4 i5 hF hxa ho hp3 hkid IH e0 ha hka h2 hok hv0e
  go_enter Tryz.func127,Tryz.ntmps127
  go_wp2_with fail
  refine (hq0 _ (HX0.out.keep (z05 bel)) (HF.out.now bel)).mono ?_;rintro e w1 ⟨rfl,hb1⟩;refine zb hb1 ?_;rintro ⟨hc1,hf1⟩ hz1 hy1 hx1;refine szz w1 w ?_;intros;dsimp only
  have hbb2:b<w.heap.size+2:=by omega
  have hbb3:b<w.heap.size+1+1:=by omega
  have hbb1:b<w1.heap.size:=by omega
  go_wp2_with fail
  exact bpr Tryz.results127 (.agg #[.int .i64 2,.int .i64 1,.string s]) ⟨rfl,bel⟩
 ·rw[z64 (by omega) (by rw[hv0e];rfl),hv0e]
  clear hx hsl hch i1 i2 i3 i4 i5 hF hxa ho hp3 hkid IH e0 ha hka h2 hok hv0e
  go_enter Tryz.func127,Tryz.ntmps127
  go_wp2_with fail
  refine (hq0 _ (HX0.out.keep (z05 bel)) (HF.out.now bel)).mono ?_;rintro e w1 ⟨rfl,hb1⟩;refine zb hb1 ?_;rintro ⟨hc1,hf1⟩ hz1 hy1 hx1;refine szz w1 w ?_;intros;dsimp only
  have hbb2:b<w.heap.size+2:=by omega
  have hbb3:b<w.heap.size+1+1:=by omega
  have hbb1:b<w1.heap.size:=by omega
  go_wp2_with (go_at_call 129;refine (z68 _ _).mono ?_;rintro e w6 ⟨rfl,hb6⟩;refine zb hb6 ?_;rintro ⟨hc6,hf6⟩ hz6 hy6 hx6;refine szz w6 w ?_;intros;refine szz w6 w1 ?_;intros;dsimp only)
  exact bpr Tryz.results127 (.agg #[.int .i64 5,.int .i64 9,.string ⟨#[]⟩]) ⟨rfl,bel⟩
 ·rw[z64 (by omega) (by rw[hv0e];rfl),hv0e]
  clear hx hsl hch i1 i2 i3 i4 i5 hF hxa ho hp3 hkid IH e0 ha hka h2 hok hv0e
  go_enter Tryz.func127,Tryz.ntmps127
  go_wp2_with fail
  refine (hq0 _ (HX0.out.keep (z05 bel)) (HF.out.now bel)).mono ?_;rintro e w1 ⟨rfl,hb1⟩;refine zb hb1 ?_;rintro ⟨hc1,hf1⟩ hz1 hy1 hx1;refine szz w1 w ?_;intros;dsimp only
  have hbb2:b<w.heap.size+2:=by omega
  have hbb3:b<w.heap.size+1+1:=by omega
  have hbb1:b<w1.heap.size:=by omega
  go_wp2_with fail
  exact bpr Tryz.results127 (.agg #[.int .i64 4,.int .i64 m,.string s]) ⟨rfl,bel⟩
 rw[z64 (by omega) (by rw[hv0e];rfl),hv0e]
 clear hx hsl hch i1 i2 i3 i4 i5 hF hxa ho hp3 hkid IH e0 ha hka h2 hok hv0e
 go_enter Tryz.func127,Tryz.ntmps127
 go_wp2_with fail
 refine (hq0 _ (HX0.out.keep (z05 bel)) (HF.out.now bel)).mono ?_;rintro e w1 ⟨rfl,hb1⟩;refine zb hb1 ?_;rintro ⟨hc1,hf1⟩ hz1 hy1 hx1;refine szz w1 w ?_;intros;dsimp only
 have hbb2:b<w.heap.size+2:=by omega
 have hbb3:b<w.heap.size+1+1:=by omega
 have hbb1:b<w1.heap.size:=by omega
 go_wp2_with fail
 exact bpr Tryz.results127 (.agg #[.int .i64 5,.int .i64 m,.string s]) ⟨rfl,bel⟩
theorem valued_17 (x:Exp)(A:Option Addr)(c:Nat)(w:World)(ho:x.op=17)(hp3:(x.args.length:Int)=argsN x.op)(hkid:∀ a∈x.args,a.nodes<=N/\prtN a=0)(hx:XRep w (old w) (x.cs A c) x)(hF:Sl w (old w) 7 RFct F nF l) :
  Calls Tryz.prog 127 #[.agg (x.cs A c).toArray,.slice F nF cF] w (RetV w (opV 17 (x.args.map (evX l)))):=by
 obtain⟨i1,i2,i3,i4,i5,hsl,hch⟩:=hx.kids
 have h2:x.args.length=3:=by
  have h:=hp3
  rw[ho] at h;have h:(x.args.length:Int)=3:=h;omega
 obtain⟨b,o,a,X,C,rfl,hbl,ha,hxa,x0,x1,x2,x3,x4,x5⟩:=kid0 hsl (by omega)
 have hka:=hkid a (List.mem_of_getElem? ha)
 have hq0:=fun w h h'=>IH a X C w hka.1 hka.2 h h'
 have HX0:=zh hxa
 have HF:=zh hF
 have hv0e:vAt (x.args.map (evX l)) 0=evX l a:=zag l ha
 have hok:=z5a hl a.nodes a (nr _) hka.2
 obtain⟨v0,e0⟩:∃ v,evX l a=v:=⟨_,rfl⟩
 rw[e0] at hq0 hv0e hok
 have hn0:0<x.args.length:=by omega
 have hn1:1<x.args.length:=by omega
 have hn2:(1:Int)<(x.args.length:Int):=by omega
 have hn3:2<x.args.length:=by omega
 have hn4:(2:Int)<(x.args.length:Int):=by omega
 have ho1:(x.op==1)=false:=by rw[ho];rfl
 have ho2:(x.op==2)=false:=by rw[ho];rfl
 have ho15:(x.op==15)=false:=by rw[ho];rfl
 have ho16:(x.op==16)=false:=by rw[ho];rfl
 have ho17:(x.op==17)=true:=by rw[ho];rfl
 obtain⟨m,s,hv⟩:=z6x hok
 rcases hv with rfl | ⟨rfl,hm01⟩ | rfl | rfl | rfl
 ·rw[opV_if0 (by rw[hv0e];rfl),hv0e]
  clear hx hsl hch i1 i2 i3 i4 i5 hF hxa ho hp3 hkid IH e0 ha hka h2 hok hv0e
  go_enter Tryz.func127,Tryz.ntmps127
  go_wp2_with fail
  refine (hq0 _ (HX0.out.keep (z05 bel)) (HF.out.now bel)).mono ?_;rintro e w1 ⟨rfl,hb1⟩;refine zb hb1 ?_;rintro ⟨hc1,hf1⟩ hz1 hy1 hx1;refine szz w1 w ?_;intros;dsimp only
  have hbb2:b<w.heap.size+2:=by omega
  have hbb3:b<w.heap.size+1+1:=by omega
  have hbb1:b<w1.heap.size:=by omega
  go_wp2_with (go_at_call 129;refine (z68 _ _).mono ?_;rintro e w6 ⟨rfl,hb6⟩;refine zb hb6 ?_;rintro ⟨hc6,hf6⟩ hz6 hy6 hx6;refine szz w6 w ?_;intros;refine szz w6 w1 ?_;intros;dsimp only)
  exact bpr Tryz.results127 (.agg #[.int .i64 5,.int .i64 9,.string ⟨#[]⟩]) ⟨rfl,bel⟩
 ·rcases hm01 with rfl | rfl
  ·obtain⟨a1,X1,C1,ha1,hxa1,y0,y1,y2,y3,y4,y5⟩:=kid2 hsl (by omega)
   have hka1:=hkid a1 (List.mem_of_getElem? ha1)
   have hq1:=fun w h h'=>IH a1 X1 C1 w hka1.1 hka1.2 h h'
   have HX1:=zh hxa1
   have hv1e:vAt (x.args.map (evX l)) 2=evX l a1:=zag l ha1
   have hok1:=z5a hl a1.nodes a1 (nr _) hka1.2
   obtain⟨v1,e1⟩:∃ v,evX l a1=v:=⟨_,rfl⟩
   rw[e1] at hq1 hv1e hok1
   rw[opV_if2 hv0e,hv1e]
   clear hx hsl hch i1 i2 i3 i4 i5 hF hxa ho hp3 hkid IH e0 ha hka h2 hok hv0e e1 ha1 hka1 hxa1 hv1e
   go_enter Tryz.func127,Tryz.ntmps127
   go_wp2_with fail
   refine (hq0 _ (HX0.out.keep (z05 bel)) (HF.out.now bel)).mono ?_;rintro e w1 ⟨rfl,hb1⟩;refine zb hb1 ?_;rintro ⟨hc1,hf1⟩ hz1 hy1 hx1;refine szz w1 w ?_;intros;dsimp only
   have hbb2:b<w.heap.size+2:=by omega
   have hbb3:b<w.heap.size+1+1:=by omega
   have hbb1:b<w1.heap.size:=by omega
   go_wp2_with fail
   refine (hq1 _ (HX1.out.keep (z05 bel)) (HF.out.now bel)).mono ?_;rintro e w2 ⟨rfl,hb2⟩;refine zb hb2 ?_;rintro ⟨hc2,hf2⟩ hz2 hy2 hx2;refine szz w2 w ?_;intros;refine szz w2 w1 ?_;intros;dsimp only
   go_wp2_with fail
   exact bpr Tryz.results127 (.agg #[.int .i64 v1.k,.int .i64 v1.n,.string v1.s]) ⟨rfl,bel⟩
  obtain⟨a1,X1,C1,ha1,hxa1,y0,y1,y2,y3,y4,y5⟩:=kid1 hsl (by omega)
  have hka1:=hkid a1 (List.mem_of_getElem? ha1)
  have hq1:=fun w h h'=>IH a1 X1 C1 w hka1.1 hka1.2 h h'
  have HX1:=zh hxa1
  have hv1e:vAt (x.args.map (evX l)) 1=evX l a1:=zag l ha1
  have hok1:=z5a hl a1.nodes a1 (nr _) hka1.2
  obtain⟨v1,e1⟩:∃ v,evX l a1=v:=⟨_,rfl⟩
  rw[e1] at hq1 hv1e hok1
  rw[opV_if1 hv0e,hv1e]
  clear hx hsl hch i1 i2 i3 i4 i5 hF hxa ho hp3 hkid IH e0 ha hka h2 hok hv0e e1 ha1 hka1 hxa1 hv1e
  go_enter Tryz.func127,Tryz.ntmps127
  go_wp2_with fail
  refine (hq0 _ (HX0.out.keep (z05 bel)) (HF.out.now bel)).mono ?_;rintro e w1 ⟨rfl,hb1⟩;refine zb hb1 ?_;rintro ⟨hc1,hf1⟩ hz1 hy1 hx1;refine szz w1 w ?_;intros;dsimp only
  have hbb2:b<w.heap.size+2:=by omega
  have hbb3:b<w.heap.size+1+1:=by omega
  have hbb1:b<w1.heap.size:=by omega
  go_wp2_with fail
  refine (hq1 _ (HX1.out.keep (z05 bel)) (HF.out.now bel)).mono ?_;rintro e w2 ⟨rfl,hb2⟩;refine zb hb2 ?_;rintro ⟨hc2,hf2⟩ hz2 hy2 hx2;refine szz w2 w ?_;intros;refine szz w2 w1 ?_;intros;dsimp only
  go_wp2_with fail
  exact bpr Tryz.results127 (.agg #[.int .i64 v1.k,.int .i64 v1.n,.string v1.s]) ⟨rfl,bel⟩
 ·rw[opV_if0 (by rw[hv0e];rfl),hv0e]
  clear hx hsl hch i1 i2 i3 i4 i5 hF hxa ho hp3 hkid IH e0 ha hka h2 hok hv0e
  go_enter Tryz.func127,Tryz.ntmps127
  go_wp2_with fail
  refine (hq0 _ (HX0.out.keep (z05 bel)) (HF.out.now bel)).mono ?_;rintro e w1 ⟨rfl,hb1⟩;refine zb hb1 ?_;rintro ⟨hc1,hf1⟩ hz1 hy1 hx1;refine szz w1 w ?_;intros;dsimp only
  have hbb2:b<w.heap.size+2:=by omega
  have hbb3:b<w.heap.size+1+1:=by omega
  have hbb1:b<w1.heap.size:=by omega
  go_wp2_with (go_at_call 129;refine (z68 _ _).mono ?_;rintro e w6 ⟨rfl,hb6⟩;refine zb hb6 ?_;rintro ⟨hc6,hf6⟩ hz6 hy6 hx6;refine szz w6 w ?_;intros;refine szz w6 w1 ?_;intros;dsimp only)
  exact bpr Tryz.results127 (.agg #[.int .i64 5,.int .i64 9,.string ⟨#[]⟩]) ⟨rfl,bel⟩
 ·rw[opV_if0 (by rw[hv0e];rfl),hv0e]
  clear hx hsl hch i1 i2 i3 i4 i5 hF hxa ho hp3 hkid IH e0 ha hka h2 hok hv0e
  go_enter Tryz.func127,Tryz.ntmps127
  go_wp2_with fail
  refine (hq0 _ (HX0.out.keep (z05 bel)) (HF.out.now bel)).mono ?_;rintro e w1 ⟨rfl,hb1⟩;refine zb hb1 ?_;rintro ⟨hc1,hf1⟩ hz1 hy1 hx1;refine szz w1 w ?_;intros;dsimp only
  have hbb2:b<w.heap.size+2:=by omega
  have hbb3:b<w.heap.size+1+1:=by omega
  have hbb1:b<w1.heap.size:=by omega
  go_wp2_with fail
  exact bpr Tryz.results127 (.agg #[.int .i64 4,.int .i64 m,.string s]) ⟨rfl,bel⟩
 rw[opV_if0 (by rw[hv0e];rfl),hv0e]
 clear hx hsl hch i1 i2 i3 i4 i5 hF hxa ho hp3 hkid IH e0 ha hka h2 hok hv0e
 go_enter Tryz.func127,Tryz.ntmps127
 go_wp2_with fail
 refine (hq0 _ (HX0.out.keep (z05 bel)) (HF.out.now bel)).mono ?_;rintro e w1 ⟨rfl,hb1⟩;refine zb hb1 ?_;rintro ⟨hc1,hf1⟩ hz1 hy1 hx1;refine szz w1 w ?_;intros;dsimp only
 have hbb2:b<w.heap.size+2:=by omega
 have hbb3:b<w.heap.size+1+1:=by omega
 have hbb1:b<w1.heap.size:=by omega
 go_wp2_with fail
 exact bpr Tryz.results127 (.agg #[.int .i64 5,.int .i64 m,.string s]) ⟨rfl,bel⟩
end
end Go.Proofs.YtldhlpjjcnlbcaaGreat
