/- The reference valued, wholly. (Printed by mkvals.py.) -/
import Derived.Test.YtbhkpepinogigaaGreatVald
namespace Go.Proofs.YtbhkpepinogigaaGreat
open Go.RowKit Go.Maps

section
variable (l:List Fct) (hl:factsOk l) (F:Option Addr) (nF cF N:Nat) (IH:ValN l F nF cF N)
include hl IH
set_option maxRecDepth 100000 in
set_option maxHeartbeats 8000000 in
theorem valued_15 (x:Exp) (A:Option Addr) (c:Nat) (w:World) (ho:x.op = 15) (hp3:(x.args.length:Int) = argsN x.op) (hkid:∀ a ∈ x.args,a.nodes ≤ N ∧ prtN a = 0) (hx:XRep w (old w) (x.cs A c) x) (hF:Sl w (old w) 7 RFct F nF l) :
  Calls Tryz.prog 137 #[.agg (x.cs A c).toArray,.slice F nF cF] w (RetV w (opV 15 (x.args.map (evX l)))):=by
 obtain ⟨i1,i2,i3,i4,i5,hsl,hch⟩:=hx.kids
 have h2:x.args.length = 2:=by
  have h:=hp3
  rw [ho] at h;have h:(x.args.length:Int) = 2:=h;omega
 obtain ⟨b,o,a,X,C,rfl,hbl,ha,hxa,x0,x1,x2,x3,x4,x5⟩:=kid0 hsl (by omega)
 have hka:=hkid a (List.mem_of_getElem? ha)
 have hq0:=fun w h h' => IH a X C w hka.1 hka.2 h h'
 have HX0:=Lib.hid hxa
 have HF:=Lib.hid hF
 have hv0e:vAt (x.args.map (evX l)) 0 = evX l a:=evX_at l ha
 have hok:=evX_ok hl a.nodes a (Nat.le_refl _) hka.2
 obtain ⟨v0,e0⟩:∃ v,evX l a = v:=⟨_,rfl⟩
 rw [e0] at hq0 hv0e hok
 have hn0:0 < x.args.length:=by omega
 have hn1:1 < x.args.length:=by omega
 have hn2:(1:Int) < (x.args.length:Int):=by omega
 have ho1:(x.op == 1) = false:=by rw [ho];rfl
 have ho2:(x.op == 2) = false:=by rw [ho];rfl
 have ho15:(x.op == 15) = true:=by rw [ho];rfl
 have ho16:(x.op == 16) = false:=by rw [ho];rfl
 have ho17:(x.op == 17) = false:=by rw [ho];rfl
 obtain ⟨m,s,hv⟩:=val_five hok
 rcases hv with rfl | ⟨rfl,hm01⟩ | rfl | rfl | rfl
 ·rw [opV_first (by omega) (by rw [hv0e];rfl),hv0e]
  clear hx hsl hch i1 i2 i3 i4 i5 hF hxa ho hp3 hkid IH e0 ha hka h2 hok hv0e
  go_enter Tryz.func137,Tryz.ntmps137
  go_wp2_with fail
  refine (hq0 _ (HX0.out.keep (old_keep bel)) (HF.out.now bel)).mono ?_;rintro e w1 ⟨rfl,hb1⟩;obtain ⟨hc1,hf1⟩:=bcell hb1;(try simp only [bqh,bqc,bqf] at hc1 hf1);have hz1:=hb1.size;(try simp at hz1);(try have hy1:=nl1 hz1);(try have hx1:=nl2 hy1);refine szz w1 w ?_;intros;dsimp only
  have hbb2:b < w.heap.size + 2:=by omega
  have hbb3:b < w.heap.size + 1 + 1:=by omega
  have hbb1:b < w1.heap.size:=by omega
  go_wp2_with (go_at_call 183;refine (ref_no _ _).mono ?_;rintro e w6 ⟨rfl,hb6⟩;obtain ⟨hc6,hf6⟩:=bcell hb6;(try simp only [bqh,bqc,bqf] at hc6 hf6);have hz6:=hb6.size;(try simp at hz6);(try have hy6:=nl1 hz6);(try have hx6:=nl2 hy6);refine szz w6 w ?_;intros;refine szz w6 w1 ?_;intros;dsimp only)
  exact bodyPost_ret (v:=.agg #[.int .i64 5,.int .i64 9,.string ⟨#[]⟩]) (by first | (simp [results,Tryz.results137,go_sem];done) | (simp [results,Tryz.results137,go_sem, *];done)) rfl ⟨rfl,bel⟩
 ·rcases hm01 with rfl | rfl
  ·rw [opV_short (by omega) hv0e rfl]
   clear hx hsl hch i1 i2 i3 i4 i5 hF hxa ho hp3 hkid IH e0 ha hka h2 hok hv0e
   go_enter Tryz.func137,Tryz.ntmps137
   go_wp2_with fail
   refine (hq0 _ (HX0.out.keep (old_keep bel)) (HF.out.now bel)).mono ?_;rintro e w1 ⟨rfl,hb1⟩;obtain ⟨hc1,hf1⟩:=bcell hb1;(try simp only [bqh,bqc,bqf] at hc1 hf1);have hz1:=hb1.size;(try simp at hz1);(try have hy1:=nl1 hz1);(try have hx1:=nl2 hy1);refine szz w1 w ?_;intros;dsimp only
   have hbb2:b < w.heap.size + 2:=by omega
   have hbb3:b < w.heap.size + 1 + 1:=by omega
   have hbb1:b < w1.heap.size:=by omega
   go_wp2_with fail
   exact bodyPost_ret (v:=.agg #[.int .i64 2,.int .i64 0,.string s]) (by first | (simp [results,Tryz.results137,go_sem];done) | (simp [results,Tryz.results137,go_sem, *];done)) rfl ⟨rfl,bel⟩
  ·obtain ⟨a1,X1,C1,ha1,hxa1,y0,y1,y2,y3,y4,y5⟩:=kid1 hsl (by omega)
   have hka1:=hkid a1 (List.mem_of_getElem? ha1)
   have hq1:=fun w h h' => IH a1 X1 C1 w hka1.1 hka1.2 h h'
   have HX1:=Lib.hid hxa1
   have hv1e:vAt (x.args.map (evX l)) 1 = evX l a1:=evX_at l ha1
   have hok1:=evX_ok hl a1.nodes a1 (Nat.le_refl _) hka1.2
   obtain ⟨v1,e1⟩:∃ v,evX l a1 = v:=⟨_,rfl⟩
   rw [e1] at hq1 hv1e hok1
   rw [opV_long (by omega) hv0e (by simp),hv1e]
   obtain ⟨m1,s1,hv1⟩:=val_five hok1
   rcases hv1 with rfl | ⟨rfl,_⟩ | rfl | rfl | rfl
   ·clear hx hsl hch i1 i2 i3 i4 i5 hF hxa ho hp3 hkid IH e0 ha hka h2 hok hv0e e1 ha1 hka1 hxa1 hv1e
    go_enter Tryz.func137,Tryz.ntmps137
    go_wp2_with fail
    refine (hq0 _ (HX0.out.keep (old_keep bel)) (HF.out.now bel)).mono ?_;rintro e w1 ⟨rfl,hb1⟩;obtain ⟨hc1,hf1⟩:=bcell hb1;(try simp only [bqh,bqc,bqf] at hc1 hf1);have hz1:=hb1.size;(try simp at hz1);(try have hy1:=nl1 hz1);(try have hx1:=nl2 hy1);refine szz w1 w ?_;intros;dsimp only
    have hbb2:b < w.heap.size + 2:=by omega
    have hbb3:b < w.heap.size + 1 + 1:=by omega
    have hbb1:b < w1.heap.size:=by omega
    go_wp2_with fail
    refine (hq1 _ (HX1.out.keep (old_keep bel)) (HF.out.now bel)).mono ?_;rintro e w2 ⟨rfl,hb2⟩;obtain ⟨hc2,hf2⟩:=bcell hb2;(try simp only [bqh,bqc,bqf] at hc2 hf2);have hz2:=hb2.size;(try simp at hz2);(try have hy2:=nl1 hz2);(try have hx2:=nl2 hy2);refine szz w2 w ?_;intros;refine szz w2 w1 ?_;intros;dsimp only
    go_wp2_with (go_at_call 183;refine (ref_no _ _).mono ?_;rintro e w6 ⟨rfl,hb6⟩;obtain ⟨hc6,hf6⟩:=bcell hb6;(try simp only [bqh,bqc,bqf] at hc6 hf6);have hz6:=hb6.size;(try simp at hz6);(try have hy6:=nl1 hz6);(try have hx6:=nl2 hy6);refine szz w6 w ?_;intros;refine szz w6 w1 ?_;intros;refine szz w6 w2 ?_;intros;dsimp only)
    exact bodyPost_ret (v:=.agg #[.int .i64 5,.int .i64 9,.string ⟨#[]⟩]) (by first | (simp [results,Tryz.results137,go_sem];done) | (simp [results,Tryz.results137,go_sem, *];done)) rfl ⟨rfl,bel⟩
   ·clear hx hsl hch i1 i2 i3 i4 i5 hF hxa ho hp3 hkid IH e0 ha hka h2 hok hv0e e1 ha1 hka1 hxa1 hv1e
    go_enter Tryz.func137,Tryz.ntmps137
    go_wp2_with fail
    refine (hq0 _ (HX0.out.keep (old_keep bel)) (HF.out.now bel)).mono ?_;rintro e w1 ⟨rfl,hb1⟩;obtain ⟨hc1,hf1⟩:=bcell hb1;(try simp only [bqh,bqc,bqf] at hc1 hf1);have hz1:=hb1.size;(try simp at hz1);(try have hy1:=nl1 hz1);(try have hx1:=nl2 hy1);refine szz w1 w ?_;intros;dsimp only
    have hbb2:b < w.heap.size + 2:=by omega
    have hbb3:b < w.heap.size + 1 + 1:=by omega
    have hbb1:b < w1.heap.size:=by omega
    go_wp2_with fail
    refine (hq1 _ (HX1.out.keep (old_keep bel)) (HF.out.now bel)).mono ?_;rintro e w2 ⟨rfl,hb2⟩;obtain ⟨hc2,hf2⟩:=bcell hb2;(try simp only [bqh,bqc,bqf] at hc2 hf2);have hz2:=hb2.size;(try simp at hz2);(try have hy2:=nl1 hz2);(try have hx2:=nl2 hy2);refine szz w2 w ?_;intros;refine szz w2 w1 ?_;intros;dsimp only
    go_wp2_with fail
    exact bodyPost_ret (v:=.agg #[.int .i64 2,.int .i64 m1,.string s1]) (by first | (simp [results,Tryz.results137,go_sem];done) | (simp [results,Tryz.results137,go_sem, *];done)) rfl ⟨rfl,bel⟩
   ·clear hx hsl hch i1 i2 i3 i4 i5 hF hxa ho hp3 hkid IH e0 ha hka h2 hok hv0e e1 ha1 hka1 hxa1 hv1e
    go_enter Tryz.func137,Tryz.ntmps137
    go_wp2_with fail
    refine (hq0 _ (HX0.out.keep (old_keep bel)) (HF.out.now bel)).mono ?_;rintro e w1 ⟨rfl,hb1⟩;obtain ⟨hc1,hf1⟩:=bcell hb1;(try simp only [bqh,bqc,bqf] at hc1 hf1);have hz1:=hb1.size;(try simp at hz1);(try have hy1:=nl1 hz1);(try have hx1:=nl2 hy1);refine szz w1 w ?_;intros;dsimp only
    have hbb2:b < w.heap.size + 2:=by omega
    have hbb3:b < w.heap.size + 1 + 1:=by omega
    have hbb1:b < w1.heap.size:=by omega
    go_wp2_with fail
    refine (hq1 _ (HX1.out.keep (old_keep bel)) (HF.out.now bel)).mono ?_;rintro e w2 ⟨rfl,hb2⟩;obtain ⟨hc2,hf2⟩:=bcell hb2;(try simp only [bqh,bqc,bqf] at hc2 hf2);have hz2:=hb2.size;(try simp at hz2);(try have hy2:=nl1 hz2);(try have hx2:=nl2 hy2);refine szz w2 w ?_;intros;refine szz w2 w1 ?_;intros;dsimp only
    go_wp2_with (go_at_call 183;refine (ref_no _ _).mono ?_;rintro e w6 ⟨rfl,hb6⟩;obtain ⟨hc6,hf6⟩:=bcell hb6;(try simp only [bqh,bqc,bqf] at hc6 hf6);have hz6:=hb6.size;(try simp at hz6);(try have hy6:=nl1 hz6);(try have hx6:=nl2 hy6);refine szz w6 w ?_;intros;refine szz w6 w1 ?_;intros;refine szz w6 w2 ?_;intros;dsimp only)
    exact bodyPost_ret (v:=.agg #[.int .i64 5,.int .i64 9,.string ⟨#[]⟩]) (by first | (simp [results,Tryz.results137,go_sem];done) | (simp [results,Tryz.results137,go_sem, *];done)) rfl ⟨rfl,bel⟩
   ·clear hx hsl hch i1 i2 i3 i4 i5 hF hxa ho hp3 hkid IH e0 ha hka h2 hok hv0e e1 ha1 hka1 hxa1 hv1e
    go_enter Tryz.func137,Tryz.ntmps137
    go_wp2_with fail
    refine (hq0 _ (HX0.out.keep (old_keep bel)) (HF.out.now bel)).mono ?_;rintro e w1 ⟨rfl,hb1⟩;obtain ⟨hc1,hf1⟩:=bcell hb1;(try simp only [bqh,bqc,bqf] at hc1 hf1);have hz1:=hb1.size;(try simp at hz1);(try have hy1:=nl1 hz1);(try have hx1:=nl2 hy1);refine szz w1 w ?_;intros;dsimp only
    have hbb2:b < w.heap.size + 2:=by omega
    have hbb3:b < w.heap.size + 1 + 1:=by omega
    have hbb1:b < w1.heap.size:=by omega
    go_wp2_with fail
    refine (hq1 _ (HX1.out.keep (old_keep bel)) (HF.out.now bel)).mono ?_;rintro e w2 ⟨rfl,hb2⟩;obtain ⟨hc2,hf2⟩:=bcell hb2;(try simp only [bqh,bqc,bqf] at hc2 hf2);have hz2:=hb2.size;(try simp at hz2);(try have hy2:=nl1 hz2);(try have hx2:=nl2 hy2);refine szz w2 w ?_;intros;refine szz w2 w1 ?_;intros;dsimp only
    go_wp2_with fail
    exact bodyPost_ret (v:=.agg #[.int .i64 4,.int .i64 m1,.string s1]) (by first | (simp [results,Tryz.results137,go_sem];done) | (simp [results,Tryz.results137,go_sem, *];done)) rfl ⟨rfl,bel⟩
   ·clear hx hsl hch i1 i2 i3 i4 i5 hF hxa ho hp3 hkid IH e0 ha hka h2 hok hv0e e1 ha1 hka1 hxa1 hv1e
    go_enter Tryz.func137,Tryz.ntmps137
    go_wp2_with fail
    refine (hq0 _ (HX0.out.keep (old_keep bel)) (HF.out.now bel)).mono ?_;rintro e w1 ⟨rfl,hb1⟩;obtain ⟨hc1,hf1⟩:=bcell hb1;(try simp only [bqh,bqc,bqf] at hc1 hf1);have hz1:=hb1.size;(try simp at hz1);(try have hy1:=nl1 hz1);(try have hx1:=nl2 hy1);refine szz w1 w ?_;intros;dsimp only
    have hbb2:b < w.heap.size + 2:=by omega
    have hbb3:b < w.heap.size + 1 + 1:=by omega
    have hbb1:b < w1.heap.size:=by omega
    go_wp2_with fail
    refine (hq1 _ (HX1.out.keep (old_keep bel)) (HF.out.now bel)).mono ?_;rintro e w2 ⟨rfl,hb2⟩;obtain ⟨hc2,hf2⟩:=bcell hb2;(try simp only [bqh,bqc,bqf] at hc2 hf2);have hz2:=hb2.size;(try simp at hz2);(try have hy2:=nl1 hz2);(try have hx2:=nl2 hy2);refine szz w2 w ?_;intros;refine szz w2 w1 ?_;intros;dsimp only
    go_wp2_with fail
    exact bodyPost_ret (v:=.agg #[.int .i64 5,.int .i64 m1,.string s1]) (by first | (simp [results,Tryz.results137,go_sem];done) | (simp [results,Tryz.results137,go_sem, *];done)) rfl ⟨rfl,bel⟩
 ·rw [opV_first (by omega) (by rw [hv0e];rfl),hv0e]
  clear hx hsl hch i1 i2 i3 i4 i5 hF hxa ho hp3 hkid IH e0 ha hka h2 hok hv0e
  go_enter Tryz.func137,Tryz.ntmps137
  go_wp2_with fail
  refine (hq0 _ (HX0.out.keep (old_keep bel)) (HF.out.now bel)).mono ?_;rintro e w1 ⟨rfl,hb1⟩;obtain ⟨hc1,hf1⟩:=bcell hb1;(try simp only [bqh,bqc,bqf] at hc1 hf1);have hz1:=hb1.size;(try simp at hz1);(try have hy1:=nl1 hz1);(try have hx1:=nl2 hy1);refine szz w1 w ?_;intros;dsimp only
  have hbb2:b < w.heap.size + 2:=by omega
  have hbb3:b < w.heap.size + 1 + 1:=by omega
  have hbb1:b < w1.heap.size:=by omega
  go_wp2_with (go_at_call 183;refine (ref_no _ _).mono ?_;rintro e w6 ⟨rfl,hb6⟩;obtain ⟨hc6,hf6⟩:=bcell hb6;(try simp only [bqh,bqc,bqf] at hc6 hf6);have hz6:=hb6.size;(try simp at hz6);(try have hy6:=nl1 hz6);(try have hx6:=nl2 hy6);refine szz w6 w ?_;intros;refine szz w6 w1 ?_;intros;dsimp only)
  exact bodyPost_ret (v:=.agg #[.int .i64 5,.int .i64 9,.string ⟨#[]⟩]) (by first | (simp [results,Tryz.results137,go_sem];done) | (simp [results,Tryz.results137,go_sem, *];done)) rfl ⟨rfl,bel⟩
 ·rw [opV_first (by omega) (by rw [hv0e];rfl),hv0e]
  clear hx hsl hch i1 i2 i3 i4 i5 hF hxa ho hp3 hkid IH e0 ha hka h2 hok hv0e
  go_enter Tryz.func137,Tryz.ntmps137
  go_wp2_with fail
  refine (hq0 _ (HX0.out.keep (old_keep bel)) (HF.out.now bel)).mono ?_;rintro e w1 ⟨rfl,hb1⟩;obtain ⟨hc1,hf1⟩:=bcell hb1;(try simp only [bqh,bqc,bqf] at hc1 hf1);have hz1:=hb1.size;(try simp at hz1);(try have hy1:=nl1 hz1);(try have hx1:=nl2 hy1);refine szz w1 w ?_;intros;dsimp only
  have hbb2:b < w.heap.size + 2:=by omega
  have hbb3:b < w.heap.size + 1 + 1:=by omega
  have hbb1:b < w1.heap.size:=by omega
  go_wp2_with fail
  exact bodyPost_ret (v:=.agg #[.int .i64 4,.int .i64 m,.string s]) (by first | (simp [results,Tryz.results137,go_sem];done) | (simp [results,Tryz.results137,go_sem, *];done)) rfl ⟨rfl,bel⟩
 ·rw [opV_first (by omega) (by rw [hv0e];rfl),hv0e]
  clear hx hsl hch i1 i2 i3 i4 i5 hF hxa ho hp3 hkid IH e0 ha hka h2 hok hv0e
  go_enter Tryz.func137,Tryz.ntmps137
  go_wp2_with fail
  refine (hq0 _ (HX0.out.keep (old_keep bel)) (HF.out.now bel)).mono ?_;rintro e w1 ⟨rfl,hb1⟩;obtain ⟨hc1,hf1⟩:=bcell hb1;(try simp only [bqh,bqc,bqf] at hc1 hf1);have hz1:=hb1.size;(try simp at hz1);(try have hy1:=nl1 hz1);(try have hx1:=nl2 hy1);refine szz w1 w ?_;intros;dsimp only
  have hbb2:b < w.heap.size + 2:=by omega
  have hbb3:b < w.heap.size + 1 + 1:=by omega
  have hbb1:b < w1.heap.size:=by omega
  go_wp2_with fail
  exact bodyPost_ret (v:=.agg #[.int .i64 5,.int .i64 m,.string s]) (by first | (simp [results,Tryz.results137,go_sem];done) | (simp [results,Tryz.results137,go_sem, *];done)) rfl ⟨rfl,bel⟩
set_option maxRecDepth 100000 in
set_option maxHeartbeats 8000000 in
theorem valued_16 (x:Exp) (A:Option Addr) (c:Nat) (w:World) (ho:x.op = 16) (hp3:(x.args.length:Int) = argsN x.op) (hkid:∀ a ∈ x.args,a.nodes ≤ N ∧ prtN a = 0) (hx:XRep w (old w) (x.cs A c) x) (hF:Sl w (old w) 7 RFct F nF l) :
  Calls Tryz.prog 137 #[.agg (x.cs A c).toArray,.slice F nF cF] w (RetV w (opV 16 (x.args.map (evX l)))):=by
 obtain ⟨i1,i2,i3,i4,i5,hsl,hch⟩:=hx.kids
 have h2:x.args.length = 2:=by
  have h:=hp3
  rw [ho] at h;have h:(x.args.length:Int) = 2:=h;omega
 obtain ⟨b,o,a,X,C,rfl,hbl,ha,hxa,x0,x1,x2,x3,x4,x5⟩:=kid0 hsl (by omega)
 have hka:=hkid a (List.mem_of_getElem? ha)
 have hq0:=fun w h h' => IH a X C w hka.1 hka.2 h h'
 have HX0:=Lib.hid hxa
 have HF:=Lib.hid hF
 have hv0e:vAt (x.args.map (evX l)) 0 = evX l a:=evX_at l ha
 have hok:=evX_ok hl a.nodes a (Nat.le_refl _) hka.2
 obtain ⟨v0,e0⟩:∃ v,evX l a = v:=⟨_,rfl⟩
 rw [e0] at hq0 hv0e hok
 have hn0:0 < x.args.length:=by omega
 have hn1:1 < x.args.length:=by omega
 have hn2:(1:Int) < (x.args.length:Int):=by omega
 have ho1:(x.op == 1) = false:=by rw [ho];rfl
 have ho2:(x.op == 2) = false:=by rw [ho];rfl
 have ho15:(x.op == 15) = false:=by rw [ho];rfl
 have ho16:(x.op == 16) = true:=by rw [ho];rfl
 have ho17:(x.op == 17) = false:=by rw [ho];rfl
 obtain ⟨m,s,hv⟩:=val_five hok
 rcases hv with rfl | ⟨rfl,hm01⟩ | rfl | rfl | rfl
 ·rw [opV_first (by omega) (by rw [hv0e];rfl),hv0e]
  clear hx hsl hch i1 i2 i3 i4 i5 hF hxa ho hp3 hkid IH e0 ha hka h2 hok hv0e
  go_enter Tryz.func137,Tryz.ntmps137
  go_wp2_with fail
  refine (hq0 _ (HX0.out.keep (old_keep bel)) (HF.out.now bel)).mono ?_;rintro e w1 ⟨rfl,hb1⟩;obtain ⟨hc1,hf1⟩:=bcell hb1;(try simp only [bqh,bqc,bqf] at hc1 hf1);have hz1:=hb1.size;(try simp at hz1);(try have hy1:=nl1 hz1);(try have hx1:=nl2 hy1);refine szz w1 w ?_;intros;dsimp only
  have hbb2:b < w.heap.size + 2:=by omega
  have hbb3:b < w.heap.size + 1 + 1:=by omega
  have hbb1:b < w1.heap.size:=by omega
  go_wp2_with (go_at_call 183;refine (ref_no _ _).mono ?_;rintro e w6 ⟨rfl,hb6⟩;obtain ⟨hc6,hf6⟩:=bcell hb6;(try simp only [bqh,bqc,bqf] at hc6 hf6);have hz6:=hb6.size;(try simp at hz6);(try have hy6:=nl1 hz6);(try have hx6:=nl2 hy6);refine szz w6 w ?_;intros;refine szz w6 w1 ?_;intros;dsimp only)
  exact bodyPost_ret (v:=.agg #[.int .i64 5,.int .i64 9,.string ⟨#[]⟩]) (by first | (simp [results,Tryz.results137,go_sem];done) | (simp [results,Tryz.results137,go_sem, *];done)) rfl ⟨rfl,bel⟩
 ·rcases hm01 with rfl | rfl
  ·obtain ⟨a1,X1,C1,ha1,hxa1,y0,y1,y2,y3,y4,y5⟩:=kid1 hsl (by omega)
   have hka1:=hkid a1 (List.mem_of_getElem? ha1)
   have hq1:=fun w h h' => IH a1 X1 C1 w hka1.1 hka1.2 h h'
   have HX1:=Lib.hid hxa1
   have hv1e:vAt (x.args.map (evX l)) 1 = evX l a1:=evX_at l ha1
   have hok1:=evX_ok hl a1.nodes a1 (Nat.le_refl _) hka1.2
   obtain ⟨v1,e1⟩:∃ v,evX l a1 = v:=⟨_,rfl⟩
   rw [e1] at hq1 hv1e hok1
   rw [opV_long (by omega) hv0e (by simp),hv1e]
   obtain ⟨m1,s1,hv1⟩:=val_five hok1
   rcases hv1 with rfl | ⟨rfl,_⟩ | rfl | rfl | rfl
   ·clear hx hsl hch i1 i2 i3 i4 i5 hF hxa ho hp3 hkid IH e0 ha hka h2 hok hv0e e1 ha1 hka1 hxa1 hv1e
    go_enter Tryz.func137,Tryz.ntmps137
    go_wp2_with fail
    refine (hq0 _ (HX0.out.keep (old_keep bel)) (HF.out.now bel)).mono ?_;rintro e w1 ⟨rfl,hb1⟩;obtain ⟨hc1,hf1⟩:=bcell hb1;(try simp only [bqh,bqc,bqf] at hc1 hf1);have hz1:=hb1.size;(try simp at hz1);(try have hy1:=nl1 hz1);(try have hx1:=nl2 hy1);refine szz w1 w ?_;intros;dsimp only
    have hbb2:b < w.heap.size + 2:=by omega
    have hbb3:b < w.heap.size + 1 + 1:=by omega
    have hbb1:b < w1.heap.size:=by omega
    go_wp2_with fail
    refine (hq1 _ (HX1.out.keep (old_keep bel)) (HF.out.now bel)).mono ?_;rintro e w2 ⟨rfl,hb2⟩;obtain ⟨hc2,hf2⟩:=bcell hb2;(try simp only [bqh,bqc,bqf] at hc2 hf2);have hz2:=hb2.size;(try simp at hz2);(try have hy2:=nl1 hz2);(try have hx2:=nl2 hy2);refine szz w2 w ?_;intros;refine szz w2 w1 ?_;intros;dsimp only
    go_wp2_with (go_at_call 183;refine (ref_no _ _).mono ?_;rintro e w6 ⟨rfl,hb6⟩;obtain ⟨hc6,hf6⟩:=bcell hb6;(try simp only [bqh,bqc,bqf] at hc6 hf6);have hz6:=hb6.size;(try simp at hz6);(try have hy6:=nl1 hz6);(try have hx6:=nl2 hy6);refine szz w6 w ?_;intros;refine szz w6 w1 ?_;intros;refine szz w6 w2 ?_;intros;dsimp only)
    exact bodyPost_ret (v:=.agg #[.int .i64 5,.int .i64 9,.string ⟨#[]⟩]) (by first | (simp [results,Tryz.results137,go_sem];done) | (simp [results,Tryz.results137,go_sem, *];done)) rfl ⟨rfl,bel⟩
   ·clear hx hsl hch i1 i2 i3 i4 i5 hF hxa ho hp3 hkid IH e0 ha hka h2 hok hv0e e1 ha1 hka1 hxa1 hv1e
    go_enter Tryz.func137,Tryz.ntmps137
    go_wp2_with fail
    refine (hq0 _ (HX0.out.keep (old_keep bel)) (HF.out.now bel)).mono ?_;rintro e w1 ⟨rfl,hb1⟩;obtain ⟨hc1,hf1⟩:=bcell hb1;(try simp only [bqh,bqc,bqf] at hc1 hf1);have hz1:=hb1.size;(try simp at hz1);(try have hy1:=nl1 hz1);(try have hx1:=nl2 hy1);refine szz w1 w ?_;intros;dsimp only
    have hbb2:b < w.heap.size + 2:=by omega
    have hbb3:b < w.heap.size + 1 + 1:=by omega
    have hbb1:b < w1.heap.size:=by omega
    go_wp2_with fail
    refine (hq1 _ (HX1.out.keep (old_keep bel)) (HF.out.now bel)).mono ?_;rintro e w2 ⟨rfl,hb2⟩;obtain ⟨hc2,hf2⟩:=bcell hb2;(try simp only [bqh,bqc,bqf] at hc2 hf2);have hz2:=hb2.size;(try simp at hz2);(try have hy2:=nl1 hz2);(try have hx2:=nl2 hy2);refine szz w2 w ?_;intros;refine szz w2 w1 ?_;intros;dsimp only
    go_wp2_with fail
    exact bodyPost_ret (v:=.agg #[.int .i64 2,.int .i64 m1,.string s1]) (by first | (simp [results,Tryz.results137,go_sem];done) | (simp [results,Tryz.results137,go_sem, *];done)) rfl ⟨rfl,bel⟩
   ·clear hx hsl hch i1 i2 i3 i4 i5 hF hxa ho hp3 hkid IH e0 ha hka h2 hok hv0e e1 ha1 hka1 hxa1 hv1e
    go_enter Tryz.func137,Tryz.ntmps137
    go_wp2_with fail
    refine (hq0 _ (HX0.out.keep (old_keep bel)) (HF.out.now bel)).mono ?_;rintro e w1 ⟨rfl,hb1⟩;obtain ⟨hc1,hf1⟩:=bcell hb1;(try simp only [bqh,bqc,bqf] at hc1 hf1);have hz1:=hb1.size;(try simp at hz1);(try have hy1:=nl1 hz1);(try have hx1:=nl2 hy1);refine szz w1 w ?_;intros;dsimp only
    have hbb2:b < w.heap.size + 2:=by omega
    have hbb3:b < w.heap.size + 1 + 1:=by omega
    have hbb1:b < w1.heap.size:=by omega
    go_wp2_with fail
    refine (hq1 _ (HX1.out.keep (old_keep bel)) (HF.out.now bel)).mono ?_;rintro e w2 ⟨rfl,hb2⟩;obtain ⟨hc2,hf2⟩:=bcell hb2;(try simp only [bqh,bqc,bqf] at hc2 hf2);have hz2:=hb2.size;(try simp at hz2);(try have hy2:=nl1 hz2);(try have hx2:=nl2 hy2);refine szz w2 w ?_;intros;refine szz w2 w1 ?_;intros;dsimp only
    go_wp2_with (go_at_call 183;refine (ref_no _ _).mono ?_;rintro e w6 ⟨rfl,hb6⟩;obtain ⟨hc6,hf6⟩:=bcell hb6;(try simp only [bqh,bqc,bqf] at hc6 hf6);have hz6:=hb6.size;(try simp at hz6);(try have hy6:=nl1 hz6);(try have hx6:=nl2 hy6);refine szz w6 w ?_;intros;refine szz w6 w1 ?_;intros;refine szz w6 w2 ?_;intros;dsimp only)
    exact bodyPost_ret (v:=.agg #[.int .i64 5,.int .i64 9,.string ⟨#[]⟩]) (by first | (simp [results,Tryz.results137,go_sem];done) | (simp [results,Tryz.results137,go_sem, *];done)) rfl ⟨rfl,bel⟩
   ·clear hx hsl hch i1 i2 i3 i4 i5 hF hxa ho hp3 hkid IH e0 ha hka h2 hok hv0e e1 ha1 hka1 hxa1 hv1e
    go_enter Tryz.func137,Tryz.ntmps137
    go_wp2_with fail
    refine (hq0 _ (HX0.out.keep (old_keep bel)) (HF.out.now bel)).mono ?_;rintro e w1 ⟨rfl,hb1⟩;obtain ⟨hc1,hf1⟩:=bcell hb1;(try simp only [bqh,bqc,bqf] at hc1 hf1);have hz1:=hb1.size;(try simp at hz1);(try have hy1:=nl1 hz1);(try have hx1:=nl2 hy1);refine szz w1 w ?_;intros;dsimp only
    have hbb2:b < w.heap.size + 2:=by omega
    have hbb3:b < w.heap.size + 1 + 1:=by omega
    have hbb1:b < w1.heap.size:=by omega
    go_wp2_with fail
    refine (hq1 _ (HX1.out.keep (old_keep bel)) (HF.out.now bel)).mono ?_;rintro e w2 ⟨rfl,hb2⟩;obtain ⟨hc2,hf2⟩:=bcell hb2;(try simp only [bqh,bqc,bqf] at hc2 hf2);have hz2:=hb2.size;(try simp at hz2);(try have hy2:=nl1 hz2);(try have hx2:=nl2 hy2);refine szz w2 w ?_;intros;refine szz w2 w1 ?_;intros;dsimp only
    go_wp2_with fail
    exact bodyPost_ret (v:=.agg #[.int .i64 4,.int .i64 m1,.string s1]) (by first | (simp [results,Tryz.results137,go_sem];done) | (simp [results,Tryz.results137,go_sem, *];done)) rfl ⟨rfl,bel⟩
   ·clear hx hsl hch i1 i2 i3 i4 i5 hF hxa ho hp3 hkid IH e0 ha hka h2 hok hv0e e1 ha1 hka1 hxa1 hv1e
    go_enter Tryz.func137,Tryz.ntmps137
    go_wp2_with fail
    refine (hq0 _ (HX0.out.keep (old_keep bel)) (HF.out.now bel)).mono ?_;rintro e w1 ⟨rfl,hb1⟩;obtain ⟨hc1,hf1⟩:=bcell hb1;(try simp only [bqh,bqc,bqf] at hc1 hf1);have hz1:=hb1.size;(try simp at hz1);(try have hy1:=nl1 hz1);(try have hx1:=nl2 hy1);refine szz w1 w ?_;intros;dsimp only
    have hbb2:b < w.heap.size + 2:=by omega
    have hbb3:b < w.heap.size + 1 + 1:=by omega
    have hbb1:b < w1.heap.size:=by omega
    go_wp2_with fail
    refine (hq1 _ (HX1.out.keep (old_keep bel)) (HF.out.now bel)).mono ?_;rintro e w2 ⟨rfl,hb2⟩;obtain ⟨hc2,hf2⟩:=bcell hb2;(try simp only [bqh,bqc,bqf] at hc2 hf2);have hz2:=hb2.size;(try simp at hz2);(try have hy2:=nl1 hz2);(try have hx2:=nl2 hy2);refine szz w2 w ?_;intros;refine szz w2 w1 ?_;intros;dsimp only
    go_wp2_with fail
    exact bodyPost_ret (v:=.agg #[.int .i64 5,.int .i64 m1,.string s1]) (by first | (simp [results,Tryz.results137,go_sem];done) | (simp [results,Tryz.results137,go_sem, *];done)) rfl ⟨rfl,bel⟩
  ·rw [opV_short (by omega) hv0e rfl]
   clear hx hsl hch i1 i2 i3 i4 i5 hF hxa ho hp3 hkid IH e0 ha hka h2 hok hv0e
   go_enter Tryz.func137,Tryz.ntmps137
   go_wp2_with fail
   refine (hq0 _ (HX0.out.keep (old_keep bel)) (HF.out.now bel)).mono ?_;rintro e w1 ⟨rfl,hb1⟩;obtain ⟨hc1,hf1⟩:=bcell hb1;(try simp only [bqh,bqc,bqf] at hc1 hf1);have hz1:=hb1.size;(try simp at hz1);(try have hy1:=nl1 hz1);(try have hx1:=nl2 hy1);refine szz w1 w ?_;intros;dsimp only
   have hbb2:b < w.heap.size + 2:=by omega
   have hbb3:b < w.heap.size + 1 + 1:=by omega
   have hbb1:b < w1.heap.size:=by omega
   go_wp2_with fail
   exact bodyPost_ret (v:=.agg #[.int .i64 2,.int .i64 1,.string s]) (by first | (simp [results,Tryz.results137,go_sem];done) | (simp [results,Tryz.results137,go_sem, *];done)) rfl ⟨rfl,bel⟩
 ·rw [opV_first (by omega) (by rw [hv0e];rfl),hv0e]
  clear hx hsl hch i1 i2 i3 i4 i5 hF hxa ho hp3 hkid IH e0 ha hka h2 hok hv0e
  go_enter Tryz.func137,Tryz.ntmps137
  go_wp2_with fail
  refine (hq0 _ (HX0.out.keep (old_keep bel)) (HF.out.now bel)).mono ?_;rintro e w1 ⟨rfl,hb1⟩;obtain ⟨hc1,hf1⟩:=bcell hb1;(try simp only [bqh,bqc,bqf] at hc1 hf1);have hz1:=hb1.size;(try simp at hz1);(try have hy1:=nl1 hz1);(try have hx1:=nl2 hy1);refine szz w1 w ?_;intros;dsimp only
  have hbb2:b < w.heap.size + 2:=by omega
  have hbb3:b < w.heap.size + 1 + 1:=by omega
  have hbb1:b < w1.heap.size:=by omega
  go_wp2_with (go_at_call 183;refine (ref_no _ _).mono ?_;rintro e w6 ⟨rfl,hb6⟩;obtain ⟨hc6,hf6⟩:=bcell hb6;(try simp only [bqh,bqc,bqf] at hc6 hf6);have hz6:=hb6.size;(try simp at hz6);(try have hy6:=nl1 hz6);(try have hx6:=nl2 hy6);refine szz w6 w ?_;intros;refine szz w6 w1 ?_;intros;dsimp only)
  exact bodyPost_ret (v:=.agg #[.int .i64 5,.int .i64 9,.string ⟨#[]⟩]) (by first | (simp [results,Tryz.results137,go_sem];done) | (simp [results,Tryz.results137,go_sem, *];done)) rfl ⟨rfl,bel⟩
 ·rw [opV_first (by omega) (by rw [hv0e];rfl),hv0e]
  clear hx hsl hch i1 i2 i3 i4 i5 hF hxa ho hp3 hkid IH e0 ha hka h2 hok hv0e
  go_enter Tryz.func137,Tryz.ntmps137
  go_wp2_with fail
  refine (hq0 _ (HX0.out.keep (old_keep bel)) (HF.out.now bel)).mono ?_;rintro e w1 ⟨rfl,hb1⟩;obtain ⟨hc1,hf1⟩:=bcell hb1;(try simp only [bqh,bqc,bqf] at hc1 hf1);have hz1:=hb1.size;(try simp at hz1);(try have hy1:=nl1 hz1);(try have hx1:=nl2 hy1);refine szz w1 w ?_;intros;dsimp only
  have hbb2:b < w.heap.size + 2:=by omega
  have hbb3:b < w.heap.size + 1 + 1:=by omega
  have hbb1:b < w1.heap.size:=by omega
  go_wp2_with fail
  exact bodyPost_ret (v:=.agg #[.int .i64 4,.int .i64 m,.string s]) (by first | (simp [results,Tryz.results137,go_sem];done) | (simp [results,Tryz.results137,go_sem, *];done)) rfl ⟨rfl,bel⟩
 ·rw [opV_first (by omega) (by rw [hv0e];rfl),hv0e]
  clear hx hsl hch i1 i2 i3 i4 i5 hF hxa ho hp3 hkid IH e0 ha hka h2 hok hv0e
  go_enter Tryz.func137,Tryz.ntmps137
  go_wp2_with fail
  refine (hq0 _ (HX0.out.keep (old_keep bel)) (HF.out.now bel)).mono ?_;rintro e w1 ⟨rfl,hb1⟩;obtain ⟨hc1,hf1⟩:=bcell hb1;(try simp only [bqh,bqc,bqf] at hc1 hf1);have hz1:=hb1.size;(try simp at hz1);(try have hy1:=nl1 hz1);(try have hx1:=nl2 hy1);refine szz w1 w ?_;intros;dsimp only
  have hbb2:b < w.heap.size + 2:=by omega
  have hbb3:b < w.heap.size + 1 + 1:=by omega
  have hbb1:b < w1.heap.size:=by omega
  go_wp2_with fail
  exact bodyPost_ret (v:=.agg #[.int .i64 5,.int .i64 m,.string s]) (by first | (simp [results,Tryz.results137,go_sem];done) | (simp [results,Tryz.results137,go_sem, *];done)) rfl ⟨rfl,bel⟩
set_option maxRecDepth 100000 in
set_option maxHeartbeats 8000000 in
theorem valued_17 (x:Exp) (A:Option Addr) (c:Nat) (w:World) (ho:x.op = 17) (hp3:(x.args.length:Int) = argsN x.op) (hkid:∀ a ∈ x.args,a.nodes ≤ N ∧ prtN a = 0) (hx:XRep w (old w) (x.cs A c) x) (hF:Sl w (old w) 7 RFct F nF l) :
  Calls Tryz.prog 137 #[.agg (x.cs A c).toArray,.slice F nF cF] w (RetV w (opV 17 (x.args.map (evX l)))):=by
 obtain ⟨i1,i2,i3,i4,i5,hsl,hch⟩:=hx.kids
 have h2:x.args.length = 3:=by
  have h:=hp3
  rw [ho] at h;have h:(x.args.length:Int) = 3:=h;omega
 obtain ⟨b,o,a,X,C,rfl,hbl,ha,hxa,x0,x1,x2,x3,x4,x5⟩:=kid0 hsl (by omega)
 have hka:=hkid a (List.mem_of_getElem? ha)
 have hq0:=fun w h h' => IH a X C w hka.1 hka.2 h h'
 have HX0:=Lib.hid hxa
 have HF:=Lib.hid hF
 have hv0e:vAt (x.args.map (evX l)) 0 = evX l a:=evX_at l ha
 have hok:=evX_ok hl a.nodes a (Nat.le_refl _) hka.2
 obtain ⟨v0,e0⟩:∃ v,evX l a = v:=⟨_,rfl⟩
 rw [e0] at hq0 hv0e hok
 have hn0:0 < x.args.length:=by omega
 have hn1:1 < x.args.length:=by omega
 have hn2:(1:Int) < (x.args.length:Int):=by omega
 have hn3:2 < x.args.length:=by omega
 have hn4:(2:Int) < (x.args.length:Int):=by omega
 have ho1:(x.op == 1) = false:=by rw [ho];rfl
 have ho2:(x.op == 2) = false:=by rw [ho];rfl
 have ho15:(x.op == 15) = false:=by rw [ho];rfl
 have ho16:(x.op == 16) = false:=by rw [ho];rfl
 have ho17:(x.op == 17) = true:=by rw [ho];rfl
 obtain ⟨m,s,hv⟩:=val_five hok
 rcases hv with rfl | ⟨rfl,hm01⟩ | rfl | rfl | rfl
 ·rw [opV_if0 (by rw [hv0e];rfl),hv0e]
  clear hx hsl hch i1 i2 i3 i4 i5 hF hxa ho hp3 hkid IH e0 ha hka h2 hok hv0e
  go_enter Tryz.func137,Tryz.ntmps137
  go_wp2_with fail
  refine (hq0 _ (HX0.out.keep (old_keep bel)) (HF.out.now bel)).mono ?_;rintro e w1 ⟨rfl,hb1⟩;obtain ⟨hc1,hf1⟩:=bcell hb1;(try simp only [bqh,bqc,bqf] at hc1 hf1);have hz1:=hb1.size;(try simp at hz1);(try have hy1:=nl1 hz1);(try have hx1:=nl2 hy1);refine szz w1 w ?_;intros;dsimp only
  have hbb2:b < w.heap.size + 2:=by omega
  have hbb3:b < w.heap.size + 1 + 1:=by omega
  have hbb1:b < w1.heap.size:=by omega
  go_wp2_with (go_at_call 183;refine (ref_no _ _).mono ?_;rintro e w6 ⟨rfl,hb6⟩;obtain ⟨hc6,hf6⟩:=bcell hb6;(try simp only [bqh,bqc,bqf] at hc6 hf6);have hz6:=hb6.size;(try simp at hz6);(try have hy6:=nl1 hz6);(try have hx6:=nl2 hy6);refine szz w6 w ?_;intros;refine szz w6 w1 ?_;intros;dsimp only)
  exact bodyPost_ret (v:=.agg #[.int .i64 5,.int .i64 9,.string ⟨#[]⟩]) (by first | (simp [results,Tryz.results137,go_sem];done) | (simp [results,Tryz.results137,go_sem, *];done)) rfl ⟨rfl,bel⟩
 ·rcases hm01 with rfl | rfl
  ·obtain ⟨a1,X1,C1,ha1,hxa1,y0,y1,y2,y3,y4,y5⟩:=kid2 hsl (by omega)
   have hka1:=hkid a1 (List.mem_of_getElem? ha1)
   have hq1:=fun w h h' => IH a1 X1 C1 w hka1.1 hka1.2 h h'
   have HX1:=Lib.hid hxa1
   have hv1e:vAt (x.args.map (evX l)) 2 = evX l a1:=evX_at l ha1
   have hok1:=evX_ok hl a1.nodes a1 (Nat.le_refl _) hka1.2
   obtain ⟨v1,e1⟩:∃ v,evX l a1 = v:=⟨_,rfl⟩
   rw [e1] at hq1 hv1e hok1
   rw [opV_if2 hv0e,hv1e]
   clear hx hsl hch i1 i2 i3 i4 i5 hF hxa ho hp3 hkid IH e0 ha hka h2 hok hv0e e1 ha1 hka1 hxa1 hv1e
   go_enter Tryz.func137,Tryz.ntmps137
   go_wp2_with fail
   refine (hq0 _ (HX0.out.keep (old_keep bel)) (HF.out.now bel)).mono ?_;rintro e w1 ⟨rfl,hb1⟩;obtain ⟨hc1,hf1⟩:=bcell hb1;(try simp only [bqh,bqc,bqf] at hc1 hf1);have hz1:=hb1.size;(try simp at hz1);(try have hy1:=nl1 hz1);(try have hx1:=nl2 hy1);refine szz w1 w ?_;intros;dsimp only
   have hbb2:b < w.heap.size + 2:=by omega
   have hbb3:b < w.heap.size + 1 + 1:=by omega
   have hbb1:b < w1.heap.size:=by omega
   go_wp2_with fail
   refine (hq1 _ (HX1.out.keep (old_keep bel)) (HF.out.now bel)).mono ?_;rintro e w2 ⟨rfl,hb2⟩;obtain ⟨hc2,hf2⟩:=bcell hb2;(try simp only [bqh,bqc,bqf] at hc2 hf2);have hz2:=hb2.size;(try simp at hz2);(try have hy2:=nl1 hz2);(try have hx2:=nl2 hy2);refine szz w2 w ?_;intros;refine szz w2 w1 ?_;intros;dsimp only
   go_wp2_with fail
   exact bodyPost_ret (v:=.agg #[.int .i64 v1.k,.int .i64 v1.n,.string v1.s]) (by first | (simp [results,Tryz.results137,go_sem];done) | (simp [results,Tryz.results137,go_sem, *];done)) rfl ⟨rfl,bel⟩
  ·obtain ⟨a1,X1,C1,ha1,hxa1,y0,y1,y2,y3,y4,y5⟩:=kid1 hsl (by omega)
   have hka1:=hkid a1 (List.mem_of_getElem? ha1)
   have hq1:=fun w h h' => IH a1 X1 C1 w hka1.1 hka1.2 h h'
   have HX1:=Lib.hid hxa1
   have hv1e:vAt (x.args.map (evX l)) 1 = evX l a1:=evX_at l ha1
   have hok1:=evX_ok hl a1.nodes a1 (Nat.le_refl _) hka1.2
   obtain ⟨v1,e1⟩:∃ v,evX l a1 = v:=⟨_,rfl⟩
   rw [e1] at hq1 hv1e hok1
   rw [opV_if1 hv0e,hv1e]
   clear hx hsl hch i1 i2 i3 i4 i5 hF hxa ho hp3 hkid IH e0 ha hka h2 hok hv0e e1 ha1 hka1 hxa1 hv1e
   go_enter Tryz.func137,Tryz.ntmps137
   go_wp2_with fail
   refine (hq0 _ (HX0.out.keep (old_keep bel)) (HF.out.now bel)).mono ?_;rintro e w1 ⟨rfl,hb1⟩;obtain ⟨hc1,hf1⟩:=bcell hb1;(try simp only [bqh,bqc,bqf] at hc1 hf1);have hz1:=hb1.size;(try simp at hz1);(try have hy1:=nl1 hz1);(try have hx1:=nl2 hy1);refine szz w1 w ?_;intros;dsimp only
   have hbb2:b < w.heap.size + 2:=by omega
   have hbb3:b < w.heap.size + 1 + 1:=by omega
   have hbb1:b < w1.heap.size:=by omega
   go_wp2_with fail
   refine (hq1 _ (HX1.out.keep (old_keep bel)) (HF.out.now bel)).mono ?_;rintro e w2 ⟨rfl,hb2⟩;obtain ⟨hc2,hf2⟩:=bcell hb2;(try simp only [bqh,bqc,bqf] at hc2 hf2);have hz2:=hb2.size;(try simp at hz2);(try have hy2:=nl1 hz2);(try have hx2:=nl2 hy2);refine szz w2 w ?_;intros;refine szz w2 w1 ?_;intros;dsimp only
   go_wp2_with fail
   exact bodyPost_ret (v:=.agg #[.int .i64 v1.k,.int .i64 v1.n,.string v1.s]) (by first | (simp [results,Tryz.results137,go_sem];done) | (simp [results,Tryz.results137,go_sem, *];done)) rfl ⟨rfl,bel⟩
 ·rw [opV_if0 (by rw [hv0e];rfl),hv0e]
  clear hx hsl hch i1 i2 i3 i4 i5 hF hxa ho hp3 hkid IH e0 ha hka h2 hok hv0e
  go_enter Tryz.func137,Tryz.ntmps137
  go_wp2_with fail
  refine (hq0 _ (HX0.out.keep (old_keep bel)) (HF.out.now bel)).mono ?_;rintro e w1 ⟨rfl,hb1⟩;obtain ⟨hc1,hf1⟩:=bcell hb1;(try simp only [bqh,bqc,bqf] at hc1 hf1);have hz1:=hb1.size;(try simp at hz1);(try have hy1:=nl1 hz1);(try have hx1:=nl2 hy1);refine szz w1 w ?_;intros;dsimp only
  have hbb2:b < w.heap.size + 2:=by omega
  have hbb3:b < w.heap.size + 1 + 1:=by omega
  have hbb1:b < w1.heap.size:=by omega
  go_wp2_with (go_at_call 183;refine (ref_no _ _).mono ?_;rintro e w6 ⟨rfl,hb6⟩;obtain ⟨hc6,hf6⟩:=bcell hb6;(try simp only [bqh,bqc,bqf] at hc6 hf6);have hz6:=hb6.size;(try simp at hz6);(try have hy6:=nl1 hz6);(try have hx6:=nl2 hy6);refine szz w6 w ?_;intros;refine szz w6 w1 ?_;intros;dsimp only)
  exact bodyPost_ret (v:=.agg #[.int .i64 5,.int .i64 9,.string ⟨#[]⟩]) (by first | (simp [results,Tryz.results137,go_sem];done) | (simp [results,Tryz.results137,go_sem, *];done)) rfl ⟨rfl,bel⟩
 ·rw [opV_if0 (by rw [hv0e];rfl),hv0e]
  clear hx hsl hch i1 i2 i3 i4 i5 hF hxa ho hp3 hkid IH e0 ha hka h2 hok hv0e
  go_enter Tryz.func137,Tryz.ntmps137
  go_wp2_with fail
  refine (hq0 _ (HX0.out.keep (old_keep bel)) (HF.out.now bel)).mono ?_;rintro e w1 ⟨rfl,hb1⟩;obtain ⟨hc1,hf1⟩:=bcell hb1;(try simp only [bqh,bqc,bqf] at hc1 hf1);have hz1:=hb1.size;(try simp at hz1);(try have hy1:=nl1 hz1);(try have hx1:=nl2 hy1);refine szz w1 w ?_;intros;dsimp only
  have hbb2:b < w.heap.size + 2:=by omega
  have hbb3:b < w.heap.size + 1 + 1:=by omega
  have hbb1:b < w1.heap.size:=by omega
  go_wp2_with fail
  exact bodyPost_ret (v:=.agg #[.int .i64 4,.int .i64 m,.string s]) (by first | (simp [results,Tryz.results137,go_sem];done) | (simp [results,Tryz.results137,go_sem, *];done)) rfl ⟨rfl,bel⟩
 ·rw [opV_if0 (by rw [hv0e];rfl),hv0e]
  clear hx hsl hch i1 i2 i3 i4 i5 hF hxa ho hp3 hkid IH e0 ha hka h2 hok hv0e
  go_enter Tryz.func137,Tryz.ntmps137
  go_wp2_with fail
  refine (hq0 _ (HX0.out.keep (old_keep bel)) (HF.out.now bel)).mono ?_;rintro e w1 ⟨rfl,hb1⟩;obtain ⟨hc1,hf1⟩:=bcell hb1;(try simp only [bqh,bqc,bqf] at hc1 hf1);have hz1:=hb1.size;(try simp at hz1);(try have hy1:=nl1 hz1);(try have hx1:=nl2 hy1);refine szz w1 w ?_;intros;dsimp only
  have hbb2:b < w.heap.size + 2:=by omega
  have hbb3:b < w.heap.size + 1 + 1:=by omega
  have hbb1:b < w1.heap.size:=by omega
  go_wp2_with fail
  exact bodyPost_ret (v:=.agg #[.int .i64 5,.int .i64 m,.string s]) (by first | (simp [results,Tryz.results137,go_sem];done) | (simp [results,Tryz.results137,go_sem, *];done)) rfl ⟨rfl,bel⟩
end
end Go.Proofs.YtbhkpepinogigaaGreat

