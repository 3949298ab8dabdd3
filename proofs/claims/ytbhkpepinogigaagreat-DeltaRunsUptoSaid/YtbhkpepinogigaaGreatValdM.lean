/- The walk of the reference valued at ops that take values. (Printed by mkvald.py M.) -/
import Derived.Test.YtbhkpepinogigaaGreatVald
namespace Go.Proofs.YtbhkpepinogigaaGreat
open Go.RowKit Go.Maps

set_option maxRecDepth 100000 in
set_option maxHeartbeats 8000000 in
theorem valued_8 (l:List Fct) (F:Option Addr) (nF cF N:Nat) (IH:ValN l F nF cF N) (x a0:Exp) (v0:Val) (ha0:x.args[0]? = some a0) (a1:Exp) (v1:Val) (ha1:x.args[1]? = some a1) (A:Option Addr) (c:Nat) (w:World) (ho:x.op = 8) (hn:x.args.length = 2)
  (e0:evX l a0 = v0) (hp0:a0.nodes ≤ N ∧ prtN a0 = 0) (hv0:valCheck v0 = 0) (e1:evX l a1 = v1) (hp1:a1.nodes ≤ N ∧ prtN a1 = 0) (hv1:valCheck v1 = 0) (hx:XRep w (old w) (x.cs A c) x) (hF:Sl w (old w) 7 RFct F nF l) :
  Calls Tryz.prog 137 #[.agg (x.cs A c).toArray,.slice F nF cF] w (RetV w ((lackV [v0,v1]).getD (appV 8 [v0,v1]))):=by
 obtain ⟨i1,i2,i3,i4,i5,hsl,hch⟩:=hx.kids
 obtain ⟨b,o,a0',X,C,rfl,hbl,ha0',hxa,x0,x1,x2,x3,x4,x5⟩:=kid0 hsl (by omega)
 rw [ha0] at ha0'
 cases ha0'
 have hq0:=fun w h h' => IH a0 X C w hp0.1 hp0.2 h h'
 rw [e0] at hq0
 obtain ⟨a1',X1,C1,ha1',hxa1,y0,y1,y2,y3,y4,y5⟩:=kid1 hsl (by omega)
 rw [ha1] at ha1'
 cases ha1'
 have hq1:=fun w h h' => IH a1 X1 C1 w hp1.1 hp1.2 h h'
 rw [e1] at hq1
 have HX1:=Lib.hid hxa1
 have hn1:1 < x.args.length:=by omega
 have hn2:(1:Int) < (x.args.length:Int):=by omega
 have hnn:((x.args.length:Int) == 2) = true:=by rw [hn];rfl
 have hwf1:=val_wf hv1
 have ho1:(x.op == 1) = false:=by rw [ho];rfl
 have ho2:(x.op == 2) = false:=by rw [ho];rfl
 have ho15:(x.op == 15) = false:=by rw [ho];rfl
 have ho16:(x.op == 16) = false:=by rw [ho];rfl
 have ho17:(x.op == 17) = false:=by rw [ho];rfl
 have ho11:(x.op == 11) = false:=by rw [ho];rfl
 have ho12:(x.op == 12) = false:=by rw [ho];rfl
 have ho13:(x.op == 13) = false:=by rw [ho];rfl
 have ho14:(x.op == 14) = false:=by rw [ho];rfl
 have ho4:(x.op == 4) = false:=by rw [ho];rfl
 have ho10:(x.op == 10) = false:=by rw [ho];rfl
 have ho18:(x.op == 18) = false:=by rw [ho];rfl
 have ho3:(x.op == 3) = false:=by rw [ho];rfl
 have hn0:0 < x.args.length:=by omega
 have HX0:=Lib.hid hxa
 have HF:=Lib.hid hF
 have hwf0:=val_wf hv0
 obtain ⟨j0,hj0,iz0,iz1,iz2⟩:=info_parts Tryz.infoVal
 have HOP:=Lib.hid ho
 obtain ⟨vs,hvs⟩:∃ vs,[v0,v1] = vs:=⟨_,rfl⟩
 have hlv:vs.length = 2:=by rw [← hvs];rfl
 have HV:=Lib.hid (And.intro hvs hlv)
 rw [hvs]
 obtain ⟨out,hout⟩:∃ u,(lackV vs).getD (appV 8 vs) = u:=⟨_,rfl⟩
 rw [hout]
 have HO:=Lib.hid hout
 clear hout hvs hlv hx hsl hch i1 i2 i3 i4 i5 hF hxa ho hn IH e0 hp0 hv0 e1 hp1 hv1 hxa1 ha1 ha0
 go_enter Tryz.func137,Tryz.ntmps137
 go_wp2_with fail
 refine (hq0 _ (HX0.out.keep (old_keep bel)) (HF.out.now bel)).mono ?_;rintro e w1 ⟨rfl,hb1⟩;obtain ⟨hc1,hf1⟩:=bcell hb1;(try simp only [bqh,bqc,bqf] at hc1 hf1);have hz1:=hb1.size;(try simp at hz1);(try have hy1:=nl1 hz1);(try have hx1:=nl2 hy1);refine szz w1 w ?_;intros;dsimp only
 have hbb2:b < w.heap.size + 2:=by omega
 have hbb3:b < w.heap.size + 1 + 1:=by omega
 have hbb1:b < w1.heap.size:=by omega
 have hown1:=Own.fresh w1 73 v0 hwf0
 go_wp2_with fail
 refine (hq1 _ (HX1.out.keep (old_keep bel)) (HF.out.now bel)).mono ?_;rintro e w2 ⟨rfl,hb2⟩;obtain ⟨hc2,hf2⟩:=bcell hb2;(try simp only [bqh,bqc,bqf] at hc2 hf2);have hz2:=hb2.size;(try simp at hz2);(try have hy2:=nl1 hz2);(try have hx2:=nl2 hy2);refine szz w2 w ?_;intros;refine szz w2 w1 ?_;intros;dsimp only
 go_wp2_with (at_builtin;refine wpList_append_Own (keeps_flat RVal) rfl (.tmp 150) (.tmp 157) 33 rfl w1.heap.size 73 j0 _ 3 32 Tryz.underlying33 hj0 iz0 iz1 iz2 rfl (by decide) (.slice (some ⟨w1.heap.size,0,none⟩) 1 1) [v0] rfl (hown1.keep (keeps_flat _) hb2) [.int .i64 v1.k,.int .i64 v1.n,.string v1.s] 73 rfl _ rfl (by simp) rfl (by simp [Value.oneCell']) (by simp) (by unfold maxLen;simp) (by omega) v1 ⟨rfl,hwf1⟩ ?_;intro g' cap w3 hown3 hb3' hz3' _ _)
 have hb3:Below w1.heap.size w1 w3:=below_step (below_step (Below.alloc (Below.refl _ w1) (Nat.le_refl _) _) hb2 (by simp)) hb3' (Nat.le_refl _)
 obtain ⟨A3,c3,e3,_,hs3⟩:=hown3.sl (keeps_flat _)
 cases e3
 clear hown1 hown3 hb2 hb3'
 try clear hc2 hf2
 have hs4:Sl w3 (old w3) 3 RVal (some ⟨g',0,none⟩) 2 [v0,v1]:=hs3.mono fun _ h => h.2
 rw [HV.out.1] at hs4
 have HS:=Lib.hid hs4
 clear hs3 hs4 hwf0 hwf1
 obtain ⟨hc3,hf3⟩:=bcell hb3;(try simp only [bqh,bqc,bqf] at hc3 hf3);have hz3:=hb3.size;(try simp at hz3);(try have hy3:=nl1 hz3);(try have hx3:=nl2 hy3);refine szz w3 w ?_;intros;refine szz w3 w1 ?_;intros
 have r0:w3.cell? ⟨w.heap.size + 1,0,none⟩ = some (.int .i64 0):=by go_simp
 have r1:w3.cell? ⟨w.heap.size + 1,1,none⟩ = some (.int .i64 0):=by go_simp
 have r2:w3.cell? ⟨w.heap.size + 1,2,none⟩ = some (.string ⟨#[]⟩):=by go_simp
 have q0:w3.frozen? ⟨w.heap.size + 1,0,none⟩ = false:=by go_simp
 have q1:w3.frozen? ⟨w.heap.size + 1,1,none⟩ = false:=by go_simp
 have q2:w3.frozen? ⟨w.heap.size + 1,2,none⟩ = false:=by go_simp
 have d0:w3.cell? ⟨w.heap.size,0,none⟩ = some (.int .i64 x.op):=by go_simp
 have HB3:=Lib.hid (show Below w.heap.size w w3 from bel)
 go_loopw [161] (fun i wr => ∃ k:Nat,k ≤ 2 ∧ i = .int .i64 k ∧ Hid ((vs.take k).any (fun v => v.k == 5) = false) ∧ Below w3.heap.size w3 wr) (fun i _ => 2 - (intOf i).toNat)
 case atStart => exact ⟨0,by omega,rfl,Lib.hid (by simp),Below.refl _ _⟩
 case round =>
  obtain ⟨k,hk,rfl,hz,hbr⟩:=hrel
  obtain ⟨hcr,hfr⟩:=bcell hbr;(try simp only [bqh,bqc,bqf] at hcr hfr);have hzr:=hbr.size;(try simp at hzr);(try have hyr:=nl1 hzr);(try have hxr:=nl2 hyr);refine szz wr w ?_;intros;refine szz wr w1 ?_;intros;refine szz wr w3 ?_;intros
  have HBr:=Lib.hid (show Below w.heap.size w wr from below_step HB3.out hbr (by omega))
  by_cases hlt:k < 2
  ·obtain ⟨b',o',v,hAe,hbl',hlk,hwf,z0,z1,z2⟩:=Val_at (HS.out.now hbr) hlt
   cases hAe
   simp only [Nat.zero_add] at z0 z1 z2
   have HL:=Lib.hid hlk
   clear hlk hwf
   cases hp:(v.k == 5)
   ·have HP:=Lib.hid hp
    go_wp2_with fail
    go_roundw
    case rel => exact ⟨k + 1,by omega,by go_num,Lib.hid (any_next hz.out HL.out HP.out),bel⟩
    case measure => simp [intOf];omega
   ·have hbo:=lackV_fault hz.out HL.out (by simpa using hp)
    have HD:=Lib.hid (show v = out by rw [← HO.out,hbo];rfl)
    clear hbo
    have hBw:=HBr.out
    go_wp2_with fail
    exact bodyPost_ret (v:=.agg #[.int .i64 v.k,.int .i64 v.n,.string v.s]) (by first | (simp [results,Tryz.results137,go_sem];done) | (simp [results,Tryz.results137,go_sem, *];done)) rfl ⟨by rw [HD.out],bel⟩
  ·have hke:k = 2:=by omega
   subst hke
   have HNa:=Lib.hid (show vs.any (fun v => v.k == 5) = false by have h:=hz.out;rwa [List.take_of_length_le (by rw [HV.out.2];exact Nat.le_refl _)] at h)
   have HSa:=Lib.hid (HS.out.now hbr)
   clear hz hlt hk
   generalize hwq:wr = wa at *
   clear hwq
   have HBa:=HBr
   clear HBr
   go_wp2_with fail
   go_loopw [172] (fun i wr => ∃ k:Nat,k ≤ 2 ∧ i = .int .i64 k ∧ Hid ((vs.take k).any (fun v => v.k == 4) = false) ∧ Below wa.heap.size wa wr) (fun i _ => 2 - (intOf i).toNat)
   case atStart => exact ⟨0,by omega,rfl,Lib.hid (by simp),Below.refl _ _⟩
   case round =>
    obtain ⟨k,hk,rfl,hz,hbr⟩:=hrel
    obtain ⟨hcr,hfr⟩:=bcell hbr;(try simp only [bqh,bqc,bqf] at hcr hfr);have hzr:=hbr.size;(try simp at hzr);(try have hyr:=nl1 hzr);(try have hxr:=nl2 hyr);refine szz wr w ?_;intros;refine szz wr w1 ?_;intros;refine szz wr wa ?_;intros
    have HBr:=Lib.hid (show Below w.heap.size w wr from below_step HBa.out hbr (by omega))
    by_cases hlt:k < 2
    ·obtain ⟨b',o',v,hAe,hbl',hlk,hwf,z0,z1,z2⟩:=Val_at (HSa.out.now hbr) hlt
     cases hAe
     simp only [Nat.zero_add] at z0 z1 z2
     have HL:=Lib.hid hlk
     clear hlk hwf
     cases hp:(v.k == 4)
     ·have HP:=Lib.hid hp
      go_wp2_with fail
      go_roundw
      case rel => exact ⟨k + 1,by omega,by go_num,Lib.hid (any_next hz.out HL.out HP.out),bel⟩
      case measure => simp [intOf];omega
     ·have hbo:=lackV_pend1 HNa.out hz.out HL.out (by simpa using hp)
      have HD:=Lib.hid (show v = out by rw [← HO.out,hbo];rfl)
      clear hbo
      have hBw:=HBr.out
      go_wp2_with fail
      exact bodyPost_ret (v:=.agg #[.int .i64 v.k,.int .i64 v.n,.string v.s]) (by first | (simp [results,Tryz.results137,go_sem];done) | (simp [results,Tryz.results137,go_sem, *];done)) rfl ⟨by rw [HD.out],bel⟩
    ·have hke:k = 2:=by omega
     subst hke
     have HNb:=Lib.hid (show vs.any (fun v => v.k == 4) = false by have h:=hz.out;rwa [List.take_of_length_le (by rw [HV.out.2];exact Nat.le_refl _)] at h)
     have HSb:=Lib.hid (HSa.out.now hbr)
     clear hz hlt hk
     generalize hwq:wr = wb at *
     clear hwq
     have HBb:=HBr
     clear HBr
     go_wp2_with fail
     have hA:(bif vs.all (fun v => v.k == 1) then numV (numAdd v0.n v1.n) else faultV 9) = out:=by rw [← HO.out,lackV_none HNa.out HNb.out,← HV.out.1];exact (appAdd v0 v1).symm
     have HA:=Lib.hid hA
     clear hA
     go_loopw [223] (fun i wr => ∃ k:Nat,k ≤ 2 ∧ i = .int .i64 k ∧ Hid ((vs.take k).all (fun v => v.k == 1) = true) ∧ Below wb.heap.size wb wr) (fun i _ => 2 - (intOf i).toNat)
     case atStart => exact ⟨0,by omega,rfl,Lib.hid (by simp),Below.refl _ _⟩
     case round =>
      obtain ⟨k,hk,rfl,hz,hbr⟩:=hrel
      obtain ⟨hcr,hfr⟩:=bcell hbr;(try simp only [bqh,bqc,bqf] at hcr hfr);have hzr:=hbr.size;(try simp at hzr);(try have hyr:=nl1 hzr);(try have hxr:=nl2 hyr);refine szz wr w ?_;intros;refine szz wr w1 ?_;intros;refine szz wr wb ?_;intros
      have HBr:=Lib.hid (show Below w.heap.size w wr from below_step HBb.out hbr (by omega))
      by_cases hlt:k < 2
      ·obtain ⟨b',o',v,hAe,hbl',hlk,hwf,z0,z1,z2⟩:=Val_at (HSb.out.now hbr) hlt
       cases hAe
       simp only [Nat.zero_add] at z0 z1 z2
       have HL:=Lib.hid hlk
       clear hlk hwf
       cases hp:(v.k == 1)
       ·have hp':(v.k != 1) = true:=by simp only [bne,hp,Bool.not_false]
        have HD:=Lib.hid (show faultV 9 = out by
         rw [← HA.out,show vs.all (fun v => v.k == 1) = false from List.all_eq_false.2 ⟨v,List.mem_of_getElem? HL.out,by rw [hp];decide⟩];rfl)
        have hBw:=HBr.out
        clear hp
        go_wp2_with (go_at_call 183;refine (ref_no _ _).mono ?_;rintro e w6 ⟨rfl,hb6⟩;obtain ⟨hc6,hf6⟩:=bcell hb6;(try simp only [bqh,bqc,bqf] at hc6 hf6);have hz6:=hb6.size;(try simp at hz6);(try have hy6:=nl1 hz6);(try have hx6:=nl2 hy6);refine szz w6 w ?_;intros;refine szz w6 w1 ?_;intros;refine szz w6 wr ?_;intros;dsimp only)
        exact bodyPost_ret (v:=.agg #[.int .i64 5,.int .i64 9,.string ⟨#[]⟩]) (by first | (simp [results,Tryz.results137,go_sem];done) | (simp [results,Tryz.results137,go_sem, *];done)) rfl ⟨by rw [← HD.out];rfl,bel⟩
       ·have hp':(v.k != 1) = false:=by simp only [bne,hp,Bool.not_true]
        have HP:=Lib.hid hp
        clear hp
        go_wp2_with fail
        go_roundw
        case rel => exact ⟨k + 1,by omega,by go_num,Lib.hid (by rw [List.take_add_one,HL.out,List.all_append,hz.out];simp [HP.out]),bel⟩
        case measure => simp [intOf];omega
      ·have hke:k = 2:=by omega
       subst hke
       have hall:vs.all (fun v => v.k == 1) = true:=by have h:=hz.out;rwa [List.take_of_length_le (by rw [HV.out.2];exact Nat.le_refl _)] at h
       have HD:=Lib.hid (show numV (numAdd v0.n v1.n) = out by rw [← HA.out,hall];rfl)
       have HSc:=Lib.hid (HSb.out.now hbr)
       clear hz hlt hk hall
       generalize hwq:wr = wz at *
       clear hwq
       have hBw:=HBr.out
       obtain ⟨gb,go,ge,hgl,⟨g0,g1,g2⟩,g3,g4,g5⟩:=two_at (show Sl wz (old wz) 3 RVal _ 2 [v0,v1] from by rw [HV.out.1];exact HSc.out)
       cases ge
       simp only [Nat.zero_add] at g1 g2 g3 g4 g5
       have hN:∀ w,Calls Tryz.prog 186 #[.int .i64 x.op,.int .i64 v0.n,.int .i64 v1.n] w fun e w' => e = .returned (.tuple #[.int .i64 (numAdd v0.n v1.n).1,.int .i64 (numAdd v0.n v1.n).2]) ∧ ∃ n,w' = w.drewN n:=fun w => by rw [HOP.out];exact ref_NumOf_add v0.n v1.n w
       obtain ⟨r,e,hr⟩:∃ r e,numAdd v0.n v1.n = (r,e):=⟨_,_,rfl⟩
       rw [hr] at hN HD
       clear hr
       dsimp only at hN
       have hB0:Below w.heap.size w wz.drew:=bel
       by_cases he:e = 0
       ·subst he
        have HE:=Lib.hid (show ⟨1,r,⟨#[]⟩⟩ = out by rw [← HD.out];rfl)
        go_wp2_with fail
        go_quiet ((go_at_call 186;refine Calls.quiet_of (hN _)))
        go_wp2_with fail
        exact bodyPost_ret (v:=.agg #[.int .i64 1,.int .i64 r,.string ⟨#[]⟩]) (by first | (simp [results,Tryz.results137,go_sem];done) | (simp [results,Tryz.results137,go_sem, *];done)) rfl ⟨by rw [← HE.out],bel⟩
       ·have he':(e != 0) = true:=by simpa using he
        have HE:=Lib.hid (show faultV e = out by rw [← HD.out];unfold numV;rw [if_neg he])
        clear he
        go_wp2_with fail
        go_quiet ((go_at_call 186;refine Calls.quiet_of (hN _)))
        go_wp2_with (go_at_call 183;refine (ref_no _ _).mono ?_;rintro e w6 ⟨rfl,hb6⟩;obtain ⟨hc6,hf6⟩:=bcell hb6;(try simp only [bqh,bqc,bqf] at hc6 hf6);have hz6:=hb6.size;(try simp at hz6);(try have hy6:=nl1 hz6);(try have hx6:=nl2 hy6);refine szz w6 w ?_;intros;refine szz w6 w1 ?_;intros;refine szz w6 wz ?_;intros;dsimp only)
        exact bodyPost_ret (v:=.agg #[.int .i64 5,.int .i64 e,.string ⟨#[]⟩]) (by first | (simp [results,Tryz.results137,go_sem];done) | (simp [results,Tryz.results137,go_sem, *];done)) rfl ⟨by rw [← HE.out];rfl,bel⟩

set_option maxRecDepth 100000 in
set_option maxHeartbeats 8000000 in
theorem valued_9 (l:List Fct) (F:Option Addr) (nF cF N:Nat) (IH:ValN l F nF cF N) (x a0:Exp) (v0:Val) (ha0:x.args[0]? = some a0) (a1:Exp) (v1:Val) (ha1:x.args[1]? = some a1) (A:Option Addr) (c:Nat) (w:World) (ho:x.op = 9) (hn:x.args.length = 2)
  (e0:evX l a0 = v0) (hp0:a0.nodes ≤ N ∧ prtN a0 = 0) (hv0:valCheck v0 = 0) (e1:evX l a1 = v1) (hp1:a1.nodes ≤ N ∧ prtN a1 = 0) (hv1:valCheck v1 = 0) (hx:XRep w (old w) (x.cs A c) x) (hF:Sl w (old w) 7 RFct F nF l) :
  Calls Tryz.prog 137 #[.agg (x.cs A c).toArray,.slice F nF cF] w (RetV w ((lackV [v0,v1]).getD (appV 9 [v0,v1]))):=by
 obtain ⟨i1,i2,i3,i4,i5,hsl,hch⟩:=hx.kids
 obtain ⟨b,o,a0',X,C,rfl,hbl,ha0',hxa,x0,x1,x2,x3,x4,x5⟩:=kid0 hsl (by omega)
 rw [ha0] at ha0'
 cases ha0'
 have hq0:=fun w h h' => IH a0 X C w hp0.1 hp0.2 h h'
 rw [e0] at hq0
 obtain ⟨a1',X1,C1,ha1',hxa1,y0,y1,y2,y3,y4,y5⟩:=kid1 hsl (by omega)
 rw [ha1] at ha1'
 cases ha1'
 have hq1:=fun w h h' => IH a1 X1 C1 w hp1.1 hp1.2 h h'
 rw [e1] at hq1
 have HX1:=Lib.hid hxa1
 have hn1:1 < x.args.length:=by omega
 have hn2:(1:Int) < (x.args.length:Int):=by omega
 have hnn:((x.args.length:Int) == 2) = true:=by rw [hn];rfl
 have hwf1:=val_wf hv1
 have ho1:(x.op == 1) = false:=by rw [ho];rfl
 have ho2:(x.op == 2) = false:=by rw [ho];rfl
 have ho15:(x.op == 15) = false:=by rw [ho];rfl
 have ho16:(x.op == 16) = false:=by rw [ho];rfl
 have ho17:(x.op == 17) = false:=by rw [ho];rfl
 have ho11:(x.op == 11) = false:=by rw [ho];rfl
 have ho12:(x.op == 12) = false:=by rw [ho];rfl
 have ho13:(x.op == 13) = false:=by rw [ho];rfl
 have ho14:(x.op == 14) = false:=by rw [ho];rfl
 have ho4:(x.op == 4) = false:=by rw [ho];rfl
 have ho10:(x.op == 10) = false:=by rw [ho];rfl
 have ho18:(x.op == 18) = false:=by rw [ho];rfl
 have ho3:(x.op == 3) = false:=by rw [ho];rfl
 have hn0:0 < x.args.length:=by omega
 have HX0:=Lib.hid hxa
 have HF:=Lib.hid hF
 have hwf0:=val_wf hv0
 obtain ⟨j0,hj0,iz0,iz1,iz2⟩:=info_parts Tryz.infoVal
 have HOP:=Lib.hid ho
 obtain ⟨vs,hvs⟩:∃ vs,[v0,v1] = vs:=⟨_,rfl⟩
 have hlv:vs.length = 2:=by rw [← hvs];rfl
 have HV:=Lib.hid (And.intro hvs hlv)
 rw [hvs]
 obtain ⟨out,hout⟩:∃ u,(lackV vs).getD (appV 9 vs) = u:=⟨_,rfl⟩
 rw [hout]
 have HO:=Lib.hid hout
 clear hout hvs hlv hx hsl hch i1 i2 i3 i4 i5 hF hxa ho hn IH e0 hp0 hv0 e1 hp1 hv1 hxa1 ha1 ha0
 go_enter Tryz.func137,Tryz.ntmps137
 go_wp2_with fail
 refine (hq0 _ (HX0.out.keep (old_keep bel)) (HF.out.now bel)).mono ?_;rintro e w1 ⟨rfl,hb1⟩;obtain ⟨hc1,hf1⟩:=bcell hb1;(try simp only [bqh,bqc,bqf] at hc1 hf1);have hz1:=hb1.size;(try simp at hz1);(try have hy1:=nl1 hz1);(try have hx1:=nl2 hy1);refine szz w1 w ?_;intros;dsimp only
 have hbb2:b < w.heap.size + 2:=by omega
 have hbb3:b < w.heap.size + 1 + 1:=by omega
 have hbb1:b < w1.heap.size:=by omega
 have hown1:=Own.fresh w1 73 v0 hwf0
 go_wp2_with fail
 refine (hq1 _ (HX1.out.keep (old_keep bel)) (HF.out.now bel)).mono ?_;rintro e w2 ⟨rfl,hb2⟩;obtain ⟨hc2,hf2⟩:=bcell hb2;(try simp only [bqh,bqc,bqf] at hc2 hf2);have hz2:=hb2.size;(try simp at hz2);(try have hy2:=nl1 hz2);(try have hx2:=nl2 hy2);refine szz w2 w ?_;intros;refine szz w2 w1 ?_;intros;dsimp only
 go_wp2_with (at_builtin;refine wpList_append_Own (keeps_flat RVal) rfl (.tmp 150) (.tmp 157) 33 rfl w1.heap.size 73 j0 _ 3 32 Tryz.underlying33 hj0 iz0 iz1 iz2 rfl (by decide) (.slice (some ⟨w1.heap.size,0,none⟩) 1 1) [v0] rfl (hown1.keep (keeps_flat _) hb2) [.int .i64 v1.k,.int .i64 v1.n,.string v1.s] 73 rfl _ rfl (by simp) rfl (by simp [Value.oneCell']) (by simp) (by unfold maxLen;simp) (by omega) v1 ⟨rfl,hwf1⟩ ?_;intro g' cap w3 hown3 hb3' hz3' _ _)
 have hb3:Below w1.heap.size w1 w3:=below_step (below_step (Below.alloc (Below.refl _ w1) (Nat.le_refl _) _) hb2 (by simp)) hb3' (Nat.le_refl _)
 obtain ⟨A3,c3,e3,_,hs3⟩:=hown3.sl (keeps_flat _)
 cases e3
 clear hown1 hown3 hb2 hb3'
 try clear hc2 hf2
 have hs4:Sl w3 (old w3) 3 RVal (some ⟨g',0,none⟩) 2 [v0,v1]:=hs3.mono fun _ h => h.2
 rw [HV.out.1] at hs4
 have HS:=Lib.hid hs4
 clear hs3 hs4 hwf0 hwf1
 obtain ⟨hc3,hf3⟩:=bcell hb3;(try simp only [bqh,bqc,bqf] at hc3 hf3);have hz3:=hb3.size;(try simp at hz3);(try have hy3:=nl1 hz3);(try have hx3:=nl2 hy3);refine szz w3 w ?_;intros;refine szz w3 w1 ?_;intros
 have r0:w3.cell? ⟨w.heap.size + 1,0,none⟩ = some (.int .i64 0):=by go_simp
 have r1:w3.cell? ⟨w.heap.size + 1,1,none⟩ = some (.int .i64 0):=by go_simp
 have r2:w3.cell? ⟨w.heap.size + 1,2,none⟩ = some (.string ⟨#[]⟩):=by go_simp
 have q0:w3.frozen? ⟨w.heap.size + 1,0,none⟩ = false:=by go_simp
 have q1:w3.frozen? ⟨w.heap.size + 1,1,none⟩ = false:=by go_simp
 have q2:w3.frozen? ⟨w.heap.size + 1,2,none⟩ = false:=by go_simp
 have d0:w3.cell? ⟨w.heap.size,0,none⟩ = some (.int .i64 x.op):=by go_simp
 have HB3:=Lib.hid (show Below w.heap.size w w3 from bel)
 go_loopw [161] (fun i wr => ∃ k:Nat,k ≤ 2 ∧ i = .int .i64 k ∧ Hid ((vs.take k).any (fun v => v.k == 5) = false) ∧ Below w3.heap.size w3 wr) (fun i _ => 2 - (intOf i).toNat)
 case atStart => exact ⟨0,by omega,rfl,Lib.hid (by simp),Below.refl _ _⟩
 case round =>
  obtain ⟨k,hk,rfl,hz,hbr⟩:=hrel
  obtain ⟨hcr,hfr⟩:=bcell hbr;(try simp only [bqh,bqc,bqf] at hcr hfr);have hzr:=hbr.size;(try simp at hzr);(try have hyr:=nl1 hzr);(try have hxr:=nl2 hyr);refine szz wr w ?_;intros;refine szz wr w1 ?_;intros;refine szz wr w3 ?_;intros
  have HBr:=Lib.hid (show Below w.heap.size w wr from below_step HB3.out hbr (by omega))
  by_cases hlt:k < 2
  ·obtain ⟨b',o',v,hAe,hbl',hlk,hwf,z0,z1,z2⟩:=Val_at (HS.out.now hbr) hlt
   cases hAe
   simp only [Nat.zero_add] at z0 z1 z2
   have HL:=Lib.hid hlk
   clear hlk hwf
   cases hp:(v.k == 5)
   ·have HP:=Lib.hid hp
    go_wp2_with fail
    go_roundw
    case rel => exact ⟨k + 1,by omega,by go_num,Lib.hid (any_next hz.out HL.out HP.out),bel⟩
    case measure => simp [intOf];omega
   ·have hbo:=lackV_fault hz.out HL.out (by simpa using hp)
    have HD:=Lib.hid (show v = out by rw [← HO.out,hbo];rfl)
    clear hbo
    have hBw:=HBr.out
    go_wp2_with fail
    exact bodyPost_ret (v:=.agg #[.int .i64 v.k,.int .i64 v.n,.string v.s]) (by first | (simp [results,Tryz.results137,go_sem];done) | (simp [results,Tryz.results137,go_sem, *];done)) rfl ⟨by rw [HD.out],bel⟩
  ·have hke:k = 2:=by omega
   subst hke
   have HNa:=Lib.hid (show vs.any (fun v => v.k == 5) = false by have h:=hz.out;rwa [List.take_of_length_le (by rw [HV.out.2];exact Nat.le_refl _)] at h)
   have HSa:=Lib.hid (HS.out.now hbr)
   clear hz hlt hk
   generalize hwq:wr = wa at *
   clear hwq
   have HBa:=HBr
   clear HBr
   go_wp2_with fail
   go_loopw [172] (fun i wr => ∃ k:Nat,k ≤ 2 ∧ i = .int .i64 k ∧ Hid ((vs.take k).any (fun v => v.k == 4) = false) ∧ Below wa.heap.size wa wr) (fun i _ => 2 - (intOf i).toNat)
   case atStart => exact ⟨0,by omega,rfl,Lib.hid (by simp),Below.refl _ _⟩
   case round =>
    obtain ⟨k,hk,rfl,hz,hbr⟩:=hrel
    obtain ⟨hcr,hfr⟩:=bcell hbr;(try simp only [bqh,bqc,bqf] at hcr hfr);have hzr:=hbr.size;(try simp at hzr);(try have hyr:=nl1 hzr);(try have hxr:=nl2 hyr);refine szz wr w ?_;intros;refine szz wr w1 ?_;intros;refine szz wr wa ?_;intros
    have HBr:=Lib.hid (show Below w.heap.size w wr from below_step HBa.out hbr (by omega))
    by_cases hlt:k < 2
    ·obtain ⟨b',o',v,hAe,hbl',hlk,hwf,z0,z1,z2⟩:=Val_at (HSa.out.now hbr) hlt
     cases hAe
     simp only [Nat.zero_add] at z0 z1 z2
     have HL:=Lib.hid hlk
     clear hlk hwf
     cases hp:(v.k == 4)
     ·have HP:=Lib.hid hp
      go_wp2_with fail
      go_roundw
      case rel => exact ⟨k + 1,by omega,by go_num,Lib.hid (any_next hz.out HL.out HP.out),bel⟩
      case measure => simp [intOf];omega
     ·have hbo:=lackV_pend1 HNa.out hz.out HL.out (by simpa using hp)
      have HD:=Lib.hid (show v = out by rw [← HO.out,hbo];rfl)
      clear hbo
      have hBw:=HBr.out
      go_wp2_with fail
      exact bodyPost_ret (v:=.agg #[.int .i64 v.k,.int .i64 v.n,.string v.s]) (by first | (simp [results,Tryz.results137,go_sem];done) | (simp [results,Tryz.results137,go_sem, *];done)) rfl ⟨by rw [HD.out],bel⟩
    ·have hke:k = 2:=by omega
     subst hke
     have HNb:=Lib.hid (show vs.any (fun v => v.k == 4) = false by have h:=hz.out;rwa [List.take_of_length_le (by rw [HV.out.2];exact Nat.le_refl _)] at h)
     have HSb:=Lib.hid (HSa.out.now hbr)
     clear hz hlt hk
     generalize hwq:wr = wb at *
     clear hwq
     have HBb:=HBr
     clear HBr
     go_wp2_with fail
     have hA:(bif vs.all (fun v => v.k == 1) then numV (numSub v0.n v1.n) else faultV 9) = out:=by rw [← HO.out,lackV_none HNa.out HNb.out,← HV.out.1];exact (appSub v0 v1).symm
     have HA:=Lib.hid hA
     clear hA
     go_loopw [223] (fun i wr => ∃ k:Nat,k ≤ 2 ∧ i = .int .i64 k ∧ Hid ((vs.take k).all (fun v => v.k == 1) = true) ∧ Below wb.heap.size wb wr) (fun i _ => 2 - (intOf i).toNat)
     case atStart => exact ⟨0,by omega,rfl,Lib.hid (by simp),Below.refl _ _⟩
     case round =>
      obtain ⟨k,hk,rfl,hz,hbr⟩:=hrel
      obtain ⟨hcr,hfr⟩:=bcell hbr;(try simp only [bqh,bqc,bqf] at hcr hfr);have hzr:=hbr.size;(try simp at hzr);(try have hyr:=nl1 hzr);(try have hxr:=nl2 hyr);refine szz wr w ?_;intros;refine szz wr w1 ?_;intros;refine szz wr wb ?_;intros
      have HBr:=Lib.hid (show Below w.heap.size w wr from below_step HBb.out hbr (by omega))
      by_cases hlt:k < 2
      ·obtain ⟨b',o',v,hAe,hbl',hlk,hwf,z0,z1,z2⟩:=Val_at (HSb.out.now hbr) hlt
       cases hAe
       simp only [Nat.zero_add] at z0 z1 z2
       have HL:=Lib.hid hlk
       clear hlk hwf
       cases hp:(v.k == 1)
       ·have hp':(v.k != 1) = true:=by simp only [bne,hp,Bool.not_false]
        have HD:=Lib.hid (show faultV 9 = out by
         rw [← HA.out,show vs.all (fun v => v.k == 1) = false from List.all_eq_false.2 ⟨v,List.mem_of_getElem? HL.out,by rw [hp];decide⟩];rfl)
        have hBw:=HBr.out
        clear hp
        go_wp2_with (go_at_call 183;refine (ref_no _ _).mono ?_;rintro e w6 ⟨rfl,hb6⟩;obtain ⟨hc6,hf6⟩:=bcell hb6;(try simp only [bqh,bqc,bqf] at hc6 hf6);have hz6:=hb6.size;(try simp at hz6);(try have hy6:=nl1 hz6);(try have hx6:=nl2 hy6);refine szz w6 w ?_;intros;refine szz w6 w1 ?_;intros;refine szz w6 wr ?_;intros;dsimp only)
        exact bodyPost_ret (v:=.agg #[.int .i64 5,.int .i64 9,.string ⟨#[]⟩]) (by first | (simp [results,Tryz.results137,go_sem];done) | (simp [results,Tryz.results137,go_sem, *];done)) rfl ⟨by rw [← HD.out];rfl,bel⟩
       ·have hp':(v.k != 1) = false:=by simp only [bne,hp,Bool.not_true]
        have HP:=Lib.hid hp
        clear hp
        go_wp2_with fail
        go_roundw
        case rel => exact ⟨k + 1,by omega,by go_num,Lib.hid (by rw [List.take_add_one,HL.out,List.all_append,hz.out];simp [HP.out]),bel⟩
        case measure => simp [intOf];omega
      ·have hke:k = 2:=by omega
       subst hke
       have hall:vs.all (fun v => v.k == 1) = true:=by have h:=hz.out;rwa [List.take_of_length_le (by rw [HV.out.2];exact Nat.le_refl _)] at h
       have HD:=Lib.hid (show numV (numSub v0.n v1.n) = out by rw [← HA.out,hall];rfl)
       have HSc:=Lib.hid (HSb.out.now hbr)
       clear hz hlt hk hall
       generalize hwq:wr = wz at *
       clear hwq
       have hBw:=HBr.out
       obtain ⟨gb,go,ge,hgl,⟨g0,g1,g2⟩,g3,g4,g5⟩:=two_at (show Sl wz (old wz) 3 RVal _ 2 [v0,v1] from by rw [HV.out.1];exact HSc.out)
       cases ge
       simp only [Nat.zero_add] at g1 g2 g3 g4 g5
       have hN:∀ w,Calls Tryz.prog 186 #[.int .i64 x.op,.int .i64 v0.n,.int .i64 v1.n] w fun e w' => e = .returned (.tuple #[.int .i64 (numSub v0.n v1.n).1,.int .i64 (numSub v0.n v1.n).2]) ∧ ∃ n,w' = w.drewN n:=fun w => by rw [HOP.out];exact ref_NumOf_sub v0.n v1.n w
       obtain ⟨r,e,hr⟩:∃ r e,numSub v0.n v1.n = (r,e):=⟨_,_,rfl⟩
       rw [hr] at hN HD
       clear hr
       dsimp only at hN
       have hB0:Below w.heap.size w wz.drew:=bel
       by_cases he:e = 0
       ·subst he
        have HE:=Lib.hid (show ⟨1,r,⟨#[]⟩⟩ = out by rw [← HD.out];rfl)
        go_wp2_with fail
        go_quiet ((go_at_call 186;refine Calls.quiet_of (hN _)))
        go_wp2_with fail
        exact bodyPost_ret (v:=.agg #[.int .i64 1,.int .i64 r,.string ⟨#[]⟩]) (by first | (simp [results,Tryz.results137,go_sem];done) | (simp [results,Tryz.results137,go_sem, *];done)) rfl ⟨by rw [← HE.out],bel⟩
       ·have he':(e != 0) = true:=by simpa using he
        have HE:=Lib.hid (show faultV e = out by rw [← HD.out];unfold numV;rw [if_neg he])
        clear he
        go_wp2_with fail
        go_quiet ((go_at_call 186;refine Calls.quiet_of (hN _)))
        go_wp2_with (go_at_call 183;refine (ref_no _ _).mono ?_;rintro e w6 ⟨rfl,hb6⟩;obtain ⟨hc6,hf6⟩:=bcell hb6;(try simp only [bqh,bqc,bqf] at hc6 hf6);have hz6:=hb6.size;(try simp at hz6);(try have hy6:=nl1 hz6);(try have hx6:=nl2 hy6);refine szz w6 w ?_;intros;refine szz w6 w1 ?_;intros;refine szz w6 wz ?_;intros;dsimp only)
        exact bodyPost_ret (v:=.agg #[.int .i64 5,.int .i64 e,.string ⟨#[]⟩]) (by first | (simp [results,Tryz.results137,go_sem];done) | (simp [results,Tryz.results137,go_sem, *];done)) rfl ⟨by rw [← HE.out];rfl,bel⟩

end Go.Proofs.YtbhkpepinogigaaGreat
