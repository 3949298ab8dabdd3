/- The reference's climber, for any number of tokens; ExprOf. -/
import Derived.Test.YtldbpmlgbbomcaaGreatDoorCb4
import Derived.Test.YtldbpmlgbbomcaaGreatDoorLx3
import Derived.Test.YtldbpmlgbbomcaaGreatDoorRd9
namespace Go.Proofs.YtldbpmlgbbomcaaGreatDoor
open Go.RowKit

theorem climber_all (T0 R:Nat) (l:List Tkn) (hok:TokOk l):∀ n,FrmN T0 R l n ∧ AhdN T0 R l n
 | 0 => ⟨fun _ _ _ _ _ h => absurd h (Nat.not_lt_zero _),fun _ _ h => absurd h (Nat.not_lt_zero _)⟩
 | n + 1 => by
  obtain ⟨iF,iA⟩:=climber_all T0 R l hok n
  have hA:AhdN T0 R l (n + 1):=by
   intro p w hlen hs
   have hle:(l.drop p).length ≤ n:=by omega
   cases h3:isTk (sgnN 3) (l.drop p) with
   | true => exact ahead_neg T0 R l n iF iA hok p w hle hs h3
   | false =>
   cases h4:isTk (sgnN 4) (l.drop p) with
   | true => exact ahead_not T0 R l n iF iA hok p w hle hs h4
   | false =>
   cases ho:isTk tOpen (l.drop p) with
   | true => exact ahead_open T0 R l n iF iA hok p w hle hs ho
   | false =>
   cases ht:isTk tTrue (l.drop p) with
   | true => exact ahead_true T0 R l n iF iA hok p w hle hs ht
   | false =>
   cases hf:isTk tFalse (l.drop p) with
   | true => exact ahead_false T0 R l n iF iA hok p w hle hs hf
   | false =>
   cases hi:isTk (sgnN 17) (l.drop p) with
   | true => exact ahead_if T0 R l n iF p w hle hs hi
   | false =>
   cases hl:isTk (sgnN 18) (l.drop p) with
   | true => exact ahead_len T0 R l n iF p w hle hs hl
   | false => exact ahead_leaf T0 R l hok p w hs h3 h4 ho ht hf hi hl
  refine ⟨fun L p w h1 h2 hlen hs => formula_step T0 R l n L h1 h2 p false (rdForm L (l.drop p)) iF (fun w h => (hA p w hlen h).mono fun e w' hc => ?_) w hs,hA⟩
  obtain ⟨x,q,b,hx,hr⟩:=cpost_open hc
  refine ⟨x,q,b,hx,fun hb => ?_,?_⟩
  ·subst hb
   have:=rdOne_shr (show rdOne (l.drop p) = .ok x (l.drop q) from hr)
   omega
  ·rw [rdForm_def]
   cases b with
   | true =>
    replace hr:rdOne (l.drop p) = .bad (l.drop q):=hr
    rw [hr]
    rfl
   | false =>
    replace hr:rdOne (l.drop p) = .ok x (l.drop q):=hr
    rw [hr]
    exact (rdClimb_top L x _).symm
theorem cb_begin {T0:Nat} {w1:World} {A1:Option Addr} {c1:Nat} {l:List Tkn} {T:TypeId} (hs:Sl w1 (fun b => T0 ≤ b ∧ b < w1.heap.size) 6 RTkn A1 l.length l) (hc:l.length ≤ c1) (h160:l.length ≤ 160) :
  CbS T0 (w1.alloc (.cells #[.slice A1 l.length c1,.int .i64 0,.bool false] T)) w1.heap.size l 0 false:=by
 have hn:=heap_alloc_new w1 (.cells #[.slice A1 l.length c1,.int .i64 0,.bool false] T)
 have hcl:=fun j => cell_of_row (w1.alloc (.cells #[.slice A1 l.length c1,.int .i64 0,.bool false] T)) w1.heap.size j _ _ _ hn
 refine ⟨A1,c1,⟨?_,?_,?_,by simp,by simp⟩,⟨hc,Nat.zero_le _,h160⟩,hs.keep (fun b hb => Below.heap_alloc w1 _ b hb.2) (fun _ _ h => h)⟩
 ·rw [hcl];rfl
 ·rw [hcl];rfl
 ·rw [hcl];rfl
theorem tree_bad {en:Int} {l:List Tkn} {y:Exp} {p:Nat} {b:Bool} (hr:CbRes l y p b (rdForm 1 l)) (h:b = true ∨ p < l.length):treeR en l = (zX,posOf en (l.drop p),3):=by
 unfold treeR
 cases b with
 | true =>
  replace hr:rdForm 1 l = .bad (l.drop p):=hr
  rw [hr]
 | false =>
  replace hr:rdForm 1 l = .ok y (l.drop p):=hr
  rw [hr]
  have hp:p < l.length:=by rcases h with h | h;cases h;exact h
  rw [List.drop_eq_getElem_cons hp]
  rfl
theorem tree_ok {en:Int} {l:List Tkn} {y:Exp} {p:Nat} (hr:CbRes l y p false (rdForm 1 l)) (h:¬ p < l.length):treeR en l = if exprErr y = 0 then (y,0,0) else (zX,0,exprErr y):=by
 unfold treeR
 replace hr:rdForm 1 l = .ok y (l.drop p):=hr
 rw [hr,List.drop_eq_nil_of_le (by omega)]
set_option maxRecDepth 100000 in
set_option maxHeartbeats 8000000 in
theorem ref_ExprOf (s:ByteArray) (w:World) (hs:inS s) (hg:GdR w):Calls Tryz.prog 7 #[.string s] w (RetPa w (parseX s)):=by
 have htk:=fun w h => ref_LexTokens s w (inS_max hs) h
 have hln:=lexX_len s.data.toList
 have hto:=lexX_tok s
 obtain ⟨G,hG⟩:∃ G,G = parseX s:=⟨_,rfl⟩
 rw [← hG]
 unfold parseX at hG
 generalize lexX s.data.toList = tk at htk hG hln hto
 obtain ⟨l,a,c⟩:=tk
 dsimp only at htk hG hln hto
 have HTOK:=Lib.hid hto
 clear hto
 have hs2:s.size ≤ 140737488351232:=hs
 have HT:=Lib.hid htk
 have HGA:=Lib.hid hg
 clear htk hs hg
 by_cases hc:c = 0
 ·subst hc
  rw [if_pos rfl] at hG
  have HG:=Lib.hid hG
  have HF:=Lib.hid (fun R w' h => (climber_all (w.heap.size + 1) R l HTOK.out (l.length + 1)).1 1 0 w' (by omega) (by omega) (by rw [List.drop_zero];omega) h)
  clear hG
  go_enter Tryz.func7,Tryz.ntmps7
  go_wp2_with (go_at_call 20;refine (HT.out _ (HGA.out.keep bel)).mono ?_;rintro e w1 ⟨v1,rfl,ho1,hb1⟩;obtain ⟨hc1,hf1⟩:=bcell hb1;(try simp only [bqh,bqc,bqf] at hc1 hf1);have hz1:=hb1.size;(try simp at hz1);(try have hy1:=nl1 hz1);(try have hx1:=nl2 hy1);refine szz w1 w ?_;intros;obtain ⟨A1,c1,rfl,hcl1,hsl1⟩:=own_slT Tkn.cs Tkn.wf lenTkn ho1 rfl (fun _ _ => trivial);have HSL:=Lib.hid (show Sl w1 (fun b => w.heap.size + 1 ≤ b ∧ b < w1.heap.size) 6 RTkn A1 l.length l from hsl1.mono fun b hb => by have h1:=hb.1;simp at h1;exact ⟨h1,hb.2⟩);clear ho1 hsl1)
  refine calls_world ?_
  intro W3 hW3
  have hs3:CbS (w.heap.size + 1) W3 w1.heap.size l 0 false:=(by rw [hW3];exact cb_begin HSL.out hcl1 hln)
  have hb3:Below w1.heap.size w1 W3:=(by rw [hW3];exact bel)
  have hz3:ZBX W3 w.heap.size:=(by rw [hW3];unfold ZBX;and_intros <;> go_simp)
  have hbw3:Below w.heap.size w W3:=(by rw [hW3];exact bel)
  have hl3:w1.heap.size < W3.heap.size:=(by rw [hW3];simp)
  clear hW3
  refine (HF.out w1.heap.size W3 hs3).mono ?_
  rintro e w4 h4
  obtain ⟨y,p,b,⟨A4,c4,rfl,hr4,hs4,hb4⟩,hres⟩:=cpost_open h4
  rw [List.drop_zero] at hres
  have hz4:=hb4.size
  have hzb4:=hz3.block (hb4.block w.heap.size (by omega) (by omega))
  have hbw4:Below w.heap.size w w4:=below_step hbw3 (bes_below hb4 (n:=w.heap.size) (by omega) (by omega)) (Nat.le_refl _)
  have HSL4:=Lib.hid (show Sl w4 (fun b => w.heap.size + 1 ≤ b ∧ b < w1.heap.size) 6 RTkn A1 l.length l from HSL.out.keep (fun b hb => (hb4.block b (by omega) (by omega)).trans (hb3.block b hb.2)) (fun _ _ h => h))
  have HR4:=Lib.hid (And.intro hr4 (And.intro hs4 hres))
  clear h4 hr4 hres
  obtain ⟨AA,cc,⟨k0,k1,k2,k3,k4⟩,⟨_,kp,_⟩,_⟩:=id hs4
  obtain ⟨⟨z0,z1,z2,z3,z4,z5⟩,q0,q1,q2,q3,q4,q5⟩:=hzb4
  have m0:¬ w.heap.size = w1.heap.size:=(by omega)
  have m1:¬ w.heap.size = w4.heap.size:=(by omega)
  have m2:¬ w1.heap.size = w4.heap.size:=(by omega)
  have l0:w.heap.size < w4.heap.size:=(by omega)
  have l1:w1.heap.size < w4.heap.size:=(by omega)
  clear hs4
  by_cases hlt:p < l.length
  ·obtain ⟨g,o,t,rfl,hgb,htl,hwf,x0,x1,x2,x3,x4,x5⟩:=Tkn_at HSL4.out hlt
   have hg1:w.heap.size + 1 ≤ g:=hgb.1
   have hg2:g < w1.heap.size:=hgb.2
   have hgl:g < w4.heap.size:=by omega
   have hlt':(p:Int) < (l.length:Int):=by omega
   have hpo:posOf s.size (l.drop p) = t.at_:=by rw [List.getElem?_eq_getElem hlt] at htl;rw [List.drop_eq_getElem_cons hlt,Option.some.inj htl];rfl
   have HX:Hid (G = (zX,t.at_,3)):=Lib.hid (by rw [HG.out,tree_bad HR4.out.2.2 (.inr hlt),hpo])
   clear hpo htl hwf hgb
   cases b
   all_goals
    go_wp2_with fail
    exact bodyPost_ret (v:=.tuple #[.agg #[.int .i64 0,.int .i64 0,.int .i64 0,.string ⟨#[]⟩,.string ⟨#[]⟩,.slice none 0 0],.int .i64 t.at_,.int .i64 3]) (by first | (simp [results,Tryz.results7,go_sem];done) | (simp [results,Tryz.results7,go_sem, *];done)) rfl (RetPa.zero HX.out rfl bel)
  ·have hlt':¬ (p:Int) < (l.length:Int):=by omega
   have hdr:l.drop p = []:=List.drop_eq_nil_of_le (by omega)
   cases b with
   | true =>
    have HX:Hid (G = (zX,(s.size:Int),3)):=Lib.hid (by rw [HG.out,tree_bad HR4.out.2.2 (.inl rfl),hdr];rfl)
    clear hdr
    go_wp2_with fail
    exact bodyPost_ret (v:=.tuple #[.agg #[.int .i64 0,.int .i64 0,.int .i64 0,.string ⟨#[]⟩,.string ⟨#[]⟩,.slice none 0 0],.int .i64 s.size,.int .i64 3]) (by first | (simp [results,Tryz.results7,go_sem];done) | (simp [results,Tryz.results7,go_sem, *];done)) rfl (RetPa.zero HX.out rfl bel)
   | false =>
    obtain ⟨er,her⟩:∃ er,er = exprErr y:=⟨_,rfl⟩
    have HER:=Lib.hid her.symm
    have hto:=tree_ok (en:=s.size) HR4.out.2.2 hlt
    clear hdr
    by_cases hz:er = 0
    ·have HX:=Lib.hid (show G = (y,0,0) by rw [HG.out,hto];exact if_pos (her ▸ hz))
     clear her hto
     subst hz
     go_wp2_with (go_at_call 22;refine calls_world ?_;intro W5 hW5;have hb5:Below w4.heap.size w4 W5:=(by rw [hW5];exact bel);have hx5:XRep W5 (old W5) [.int .i64 y.op,.int .i64 y.v.k,.int .i64 y.v.n,.string y.v.s,.string y.name,.slice A4 y.args.length c4] y:=HR4.out.1.keep (fun b hb => ⟨Nat.lt_of_lt_of_le hb.2 hb5.size,hb5.block b hb.2⟩);have hxb5:XBX W5 w4.heap.size y A4 c4:=(by rw [hW5];unfold XBX;and_intros <;> first | (go_simp;done) | (go_simp;rfl));have hzb5:ZBX W5 w.heap.size:=(by rw [hW5];unfold ZBX;and_intros <;> go_simp);have hbw5:Below w.heap.size w W5:=(by rw [hW5];exact bel);have hl5:w4.heap.size < W5.heap.size:=(by rw [hW5];simp);clear hW5;obtain ⟨⟨u0,u1,u2,u3,u4,u5⟩,_,_,_,_,_,_⟩:=hxb5;obtain ⟨⟨v0,v1,v2,v3,v4,v5⟩,s0,s1,s2,s3,s4,s5⟩:=hzb5;have l05:w.heap.size < W5.heap.size:=(by omega);refine (ref_ExprFault y A4 c4 W5 hx5).mono ?_;rintro e w6 ⟨he6,hb6⟩;rw [HER.out] at he6;subst he6;obtain ⟨hc6,hf6⟩:=bcell hb6;(try simp only [bqh,bqc,bqf] at hc6 hf6);have hz6:=hb6.size;(try simp at hz6);(try have hy6:=nl1 hz6);(try have hx6:=nl2 hy6);refine szz w6 W5 ?_;intros;have l06:w.heap.size < w6.heap.size:=(by omega);have l46:w4.heap.size < w6.heap.size:=(by omega))
     refine exit_world ?_;intro W hW
     have hbW6:Bes w.heap.size w6 W:=by rw [hW];exact bes
     have hxr:XRep W (fresh w W) [.int .i64 y.op,.int .i64 y.v.k,.int .i64 y.v.n,.string y.v.s,.string y.name,.slice A4 y.args.length c4] y:=HR4.out.1.keep (fun b hb => by
      have h1:=hb.1
      have h2:=hb.2
      have h3:=hb5.size
      have h4:=hb6.size
      have h5:=hbW6.size
      exact ⟨⟨by omega,by omega⟩,(hbW6.block b (by omega) (by omega)).trans ((hb6.block b (by omega)).trans (hb5.block b h2))⟩)
     have hbW:Below w.heap.size w W:=below_step (below_step hbw5 hb6 (by omega)) (bes_below hbW6 (n:=w.heap.size) (by omega) (by omega)) (Nat.le_refl _)
     have r:∀ o v,W.cell? ⟨w.heap.size,o,none⟩ = some v ↔ W.cell? ⟨w.heap.size,o,none⟩ = some v:=fun _ _ => Iff.rfl
     clear r
     rw [hW]
     rw [hW] at hxr hbW
     clear hbW6 hW
     exact bodyPost_ret (v:=.tuple #[.agg #[.int .i64 y.op,.int .i64 y.v.k,.int .i64 y.v.n,.string y.v.s,.string y.name,.slice A4 y.args.length c4],.int .i64 0,.int .i64 0]) (by first | (simp [results,Tryz.results7,go_sem];done) | (simp [results,Tryz.results7,go_sem, *];done)) rfl (by rw [HX.out];exact ⟨A4,c4,rfl,hxr,hbW⟩)
    ·have HX:=Lib.hid (show G = (zX,0,er) by rw [HG.out,hto,her];exact if_neg (her ▸ hz))
     have hz':(er != 0) = true:=by simpa using hz
     clear her hz hto
     go_wp2_with (go_at_call 22;refine calls_world ?_;intro W5 hW5;have hb5:Below w4.heap.size w4 W5:=(by rw [hW5];exact bel);have hx5:XRep W5 (old W5) [.int .i64 y.op,.int .i64 y.v.k,.int .i64 y.v.n,.string y.v.s,.string y.name,.slice A4 y.args.length c4] y:=HR4.out.1.keep (fun b hb => ⟨Nat.lt_of_lt_of_le hb.2 hb5.size,hb5.block b hb.2⟩);have hxb5:XBX W5 w4.heap.size y A4 c4:=(by rw [hW5];unfold XBX;and_intros <;> first | (go_simp;done) | (go_simp;rfl));have hzb5:ZBX W5 w.heap.size:=(by rw [hW5];unfold ZBX;and_intros <;> go_simp);have hbw5:Below w.heap.size w W5:=(by rw [hW5];exact bel);have hl5:w4.heap.size < W5.heap.size:=(by rw [hW5];simp);clear hW5;obtain ⟨⟨u0,u1,u2,u3,u4,u5⟩,_,_,_,_,_,_⟩:=hxb5;obtain ⟨⟨v0,v1,v2,v3,v4,v5⟩,s0,s1,s2,s3,s4,s5⟩:=hzb5;have l05:w.heap.size < W5.heap.size:=(by omega);refine (ref_ExprFault y A4 c4 W5 hx5).mono ?_;rintro e w6 ⟨he6,hb6⟩;rw [HER.out] at he6;subst he6;obtain ⟨hc6,hf6⟩:=bcell hb6;(try simp only [bqh,bqc,bqf] at hc6 hf6);have hz6:=hb6.size;(try simp at hz6);(try have hy6:=nl1 hz6);(try have hx6:=nl2 hy6);refine szz w6 W5 ?_;intros;have l06:w.heap.size < w6.heap.size:=(by omega);have l46:w4.heap.size < w6.heap.size:=(by omega))
     exact bodyPost_ret (v:=.tuple #[.agg #[.int .i64 0,.int .i64 0,.int .i64 0,.string ⟨#[]⟩,.string ⟨#[]⟩,.slice none 0 0],.int .i64 0,.int .i64 er]) (by first | (simp [results,Tryz.results7,go_sem];done) | (simp [results,Tryz.results7,go_sem, *];done)) rfl (RetPa.zero HX.out rfl bel)
 ·rw [if_neg hc] at hG
  have hc':(c != 0) = true:=by simpa using hc
  have HG:=Lib.hid hG
  clear hG hc
  go_enter Tryz.func7,Tryz.ntmps7
  go_wp2_with (go_at_call 20;refine (HT.out _ (HGA.out.keep bel)).mono ?_;rintro e w1 ⟨v1,rfl,_,hb1⟩;obtain ⟨hc1,hf1⟩:=bcell hb1;(try simp only [bqh,bqc,bqf] at hc1 hf1);have hz1:=hb1.size;(try simp at hz1);(try have hy1:=nl1 hz1);(try have hx1:=nl2 hy1);refine szz w1 w ?_;intros)
  exact bodyPost_ret (v:=.tuple #[.agg #[.int .i64 0,.int .i64 0,.int .i64 0,.string ⟨#[]⟩,.string ⟨#[]⟩,.slice none 0 0],.int .i64 a,.int .i64 c]) (by first | (simp [results,Tryz.results7,go_sem];done) | (simp [results,Tryz.results7,go_sem, *];done)) rfl (RetPa.zero HG.out rfl bel)
end Go.Proofs.YtldbpmlgbbomcaaGreatDoor
