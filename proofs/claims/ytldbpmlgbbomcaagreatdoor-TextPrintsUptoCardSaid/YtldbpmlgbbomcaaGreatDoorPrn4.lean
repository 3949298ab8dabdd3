/- expr.printed at an if, a len; at any formula; expr.Print. (printed by mkprn4.py) -/
import Derived.Test.YtldbpmlgbbomcaaGreatDoorPrn3
import Derived.Test.YtldbpmlgbbomcaaGreatDoorPrt3
namespace Go.Proofs.YtldbpmlgbbomcaaGreatDoor
open Go.RowKit

theorem preT_first (s:ByteArray) (t:Int × ByteArray):preT s [t] = s ++ t.2:=rfl
theorem preT_part (s:ByteArray) (l:List (Int × ByteArray)) (j:Nat):(preT s (l.take j)).size ≤ s.size + (l.map (fun t => t.2.size)).sum + 2 * l.length:=by
 refine Nat.le_trans (preT_len _ _) ?_
 have h1:((l.take j).map (fun t => t.2.size)).sum ≤ (l.map (fun t => t.2.size)).sum:=by
  conv => rhs;rw [← List.take_append_drop j l,List.map_append,List.sum_append]
  exact Nat.le_add_right _ _
 have h2:(l.take j).length ≤ l.length:=by rw [List.length_take];omega
 omega
set_option maxRecDepth 100000 in
set_option maxHeartbeats 8000000 in
theorem printed_whole (x:Exp) (A:Option Addr) (c:Nat) (level:Int) (w:World) (hp:prtN x = 0) (h2:x.op = 17 ∨ x.op = 18) (hg:Gd w) (N:Nat) (hN:x.nodes ≤ N + 1) (hM:x.nodes ≤ 1048576) (ih:PrnN N) (hx:XRep w (old w) [.int .i64 x.op,.int .i64 x.v.k,.int .i64 x.v.n,.string x.v.s,.string x.name,.slice A x.args.length c] x) :
  Calls Tryz.prog 106 #[.agg #[.int .i64 x.op,.int .i64 x.v.k,.int .i64 x.v.n,.string x.v.s,.string x.name,.slice A x.args.length c],.int .i64 level] w (RetS w (brk level (prT x))):=by
 obtain ⟨p1,p2,p3,p4⟩:=prt_ok hp
 have hix:=shape_at x.op p1 p2
 have hlv:lvlN x.op = 7:=by rcases h2 with h | h <;> (rw [h];decide)
 have hn3:x.args.length ≤ 3 ∧ 0 < x.args.length:=by
  rcases h2 with h | h
  ·have:argsN x.op = 3:=by rw [h];decide
   omega
  ·have:argsN x.op = 1:=by rw [h];decide
   omega
 obtain ⟨A0,c0,e0,i1,i2,i3,i4,i5,hsl⟩:=hx.open_
 simp only [List.cons.injEq,Value.slice.injEq,and_true,true_and] at e0
 obtain ⟨rfl,rfl⟩:=e0
 have HSL:=Lib.hid hsl
 have HP4:=Lib.hid p4
 have HG:=Lib.hid hg
 have H0:=Lib.hid h2
 have HI:=Lib.hid ih
 have g1:(x.op == 1) = false:=by simp only [beq_eq_false_iff_ne,ne_eq];omega
 have g2:(x.op == 2) = false:=by simp only [beq_eq_false_iff_ne,ne_eq];omega
 have hlv':(lvlN x.op == 7) = true:=by rw [beq_iff_eq];exact hlv
 obtain ⟨hn4,hn5⟩:=hn3
 have HNN:=Lib.hid (And.intro hN hM)
 clear hsl i1 i2 i3 i4 i5 hg ih hN hM
 obtain ⟨k,hk⟩:∃ k,k = lvlN x.op:=⟨_,rfl⟩
 obtain ⟨sg,hsg⟩:∃ sg,sg = sgnN x.op:=⟨_,rfl⟩
 rw [← hk] at hlv'
 simp only [← hk,← hsg] at hix
 have HKS:=Lib.hid (And.intro hk hsg)
 clear hk hsg hlv
 go_enter Tryz.func106,Tryz.ntmps106
 go_wp2_with fail
 rename_i K hK
 have key:∀ (b:Nat) (W:World),W.cell? ⟨b,0,none⟩ = some (.string sg) → W.cell? ⟨b,1,none⟩ = some (.int .i64 k) → W.cell? ⟨w.heap.size,0,none⟩ = some (.int .i64 x.op) → W.cell? ⟨w.heap.size,1,none⟩ = some (.int .i64 x.v.k) → W.cell? ⟨w.heap.size,2,none⟩ = some (.int .i64 x.v.n) → W.cell? ⟨w.heap.size,3,none⟩ = some (.string x.v.s) → W.cell? ⟨w.heap.size,4,none⟩ = some (.string x.name) → W.cell? ⟨w.heap.size,5,none⟩ = some (.slice A x.args.length c) → Below w.heap.size w W → w.heap.size < b → b < W.heap.size → K { tmps:=#[.agg #[.int .i64 x.op,.int .i64 x.v.k,.int .i64 x.v.n,.string x.v.s,.string x.name,.slice A x.args.length c],.int .i64 level,.pointer (some ⟨w.heap.size,0,none⟩),undef,.string ⟨#[]⟩,.pointer (some ⟨b,0,none⟩),undef,undef,undef,undef,.agg shapesC.toArray,.pointer (some ⟨w.heap.size,0,none⟩),.int .i64 x.op,.agg #[.string sg,.int .i64 k,.int .i64 (argsN x.op)],undef,undef,undef,undef,undef,undef,undef,undef,undef,undef,undef,undef,undef,undef,undef,undef,undef,undef,undef,undef,undef,undef,undef,undef,undef,undef,undef,undef,undef,undef,undef,undef,undef,undef,undef,undef,undef,undef,undef,undef,undef,undef,undef,undef,undef,undef,undef,undef,undef,undef,undef,undef,undef,undef,undef,undef,undef,undef,undef,undef,undef,undef,undef,undef,undef,undef,undef,undef,undef,undef,undef,undef,undef,undef,undef,undef,undef,undef,undef,undef,undef,undef,undef,undef,undef,undef,undef,undef,undef,undef,undef,undef,undef,undef,undef,undef,undef,undef,undef,undef,undef],defers:=[] } W:=by
  intro b W s0 s1 x0 x1 x2 x3 x4 x5 hW hb1 hb2
  apply hK
  clear hK K
  obtain ⟨ts,hts⟩:∃ ts,ts = x.args.map prT:=⟨_,rfl⟩
  have htl:ts.length = x.args.length:=by rw [hts,List.length_map]
  have hsum:(ts.map (fun t => t.2.size)).sum ≤ 104857600:=by
   have:=prL_len x.args HP4.out
   rw [prL_map] at this
   rw [hts]
   refine Nat.le_trans this ?_
   have hnx:x.nodes = nodesL x.args + 1:=by cases x;rfl
   have:=HNN.out.2
   omega
  have htx:prX x = preT (sg ++ ⟨#[40]⟩) ts ++ ⟨#[41]⟩:=by
   rw [prX_eq,joinT,if_neg (by have:=H0.out;omega),if_neg (by have:=H0.out;omega),if_pos H0.out,← HKS.out.2,hts]
   rfl
  have HK:=Lib.hid (And.intro HKS.out.1 htx)
  have hsgl:sg.size ≤ 3:=by rw [HKS.out.2];exact sgn_len _
  have HT:=Lib.hid (And.intro hts (And.intro htl hsum))
  have hpre:∀ j,(preT (sg ++ ⟨#[40]⟩) (ts.take j)).size ≤ 104857620:=fun j => by
   refine Nat.le_trans (preT_part _ _ _) ?_
   have c40:(⟨#[40]⟩:ByteArray).size = 1:=rfl
   rw [ByteArray.size_append,c40]
   omega
  have HPR:=Lib.hid hpre
  have c40:(⟨#[40]⟩:ByteArray).size = 1:=rfl
  clear HKS hts htl hsum htx hx hix hpre h2 p1 p2 p3 p4 hp
  have hwb:w.heap.size < W.heap.size:=by omega
  have hs40:(sg ++ ⟨#[40]⟩).size ≤ 1000:=by rw [ByteArray.size_append];omega
  go_wp2_with fail
  go_loopw [6,66] (fun t i wr => ∃ j:Nat,j ≤ x.args.length ∧ i = .int .i64 j ∧ t = .string (preT (sg ++ ⟨#[40]⟩) (ts.take j)) ∧ Below W.heap.size W wr) (fun _ i _ => x.args.length - (intOf i).toNat)
  case atStart => exact ⟨0,Nat.zero_le _,rfl,rfl,Below.refl _ _⟩
  case round =>
   obtain ⟨j,hj,rfl,rfl,hbr⟩:=hrel
   have hWr:Below w.heap.size w wr:=below_step hW hbr (by omega)
   have hzr:=hbr.size
   have q1:wr.cell? ⟨b,1,none⟩ = some (.int .i64 k):=cell_keep s1 hbr
   by_cases hlt:j < x.args.length
   ·have hjj:(j:Int) < (x.args.length:Int):=by omega
    obtain ⟨g,o9,a,X9,C9,e9,hg9,hl9,hx9,y0,y1,y2,y3,y4,y5⟩:=Exp_at (HSL.out.nowN keeps_Exp hWr) hlt
    subst e9
    have hgl:g < wr.heap.size:=hg9
    have hma:=List.mem_of_getElem? hl9
    have hnm:=nodes_mem9 hma
    have hpa:=HP4.out a hma
    have hch:=fun w h h' => HI.out a X9 C9 1 w (by have:=HNN.out.1;omega) (by have:=HNN.out.2;omega) hpa h h'
    have hb1':brk 1 (prT a) = prX a:=by unfold brk;rw [if_neg (by have:=(lvl_bd (prT a).1).2;omega)];rfl
    rw [hb1'] at hch
    obtain ⟨tA,htA⟩:∃ tA,tA = prX a:=⟨_,rfl⟩
    rw [← htA] at hch
    have hAl:tA.size ≤ 104857600:=by
     rw [htA]
     have h1:=prX_len a hpa
     have:=HNN.out.2
     omega
    have hti:ts[j]? = some (prT a):=by rw [HT.out.1,List.getElem?_map,hl9];rfl
    have htk:ts.take (j + 1) = ts.take j ++ [prT a]:=by rw [List.take_add_one,hti];rfl
    have hsj:=HPR.out j
    have HXA:=Lib.hid hx9
    obtain ⟨sj,hsje⟩:∃ sj,sj = preT (sg ++ ⟨#[40]⟩) (ts.take j):=⟨_,rfl⟩
    rw [← hsje] at hsj ⊢
    by_cases h0:j = 0
    ·have gj:decide ((0:Int) < (j:Int)) = false:=decide_eq_false (by omega)
     have gj':¬ 0 < j:=by omega
     have HN:=Lib.hid (show preT (sg ++ ⟨#[40]⟩) (ts.take (j + 1)) = sj ++ tA by rw [htk,hsje,htA];subst h0;rfl)
     clear h0 htk hti hma hnm hpa hl9 hx9 hb1' hsje htA
     go_wp2_with (go_at_call 106;refine (hch _ (HG.out.keep (below_chain hWr (show Below wr.heap.size wr _ from bel))) (HXA.out.keep (old_keep (show Below wr.heap.size wr _ from bel)))).mono ?_;rintro e w3 ⟨rfl,hb3⟩;obtain ⟨hc3,hf3⟩:=bcell hb3;(try simp only [bqh,bqc,bqf] at hc3 hf3);have hz3:=hb3.size;(try simp at hz3);(try have hy3:=nl1 hz3);(try have hx3:=nl2 hy3);refine szz w3 wr ?_;intros)
     go_roundw
     case rel =>
      refine ⟨j + 1,by omega,by go_num,?_,?_⟩
      ·rw [HN.out]
      ·exact below_chain hbr (show Below wr.heap.size wr _ from bel)
     case measure => simp [intOf];omega
    ·have gj:decide ((0:Int) < (j:Int)) = true:=decide_eq_true (by omega)
     have gj':0 < j:=by omega
     have HN:=Lib.hid (show preT (sg ++ ⟨#[40]⟩) (ts.take (j + 1)) = sj ++ ⟨#[44,32]⟩ ++ tA by
      rw [htk,preT_next _ _ _ (fun h => by
       have h5:=congrArg List.length h
       rw [List.length_take,HT.out.2.1,List.length_nil] at h5
       omega),hsje,htA];rfl)
     have c44:(⟨#[44,32]⟩:ByteArray).size = 2:=rfl
     have hsz2:(sj ++ ⟨#[44,32]⟩).size ≤ 104857700:=by rw [ByteArray.size_append];omega
     clear h0 htk hti hma hnm hpa hl9 hx9 hb1' hsje htA
     go_wp2_with (go_at_call 106;refine (hch _ (HG.out.keep (below_chain hWr (show Below wr.heap.size wr _ from bel))) (HXA.out.keep (old_keep (show Below wr.heap.size wr _ from bel)))).mono ?_;rintro e w3 ⟨rfl,hb3⟩;obtain ⟨hc3,hf3⟩:=bcell hb3;(try simp only [bqh,bqc,bqf] at hc3 hf3);have hz3:=hb3.size;(try simp at hz3);(try have hy3:=nl1 hz3);(try have hx3:=nl2 hy3);refine szz w3 wr ?_;intros)
     go_roundw
     case rel =>
      refine ⟨j + 1,by omega,by go_num,?_,?_⟩
      ·rw [HN.out]
      ·exact below_chain hbr (show Below wr.heap.size wr _ from bel)
     case measure => simp [intOf];omega
   ·obtain rfl:j = x.args.length:=by omega
    have hlast:ts.take x.args.length = ts:=by rw [List.take_of_length_le (by rw [HT.out.2.1];exact Nat.le_refl _)]
    have hsj:=HPR.out x.args.length
    rw [hlast] at hsj ⊢
    clear hlast
    obtain ⟨sj,hsje⟩:∃ sj,sj = preT (sg ++ ⟨#[40]⟩) ts:=⟨_,rfl⟩
    have HK':=HK
    rw [← hsje] at hsj ⊢
    have HK:=Lib.hid (And.intro HK'.out.1 (HK'.out.2.trans (show _ = sj ++ ⟨#[41]⟩ by rw [hsje])))
    have c41:(⟨#[41]⟩:ByteArray).size = 1:=rfl
    clear hsje HK'
    by_cases hl:k < level
    ·have hbr:brk level (prT x) = ⟨#[40]⟩ ++ (sj ++ ⟨#[41]⟩) ++ ⟨#[41]⟩:=by unfold brk;show (if lvlN x.op < level then ⟨#[40]⟩ ++ prX x ++ ⟨#[41]⟩ else prX x) = _;rw [← HK.out.1,if_pos hl,HK.out.2]
     have HBR:=Lib.hid hbr
     clear hbr
     go_wp2_with fail
     go_ret
     exact ⟨by rw [HBR.out];try rfl,bel⟩
    ·have hbr:brk level (prT x) = sj ++ ⟨#[41]⟩:=by unfold brk;show (if lvlN x.op < level then ⟨#[40]⟩ ++ prX x ++ ⟨#[41]⟩ else prX x) = _;rw [← HK.out.1,if_neg hl,HK.out.2]
     have HBR:=Lib.hid hbr
     clear hbr
     go_wp2_with fail
     go_ret
     exact ⟨by rw [HBR.out];try rfl,bel⟩
 go_region_law (first | (go_simp;go_at_call 16;refine (expr_shapes _).mono ?_;rintro e w1 ⟨rfl,hb1⟩;have hw1:Below w.heap.size w w1:=(by refine below_step ?_ hb1 (by simp [heap_drew] <;> omega);exact bel);have hz1:=hb1.size;simp [heap_drew] at hz1;have ho1:w.heap.size < w1.heap.size:=(by omega);have hy7:w.heap.size < w.heap.size + 1:=(by omega);have hy8:w.heap.size < w.heap.size + 1 + 1:=(by omega);have hy9:w.heap.size + 1 < w.heap.size + 1 + 1:=(by omega);obtain ⟨hc1,hf1⟩:=bcell hb1;(try simp only [bqh,bqc,bqf] at hc1 hf1);have hz1:=hb1.size;(try simp at hz1);(try have hy1:=nl1 hz1);(try have hx1:=nl2 hy1);refine szz w1 w ?_;intros))
 all_goals
  refine key _ _ ?_ ?_ ?_ ?_ ?_ ?_ ?_ ?_ ?_ ?_ ?_
 all_goals first | (go_simp;done) | exact bel | (refine below_step hw1 ?_ (by omega);exact bel) | omega | (simp;omega)
theorem printed_N:∀ N,PrnN N
 | 0 => fun x A c level w hn _ _ _ _ => absurd hn (by cases x;simp [Exp.nodes])
 | N + 1 => fun x A c level w hn hM hp hg hx => by
  have ih:=printed_N N
  obtain ⟨p1,p2,_,_⟩:=prt_ok hp
  by_cases h1:x.op = 1
  ·exact printed_const x A c level w hp h1 hg hx
  by_cases h2:x.op = 2
  ·exact printed_ref x A c level w hp h2 hx
  by_cases h3:x.op = 3
  ·exact printed_op3 x A c level w hp h3 hg N hn hM ih hx
  by_cases h4:x.op = 4
  ·exact printed_op4 x A c level w hp h4 hg N hn hM ih hx
  by_cases h5:x.op ≤ 16
  ·by_cases h6:lvlN x.op = 3
   ·exact printed_near x A c level w hp ⟨by omega,h5⟩ h6 hg N hn hM ih hx
   ·exact printed_far x A c level w hp ⟨by omega,h5⟩ h6 hg N hn hM ih hx
  ·exact printed_whole x A c level w hp (by omega) hg N hn hM ih hx
def printR (x:Exp):ByteArray × Int:=if exprErr x ≠ 0 then (⟨#[]⟩,exprErr x) else (prX x,0)
set_option maxHeartbeats 4000000 in
theorem expr_Print (x:Exp) (A:Option Addr) (c:Nat) (w:World) (hM:x.nodes ≤ 1048576) (hg:Gd w) (hx:XRep w (old w) [.int .i64 x.op,.int .i64 x.v.k,.int .i64 x.v.n,.string x.v.s,.string x.name,.slice A x.args.length c] x) :
  Calls Tryz.prog 56 #[.agg #[.int .i64 x.op,.int .i64 x.v.k,.int .i64 x.v.n,.string x.v.s,.string x.name,.slice A x.args.length c]] w fun e w' => e = .returned (.tuple #[.string (printR x).1,.int .i64 (printR x).2]) ∧ Below w.heap.size w w':=by
 have h1:=fun w h => expr_Check x A c w h
 have HX:=Lib.hid hx
 have HG:=Lib.hid hg
 by_cases he:exprErr x = 0
 ·have hp:prtN x = 0:=by
   have h:=he
   unfold exprErr at h
   split at h
   ·cases h
   ·split at h
    ·cases h
    ·exact h
  have h2:=fun w h h' => printed_N _ x A c 1 w (Nat.le_refl _) hM hp h h'
  have hb1':brk 1 (prT x) = prX x:=by unfold brk;rw [if_neg (by have:=(lvl_bd (prT x).1).2;omega)];rfl
  rw [hb1'] at h2
  have HR:=Lib.hid (show printR x = (prX x,0) by unfold printR;rw [if_neg (by simpa using he)])
  rw [he] at h1
  clear hx hg he hp hb1'
  go_enter Tryz.func56,Tryz.ntmps56
  go_wp2_with (first
   | (go_at_call 19;refine (h1 _ (HX.out.keep (old_keep bel))).mono ?_;rintro e w1 ⟨rfl,hb1⟩;obtain ⟨hc1,hf1⟩:=bcell hb1;(try simp only [bqh,bqc,bqf] at hc1 hf1);have hz1:=hb1.size;(try simp at hz1);(try have hy1:=nl1 hz1);(try have hx1:=nl2 hy1);refine szz w1 w ?_;intros)
   | (go_at_call 106;refine (h2 _ (HG.out.keep bel) (HX.out.keep (old_keep bel))).mono ?_;rintro e w2 ⟨rfl,hb2⟩;obtain ⟨hc2,hf2⟩:=bcell hb2;(try simp only [bqh,bqc,bqf] at hc2 hf2);have hz2:=hb2.size;(try simp at hz2);(try have hy2:=nl1 hz2);(try have hx2:=nl2 hy2);refine szz w2 w ?_;intros;refine szz w2 w1 ?_;intros))
  refine bodyPost_ret (v:=.tuple #[.string (prX x),.int .i64 0]) (by first | (simp [results,Tryz.results56,go_sem];done) | (simp [results,Tryz.results56,go_sem, *];done)) rfl ?_
  rw [HR.out]
  exact ⟨rfl,bel⟩
 ·have gz:(exprErr x != 0) = true:=by simpa using he
  have HR:=Lib.hid (show printR x = (⟨#[]⟩,exprErr x) by unfold printR;rw [if_pos he])
  generalize exprErr x = er at *
  clear hx hg he
  go_enter Tryz.func56,Tryz.ntmps56
  go_wp2_with (go_at_call 19;refine (h1 _ (HX.out.keep (old_keep bel))).mono ?_;rintro e w1 ⟨rfl,hb1⟩;obtain ⟨hc1,hf1⟩:=bcell hb1;(try simp only [bqh,bqc,bqf] at hc1 hf1);have hz1:=hb1.size;(try simp at hz1);(try have hy1:=nl1 hz1);(try have hx1:=nl2 hy1);refine szz w1 w ?_;intros)
  refine bodyPost_ret (v:=.tuple #[.string ⟨#[]⟩,.int .i64 er]) (by first | (simp [results,Tryz.results56,go_sem];done) | (simp [results,Tryz.results56,go_sem, *];done)) rfl ?_
  rw [HR.out]
  exact ⟨rfl,bel⟩
end Go.Proofs.YtldbpmlgbbomcaaGreatDoor
