/- The reader of formulas: one. (printed by mkrd6.py) -/
import Derived.Test.YtldbpmlgbbomcaaGreatDoorRd5
namespace Go.Proofs.YtldbpmlgbbomcaaGreatDoor
open Go.RowKit

theorem slX1 {w:World} {b:Nat} {e:TypeId} {fr:Nat × Nat} {S:Nat → Prop} (y:Exp) (A:Option Addr) (c:Nat) (hS:S b) (hy:XRep w S [.int .i64 y.op,.int .i64 y.v.k,.int .i64 y.v.n,.string y.v.s,.string y.name,.slice A y.args.length c] y)
  (h:w.heap[b]? = some (.cells #[.int .i64 y.op,.int .i64 y.v.k,.int .i64 y.v.n,.string y.v.s,.string y.name,.slice A y.args.length c] e fr)):Sl w S 6 (XRep w S) (some ⟨b,0,none⟩) 1 [y]:=by
 refine ⟨rfl,fun _ => ⟨b,0,rfl,hS,fun i v hi => ?_⟩⟩
 obtain rfl:i = 0:=by have:=(List.getElem?_eq_some_iff.1 hi).1;simp at this;omega
 obtain rfl:y = v:=by simpa using hi
 refine ⟨_,hy,rfl,fun j hj => ?_⟩
 rw [cell_of_row w b _ _ _ _ h]
 simp
theorem slX2 {w:World} {b:Nat} {e:TypeId} {fr:Nat × Nat} {S:Nat → Prop} (x y:Exp) (A A2:Option Addr) (c c2:Nat) (hS:S b) (hx:XRep w S [.int .i64 x.op,.int .i64 x.v.k,.int .i64 x.v.n,.string x.v.s,.string x.name,.slice A x.args.length c] x)
  (hy:XRep w S [.int .i64 y.op,.int .i64 y.v.k,.int .i64 y.v.n,.string y.v.s,.string y.name,.slice A2 y.args.length c2] y)
  (h:w.heap[b]? = some (.cells #[.int .i64 x.op,.int .i64 x.v.k,.int .i64 x.v.n,.string x.v.s,.string x.name,.slice A x.args.length c,.int .i64 y.op,.int .i64 y.v.k,.int .i64 y.v.n,.string y.v.s,.string y.name,.slice A2 y.args.length c2] e fr)):Sl w S 6 (XRep w S) (some ⟨b,0,none⟩) 2 [x,y]:=by
 refine ⟨rfl,fun _ => ⟨b,0,rfl,hS,fun i v hi => ?_⟩⟩
 have hi2:=(List.getElem?_eq_some_iff.1 hi).1
 simp at hi2
 rcases (by omega:i = 0 ∨ i = 1) with rfl | rfl
 ·obtain rfl:x = v:=by simpa using hi
  refine ⟨_,hx,rfl,fun j hj => ?_⟩
  rw [cell_of_row w b _ _ _ _ h]
  rcases (by omega:j = 0 ∨ j = 1 ∨ j = 2 ∨ j = 3 ∨ j = 4 ∨ j = 5) with rfl | rfl | rfl | rfl | rfl | rfl <;> rfl
 ·obtain rfl:y = v:=by simpa using hi
  refine ⟨_,hy,rfl,fun j hj => ?_⟩
  rw [cell_of_row w b _ _ _ _ h]
  rcases (by omega:j = 0 ∨ j = 1 ∨ j = 2 ∨ j = 3 ∨ j = 4 ∨ j = 5) with rfl | rfl | rfl | rfl | rfl | rfl <;> rfl
theorem new_at {W:World} {o:Obj} {n:Nat} (h:n = W.heap.size):(W.alloc o).heap[n]? = some o:=by subst h;exact heap_alloc_new W o
theorem un_rep {R:Nat} {w w1 w2 W:World} {x:Exp} {A:Option Addr} {c:Nat} {e:TypeId} {fr:Nat × Nat} (op:Int) (hop:inI op) (hx:XRep w2 (fresh w1 w2) [.int .i64 x.op,.int .i64 x.v.k,.int .i64 x.v.n,.string x.v.s,.string x.name,.slice A x.args.length c] x)
  (hw:w.heap.size < w1.heap.size) (hz:w1.heap.size ≤ w2.heap.size) (hR:R < w.heap.size) (hb:Bes w.heap.size w2 W) (hnew:W.heap[w2.heap.size]? = some (.cells #[.int .i64 x.op,.int .i64 x.v.k,.int .i64 x.v.n,.string x.v.s,.string x.name,.slice A x.args.length c] e fr)) :
  XRep W (fresh w W) [.int .i64 op,.int .i64 0,.int .i64 0,.string ⟨#[]⟩,.string ⟨#[]⟩,.slice (some ⟨w2.heap.size,0,none⟩) 1 1] (unX op x):=by
 have hlt:w2.heap.size < W.heap.size:=(Array.getElem?_eq_some_iff.1 hnew).1
 exact call_rep (l:=[x]) op hop (by simp) (by simp) (slX1 x A c ⟨by omega,hlt⟩ (xrep_on hx hw hR (Bes.refl R w2) hb) hnew)
set_option maxRecDepth 100000 in
set_option maxHeartbeats 4000000 in
theorem one_neg (T0 R:Nat) (en:Int) (n:Nat) (ihL:LevN T0 R en n) (ihO:OneN T0 R en n) (ts:List Tkn) (w:World) (hts:ts.length ≤ n) (hok:TokOk ts) (hgR:GlobR R) (hg:GdA w) (hs:RdS T0 w R ts en) (ht:isTk (sgnN 3) ts = true) :
  Calls Tryz.prog 39 #[.pointer (some ⟨R,0,none⟩)] w (PPost T0 R en w (rdOne ts)):=by
 have hRlt:=hs.lt
 have n0:¬ w.heap.size = R:=by omega
 have n1:¬ w.heap.size + 1 = R:=by omega
 have ix0:∀ w:World,(Instr.index 134 (.agg #[.int .i64 3,.int .i64 4]) (.int .i64 0)).run Tryz.prog w = .ok (.int .i64 3) w:=fun _ => by kernel_rfl
 have ix1:∀ w:World,(Instr.index 134 (.agg #[.int .i64 3,.int .i64 4]) (.int .i64 1)).run Tryz.prog w = .ok (.int .i64 4) w:=fun _ => by kernel_rfl
 have yo3:=(show w.cell? ⟨R,11,none⟩ = some (.string ⟨#[45]⟩) from hs.ops 9 _ rfl)
 have yo4:=(show w.cell? ⟨R,14,none⟩ = some (.string ⟨#[110,111,116]⟩) from hs.ops 12 _ rfl)
 rw [rdOne_neg ht]
 have f3:isTk ⟨#[45]⟩ ts = true:=ht
 have hi:=fun g w h => reader_is T0 R ts en g w h
 obtain ⟨t,r0,rfl,_,hts2⟩:=isTk_cons ht
 have htk:=fun w h => reader_take T0 R t r0 en w h
 have hon:=fun w h h' => ihO r0 w (by simp only [List.length_cons] at hts;omega) hok.tail hgR h h'
 rw [List.tail_cons]
 have HGR:=Lib.hid hgR
 have HI:=Lib.hid hi
 cases hq:rdOne r0 with
 | bad r =>
  rw [hq] at hon
  have HH:=Lib.hid (And.intro hs (And.intro htk (And.intro hg hon)))
  clear hs htk hg hon hi hq ihL ihO hok hgR hts ht hts2
  show Calls _ _ _ _ (RetBad R en w r)
  go_enter Tryz.func39,Tryz.ntmps39
  go_wp2_with fail
  go_loop [6] (fun i => i = .int .i64 0) (fun i => 1 - (intOf i).toNat)
  case atStart => exact rfl
  case round =>
   subst hrel
   go_wp2_with (first
    | (go_at_call 87;refine (HI.out _ _ (HH.out.1.keep bel)).mono ?_;rintro e w9 ⟨rfl,rfl⟩)
    | (go_at_call 41;refine (HH.out.2.1 _ (HH.out.1.keep bel)).mono ?_;rintro e w1 ⟨rfl,hs1,hb1⟩;obtain ⟨hc1,hf1⟩:=bcells hb1;(try simp only [bqh,bqc,bqf] at hc1 hf1);have hz1:=hb1.size;(try simp at hz1);(try have hy1:=nl1 hz1);(try have hx1:=nl2 hy1);refine szz w1 w ?_;intros;have m1:¬ w1.heap.size = R:=(by omega);have HB1:=Lib.hid (show Bes R w w1 from bes))
    | (go_at_call 39;refine (HH.out.2.2.2 _ (HH.out.2.2.1.bes HB1.out HGR.out) (hs1.keep bel)).mono ?_;rintro e w2 ⟨he,hb2⟩;unfold lostE at he;subst he))
   exact ⟨rfl,rfl,bes⟩
 | ok x r =>
  rw [hq] at hon
  have HH:=Lib.hid (And.intro hs (And.intro htk (And.intro hg hon)))
  clear hs htk hg hon hi hq ihL ihO hok hgR hts ht hts2
  show Calls _ _ _ _ (RetX T0 R en w (unX 3 x) r)
  go_enter Tryz.func39,Tryz.ntmps39
  go_wp2_with fail
  go_loop [6] (fun i => i = .int .i64 0) (fun i => 1 - (intOf i).toNat)
  case atStart => exact rfl
  case round =>
   subst hrel
   go_wp2_with (first
    | (go_at_call 87;refine (HI.out _ _ (HH.out.1.keep bel)).mono ?_;rintro e w9 ⟨rfl,rfl⟩)
    | (go_at_call 41;refine (HH.out.2.1 _ (HH.out.1.keep bel)).mono ?_;rintro e w1 ⟨rfl,hs1,hb1⟩;obtain ⟨hc1,hf1⟩:=bcells hb1;(try simp only [bqh,bqc,bqf] at hc1 hf1);have hz1:=hb1.size;(try simp at hz1);(try have hy1:=nl1 hz1);(try have hx1:=nl2 hy1);refine szz w1 w ?_;intros;have m1:¬ w1.heap.size = R:=(by omega);have HB1:=Lib.hid (show Bes R w w1 from bes))
    | (go_at_call 39;refine (HH.out.2.2.2 _ (HH.out.2.2.1.bes HB1.out HGR.out) (hs1.keep bel)).mono ?_;rintro e w2 ⟨A2,c2,rfl,hr2,hs2,hb2⟩;obtain ⟨hc2,hf2⟩:=bcells hb2;(try simp only [bqh,bqc,bqf] at hc2 hf2);have hz2:=hb2.size;(try simp at hz2);(try have hy2:=nl1 hz2);(try have hx2:=nl2 hy2);refine szz w2 w ?_;intros;refine szz w2 w1 ?_;intros;have m2:¬ w2.heap.size = R:=(by omega);have yc0:w2.cell? ⟨w.heap.size,0,none⟩ = some (.int .i64 0):=(by go_simp);have yc1:w2.cell? ⟨w.heap.size,1,none⟩ = some (.int .i64 0):=(by go_simp);have yc2:w2.cell? ⟨w.heap.size,2,none⟩ = some (.int .i64 0):=(by go_simp);have yc3:w2.cell? ⟨w.heap.size,3,none⟩ = some (.string ⟨#[]⟩):=(by go_simp);have yc4:w2.cell? ⟨w.heap.size,4,none⟩ = some (.string ⟨#[]⟩):=(by go_simp);have yc5:w2.cell? ⟨w.heap.size,5,none⟩ = some (.slice none 0 0):=(by go_simp)))
   exact bodyPost_ret (v:=.agg #[.int .i64 3,.int .i64 0,.int .i64 0,.string ⟨#[]⟩,.string ⟨#[]⟩,.slice (some ⟨w2.heap.size,0,none⟩) 1 1]) (by first | (simp [results,Tryz.results39,go_sem];done) | (simp [results,Tryz.results39,go_sem, *];done)) rfl ⟨_,_,rfl,un_rep 3 (inI_c 3 (by omega)) hr2 (by omega) (by omega) hRlt bes (new_at (by simp)),hs2.under (n:=R + 1) bel (by omega),bes⟩
set_option maxRecDepth 100000 in
set_option maxHeartbeats 4000000 in
theorem one_not (T0 R:Nat) (en:Int) (n:Nat) (ihL:LevN T0 R en n) (ihO:OneN T0 R en n) (ts:List Tkn) (w:World) (hts:ts.length ≤ n) (hok:TokOk ts) (hgR:GlobR R) (hg:GdA w) (hs:RdS T0 w R ts en) (ht:isTk (sgnN 4) ts = true) :
  Calls Tryz.prog 39 #[.pointer (some ⟨R,0,none⟩)] w (PPost T0 R en w (rdOne ts)):=by
 have hRlt:=hs.lt
 have n0:¬ w.heap.size = R:=by omega
 have n1:¬ w.heap.size + 1 = R:=by omega
 have ix0:∀ w:World,(Instr.index 134 (.agg #[.int .i64 3,.int .i64 4]) (.int .i64 0)).run Tryz.prog w = .ok (.int .i64 3) w:=fun _ => by kernel_rfl
 have ix1:∀ w:World,(Instr.index 134 (.agg #[.int .i64 3,.int .i64 4]) (.int .i64 1)).run Tryz.prog w = .ok (.int .i64 4) w:=fun _ => by kernel_rfl
 have yo3:=(show w.cell? ⟨R,11,none⟩ = some (.string ⟨#[45]⟩) from hs.ops 9 _ rfl)
 have yo4:=(show w.cell? ⟨R,14,none⟩ = some (.string ⟨#[110,111,116]⟩) from hs.ops 12 _ rfl)
 rw [rdOne_not ht]
 have f3:isTk ⟨#[45]⟩ ts = false:=by simpa using tk_not (g':=⟨#[45]⟩) ht (by decide)
 have f4:isTk ⟨#[110,111,116]⟩ ts = true:=ht
 have hi:=fun g w h => reader_is T0 R ts en g w h
 obtain ⟨t,r0,rfl,_,hts2⟩:=isTk_cons ht
 have htk:=fun w h => reader_take T0 R t r0 en w h
 have hon:=fun w h h' => ihO r0 w (by simp only [List.length_cons] at hts;omega) hok.tail hgR h h'
 rw [List.tail_cons]
 have HGR:=Lib.hid hgR
 have HI:=Lib.hid hi
 cases hq:rdOne r0 with
 | bad r =>
  rw [hq] at hon
  have HH:=Lib.hid (And.intro hs (And.intro htk (And.intro hg hon)))
  clear hs htk hg hon hi hq ihL ihO hok hgR hts ht hts2
  show Calls _ _ _ _ (RetBad R en w r)
  go_enter Tryz.func39,Tryz.ntmps39
  go_wp2_with fail
  go_loop [6] (fun i => i = .int .i64 0 ∨ i = .int .i64 1) (fun i => 1 - (intOf i).toNat)
  case atStart => exact .inl rfl
  case round =>
   rcases hrel with rfl | rfl
   ·go_wp2_with (go_at_call 87;refine (HI.out _ _ (HH.out.1.keep bel)).mono ?_;rintro e w9 ⟨rfl,rfl⟩)
    go_round
    case rel => exact .inr (by simp)
    case measure => simp [intOf]
   ·go_wp2_with (first
     | (go_at_call 87;refine (HI.out _ _ (HH.out.1.keep bel)).mono ?_;rintro e w9 ⟨rfl,rfl⟩)
     | (go_at_call 41;refine (HH.out.2.1 _ (HH.out.1.keep bel)).mono ?_;rintro e w1 ⟨rfl,hs1,hb1⟩;obtain ⟨hc1,hf1⟩:=bcells hb1;(try simp only [bqh,bqc,bqf] at hc1 hf1);have hz1:=hb1.size;(try simp at hz1);(try have hy1:=nl1 hz1);(try have hx1:=nl2 hy1);refine szz w1 w ?_;intros;have m1:¬ w1.heap.size = R:=(by omega);have HB1:=Lib.hid (show Bes R w w1 from bes))
     | (go_at_call 39;refine (HH.out.2.2.2 _ (HH.out.2.2.1.bes HB1.out HGR.out) (hs1.keep bel)).mono ?_;rintro e w2 ⟨he,hb2⟩;unfold lostE at he;subst he))
    exact ⟨rfl,rfl,bes⟩
 | ok x r =>
  rw [hq] at hon
  have HH:=Lib.hid (And.intro hs (And.intro htk (And.intro hg hon)))
  clear hs htk hg hon hi hq ihL ihO hok hgR hts ht hts2
  show Calls _ _ _ _ (RetX T0 R en w (unX 4 x) r)
  go_enter Tryz.func39,Tryz.ntmps39
  go_wp2_with fail
  go_loop [6] (fun i => i = .int .i64 0 ∨ i = .int .i64 1) (fun i => 1 - (intOf i).toNat)
  case atStart => exact .inl rfl
  case round =>
   rcases hrel with rfl | rfl
   ·go_wp2_with (go_at_call 87;refine (HI.out _ _ (HH.out.1.keep bel)).mono ?_;rintro e w9 ⟨rfl,rfl⟩)
    go_round
    case rel => exact .inr (by simp)
    case measure => simp [intOf]
   ·go_wp2_with (first
     | (go_at_call 87;refine (HI.out _ _ (HH.out.1.keep bel)).mono ?_;rintro e w9 ⟨rfl,rfl⟩)
     | (go_at_call 41;refine (HH.out.2.1 _ (HH.out.1.keep bel)).mono ?_;rintro e w1 ⟨rfl,hs1,hb1⟩;obtain ⟨hc1,hf1⟩:=bcells hb1;(try simp only [bqh,bqc,bqf] at hc1 hf1);have hz1:=hb1.size;(try simp at hz1);(try have hy1:=nl1 hz1);(try have hx1:=nl2 hy1);refine szz w1 w ?_;intros;have m1:¬ w1.heap.size = R:=(by omega);have HB1:=Lib.hid (show Bes R w w1 from bes))
     | (go_at_call 39;refine (HH.out.2.2.2 _ (HH.out.2.2.1.bes HB1.out HGR.out) (hs1.keep bel)).mono ?_;rintro e w2 ⟨A2,c2,rfl,hr2,hs2,hb2⟩;obtain ⟨hc2,hf2⟩:=bcells hb2;(try simp only [bqh,bqc,bqf] at hc2 hf2);have hz2:=hb2.size;(try simp at hz2);(try have hy2:=nl1 hz2);(try have hx2:=nl2 hy2);refine szz w2 w ?_;intros;refine szz w2 w1 ?_;intros;have m2:¬ w2.heap.size = R:=(by omega);have yc0:w2.cell? ⟨w.heap.size,0,none⟩ = some (.int .i64 0):=(by go_simp);have yc1:w2.cell? ⟨w.heap.size,1,none⟩ = some (.int .i64 0):=(by go_simp);have yc2:w2.cell? ⟨w.heap.size,2,none⟩ = some (.int .i64 0):=(by go_simp);have yc3:w2.cell? ⟨w.heap.size,3,none⟩ = some (.string ⟨#[]⟩):=(by go_simp);have yc4:w2.cell? ⟨w.heap.size,4,none⟩ = some (.string ⟨#[]⟩):=(by go_simp);have yc5:w2.cell? ⟨w.heap.size,5,none⟩ = some (.slice none 0 0):=(by go_simp)))
    exact bodyPost_ret (v:=.agg #[.int .i64 4,.int .i64 0,.int .i64 0,.string ⟨#[]⟩,.string ⟨#[]⟩,.slice (some ⟨w2.heap.size,0,none⟩) 1 1]) (by first | (simp [results,Tryz.results39,go_sem];done) | (simp [results,Tryz.results39,go_sem, *];done)) rfl ⟨_,_,rfl,un_rep 4 (inI_c 4 (by omega)) hr2 (by omega) (by omega) hRlt bes (new_at (by simp)),hs2.under (n:=R + 1) bel (by omega),bes⟩
set_option maxRecDepth 100000 in
set_option maxHeartbeats 4000000 in
theorem one_whole (T0 R:Nat) (en:Int) (n:Nat) (ihL:LevN T0 R en n) (ihO:OneN T0 R en n) (ts:List Tkn) (w:World) (hts:ts.length ≤ n) (hok:TokOk ts) (hgR:GlobR R) (hg:GdA w) (hs:RdS T0 w R ts en) (h3:isTk (sgnN 3) ts = false) (h4:isTk (sgnN 4) ts = false) :
  Calls Tryz.prog 39 #[.pointer (some ⟨R,0,none⟩)] w (PPost T0 R en w (rdOne ts)):=by
 have hRlt:=hs.lt
 have n0:¬ w.heap.size = R:=by omega
 have n1:¬ w.heap.size + 1 = R:=by omega
 have ix0:∀ w:World,(Instr.index 134 (.agg #[.int .i64 3,.int .i64 4]) (.int .i64 0)).run Tryz.prog w = .ok (.int .i64 3) w:=fun _ => by kernel_rfl
 have ix1:∀ w:World,(Instr.index 134 (.agg #[.int .i64 3,.int .i64 4]) (.int .i64 1)).run Tryz.prog w = .ok (.int .i64 4) w:=fun _ => by kernel_rfl
 have yo3:=(show w.cell? ⟨R,11,none⟩ = some (.string ⟨#[45]⟩) from hs.ops 9 _ rfl)
 have yo4:=(show w.cell? ⟨R,14,none⟩ = some (.string ⟨#[110,111,116]⟩) from hs.ops 12 _ rfl)
 have f3:isTk ⟨#[45]⟩ ts = false:=h3
 have f4:isTk ⟨#[110,111,116]⟩ ts = false:=h4
 have hi:=fun g w h => reader_is T0 R ts en g w h
 have hwh:=fun w h h' => reader_whole T0 R en n ihL ts w hts hok hgR h h' h3 h4
 have HI:=Lib.hid hi
 have HGR:=Lib.hid hgR
 cases hq:rdOne ts with
 | bad r =>
  rw [hq] at hwh
  have HH:=Lib.hid (And.intro hs (And.intro hg hwh))
  clear hs hg hwh hi hq ihL ihO hok hgR hts h3 h4
  show Calls _ _ _ _ (RetBad R en w r)
  go_enter Tryz.func39,Tryz.ntmps39
  go_wp2_with fail
  go_loop [6] (fun i => i = .int .i64 0 ∨ i = .int .i64 1 ∨ i = .int .i64 2) (fun i => 2 - (intOf i).toNat)
  case atStart => exact .inl rfl
  case round =>
   rcases hrel with rfl | rfl | rfl
   ·go_wp2_with (go_at_call 87;refine (HI.out _ _ (HH.out.1.keep bel)).mono ?_;rintro e w9 ⟨rfl,rfl⟩)
    go_round
    case rel => exact .inr (.inl (by simp))
    case measure => simp [intOf]
   ·go_wp2_with (go_at_call 87;refine (HI.out _ _ (HH.out.1.keep bel)).mono ?_;rintro e w9 ⟨rfl,rfl⟩)
    go_round
    case rel => exact .inr (.inr (by simp))
    case measure => simp [intOf]
   go_wp2_with (go_at_call 88;refine (HH.out.2.2 _ (HH.out.2.1.bes (show Bes R w _ from bes) HGR.out) (HH.out.1.keep bel)).mono ?_;rintro e w2 ⟨he,hb2⟩;unfold lostE at he;subst he)
   exact ⟨rfl,rfl,bes⟩
 | ok x r =>
  rw [hq] at hwh
  have HH:=Lib.hid (And.intro hs (And.intro hg hwh))
  clear hs hg hwh hi hq ihL ihO hok hgR hts h3 h4
  show Calls _ _ _ _ (RetX T0 R en w x r)
  go_enter Tryz.func39,Tryz.ntmps39
  go_wp2_with fail
  go_loop [6] (fun i => i = .int .i64 0 ∨ i = .int .i64 1 ∨ i = .int .i64 2) (fun i => 2 - (intOf i).toNat)
  case atStart => exact .inl rfl
  case round =>
   rcases hrel with rfl | rfl | rfl
   ·go_wp2_with (go_at_call 87;refine (HI.out _ _ (HH.out.1.keep bel)).mono ?_;rintro e w9 ⟨rfl,rfl⟩)
    go_round
    case rel => exact .inr (.inl (by simp))
    case measure => simp [intOf]
   ·go_wp2_with (go_at_call 87;refine (HI.out _ _ (HH.out.1.keep bel)).mono ?_;rintro e w9 ⟨rfl,rfl⟩)
    go_round
    case rel => exact .inr (.inr (by simp))
    case measure => simp [intOf]
   go_wp2_with (go_at_call 88;refine (HH.out.2.2 _ (HH.out.2.1.bes (show Bes R w _ from bes) HGR.out) (HH.out.1.keep bel)).mono ?_;rintro e w2 ⟨A2,c2,rfl,hr2,hs2,hb2⟩;obtain ⟨hc2,hf2⟩:=bcells hb2;(try simp only [bqh,bqc,bqf] at hc2 hf2);have hz2:=hb2.size;(try simp at hz2);(try have hy2:=nl1 hz2);(try have hx2:=nl2 hy2);refine szz w2 w ?_;intros;have yc0:w2.cell? ⟨w.heap.size,0,none⟩ = some (.int .i64 0):=(by go_simp);have yc1:w2.cell? ⟨w.heap.size,1,none⟩ = some (.int .i64 0):=(by go_simp);have yc2:w2.cell? ⟨w.heap.size,2,none⟩ = some (.int .i64 0):=(by go_simp);have yc3:w2.cell? ⟨w.heap.size,3,none⟩ = some (.string ⟨#[]⟩):=(by go_simp);have yc4:w2.cell? ⟨w.heap.size,4,none⟩ = some (.string ⟨#[]⟩):=(by go_simp);have yc5:w2.cell? ⟨w.heap.size,5,none⟩ = some (.slice none 0 0):=(by go_simp))
   exact bodyPost_ret (v:=.agg #[.int .i64 x.op,.int .i64 x.v.k,.int .i64 x.v.n,.string x.v.s,.string x.name,.slice A2 x.args.length c2]) (by first | (simp [results,Tryz.results39,go_sem];done) | (simp [results,Tryz.results39,go_sem, *];done)) rfl ⟨A2,c2,rfl,xrep_on hr2 (by simp) hRlt (Bes.refl R _) bes,hs2.under (n:=R + 1) bel (by omega),bes⟩
theorem reader_one (T0 R:Nat) (en:Int) (n:Nat) (ihL:LevN T0 R en n) (ihO:OneN T0 R en n):OneN T0 R en (n + 1):=by
 intro ts w hts hok hgR hg hs
 cases h3:isTk (sgnN 3) ts with
 | true => exact one_neg T0 R en n ihL ihO ts w (by omega) hok hgR hg hs h3
 | false =>
  cases h4:isTk (sgnN 4) ts with
  | true => exact one_not T0 R en n ihL ihO ts w (by omega) hok hgR hg hs h4
  | false => exact one_whole T0 R en n ihL ihO ts w (by omega) hok hgR hg hs h3 h4
end Go.Proofs.YtldbpmlgbbomcaaGreatDoor
