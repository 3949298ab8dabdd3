/- The reader of formulas: what is whole. (printed by mkrd4.py) -/
import Derived.Test.YtldbpmlgbbomcaaGreatDoorRd3
import Derived.Laws.IdiomStrings
namespace Go.Proofs.YtldbpmlgbbomcaaGreatDoor
open Go.RowKit

theorem cst_rep {w:World} {S:Nat → Prop} {v:Val} (hv:v.wf):XRep w S [.int .i64 1,.int .i64 v.k,.int .i64 v.n,.string v.s,.string ⟨#[]⟩,.slice none 0 0] (cstX v) :=
 XRep.shut (A:=none) (n:=0) (c:=0) (inI_c 1 (by omega)) hv str_nil_in (by unfold inB;omega) (Nat.le_refl _) Sl.nil
theorem ref_rep {w:World} {S:Nat → Prop} {s:ByteArray} (hs:inS s):XRep w S [.int .i64 2,.int .i64 0,.int .i64 0,.string ⟨#[]⟩,.string s,.slice none 0 0] (refX s) :=
 XRep.shut (v:=tkVal) (A:=none) (n:=0) (c:=0) (inI_c 2 (by omega)) ⟨inI_c 0 (by omega),inI_c 0 (by omega),str_nil_in⟩ hs (by unfold inB;omega) (Nat.le_refl _) Sl.nil
theorem xrep_on {R:Nat} {w w1 w2 w3 w4:World} {cs:List Value} {x:Exp} (h:XRep w2 (fresh w1 w2) cs x) (hw:w.heap.size < w1.heap.size) (hR:R < w.heap.size) (h3:Bes R w2 w3) (h4:Bes w.heap.size w3 w4):XRep w4 (fresh w w4) cs x :=
 h.keep fun b hb => ⟨⟨by have:=hb.1;omega,by have:=hb.2;have:=h3.size;have:=h4.size;omega⟩,(h4.block b (by have:=hb.2;have:=h3.size;omega) (by have:=hb.1;omega)).trans (h3.block b hb.2 (by have:=hb.1;omega))⟩
theorem Tryz.tkf2 (a b:Int) (s:ByteArray) (k n:Int) (u:ByteArray) (w:World):(Instr.field 60 (.agg #[.int .i64 a,.int .i64 b,.string s,.int .i64 k,.int .i64 n,.string u]) 2).run Tryz.prog w = .ok (.string s) w:=by kernel_rfl
theorem Tryz.tkf3 (a b:Int) (s:ByteArray) (k n:Int) (u:ByteArray) (w:World):(Instr.field 60 (.agg #[.int .i64 a,.int .i64 b,.string s,.int .i64 k,.int .i64 n,.string u]) 3).run Tryz.prog w = .ok (.agg #[.int .i64 k,.int .i64 n,.string u]) w:=by kernel_rfl
theorem RdS.ops {T0:Nat} {w:World} {R:Nat} {ts:List Tkn} {en:Int} (h:RdS T0 w R ts en):∀ i v,shapesC[i]? = some v → w.cell? ⟨R,2 + i,none⟩ = some v:=by
 obtain ⟨A,c,⟨_,_,h2,_⟩,_⟩:=h
 exact h2
theorem p_args_len:∀ n k g acc ts l r,pArgs n k g acc ts = .ok l r → l.length = acc.length + k
 | 0,k,g,acc,ts,l,r,h => by rw [pArgs] at h;cases h
 | n + 1,0,g,acc,ts,l,r,h => by
  rw [pArgs] at h
  obtain ⟨_,_,rfl⟩:=wantT_ok h
  rfl
 | n + 1,k + 1,g,acc,ts,l,r,h => by
  rw [pArgs] at h
  obtain ⟨y,r',e,e'⟩:=then_ok h
  obtain ⟨z,r2,e2,e3⟩:=then_ok e'
  have:=p_args_len n k _ _ _ _ _ e3
  simp at this
  omega
theorem sl_on {R:Nat} {A:Option Addr} {n:Nat} {w w1 w2 w4:World} {l:List Exp} (h:Sl w2 (since w1.heap.size w2) 6 (XRep w2 (since w1.heap.size w2)) A n l) (hw:w.heap.size < w1.heap.size) (hR:R < w.heap.size) (h4:Bes w.heap.size w2 w4):Sl w4 (fresh w w4) 6 (XRep w4 (fresh w w4)) A n l :=
 h.keepN keeps_Exp fun b hb => ⟨⟨by have:=hb.1;omega,by have:=hb.2;have:=h4.size;omega⟩,h4.block b hb.2 (by have:=hb.1;omega)⟩
theorem call_rep {w:World} {S:Nat → Prop} {l:List Exp} {A:Option Addr} {c:Nat} (op:Int) (h1:inI op) (hl:l.length ≤ 3) (hc:l.length ≤ c) (h:Sl w S 6 (XRep w S) A l.length l) :
  XRep w S [.int .i64 op,.int .i64 0,.int .i64 0,.string ⟨#[]⟩,.string ⟨#[]⟩,.slice A l.length c] (callX op l) :=
 XRep.shut (v:=tkVal) h1 ⟨inI_c 0 (by omega),inI_c 0 (by omega),str_nil_in⟩ str_nil_in (by unfold inB;omega) hc h
theorem tkn_in {ts:List Tkn} {t:Tkn} {r:List Tkn} (h:TokOk ts) (e:ts = t :: r):inS t.s ∧ t.v.wf:=h t (by rw [e];exact List.mem_cons_self)
set_option maxRecDepth 100000 in
set_option maxHeartbeats 4000000 in
theorem whole_open (T0 R:Nat) (en:Int) (n:Nat) (ih:LevN T0 R en n) (ts:List Tkn) (w:World) (hts:ts.length ≤ n) (hok:TokOk ts) (hgR:GlobR R) (hg:GdA w) (hs:RdS T0 w R ts en) (ht:isTk tOpen ts = true) :
  Calls Tryz.prog 88 #[.pointer (some ⟨R,0,none⟩)] w (PPost T0 R en w (rdOne ts)):=by
 have hRlt:=hs.lt
 have n0:¬ w.heap.size = R:=by omega
 have n1:¬ w.heap.size + 1 = R:=by omega
 rw [rdOne_open ht]
 obtain ⟨t,r0,rfl,_⟩:=isTk_cons ht
 have hi1:=fun w h => reader_is T0 R (t :: r0) en tOpen w h
 rw [ht] at hi1
 unfold tOpen at hi1
 have htk:=fun w h => reader_take T0 R t r0 en w h
 have hlv:=fun w h h' => ih 1 r0 w (by omega) (by omega) (by simp only [List.length_cons] at hts;omega) hok.tail hgR h h'
 rw [List.tail_cons]
 have HGR:=Lib.hid hgR
 have HI1:=Lib.hid hi1
 cases hq:rdForm 1 r0 with
 | bad r =>
  rw [hq] at hlv
  have HH:=Lib.hid (And.intro hs (And.intro htk (And.intro hg hlv)))
  clear hs htk hg hlv hi1 hq ih hok hgR hts ht
  show Calls _ _ _ _ (RetBad R en w r)
  go_enter Tryz.func88,Tryz.ntmps88
  go_wp2_with (first
   | (go_at_call 87;refine (HI1.out _ (HH.out.1.keep bel)).mono ?_;rintro e w9 ⟨rfl,rfl⟩)
   | (go_at_call 41;refine (HH.out.2.1 _ (HH.out.1.keep bel)).mono ?_;rintro e w1 ⟨rfl,hs1,hb1⟩;obtain ⟨hc1,hf1⟩:=bcells hb1;(try simp only [bqh,bqc,bqf] at hc1 hf1);have hz1:=hb1.size;(try simp at hz1);(try have hy1:=nl1 hz1);(try have hx1:=nl2 hy1);refine szz w1 w ?_;intros;have m1:¬ w1.heap.size = R:=(by omega);have HB1:=Lib.hid (show Bes R w w1 from bes))
   | (go_at_call 17;refine (HH.out.2.2.2 _ (HH.out.2.2.1.bes HB1.out HGR.out) (hs1.keep bel)).mono ?_;rintro e w2 ⟨he,hb2⟩;unfold lostE at he;subst he))
  exact ⟨rfl,rfl,bes⟩
 | ok x r =>
  rw [hq] at hlv
  cases hc:isTk tClose r with
  | false =>
   have hwt:=fun w h => reader_want0 T0 R r en tClose w h hc
   unfold tClose at hwt
   have HWT:=Lib.hid hwt
   have HH:=Lib.hid (And.intro hs (And.intro htk (And.intro hg hlv)))
   have HP:Hid ((PR.ok x r).then (fun x r => wantT tClose x r) = .bad r):=Lib.hid (by show wantT tClose x r = _;rw [wantT,if_neg (by rw [hc];decide)])
   clear hs htk hg hlv hi1 hq ih hok hgR hts ht hc hwt
   rw [HP.out]
   show Calls _ _ _ _ (RetBad R en w r)
   go_enter Tryz.func88,Tryz.ntmps88
   go_wp2_with (first
    | (go_at_call 87;refine (HI1.out _ (HH.out.1.keep bel)).mono ?_;rintro e w9 ⟨rfl,rfl⟩)
    | (go_at_call 41;refine (HH.out.2.1 _ (HH.out.1.keep bel)).mono ?_;rintro e w1 ⟨rfl,hs1,hb1⟩;obtain ⟨hc1,hf1⟩:=bcells hb1;(try simp only [bqh,bqc,bqf] at hc1 hf1);have hz1:=hb1.size;(try simp at hz1);(try have hy1:=nl1 hz1);(try have hx1:=nl2 hy1);refine szz w1 w ?_;intros;have m1:¬ w1.heap.size = R:=(by omega);have HB1:=Lib.hid (show Bes R w w1 from bes))
    | (go_at_call 17;refine (HH.out.2.2.2 _ (HH.out.2.2.1.bes HB1.out HGR.out) (hs1.keep bel)).mono ?_;rintro e w2 ⟨A2,c2,rfl,hr2,hs2,hb2⟩;obtain ⟨hc2,hf2⟩:=bcells hb2;(try simp only [bqh,bqc,bqf] at hc2 hf2);have hz2:=hb2.size;(try simp at hz2);(try have hy2:=nl1 hz2);(try have hx2:=nl2 hy2);refine szz w2 w ?_;intros;refine szz w2 w1 ?_;intros;have m2:¬ w2.heap.size = R:=(by omega))
    | (go_at_call 126;refine (HWT.out _ (hs2.keep bel)).mono ?_;rintro e w3 ⟨he,rfl⟩;unfold lostE at he;subst he))
   exact ⟨rfl,rfl,bes⟩
  | true =>
   have hwt:=fun w h => reader_want T0 R r en tClose w h hc
   unfold tClose at hwt
   have HWT:=Lib.hid hwt
   have HH:=Lib.hid (And.intro hs (And.intro htk (And.intro hg hlv)))
   have HP:Hid ((PR.ok x r).then (fun x r => wantT tClose x r) = .ok x r.tail):=Lib.hid (by show wantT tClose x r = _;rw [wantT,if_pos hc])
   clear hs htk hg hlv hi1 hq ih hok hgR hts ht hc hwt
   rw [HP.out]
   show Calls _ _ _ _ (RetX T0 R en w x r.tail)
   go_enter Tryz.func88,Tryz.ntmps88
   go_wp2_with (first
    | (go_at_call 87;refine (HI1.out _ (HH.out.1.keep bel)).mono ?_;rintro e w9 ⟨rfl,rfl⟩)
    | (go_at_call 41;refine (HH.out.2.1 _ (HH.out.1.keep bel)).mono ?_;rintro e w1 ⟨rfl,hs1,hb1⟩;obtain ⟨hc1,hf1⟩:=bcells hb1;(try simp only [bqh,bqc,bqf] at hc1 hf1);have hz1:=hb1.size;(try simp at hz1);(try have hy1:=nl1 hz1);(try have hx1:=nl2 hy1);refine szz w1 w ?_;intros;have m1:¬ w1.heap.size = R:=(by omega);have HB1:=Lib.hid (show Bes R w w1 from bes))
    | (go_at_call 17;refine (HH.out.2.2.2 _ (HH.out.2.2.1.bes HB1.out HGR.out) (hs1.keep bel)).mono ?_;rintro e w2 ⟨A2,c2,rfl,hr2,hs2,hb2⟩;obtain ⟨hc2,hf2⟩:=bcells hb2;(try simp only [bqh,bqc,bqf] at hc2 hf2);have hz2:=hb2.size;(try simp at hz2);(try have hy2:=nl1 hz2);(try have hx2:=nl2 hy2);refine szz w2 w ?_;intros;refine szz w2 w1 ?_;intros;have m2:¬ w2.heap.size = R:=(by omega))
    | (go_at_call 126;refine (HWT.out _ (hs2.keep bel)).mono ?_;rintro e w3 ⟨rfl,hs3,hb3⟩;obtain ⟨hc3,hf3⟩:=bcells hb3;(try simp only [bqh,bqc,bqf] at hc3 hf3);have hz3:=hb3.size;(try simp at hz3);(try have hy3:=nl1 hz3);(try have hx3:=nl2 hy3);refine szz w3 w ?_;intros;refine szz w3 w1 ?_;intros;refine szz w3 w2 ?_;intros;have HX3:=Lib.hid (show Bes R w2 w3 from bes);have yc0:w3.cell? ⟨w.heap.size,0,none⟩ = some (.int .i64 0):=(by go_simp);have yc1:w3.cell? ⟨w.heap.size,1,none⟩ = some (.int .i64 0):=(by go_simp);have yc2:w3.cell? ⟨w.heap.size,2,none⟩ = some (.int .i64 0):=(by go_simp);have yc3:w3.cell? ⟨w.heap.size,3,none⟩ = some (.string ⟨#[]⟩):=(by go_simp);have yc4:w3.cell? ⟨w.heap.size,4,none⟩ = some (.string ⟨#[]⟩):=(by go_simp);have yc5:w3.cell? ⟨w.heap.size,5,none⟩ = some (.slice none 0 0):=(by go_simp)))
   exact bodyPost_ret (v:=.agg #[.int .i64 x.op,.int .i64 x.v.k,.int .i64 x.v.n,.string x.v.s,.string x.name,.slice A2 x.args.length c2]) (by first | (simp [results,Tryz.results88,go_sem];done) | (simp [results,Tryz.results88,go_sem, *];done)) rfl ⟨A2,c2,rfl,xrep_on hr2 (by omega) hRlt HX3.out bes,hs3.under (n:=R + 1) bel (by omega),bes⟩
theorem parse_whole_true:parseV ⟨#[116,114,117,101]⟩ = (⟨2,1,⟨#[]⟩⟩,0):=by
 have hc:candV [116,114,117,101] = ⟨2,1,⟨#[]⟩⟩:=by decide
 have hk:valCheck ⟨2,1,⟨#[]⟩⟩ = 0:=by unfold valCheck;rw [if_neg (by decide),if_pos rfl,if_pos (by decide)];exact emptyCheck_nil
 have hv:showV ⟨2,1,⟨#[]⟩⟩ = ⟨#[116,114,117,101]⟩:=by unfold showV;rw [if_pos hk];rfl
 unfold parseV
 show (if valCheck (candV [116,114,117,101]) = 0 ∧ showV (candV [116,114,117,101]) = _ then _ else _) = _
 rw [hc,if_pos ⟨hk,hv⟩]
set_option maxRecDepth 100000 in
set_option maxHeartbeats 4000000 in
theorem whole_true (T0 R:Nat) (en:Int) (n:Nat) (ih:LevN T0 R en n) (ts:List Tkn) (w:World) (hts:ts.length ≤ n) (hok:TokOk ts) (hgR:GlobR R) (hg:GdA w) (hs:RdS T0 w R ts en) (ht:isTk tTrue ts = true) :
  Calls Tryz.prog 88 #[.pointer (some ⟨R,0,none⟩)] w (PPost T0 R en w (rdOne ts)):=by
 have hRlt:=hs.lt
 have n0:¬ w.heap.size = R:=by omega
 have n1:¬ w.heap.size + 1 = R:=by omega
 rw [rdOne_true ht]
 have f0:isTk ⟨#[40]⟩ ts = false:=by simpa using tk_not (g':=⟨#[40]⟩) ht (by decide)
 have f1:isTk ⟨#[116,114,117,101]⟩ ts = true:=ht
 have hi:=fun g w h => reader_is T0 R ts en g w h
 obtain ⟨t,r0,rfl,_,hts2⟩:=isTk_cons ht
 have htk:=fun w h => reader_take T0 R t r0 en w h
 rw [hts2] at htk
 unfold tTrue at htk
 have hvp:=fun w h => value_Parse ⟨#[116,114,117,101]⟩ w (by show (⟨#[116,114,117,101]⟩:ByteArray).size ≤ 140737488351232;decide) h
 rw [parse_whole_true] at hvp
 rw [List.tail_cons]
 have HGR:=Lib.hid hgR
 have HI:=Lib.hid hi
 have HH:=Lib.hid (And.intro hs (And.intro htk (And.intro hg hvp)))
 have tf2:=Tryz.tkf2
 clear hs htk hg hvp hi ih hok hgR hts ht hts2
 show Calls _ _ _ _ (RetX T0 R en w (cstX ⟨2,1,⟨#[]⟩⟩) r0)
 go_enter Tryz.func88,Tryz.ntmps88
 go_wp2_with (first
  | (go_at_call 87;refine (HI.out _ _ (HH.out.1.keep bel)).mono ?_;rintro e w9 ⟨rfl,rfl⟩)
  | (go_at_call 41;refine (HH.out.2.1 _ (HH.out.1.keep bel)).mono ?_;rintro e w1 ⟨rfl,hs1,hb1⟩;obtain ⟨hc1,hf1⟩:=bcells hb1;(try simp only [bqh,bqc,bqf] at hc1 hf1);have hz1:=hb1.size;(try simp at hz1);(try have hy1:=nl1 hz1);(try have hx1:=nl2 hy1);refine szz w1 w ?_;intros;have m1:¬ w1.heap.size = R:=(by omega);have HB1:=Lib.hid (show Bes R w w1 from bes))
  | (go_at_call 127;refine (HH.out.2.2.2 _ (HH.out.2.2.1.bes HB1.out HGR.out)).mono ?_;rintro e w2 ⟨rfl,hb2⟩;obtain ⟨hc2,hf2⟩:=bcell hb2;(try simp only [bqh,bqc,bqf] at hc2 hf2);have hz2:=hb2.size;(try simp at hz2);(try have hy2:=nl1 hz2);(try have hx2:=nl2 hy2);refine szz w2 w ?_;intros;refine szz w2 w1 ?_;intros;have m2:¬ w2.heap.size = R:=(by omega);have hbs2:=Bes.of (R:=R) hb2;have yc0:w2.cell? ⟨w.heap.size,0,none⟩ = some (.int .i64 0):=(by go_simp);have yc1:w2.cell? ⟨w.heap.size,1,none⟩ = some (.int .i64 0):=(by go_simp);have yc2:w2.cell? ⟨w.heap.size,2,none⟩ = some (.int .i64 0):=(by go_simp);have yc3:w2.cell? ⟨w.heap.size,3,none⟩ = some (.string ⟨#[]⟩):=(by go_simp);have yc4:w2.cell? ⟨w.heap.size,4,none⟩ = some (.string ⟨#[]⟩):=(by go_simp);have yc5:w2.cell? ⟨w.heap.size,5,none⟩ = some (.slice none 0 0):=(by go_simp)))
 exact bodyPost_ret (v:=.agg #[.int .i64 1,.int .i64 2,.int .i64 1,.string ⟨#[]⟩,.string ⟨#[]⟩,.slice none 0 0]) (by first | (simp [results,Tryz.results88,go_sem];done) | (simp [results,Tryz.results88,go_sem, *];done)) rfl ⟨none,0,rfl,cst_rep ⟨inI_c 2 (by omega),inI_c 1 (by omega),str_nil_in⟩,(hs1.keep hb2).under (n:=R + 1) bel (by omega),bes⟩
theorem parse_whole_false:parseV ⟨#[102,97,108,115,101]⟩ = (⟨2,0,⟨#[]⟩⟩,0):=by
 have hc:candV [102,97,108,115,101] = ⟨2,0,⟨#[]⟩⟩:=by decide
 have hk:valCheck ⟨2,0,⟨#[]⟩⟩ = 0:=by unfold valCheck;rw [if_neg (by decide),if_pos rfl,if_pos (by decide)];exact emptyCheck_nil
 have hv:showV ⟨2,0,⟨#[]⟩⟩ = ⟨#[102,97,108,115,101]⟩:=by unfold showV;rw [if_pos hk];rfl
 unfold parseV
 show (if valCheck (candV [102,97,108,115,101]) = 0 ∧ showV (candV [102,97,108,115,101]) = _ then _ else _) = _
 rw [hc,if_pos ⟨hk,hv⟩]
set_option maxRecDepth 100000 in
set_option maxHeartbeats 4000000 in
theorem whole_false (T0 R:Nat) (en:Int) (n:Nat) (ih:LevN T0 R en n) (ts:List Tkn) (w:World) (hts:ts.length ≤ n) (hok:TokOk ts) (hgR:GlobR R) (hg:GdA w) (hs:RdS T0 w R ts en) (ht:isTk tFalse ts = true) :
  Calls Tryz.prog 88 #[.pointer (some ⟨R,0,none⟩)] w (PPost T0 R en w (rdOne ts)):=by
 have hRlt:=hs.lt
 have n0:¬ w.heap.size = R:=by omega
 have n1:¬ w.heap.size + 1 = R:=by omega
 rw [rdOne_false ht]
 have f0:isTk ⟨#[40]⟩ ts = false:=by simpa using tk_not (g':=⟨#[40]⟩) ht (by decide)
 have f1:isTk ⟨#[116,114,117,101]⟩ ts = false:=by simpa using tk_not (g':=⟨#[116,114,117,101]⟩) ht (by decide)
 have f2:isTk ⟨#[102,97,108,115,101]⟩ ts = true:=ht
 have hi:=fun g w h => reader_is T0 R ts en g w h
 obtain ⟨t,r0,rfl,_,hts2⟩:=isTk_cons ht
 have htk:=fun w h => reader_take T0 R t r0 en w h
 rw [hts2] at htk
 unfold tFalse at htk
 have hvp:=fun w h => value_Parse ⟨#[102,97,108,115,101]⟩ w (by show (⟨#[102,97,108,115,101]⟩:ByteArray).size ≤ 140737488351232;decide) h
 rw [parse_whole_false] at hvp
 rw [List.tail_cons]
 have HGR:=Lib.hid hgR
 have HI:=Lib.hid hi
 have HH:=Lib.hid (And.intro hs (And.intro htk (And.intro hg hvp)))
 have tf2:=Tryz.tkf2
 clear hs htk hg hvp hi ih hok hgR hts ht hts2
 show Calls _ _ _ _ (RetX T0 R en w (cstX ⟨2,0,⟨#[]⟩⟩) r0)
 go_enter Tryz.func88,Tryz.ntmps88
 go_wp2_with (first
  | (go_at_call 87;refine (HI.out _ _ (HH.out.1.keep bel)).mono ?_;rintro e w9 ⟨rfl,rfl⟩)
  | (go_at_call 41;refine (HH.out.2.1 _ (HH.out.1.keep bel)).mono ?_;rintro e w1 ⟨rfl,hs1,hb1⟩;obtain ⟨hc1,hf1⟩:=bcells hb1;(try simp only [bqh,bqc,bqf] at hc1 hf1);have hz1:=hb1.size;(try simp at hz1);(try have hy1:=nl1 hz1);(try have hx1:=nl2 hy1);refine szz w1 w ?_;intros;have m1:¬ w1.heap.size = R:=(by omega);have HB1:=Lib.hid (show Bes R w w1 from bes))
  | (go_at_call 127;refine (HH.out.2.2.2 _ (HH.out.2.2.1.bes HB1.out HGR.out)).mono ?_;rintro e w2 ⟨rfl,hb2⟩;obtain ⟨hc2,hf2⟩:=bcell hb2;(try simp only [bqh,bqc,bqf] at hc2 hf2);have hz2:=hb2.size;(try simp at hz2);(try have hy2:=nl1 hz2);(try have hx2:=nl2 hy2);refine szz w2 w ?_;intros;refine szz w2 w1 ?_;intros;have m2:¬ w2.heap.size = R:=(by omega);have hbs2:=Bes.of (R:=R) hb2;have yc0:w2.cell? ⟨w.heap.size,0,none⟩ = some (.int .i64 0):=(by go_simp);have yc1:w2.cell? ⟨w.heap.size,1,none⟩ = some (.int .i64 0):=(by go_simp);have yc2:w2.cell? ⟨w.heap.size,2,none⟩ = some (.int .i64 0):=(by go_simp);have yc3:w2.cell? ⟨w.heap.size,3,none⟩ = some (.string ⟨#[]⟩):=(by go_simp);have yc4:w2.cell? ⟨w.heap.size,4,none⟩ = some (.string ⟨#[]⟩):=(by go_simp);have yc5:w2.cell? ⟨w.heap.size,5,none⟩ = some (.slice none 0 0):=(by go_simp)))
 exact bodyPost_ret (v:=.agg #[.int .i64 1,.int .i64 2,.int .i64 0,.string ⟨#[]⟩,.string ⟨#[]⟩,.slice none 0 0]) (by first | (simp [results,Tryz.results88,go_sem];done) | (simp [results,Tryz.results88,go_sem, *];done)) rfl ⟨none,0,rfl,cst_rep ⟨inI_c 2 (by omega),inI_c 0 (by omega),str_nil_in⟩,(hs1.keep hb2).under (n:=R + 1) bel (by omega),bes⟩
set_option maxRecDepth 100000 in
set_option maxHeartbeats 4000000 in
theorem whole_if (T0 R:Nat) (en:Int) (n:Nat) (ih:LevN T0 R en n) (ts:List Tkn) (w:World) (hts:ts.length ≤ n) (hok:TokOk ts) (hgR:GlobR R) (hg:GdA w) (hs:RdS T0 w R ts en) (ht:isTk (sgnN 17) ts = true) :
  Calls Tryz.prog 88 #[.pointer (some ⟨R,0,none⟩)] w (PPost T0 R en w (rdOne ts)):=by
 have hRlt:=hs.lt
 have n0:¬ w.heap.size = R:=by omega
 have n1:¬ w.heap.size + 1 = R:=by omega
 rw [rdOne_if ht]
 replace ht:isTk ⟨#[105,102]⟩ ts = true:=ht
 have f0:isTk ⟨#[40]⟩ ts = false:=by simpa using tk_not (g':=⟨#[40]⟩) ht (by decide)
 have f1:isTk ⟨#[116,114,117,101]⟩ ts = false:=by simpa using tk_not (g':=⟨#[116,114,117,101]⟩) ht (by decide)
 have f2:isTk ⟨#[102,97,108,115,101]⟩ ts = false:=by simpa using tk_not (g':=⟨#[102,97,108,115,101]⟩) ht (by decide)
 have f3:isTk ⟨#[105,102]⟩ ts = true:=ht
 have hi:=fun g w h => reader_is T0 R ts en g w h
 obtain ⟨t,r0,rfl,_,hts2⟩:=isTk_cons ht
 have htk:=fun w h => reader_take T0 R t r0 en w h
 rw [hts2] at htk
 have hag:∀ w,GdA w → RdS T0 w R r0 en → Calls Tryz.prog 128 #[.pointer (some ⟨R,0,none⟩),.int .i64 3] w (LPost T0 R en w (rdArgs 3 tOpen [] r0)):=fun w h h' => reader_args T0 R en n ih 3 (by omega) r0 w (by simp only [List.length_cons] at hts;omega) hok.tail hgR h h'
 rw [List.tail_cons]
 have HGR:=Lib.hid hgR
 have HI:=Lib.hid hi
 have tf2:=Tryz.tkf2
 cases hq:rdArgs 3 tOpen [] r0 with
 | bad r =>
  rw [hq] at hag
  have HH:=Lib.hid (And.intro hs (And.intro htk (And.intro hg hag)))
  clear hs htk hg hag hi hq ih hok hgR hts ht hts2
  show Calls _ _ _ _ (RetBad R en w r)
  go_enter Tryz.func88,Tryz.ntmps88
  go_wp2_with (first
   | (go_at_call 87;refine (HI.out _ _ (HH.out.1.keep bel)).mono ?_;rintro e w9 ⟨rfl,rfl⟩)
   | (go_at_call 41;refine (HH.out.2.1 _ (HH.out.1.keep bel)).mono ?_;rintro e w1 ⟨rfl,hs1,hb1⟩;obtain ⟨hc1,hf1⟩:=bcells hb1;(try simp only [bqh,bqc,bqf] at hc1 hf1);have hz1:=hb1.size;(try simp at hz1);(try have hy1:=nl1 hz1);(try have hx1:=nl2 hy1);refine szz w1 w ?_;intros;have m1:¬ w1.heap.size = R:=(by omega);have HB1:=Lib.hid (show Bes R w w1 from bes);have yo:=(show w1.cell? ⟨R,55,none⟩ = some (.int .i64 3) from hs1.ops 53 _ rfl))
   | (go_at_call 128;refine (HH.out.2.2.2 _ (HH.out.2.2.1.bes HB1.out HGR.out) (hs1.keep bel)).mono ?_;rintro e w2 ⟨he,hb2⟩;unfold lostE at he;subst he))
  exact ⟨rfl,rfl,bes⟩
 | ok l r =>
  have hl3:l.length = 0 + 3:=p_args_len _ _ _ _ _ _ _ hq
  rw [hq] at hag
  have HH:=Lib.hid (And.intro hs (And.intro htk (And.intro hg hag)))
  have HL:=Lib.hid hl3
  clear hs htk hg hag hi hq ih hok hgR hts ht hts2 hl3
  show Calls _ _ _ _ (RetX T0 R en w (callX 17 l) r)
  go_enter Tryz.func88,Tryz.ntmps88
  go_wp2_with (first
   | (go_at_call 87;refine (HI.out _ _ (HH.out.1.keep bel)).mono ?_;rintro e w9 ⟨rfl,rfl⟩)
   | (go_at_call 41;refine (HH.out.2.1 _ (HH.out.1.keep bel)).mono ?_;rintro e w1 ⟨rfl,hs1,hb1⟩;obtain ⟨hc1,hf1⟩:=bcells hb1;(try simp only [bqh,bqc,bqf] at hc1 hf1);have hz1:=hb1.size;(try simp at hz1);(try have hy1:=nl1 hz1);(try have hx1:=nl2 hy1);refine szz w1 w ?_;intros;have m1:¬ w1.heap.size = R:=(by omega);have HB1:=Lib.hid (show Bes R w w1 from bes);have yo:=(show w1.cell? ⟨R,55,none⟩ = some (.int .i64 3) from hs1.ops 53 _ rfl))
   | (go_at_call 128;refine (HH.out.2.2.2 _ (HH.out.2.2.1.bes HB1.out HGR.out) (hs1.keep bel)).mono ?_;rintro e w2 ⟨v2,rfl,ho2,hs2,hb2⟩;obtain ⟨A2,c2,rfl,hc2',hsl2⟩:=ho2.sl keeps_Exp;have HSL:=Lib.hid (And.intro hsl2 hc2');clear hsl2 ho2 hc2';obtain ⟨hc2,hf2⟩:=bcells hb2;(try simp only [bqh,bqc,bqf] at hc2 hf2);have hz2:=hb2.size;(try simp at hz2);(try have hy2:=nl1 hz2);(try have hx2:=nl2 hy2);refine szz w2 w ?_;intros;refine szz w2 w1 ?_;intros;have m2:¬ w2.heap.size = R:=(by omega);have yc0:w2.cell? ⟨w.heap.size,0,none⟩ = some (.int .i64 0):=(by go_simp);have yc1:w2.cell? ⟨w.heap.size,1,none⟩ = some (.int .i64 0):=(by go_simp);have yc2:w2.cell? ⟨w.heap.size,2,none⟩ = some (.int .i64 0):=(by go_simp);have yc3:w2.cell? ⟨w.heap.size,3,none⟩ = some (.string ⟨#[]⟩):=(by go_simp);have yc4:w2.cell? ⟨w.heap.size,4,none⟩ = some (.string ⟨#[]⟩):=(by go_simp);have yc5:w2.cell? ⟨w.heap.size,5,none⟩ = some (.slice none 0 0):=(by go_simp)))
  exact bodyPost_ret (v:=.agg #[.int .i64 17,.int .i64 0,.int .i64 0,.string ⟨#[]⟩,.string ⟨#[]⟩,.slice A2 l.length c2]) (by first | (simp [results,Tryz.results88,go_sem];done) | (simp [results,Tryz.results88,go_sem, *];done)) rfl ⟨A2,c2,rfl,call_rep (l:=l) 17 (show inI 17 from rfl) (by have:=HL.out;omega) HSL.out.2 (sl_on HSL.out.1 (by omega) hRlt bes),hs2.under (n:=R + 1) bel (by omega),bes⟩
set_option maxRecDepth 100000 in
set_option maxHeartbeats 4000000 in
theorem whole_len (T0 R:Nat) (en:Int) (n:Nat) (ih:LevN T0 R en n) (ts:List Tkn) (w:World) (hts:ts.length ≤ n) (hok:TokOk ts) (hgR:GlobR R) (hg:GdA w) (hs:RdS T0 w R ts en) (ht:isTk (sgnN 18) ts = true) :
  Calls Tryz.prog 88 #[.pointer (some ⟨R,0,none⟩)] w (PPost T0 R en w (rdOne ts)):=by
 have hRlt:=hs.lt
 have n0:¬ w.heap.size = R:=by omega
 have n1:¬ w.heap.size + 1 = R:=by omega
 rw [rdOne_len ht]
 replace ht:isTk ⟨#[108,101,110]⟩ ts = true:=ht
 have f0:isTk ⟨#[40]⟩ ts = false:=by simpa using tk_not (g':=⟨#[40]⟩) ht (by decide)
 have f1:isTk ⟨#[116,114,117,101]⟩ ts = false:=by simpa using tk_not (g':=⟨#[116,114,117,101]⟩) ht (by decide)
 have f2:isTk ⟨#[102,97,108,115,101]⟩ ts = false:=by simpa using tk_not (g':=⟨#[102,97,108,115,101]⟩) ht (by decide)
 have f3:isTk ⟨#[105,102]⟩ ts = false:=by simpa using tk_not (g':=⟨#[105,102]⟩) ht (by decide)
 have f4:isTk ⟨#[108,101,110]⟩ ts = true:=ht
 have hi:=fun g w h => reader_is T0 R ts en g w h
 obtain ⟨t,r0,rfl,_,hts2⟩:=isTk_cons ht
 have htk:=fun w h => reader_take T0 R t r0 en w h
 rw [hts2] at htk
 have hag:∀ w,GdA w → RdS T0 w R r0 en → Calls Tryz.prog 128 #[.pointer (some ⟨R,0,none⟩),.int .i64 1] w (LPost T0 R en w (rdArgs 1 tOpen [] r0)):=fun w h h' => reader_args T0 R en n ih 1 (by omega) r0 w (by simp only [List.length_cons] at hts;omega) hok.tail hgR h h'
 rw [List.tail_cons]
 have HGR:=Lib.hid hgR
 have HI:=Lib.hid hi
 have tf2:=Tryz.tkf2
 cases hq:rdArgs 1 tOpen [] r0 with
 | bad r =>
  rw [hq] at hag
  have HH:=Lib.hid (And.intro hs (And.intro htk (And.intro hg hag)))
  clear hs htk hg hag hi hq ih hok hgR hts ht hts2
  show Calls _ _ _ _ (RetBad R en w r)
  go_enter Tryz.func88,Tryz.ntmps88
  go_wp2_with (first
   | (go_at_call 87;refine (HI.out _ _ (HH.out.1.keep bel)).mono ?_;rintro e w9 ⟨rfl,rfl⟩)
   | (go_at_call 41;refine (HH.out.2.1 _ (HH.out.1.keep bel)).mono ?_;rintro e w1 ⟨rfl,hs1,hb1⟩;obtain ⟨hc1,hf1⟩:=bcells hb1;(try simp only [bqh,bqc,bqf] at hc1 hf1);have hz1:=hb1.size;(try simp at hz1);(try have hy1:=nl1 hz1);(try have hx1:=nl2 hy1);refine szz w1 w ?_;intros;have m1:¬ w1.heap.size = R:=(by omega);have HB1:=Lib.hid (show Bes R w w1 from bes);have yo:=(show w1.cell? ⟨R,58,none⟩ = some (.int .i64 1) from hs1.ops 56 _ rfl))
   | (go_at_call 128;refine (HH.out.2.2.2 _ (HH.out.2.2.1.bes HB1.out HGR.out) (hs1.keep bel)).mono ?_;rintro e w2 ⟨he,hb2⟩;unfold lostE at he;subst he))
  exact ⟨rfl,rfl,bes⟩
 | ok l r =>
  have hl3:l.length = 0 + 1:=p_args_len _ _ _ _ _ _ _ hq
  rw [hq] at hag
  have HH:=Lib.hid (And.intro hs (And.intro htk (And.intro hg hag)))
  have HL:=Lib.hid hl3
  clear hs htk hg hag hi hq ih hok hgR hts ht hts2 hl3
  show Calls _ _ _ _ (RetX T0 R en w (callX 18 l) r)
  go_enter Tryz.func88,Tryz.ntmps88
  go_wp2_with (first
   | (go_at_call 87;refine (HI.out _ _ (HH.out.1.keep bel)).mono ?_;rintro e w9 ⟨rfl,rfl⟩)
   | (go_at_call 41;refine (HH.out.2.1 _ (HH.out.1.keep bel)).mono ?_;rintro e w1 ⟨rfl,hs1,hb1⟩;obtain ⟨hc1,hf1⟩:=bcells hb1;(try simp only [bqh,bqc,bqf] at hc1 hf1);have hz1:=hb1.size;(try simp at hz1);(try have hy1:=nl1 hz1);(try have hx1:=nl2 hy1);refine szz w1 w ?_;intros;have m1:¬ w1.heap.size = R:=(by omega);have HB1:=Lib.hid (show Bes R w w1 from bes);have yo:=(show w1.cell? ⟨R,58,none⟩ = some (.int .i64 1) from hs1.ops 56 _ rfl))
   | (go_at_call 128;refine (HH.out.2.2.2 _ (HH.out.2.2.1.bes HB1.out HGR.out) (hs1.keep bel)).mono ?_;rintro e w2 ⟨v2,rfl,ho2,hs2,hb2⟩;obtain ⟨A2,c2,rfl,hc2',hsl2⟩:=ho2.sl keeps_Exp;have HSL:=Lib.hid (And.intro hsl2 hc2');clear hsl2 ho2 hc2';obtain ⟨hc2,hf2⟩:=bcells hb2;(try simp only [bqh,bqc,bqf] at hc2 hf2);have hz2:=hb2.size;(try simp at hz2);(try have hy2:=nl1 hz2);(try have hx2:=nl2 hy2);refine szz w2 w ?_;intros;refine szz w2 w1 ?_;intros;have m2:¬ w2.heap.size = R:=(by omega);have yc0:w2.cell? ⟨w.heap.size,0,none⟩ = some (.int .i64 0):=(by go_simp);have yc1:w2.cell? ⟨w.heap.size,1,none⟩ = some (.int .i64 0):=(by go_simp);have yc2:w2.cell? ⟨w.heap.size,2,none⟩ = some (.int .i64 0):=(by go_simp);have yc3:w2.cell? ⟨w.heap.size,3,none⟩ = some (.string ⟨#[]⟩):=(by go_simp);have yc4:w2.cell? ⟨w.heap.size,4,none⟩ = some (.string ⟨#[]⟩):=(by go_simp);have yc5:w2.cell? ⟨w.heap.size,5,none⟩ = some (.slice none 0 0):=(by go_simp)))
  exact bodyPost_ret (v:=.agg #[.int .i64 18,.int .i64 0,.int .i64 0,.string ⟨#[]⟩,.string ⟨#[]⟩,.slice A2 l.length c2]) (by first | (simp [results,Tryz.results88,go_sem];done) | (simp [results,Tryz.results88,go_sem, *];done)) rfl ⟨A2,c2,rfl,call_rep (l:=l) 18 (show inI 18 from rfl) (by have:=HL.out;omega) HSL.out.2 (sl_on HSL.out.1 (by omega) hRlt bes),hs2.under (n:=R + 1) bel (by omega),bes⟩
end Go.Proofs.YtldbpmlgbbomcaaGreatDoor
