/- expr.Parse: what a text is read as. -/
import Derived.Test.YtldbpmlgbbomcaaGreatDoorRd8
import Derived.Test.YtldbpmlgbbomcaaGreatDoorLx2
import Derived.Test.YtldbpmlgbbomcaaGreatDoorTokP
namespace Go.Proofs.YtldbpmlgbbomcaaGreatDoor
open Go.RowKit

def zX:Exp:=.mk 0 tkVal ⟨#[]⟩ []
def treeR (en:Int) (l:List Tkn):Exp × Int × Int:=match rdForm 1 l with
 | .bad r => (zX,posOf en r,3)
 | .ok x r => match r with
  | [] => if exprErr x = 0 then (x,0,0) else (zX,0,exprErr x)
  | t :: _ => (zX,t.at_,3)
def parseX (s:ByteArray):Exp × Int × Int:=if (lexX s.data.toList).2.2 = 0 then treeR s.size (lexX s.data.toList).1 else (zX,(lexX s.data.toList).2)
def RetPa (w:World) (r:Exp × Int × Int) (e:Ending) (w':World):Prop :=
 ∃ A c,e = .returned (.tuple #[.agg #[.int .i64 r.1.op,.int .i64 r.1.v.k,.int .i64 r.1.v.n,.string r.1.v.s,.string r.1.name,.slice A r.1.args.length c],.int .i64 r.2.1,.int .i64 r.2.2]) ∧
  XRep w' (fresh w w') [.int .i64 r.1.op,.int .i64 r.1.v.k,.int .i64 r.1.v.n,.string r.1.v.s,.string r.1.name,.slice A r.1.args.length c] r.1 ∧ Below w.heap.size w w'
theorem RetPa.zero {w w':World} {r:Exp × Int × Int} {a c:Int} {e:Ending} (hr:r = (zX,a,c)) (he:e = .returned (.tuple #[.agg #[.int .i64 0,.int .i64 0,.int .i64 0,.string ⟨#[]⟩,.string ⟨#[]⟩,.slice none 0 0],.int .i64 a,.int .i64 c])) (hb:Below w.heap.size w w'):RetPa w r e w':=by
 subst hr
 exact ⟨none,0,he,XRep.shut (v:=tkVal) (n:=0) (inI_c 0 (by omega)) ⟨inI_c 0 (by omega),inI_c 0 (by omega),str_nil_in⟩ str_nil_in (by unfold inB;omega) (Nat.le_refl _) Sl.nil,hb⟩
theorem globR {w:World} (h:GdA w) {R:Nat} (hR:w.heap.size ≤ R):GlobR R:=by
 obtain ⟨⟨⟨m,hm⟩,ht⟩,⟨v,hv,k⟩,v',hv',k'⟩:=h
 have h1:=block_lt_of_cell hm
 have h3:=block_lt_of_cell hv
 have h4:=block_lt_of_cell hv'
 have h2:5 < w.heap.size:=by
  have hg : Tryz.prog.globalNamed "internal/strconv.uint64pow10" = some 5 := by kernel_rfl
  unfold Lib.TabIs World.var? at ht
  rw [hg] at ht
  simp only [Option.bind_some] at ht
  rcases Nat.lt_or_ge 5 w.heap.size with h' | h'
  ·exact h'
  ·rw [Array.getElem?_eq_none h'] at ht;cases ht
 dsimp only at h1 h3 h4
 exact ⟨by omega,by omega,by omega,by omega⟩
theorem own_slT {α:Type} (enc:α → List Value) (wf:α → Prop) {size:Nat} (hsz:∀ a,(enc a).length = size) {w:World} {base:Nat} {e:TypeId} {v:Value} {n:Nat} {l:List α}
  (h:w.ownsRow base e size v n (l.flatMap enc)) (hl:l.length = n) (hw:∀ a ∈ l,wf a) :
  ∃ A c,v = .slice A n c ∧ n ≤ c ∧ Sl w (since base w) size (fun cs a => cs = enc a ∧ wf a) A n l:=by
 obtain ⟨A,c,rfl,hc,hs⟩:=own_sl enc hsz h hl
 refine ⟨A,c,rfl,hc,hs.1,fun hn => ?_⟩
 obtain ⟨b,o,e,hS,hcc⟩:=hs.2 hn
 refine ⟨b,o,e,hS,fun i v hv => ?_⟩
 obtain ⟨cs,rfl,hl',h'⟩:=hcc i v hv
 exact ⟨_,⟨rfl,hw v (List.mem_of_getElem? hv)⟩,hl',h'⟩
theorem rd_begin {T0:Nat} {w2:World} {arr:Array Value} {T:TypeId} {l:List Tkn} {A1:Option Addr} {c1:Nat} {en:Int} (hs:Sl w2 (fun b => T0 ≤ b ∧ b < w2.heap.size) 6 RTkn A1 l.length l) (hc:l.length ≤ c1) (harr:arr = (.slice A1 l.length c1 :: .int .i64 en :: shapesC).toArray):RdS T0 (w2.alloc (.cells arr T)) w2.heap.size l en:=by
 subst harr
 have hn:=heap_alloc_new w2 (.cells (.slice A1 l.length c1 :: .int .i64 en :: shapesC).toArray T)
 have hcl:=fun j => cell_of_row (w2.alloc (.cells (.slice A1 l.length c1 :: .int .i64 en :: shapesC).toArray T)) w2.heap.size j _ _ _ hn
 refine ⟨A1,c1,⟨?_,?_,fun i v hi => ?_,by simp⟩,hc,?_⟩
 ·rw [hcl];rfl
 ·rw [hcl];rfl
 ·rw [hcl,Nat.add_comm]
  simpa using hi
 ·exact hs.keep (fun b hb => Below.heap_alloc w2 _ b hb.2) (fun _ _ h => h)
theorem RdS.apart {T0:Nat} {w w':World} {R:Nat} {ts:List Tkn} {en:Int} (h:RdS T0 w R ts en) (hT:T0 ≤ R) (hb:∀ k,T0 ≤ k → k ≤ R → w'.heap[k]? = w.heap[k]?):RdS T0 w' R ts en:=by
 obtain ⟨A,c,h1,h2,h3⟩:=h
 exact ⟨A,c,h1.block (hb R hT (Nat.le_refl _)),h2,h3.keep (w':=w') (fun b hb' => hb b hb'.1 (Nat.le_of_lt hb'.2)) (fun _ _ h => h)⟩
theorem set_two {w:World} {b p q:Nat} {u v:Value} (h1:b < w.heap.size) (hp:b ≠ p) (hq:b ≠ q):((w.setCell ⟨p,0,none⟩ u).setCell ⟨q,0,none⟩ v).heap[b]? = w.heap[b]?:=by
 have a1:=(bes_own (R:=p) (o:=0) (v:=u) (Bes.refl p w)).block b h1 hp
 have a2:=(bes_own (R:=q) (o:=0) (v:=v) (Bes.refl q (w.setCell ⟨p,0,none⟩ u))).block b (by simpa using h1) hq
 exact a2.trans a1
set_option maxRecDepth 100000 in
set_option maxHeartbeats 8000000 in
theorem expr_Parse (s:ByteArray) (w:World) (hs:inS s) (hg:GdA w):Calls Tryz.prog 6 #[.string s] w (RetPa w (parseX s)):=by
 have hmf:∀ (fn:Fn) (first cap:Array Value) (w:World),(Instr.makeFunc fn first cap).run Tryz.prog w = .ok (.func fn first cap) w:=fun _ _ _ _ => rfl
 have htk:=fun w => lex_Tokens s w (inS_max hs)
 have hln:=lexX_len s.data.toList
 have hto:=lexX_tok s
 obtain ⟨G,hG⟩:∃ G,G = parseX s:=⟨_,rfl⟩
 rw [← hG]
 unfold parseX at hG
 generalize lexX s.data.toList = tk at htk hG hln hto
 obtain ⟨l,a,c⟩:=tk
 dsimp only at htk hG hln hto
 have HTOK:=Lib.hid hto
 clear hto
 have hs2:s.size ≤ 140737488351232:=hs
 by_cases hc:c = 0
 ·subst hc
  rw [if_pos rfl] at hG
  have hok:TokOk l:=HTOK.out
  have HLV0:=Lib.hid (fun R w' h1 h2 h3 => (reader_all (w.heap.size + 3) R s.size (l.length + 1)).1 1 l w' (by omega) (by omega) (by omega) hok h1 h2 h3)
  have HT:=Lib.hid htk
  have HGA:=Lib.hid hg
  have HGL:=Lib.hid (fun R h => globR hg (R:=R) h)
  clear htk hs hg hok
  unfold treeR at hG
  cases hq:rdForm 1 l with
  | bad r =>
   have HLV:=HLV0
   rw [hq] at hG HLV
   have HG:=Lib.hid (show G = (zX,posOf s.size r,3) from hG)
   clear hG hq HLV0
   go_enter_defers Tryz.func6,Tryz.ntmps6
   go_wp2_with (first
    | (go_at_call 14;refine (HT.out _).mono ?_;rintro e w1 ⟨v1,rfl,ho1,hb1⟩;obtain ⟨hc1,hf1⟩:=bcell hb1;(try simp only [bqh,bqc,bqf] at hc1 hf1);have hz1:=hb1.size;(try simp at hz1);(try have hy1:=nl1 hz1);(try have hx1:=nl2 hy1);refine szz w1 w ?_;intros;obtain ⟨A1,c1,rfl,hcl1,hsl1⟩:=own_slT Tkn.cs Tkn.wf lenTkn ho1 rfl (fun _ _ => trivial);have HSL:=Lib.hid (And.intro hsl1 hcl1);clear ho1 hsl1 hcl1;have yc0:w1.cell? ⟨w.heap.size,0,none⟩ = some (.int .i64 0):=(by go_simp);have yc1:w1.cell? ⟨w.heap.size,1,none⟩ = some (.int .i64 0):=(by go_simp);have yc2:w1.cell? ⟨w.heap.size,2,none⟩ = some (.int .i64 0):=(by go_simp);have yc3:w1.cell? ⟨w.heap.size,3,none⟩ = some (.string ⟨#[]⟩):=(by go_simp);have yc4:w1.cell? ⟨w.heap.size,4,none⟩ = some (.string ⟨#[]⟩):=(by go_simp);have yc5:w1.cell? ⟨w.heap.size,5,none⟩ = some (.slice none 0 0):=(by go_simp);have yc6:w1.cell? ⟨w.heap.size + 1,0,none⟩ = some (.int .i64 0):=(by go_simp);have yc7:w1.cell? ⟨w.heap.size + 1 + 1,0,none⟩ = some (.int .i64 0):=(by go_simp);have yc8:w1.cell? ⟨w.heap.size + 2,0,none⟩ = some (.int .i64 0):=yc7)
    | (go_at_call 16;refine (expr_shapes _).mono ?_;rintro e w2 ⟨rfl,hb2⟩;obtain ⟨hc2,hf2⟩:=bcell hb2;(try simp only [bqh,bqc,bqf] at hc2 hf2);have hz2:=hb2.size;(try simp at hz2);(try have hy2:=nl1 hz2);(try have hx2:=nl2 hy2);refine szz w2 w ?_;intros;refine szz w2 w1 ?_;intros;have HS2:=Lib.hid (show Sl w2 (fun b => w.heap.size + 3 ≤ b ∧ b < w2.heap.size) 6 RTkn A1 l.length l from (HSL.out.1.keep (fun b hb => (hb2.block b (by have:=hb.2;simp;omega)).trans (set_two hb.2 (by have:=hb.1;simp at this;omega) (by have:=hb.1;simp at this;omega))) (fun _ _ h => h)).mono fun b hb => by have h1:=hb.1;have h2:=hb.2;simp at h1;exact ⟨by omega,by omega⟩))
    | (go_at_call 17;refine calls_world ?_;intro W3 hW3;have hgW:GdA W3:=(by rw [hW3];exact HGA.out.keep bel);have hrW:RdS (w.heap.size + 3) W3 w2.heap.size l s.size:=(by rw [hW3];exact rd_begin HS2.out HSL.out.2 (by kernel_rfl));have hRW:Ready w W3 a:=(by rw [hW3];exact ⟨by unfold ZBX;and_intros <;> go_simp,⟨by go_simp,by go_simp⟩,⟨by go_simp,by go_simp⟩,bel,by simp;omega⟩);have hoW:w2.heap.size < W3.heap.size:=(by rw [hW3];simp);clear hW3;refine (HLV.out _ W3 (HGL.out _ (by omega)) hgW hrW).mono ?_;rintro e w3 ⟨he,hb3⟩;unfold lostE at he;subst he;have hR3:=hRW.bes hb3 (by omega);have hz3:=hb3.size;obtain ⟨⟨⟨z0,z1,z2,z3,z4,z5⟩,q0,q1,q2,q3,q4,q5⟩,⟨e1,e2⟩,⟨f1,f2⟩,hbw3,hl3⟩:=id hR3;have e2':w3.cell? ⟨w.heap.size + 1 + 1,0,none⟩ = some (.int .i64 0):=e2;have f2':w3.frozen? ⟨w.heap.size + 1 + 1,0,none⟩ = false:=f2;have nn0:¬ w.heap.size = w2.heap.size:=(by omega);have nn1:¬ w.heap.size + 1 = w2.heap.size:=(by omega);have nn2:¬ w.heap.size + 1 + 1 = w2.heap.size:=(by omega);have l0:w.heap.size < w3.heap.size:=(by omega);have l1:w.heap.size + 1 < w3.heap.size:=(by omega);have l2:w.heap.size + 1 + 1 < w3.heap.size:=(by omega)))
   simp only [bodyPostD]
   refine leaves_cons (f:=15) (args:=#[.pointer (some ⟨w.heap.size,0,none⟩),.pointer (some ⟨w.heap.size + 1,0,none⟩),.pointer (some ⟨w.heap.size + 2,0,none⟩)]) (by simp) (by simp [go_sem]) ?_
   refine (catch_wrong w.heap.size (posOf s.size r) [] _ hl3 ⟨zX,none,0,hR3.1⟩ ⟨_,e1⟩ ⟨_,e2⟩ f1 f2).mono ?_
   rintro e u' w4 ⟨rfl,rfl,⟨r0,r1,r2,r3,r4,r5⟩,r6,r7,hb4⟩
   have hbF:Below w.heap.size w w4:=below_step hbw3 hb4 (Nat.le_refl _)
   simp only [settle,List.dropWhile,Leaves]
   exact ⟨.tuple #[.agg #[.int .i64 0,.int .i64 0,.int .i64 0,.string ⟨#[]⟩,.string ⟨#[]⟩,.slice none 0 0],.int .i64 (posOf s.size r),.int .i64 3],by simp [results,Tryz.results6,go_sem,r0,r1,r2,r3,r4,r5,r6,r7],RetPa.zero HG.out rfl hbF⟩
  | ok x r =>
   have HLV:=HLV0
   rw [hq] at hG HLV
   clear hq HLV0
   cases r with
   | cons t r9 =>
    have HG:=Lib.hid (show G = (zX,t.at_,3) from hG)
    clear hG
    go_enter_defers Tryz.func6,Tryz.ntmps6
    go_wp2_with (first
     | (go_at_call 14;refine (HT.out _).mono ?_;rintro e w1 ⟨v1,rfl,ho1,hb1⟩;obtain ⟨hc1,hf1⟩:=bcell hb1;(try simp only [bqh,bqc,bqf] at hc1 hf1);have hz1:=hb1.size;(try simp at hz1);(try have hy1:=nl1 hz1);(try have hx1:=nl2 hy1);refine szz w1 w ?_;intros;obtain ⟨A1,c1,rfl,hcl1,hsl1⟩:=own_slT Tkn.cs Tkn.wf lenTkn ho1 rfl (fun _ _ => trivial);have HSL:=Lib.hid (And.intro hsl1 hcl1);clear ho1 hsl1 hcl1;have yc0:w1.cell? ⟨w.heap.size,0,none⟩ = some (.int .i64 0):=(by go_simp);have yc1:w1.cell? ⟨w.heap.size,1,none⟩ = some (.int .i64 0):=(by go_simp);have yc2:w1.cell? ⟨w.heap.size,2,none⟩ = some (.int .i64 0):=(by go_simp);have yc3:w1.cell? ⟨w.heap.size,3,none⟩ = some (.string ⟨#[]⟩):=(by go_simp);have yc4:w1.cell? ⟨w.heap.size,4,none⟩ = some (.string ⟨#[]⟩):=(by go_simp);have yc5:w1.cell? ⟨w.heap.size,5,none⟩ = some (.slice none 0 0):=(by go_simp);have yc6:w1.cell? ⟨w.heap.size + 1,0,none⟩ = some (.int .i64 0):=(by go_simp);have yc7:w1.cell? ⟨w.heap.size + 1 + 1,0,none⟩ = some (.int .i64 0):=(by go_simp);have yc8:w1.cell? ⟨w.heap.size + 2,0,none⟩ = some (.int .i64 0):=yc7)
     | (go_at_call 16;refine (expr_shapes _).mono ?_;rintro e w2 ⟨rfl,hb2⟩;obtain ⟨hc2,hf2⟩:=bcell hb2;(try simp only [bqh,bqc,bqf] at hc2 hf2);have hz2:=hb2.size;(try simp at hz2);(try have hy2:=nl1 hz2);(try have hx2:=nl2 hy2);refine szz w2 w ?_;intros;refine szz w2 w1 ?_;intros;have HS2:=Lib.hid (show Sl w2 (fun b => w.heap.size + 3 ≤ b ∧ b < w2.heap.size) 6 RTkn A1 l.length l from (HSL.out.1.keep (fun b hb => (hb2.block b (by have:=hb.2;simp;omega)).trans (set_two hb.2 (by have:=hb.1;simp at this;omega) (by have:=hb.1;simp at this;omega))) (fun _ _ h => h)).mono fun b hb => by have h1:=hb.1;have h2:=hb.2;simp at h1;exact ⟨by omega,by omega⟩))
     | (go_at_call 17;refine calls_world ?_;intro W3 hW3;have hgW:GdA W3:=(by rw [hW3];exact HGA.out.keep bel);have hrW:RdS (w.heap.size + 3) W3 w2.heap.size l s.size:=(by rw [hW3];exact rd_begin HS2.out HSL.out.2 (by kernel_rfl));have hRW:Ready w W3 a:=(by rw [hW3];exact ⟨by unfold ZBX;and_intros <;> go_simp,⟨by go_simp,by go_simp⟩,⟨by go_simp,by go_simp⟩,bel,by simp;omega⟩);have hoW:w2.heap.size < W3.heap.size:=(by rw [hW3];simp);clear hW3;refine (HLV.out _ W3 (HGL.out _ (by omega)) hgW hrW).mono ?_;rintro e w3 ⟨A3,c3,rfl,hr3,hs3,hb3⟩;have hR3:=hRW.bes hb3 (by omega);have hz3:=hb3.size;obtain ⟨⟨⟨z0,z1,z2,z3,z4,z5⟩,q0,q1,q2,q3,q4,q5⟩,⟨e1,e2⟩,⟨f1,f2⟩,hbw3,hl3⟩:=id hR3;have e2':w3.cell? ⟨w.heap.size + 1 + 1,0,none⟩ = some (.int .i64 0):=e2;have f2':w3.frozen? ⟨w.heap.size + 1 + 1,0,none⟩ = false:=f2;have nn0:¬ w.heap.size = w2.heap.size:=(by omega);have nn1:¬ w.heap.size + 1 = w2.heap.size:=(by omega);have nn2:¬ w.heap.size + 1 + 1 = w2.heap.size:=(by omega);have l0:w.heap.size < w3.heap.size:=(by omega);have l1:w.heap.size + 1 < w3.heap.size:=(by omega);have l2:w.heap.size + 1 + 1 < w3.heap.size:=(by omega);obtain ⟨A9,c9,⟨p0,_,_,_⟩,_,_⟩:=id hs3;rw [List.length_cons] at p0;have HRR:=Lib.hid (And.intro hr3 hs3);clear hr3 hs3)
     | (go_at_call 18;refine (reader_fail (w.heap.size + 3) w2.heap.size (t :: r9) s.size _ (HRR.out.2.apart (by omega) (fun k h1 h2 => (show Bes w.heap.size w3 _ from bes).block k (by omega) (by omega)))).mono ?_;rintro e w5 ⟨he,rfl⟩;unfold lostE at he;subst he))
    refine exit_world ?_;intro W hW
    have hxb:XBX W w.heap.size x A3 c3:=by rw [hW];unfold XBX;and_intros <;> first | (go_simp;done) | (go_simp;rfl)
    have e3:W.cell? ⟨w.heap.size + 1,0,none⟩ = some (.int .i64 a):=by rw [hW];go_simp
    have e4:W.cell? ⟨w.heap.size + 2,0,none⟩ = some (.int .i64 0):=by rw [hW];go_simp
    have f3:W.frozen? ⟨w.heap.size + 1,0,none⟩ = false:=by rw [hW];go_simp
    have f4:W.frozen? ⟨w.heap.size + 2,0,none⟩ = false:=by rw [hW];go_simp
    have hbW:Below w.heap.size w W:=by rw [hW];exact bel
    have hlW:w.heap.size + 2 < W.heap.size:=by rw [hW];simp;omega
    clear hW
    simp only [bodyPostD]
    refine leaves_cons (f:=15) (args:=#[.pointer (some ⟨w.heap.size,0,none⟩),.pointer (some ⟨w.heap.size + 1,0,none⟩),.pointer (some ⟨w.heap.size + 2,0,none⟩)]) (by simp) (by simp [go_sem]) ?_
    refine (catch_wrong w.heap.size t.at_ [] _ hlW ⟨x,A3,c3,hxb⟩ ⟨_,e3⟩ ⟨_,e4⟩ f3 f4).mono ?_
    rintro e u' w4 ⟨rfl,rfl,⟨r0,r1,r2,r3,r4,r5⟩,r6,r7,hb4⟩
    have hbF:Below w.heap.size w w4:=below_step hbW hb4 (Nat.le_refl _)
    simp only [settle,List.dropWhile,Leaves]
    exact ⟨.tuple #[.agg #[.int .i64 0,.int .i64 0,.int .i64 0,.string ⟨#[]⟩,.string ⟨#[]⟩,.slice none 0 0],.int .i64 t.at_,.int .i64 3],by simp [results,Tryz.results6,go_sem,r0,r1,r2,r3,r4,r5,r6,r7],RetPa.zero HG.out rfl hbF⟩
   | nil =>
    obtain ⟨er,her⟩:∃ er,er = exprErr x:=⟨_,rfl⟩
    have HER:=Lib.hid her.symm
    by_cases hz:er = 0
    ·have HG:=Lib.hid (show G = (x,0,0) by rw [hG];exact if_pos (her ▸ hz))
     clear hG her
     subst hz
     go_enter_defers Tryz.func6,Tryz.ntmps6
     go_wp2_with (first
      | (go_at_call 14;refine (HT.out _).mono ?_;rintro e w1 ⟨v1,rfl,ho1,hb1⟩;obtain ⟨hc1,hf1⟩:=bcell hb1;(try simp only [bqh,bqc,bqf] at hc1 hf1);have hz1:=hb1.size;(try simp at hz1);(try have hy1:=nl1 hz1);(try have hx1:=nl2 hy1);refine szz w1 w ?_;intros;obtain ⟨A1,c1,rfl,hcl1,hsl1⟩:=own_slT Tkn.cs Tkn.wf lenTkn ho1 rfl (fun _ _ => trivial);have HSL:=Lib.hid (And.intro hsl1 hcl1);clear ho1 hsl1 hcl1;have yc0:w1.cell? ⟨w.heap.size,0,none⟩ = some (.int .i64 0):=(by go_simp);have yc1:w1.cell? ⟨w.heap.size,1,none⟩ = some (.int .i64 0):=(by go_simp);have yc2:w1.cell? ⟨w.heap.size,2,none⟩ = some (.int .i64 0):=(by go_simp);have yc3:w1.cell? ⟨w.heap.size,3,none⟩ = some (.string ⟨#[]⟩):=(by go_simp);have yc4:w1.cell? ⟨w.heap.size,4,none⟩ = some (.string ⟨#[]⟩):=(by go_simp);have yc5:w1.cell? ⟨w.heap.size,5,none⟩ = some (.slice none 0 0):=(by go_simp);have yc6:w1.cell? ⟨w.heap.size + 1,0,none⟩ = some (.int .i64 0):=(by go_simp);have yc7:w1.cell? ⟨w.heap.size + 1 + 1,0,none⟩ = some (.int .i64 0):=(by go_simp);have yc8:w1.cell? ⟨w.heap.size + 2,0,none⟩ = some (.int .i64 0):=yc7)
      | (go_at_call 16;refine (expr_shapes _).mono ?_;rintro e w2 ⟨rfl,hb2⟩;obtain ⟨hc2,hf2⟩:=bcell hb2;(try simp only [bqh,bqc,bqf] at hc2 hf2);have hz2:=hb2.size;(try simp at hz2);(try have hy2:=nl1 hz2);(try have hx2:=nl2 hy2);refine szz w2 w ?_;intros;refine szz w2 w1 ?_;intros;have HS2:=Lib.hid (show Sl w2 (fun b => w.heap.size + 3 ≤ b ∧ b < w2.heap.size) 6 RTkn A1 l.length l from (HSL.out.1.keep (fun b hb => (hb2.block b (by have:=hb.2;simp;omega)).trans (set_two hb.2 (by have:=hb.1;simp at this;omega) (by have:=hb.1;simp at this;omega))) (fun _ _ h => h)).mono fun b hb => by have h1:=hb.1;have h2:=hb.2;simp at h1;exact ⟨by omega,by omega⟩))
      | (go_at_call 17;refine calls_world ?_;intro W3 hW3;have hgW:GdA W3:=(by rw [hW3];exact HGA.out.keep bel);have hrW:RdS (w.heap.size + 3) W3 w2.heap.size l s.size:=(by rw [hW3];exact rd_begin HS2.out HSL.out.2 (by kernel_rfl));have hRW:Ready w W3 a:=(by rw [hW3];exact ⟨by unfold ZBX;and_intros <;> go_simp,⟨by go_simp,by go_simp⟩,⟨by go_simp,by go_simp⟩,bel,by simp;omega⟩);have hoW:w2.heap.size < W3.heap.size:=(by rw [hW3];simp);clear hW3;refine (HLV.out _ W3 (HGL.out _ (by omega)) hgW hrW).mono ?_;rintro e w3 ⟨A3,c3,rfl,hr3,hs3,hb3⟩;have hR3:=hRW.bes hb3 (by omega);have hz3:=hb3.size;obtain ⟨⟨⟨z0,z1,z2,z3,z4,z5⟩,q0,q1,q2,q3,q4,q5⟩,⟨e1,e2⟩,⟨f1,f2⟩,hbw3,hl3⟩:=id hR3;have e2':w3.cell? ⟨w.heap.size + 1 + 1,0,none⟩ = some (.int .i64 0):=e2;have f2':w3.frozen? ⟨w.heap.size + 1 + 1,0,none⟩ = false:=f2;have nn0:¬ w.heap.size = w2.heap.size:=(by omega);have nn1:¬ w.heap.size + 1 = w2.heap.size:=(by omega);have nn2:¬ w.heap.size + 1 + 1 = w2.heap.size:=(by omega);have l0:w.heap.size < w3.heap.size:=(by omega);have l1:w.heap.size + 1 < w3.heap.size:=(by omega);have l2:w.heap.size + 1 + 1 < w3.heap.size:=(by omega);obtain ⟨A9,c9,⟨p0,_,_,_⟩,_,_⟩:=id hs3;have p0':w3.cell? ⟨w2.heap.size,0,none⟩ = some (.slice A9 0 c9):=p0;clear p0;have HRR:=Lib.hid (And.intro hr3 hs3);clear hr3 hs3)
      | (go_at_call 19;refine calls_world ?_;intro W5 hW5;have hB5:Bes w.heap.size w3 W5:=(by rw [hW5];exact bes);have hx5:XRep W5 (old W5) [.int .i64 x.op,.int .i64 x.v.k,.int .i64 x.v.n,.string x.v.s,.string x.name,.slice A3 x.args.length c3] x:=HRR.out.1.keep (fun b hb => ⟨Nat.lt_of_lt_of_le hb.2 hB5.size,hB5.block b hb.2 (by have:=hb.1;omega)⟩);have hxb5:XBX W5 w.heap.size x A3 c3:=(by rw [hW5];unfold XBX;and_intros <;> first | (go_simp;done) | (go_simp;rfl));have e15:W5.cell? ⟨w.heap.size + 1,0,none⟩ = some (.int .i64 a):=(by rw [hW5];go_simp);have e25:W5.cell? ⟨w.heap.size + 1 + 1,0,none⟩ = some (.int .i64 0):=(by rw [hW5];go_simp);have f15:W5.frozen? ⟨w.heap.size + 1,0,none⟩ = false:=(by rw [hW5];go_simp);have f25:W5.frozen? ⟨w.heap.size + 1 + 1,0,none⟩ = false:=(by rw [hW5];go_simp);have hbw5:Below w.heap.size w W5:=(by rw [hW5];exact bel);have l25:w.heap.size + 1 + 1 < W5.heap.size:=(by have:=hB5.size;omega);clear hW5;obtain ⟨⟨u0,u1,u2,u3,u4,u5⟩,s0,s1,s2,s3,s4,s5⟩:=id hxb5;have l05:w.heap.size < W5.heap.size:=(by omega);have l15:w.heap.size + 1 < W5.heap.size:=(by omega);refine (expr_Check x A3 c3 W5 hx5).mono ?_;rintro e w6 ⟨he6,hb6⟩;rw [HER.out] at he6;subst he6;obtain ⟨hc6,hf6⟩:=bcell hb6;(try simp only [bqh,bqc,bqf] at hc6 hf6);have hz6:=hb6.size;(try simp at hz6);(try have hy6:=nl1 hz6);(try have hx6:=nl2 hy6);refine szz w6 W5 ?_;intros))
     refine exit_world ?_;intro W hW
     have hfar:∀ k,w.heap.size + 2 < k → W.heap[k]? = w6.heap[k]?:=by
      intro k h1
      rw [hW]
      simp only [World.setCell,Array.getElem?_modify]
      repeat rw [if_neg (by omega)]
     have hzW:w6.heap.size ≤ W.heap.size:=by rw [hW];simp
     have r0:W.cell? ⟨w.heap.size,0,none⟩ = some (.int .i64 x.op):=by rw [hW];exact (by first | (go_simp;done) | (go_simp;exact World.cell?_setCell_same' _ _ _ (by go_simp)))
     have r1:W.cell? ⟨w.heap.size,1,none⟩ = some (.int .i64 x.v.k):=by rw [hW];exact (by first | (go_simp;done) | (go_simp;exact World.cell?_setCell_same' _ _ _ (by go_simp)))
     have r2:W.cell? ⟨w.heap.size,2,none⟩ = some (.int .i64 x.v.n):=by rw [hW];exact (by first | (go_simp;done) | (go_simp;exact World.cell?_setCell_same' _ _ _ (by go_simp)))
     have r3:W.cell? ⟨w.heap.size,3,none⟩ = some (.string x.v.s):=by rw [hW];exact (by first | (go_simp;done) | (go_simp;exact World.cell?_setCell_same' _ _ _ (by go_simp)))
     have r4:W.cell? ⟨w.heap.size,4,none⟩ = some (.string x.name):=by rw [hW];exact (by first | (go_simp;done) | (go_simp;exact World.cell?_setCell_same' _ _ _ (by go_simp)))
     have r5:W.cell? ⟨w.heap.size,5,none⟩ = some (.slice A3 x.args.length c3):=by rw [hW];exact (by first | (go_simp;done) | (go_simp;exact World.cell?_setCell_same' _ _ _ (by go_simp)))
     have r6:W.cell? ⟨w.heap.size + 1,0,none⟩ = some (.int .i64 0):=by rw [hW];exact (by first | (go_simp;done) | (go_simp;exact World.cell?_setCell_same' _ _ _ (by go_simp)))
     have r7:W.cell? ⟨w.heap.size + 1 + 1,0,none⟩ = some (.int .i64 0):=by rw [hW];exact (by first | (go_simp;done) | (go_simp;exact World.cell?_setCell_same' _ _ _ (by go_simp)))
     have hbW:Below w.heap.size w W:=by rw [hW];exact bel
     clear hW
     have hxr:XRep W (fresh w W) [.int .i64 x.op,.int .i64 x.v.k,.int .i64 x.v.n,.string x.v.s,.string x.name,.slice A3 x.args.length c3] x:=HRR.out.1.keep (fun b hb => by
      have h1:=hb.1
      have h2:=hb.2
      have h3:=hB5.size
      have h4:=hb6.size
      exact ⟨⟨by omega,by omega⟩,(hfar b (by omega)).trans ((hb6.block b (by omega)).trans (hB5.block b h2 (by omega)))⟩)
     simp only [bodyPostD]
     refine leaves_cons (f:=15) (args:=#[.pointer (some ⟨w.heap.size,0,none⟩),.pointer (some ⟨w.heap.size + 1,0,none⟩),.pointer (some ⟨w.heap.size + 1 + 1,0,none⟩)]) (by simp) (by simp [go_sem]) ?_
     refine (catch_idle _ _ _ _).mono ?_
     rintro e u' w7 ⟨rfl,rfl,rfl⟩
     simp only [settle,List.dropWhile,Leaves]
     exact ⟨.tuple #[.agg #[.int .i64 x.op,.int .i64 x.v.k,.int .i64 x.v.n,.string x.v.s,.string x.name,.slice A3 x.args.length c3],.int .i64 0,.int .i64 0],by simp [results,Tryz.results6,go_sem,r0,r1,r2,r3,r4,r5,r6,r7],by rw [HG.out];exact ⟨A3,c3,rfl,hxr,hbW⟩⟩
    ·have HG:=Lib.hid (show G = (zX,0,er) by rw [hG,her];exact if_neg (her ▸ hz))
     have hz':(er != 0) = true:=by simpa using hz
     clear hG her hz
     go_enter_defers Tryz.func6,Tryz.ntmps6
     go_wp2_with (first
      | (go_at_call 14;refine (HT.out _).mono ?_;rintro e w1 ⟨v1,rfl,ho1,hb1⟩;obtain ⟨hc1,hf1⟩:=bcell hb1;(try simp only [bqh,bqc,bqf] at hc1 hf1);have hz1:=hb1.size;(try simp at hz1);(try have hy1:=nl1 hz1);(try have hx1:=nl2 hy1);refine szz w1 w ?_;intros;obtain ⟨A1,c1,rfl,hcl1,hsl1⟩:=own_slT Tkn.cs Tkn.wf lenTkn ho1 rfl (fun _ _ => trivial);have HSL:=Lib.hid (And.intro hsl1 hcl1);clear ho1 hsl1 hcl1;have yc0:w1.cell? ⟨w.heap.size,0,none⟩ = some (.int .i64 0):=(by go_simp);have yc1:w1.cell? ⟨w.heap.size,1,none⟩ = some (.int .i64 0):=(by go_simp);have yc2:w1.cell? ⟨w.heap.size,2,none⟩ = some (.int .i64 0):=(by go_simp);have yc3:w1.cell? ⟨w.heap.size,3,none⟩ = some (.string ⟨#[]⟩):=(by go_simp);have yc4:w1.cell? ⟨w.heap.size,4,none⟩ = some (.string ⟨#[]⟩):=(by go_simp);have yc5:w1.cell? ⟨w.heap.size,5,none⟩ = some (.slice none 0 0):=(by go_simp);have yc6:w1.cell? ⟨w.heap.size + 1,0,none⟩ = some (.int .i64 0):=(by go_simp);have yc7:w1.cell? ⟨w.heap.size + 1 + 1,0,none⟩ = some (.int .i64 0):=(by go_simp);have yc8:w1.cell? ⟨w.heap.size + 2,0,none⟩ = some (.int .i64 0):=yc7)
      | (go_at_call 16;refine (expr_shapes _).mono ?_;rintro e w2 ⟨rfl,hb2⟩;obtain ⟨hc2,hf2⟩:=bcell hb2;(try simp only [bqh,bqc,bqf] at hc2 hf2);have hz2:=hb2.size;(try simp at hz2);(try have hy2:=nl1 hz2);(try have hx2:=nl2 hy2);refine szz w2 w ?_;intros;refine szz w2 w1 ?_;intros;have HS2:=Lib.hid (show Sl w2 (fun b => w.heap.size + 3 ≤ b ∧ b < w2.heap.size) 6 RTkn A1 l.length l from (HSL.out.1.keep (fun b hb => (hb2.block b (by have:=hb.2;simp;omega)).trans (set_two hb.2 (by have:=hb.1;simp at this;omega) (by have:=hb.1;simp at this;omega))) (fun _ _ h => h)).mono fun b hb => by have h1:=hb.1;have h2:=hb.2;simp at h1;exact ⟨by omega,by omega⟩))
      | (go_at_call 17;refine calls_world ?_;intro W3 hW3;have hgW:GdA W3:=(by rw [hW3];exact HGA.out.keep bel);have hrW:RdS (w.heap.size + 3) W3 w2.heap.size l s.size:=(by rw [hW3];exact rd_begin HS2.out HSL.out.2 (by kernel_rfl));have hRW:Ready w W3 a:=(by rw [hW3];exact ⟨by unfold ZBX;and_intros <;> go_simp,⟨by go_simp,by go_simp⟩,⟨by go_simp,by go_simp⟩,bel,by simp;omega⟩);have hoW:w2.heap.size < W3.heap.size:=(by rw [hW3];simp);clear hW3;refine (HLV.out _ W3 (HGL.out _ (by omega)) hgW hrW).mono ?_;rintro e w3 ⟨A3,c3,rfl,hr3,hs3,hb3⟩;have hR3:=hRW.bes hb3 (by omega);have hz3:=hb3.size;obtain ⟨⟨⟨z0,z1,z2,z3,z4,z5⟩,q0,q1,q2,q3,q4,q5⟩,⟨e1,e2⟩,⟨f1,f2⟩,hbw3,hl3⟩:=id hR3;have e2':w3.cell? ⟨w.heap.size + 1 + 1,0,none⟩ = some (.int .i64 0):=e2;have f2':w3.frozen? ⟨w.heap.size + 1 + 1,0,none⟩ = false:=f2;have nn0:¬ w.heap.size = w2.heap.size:=(by omega);have nn1:¬ w.heap.size + 1 = w2.heap.size:=(by omega);have nn2:¬ w.heap.size + 1 + 1 = w2.heap.size:=(by omega);have l0:w.heap.size < w3.heap.size:=(by omega);have l1:w.heap.size + 1 < w3.heap.size:=(by omega);have l2:w.heap.size + 1 + 1 < w3.heap.size:=(by omega);obtain ⟨A9,c9,⟨p0,_,_,_⟩,_,_⟩:=id hs3;have p0':w3.cell? ⟨w2.heap.size,0,none⟩ = some (.slice A9 0 c9):=p0;clear p0;have HRR:=Lib.hid (And.intro hr3 hs3);clear hr3 hs3)
      | (go_at_call 19;refine calls_world ?_;intro W5 hW5;have hB5:Bes w.heap.size w3 W5:=(by rw [hW5];exact bes);have hx5:XRep W5 (old W5) [.int .i64 x.op,.int .i64 x.v.k,.int .i64 x.v.n,.string x.v.s,.string x.name,.slice A3 x.args.length c3] x:=HRR.out.1.keep (fun b hb => ⟨Nat.lt_of_lt_of_le hb.2 hB5.size,hB5.block b hb.2 (by have:=hb.1;omega)⟩);have hxb5:XBX W5 w.heap.size x A3 c3:=(by rw [hW5];unfold XBX;and_intros <;> first | (go_simp;done) | (go_simp;rfl));have e15:W5.cell? ⟨w.heap.size + 1,0,none⟩ = some (.int .i64 a):=(by rw [hW5];go_simp);have e25:W5.cell? ⟨w.heap.size + 1 + 1,0,none⟩ = some (.int .i64 0):=(by rw [hW5];go_simp);have f15:W5.frozen? ⟨w.heap.size + 1,0,none⟩ = false:=(by rw [hW5];go_simp);have f25:W5.frozen? ⟨w.heap.size + 1 + 1,0,none⟩ = false:=(by rw [hW5];go_simp);have hbw5:Below w.heap.size w W5:=(by rw [hW5];exact bel);have l25:w.heap.size + 1 + 1 < W5.heap.size:=(by have:=hB5.size;omega);clear hW5;obtain ⟨⟨u0,u1,u2,u3,u4,u5⟩,s0,s1,s2,s3,s4,s5⟩:=id hxb5;have l05:w.heap.size < W5.heap.size:=(by omega);have l15:w.heap.size + 1 < W5.heap.size:=(by omega);refine (expr_Check x A3 c3 W5 hx5).mono ?_;rintro e w6 ⟨he6,hb6⟩;rw [HER.out] at he6;subst he6;obtain ⟨hc6,hf6⟩:=bcell hb6;(try simp only [bqh,bqc,bqf] at hc6 hf6);have hz6:=hb6.size;(try simp at hz6);(try have hy6:=nl1 hz6);(try have hx6:=nl2 hy6);refine szz w6 W5 ?_;intros))
     refine exit_world ?_;intro W hW
     have r0:W.cell? ⟨w.heap.size,0,none⟩ = some (.int .i64 0):=by rw [hW];exact (by first | (go_simp;done) | (go_simp;exact World.cell?_setCell_same' _ _ _ (by go_simp)))
     have r1:W.cell? ⟨w.heap.size,1,none⟩ = some (.int .i64 0):=by rw [hW];exact (by first | (go_simp;done) | (go_simp;exact World.cell?_setCell_same' _ _ _ (by go_simp)))
     have r2:W.cell? ⟨w.heap.size,2,none⟩ = some (.int .i64 0):=by rw [hW];exact (by first | (go_simp;done) | (go_simp;exact World.cell?_setCell_same' _ _ _ (by go_simp)))
     have r3:W.cell? ⟨w.heap.size,3,none⟩ = some (.string ⟨#[]⟩):=by rw [hW];exact (by first | (go_simp;done) | (go_simp;exact World.cell?_setCell_same' _ _ _ (by go_simp)))
     have r4:W.cell? ⟨w.heap.size,4,none⟩ = some (.string ⟨#[]⟩):=by rw [hW];exact (by first | (go_simp;done) | (go_simp;exact World.cell?_setCell_same' _ _ _ (by go_simp)))
     have r5:W.cell? ⟨w.heap.size,5,none⟩ = some (.slice none 0 0):=by rw [hW];exact (by first | (go_simp;done) | (go_simp;exact World.cell?_setCell_same' _ _ _ (by go_simp)))
     have r6:W.cell? ⟨w.heap.size + 1,0,none⟩ = some (.int .i64 0):=by rw [hW];exact (by first | (go_simp;done) | (go_simp;exact World.cell?_setCell_same' _ _ _ (by go_simp)))
     have r7:W.cell? ⟨w.heap.size + 1 + 1,0,none⟩ = some (.int .i64 er):=by rw [hW];exact (by first | (go_simp;done) | (go_simp;exact World.cell?_setCell_same' _ _ _ (by go_simp)))
     have hbW:Below w.heap.size w W:=by rw [hW];exact bel
     clear hW
     simp only [bodyPostD]
     refine leaves_cons (f:=15) (args:=#[.pointer (some ⟨w.heap.size,0,none⟩),.pointer (some ⟨w.heap.size + 1,0,none⟩),.pointer (some ⟨w.heap.size + 1 + 1,0,none⟩)]) (by simp) (by simp [go_sem]) ?_
     refine (catch_idle _ _ _ _).mono ?_
     rintro e u' w7 ⟨rfl,rfl,rfl⟩
     simp only [settle,List.dropWhile,Leaves]
     exact ⟨.tuple #[.agg #[.int .i64 0,.int .i64 0,.int .i64 0,.string ⟨#[]⟩,.string ⟨#[]⟩,.slice none 0 0],.int .i64 0,.int .i64 er],by simp [results,Tryz.results6,go_sem,r0,r1,r2,r3,r4,r5,r6,r7],RetPa.zero HG.out rfl hbW⟩
 ·rw [if_neg hc] at hG
  have hc':(c != 0) = true:=by simpa using hc
  have HG:=Lib.hid hG
  have HT:=Lib.hid htk
  clear hG htk hc hs hg
  go_enter_defers Tryz.func6,Tryz.ntmps6
  go_wp2_with (go_at_call 14;refine (HT.out _).mono ?_;rintro e w1 ⟨v1,rfl,_,hb1⟩;obtain ⟨hc1,hf1⟩:=bcell hb1;(try simp only [bqh,bqc,bqf] at hc1 hf1);have hz1:=hb1.size;(try simp at hz1);(try have hy1:=nl1 hz1);(try have hx1:=nl2 hy1);refine szz w1 w ?_;intros;have yc0:w1.cell? ⟨w.heap.size,0,none⟩ = some (.int .i64 0):=(by go_simp);have yc1:w1.cell? ⟨w.heap.size,1,none⟩ = some (.int .i64 0):=(by go_simp);have yc2:w1.cell? ⟨w.heap.size,2,none⟩ = some (.int .i64 0):=(by go_simp);have yc3:w1.cell? ⟨w.heap.size,3,none⟩ = some (.string ⟨#[]⟩):=(by go_simp);have yc4:w1.cell? ⟨w.heap.size,4,none⟩ = some (.string ⟨#[]⟩):=(by go_simp);have yc5:w1.cell? ⟨w.heap.size,5,none⟩ = some (.slice none 0 0):=(by go_simp);have yc6:w1.cell? ⟨w.heap.size + 1,0,none⟩ = some (.int .i64 0):=(by go_simp);have yc7:w1.cell? ⟨w.heap.size + 1 + 1,0,none⟩ = some (.int .i64 0):=(by go_simp);have yc8:w1.cell? ⟨w.heap.size + 2,0,none⟩ = some (.int .i64 0):=yc7)
  go_region
  all_goals
   go_wp2_with fail
   refine exit_world ?_;intro W hW
   have r0:W.cell? ⟨w.heap.size,0,none⟩ = some (.int .i64 0):=by rw [hW];exact (by first | (go_simp;done) | (go_simp;exact World.cell?_setCell_same' _ _ _ (by go_simp)))
   have r1:W.cell? ⟨w.heap.size,1,none⟩ = some (.int .i64 0):=by rw [hW];exact (by first | (go_simp;done) | (go_simp;exact World.cell?_setCell_same' _ _ _ (by go_simp)))
   have r2:W.cell? ⟨w.heap.size,2,none⟩ = some (.int .i64 0):=by rw [hW];exact (by first | (go_simp;done) | (go_simp;exact World.cell?_setCell_same' _ _ _ (by go_simp)))
   have r3:W.cell? ⟨w.heap.size,3,none⟩ = some (.string ⟨#[]⟩):=by rw [hW];exact (by first | (go_simp;done) | (go_simp;exact World.cell?_setCell_same' _ _ _ (by go_simp)))
   have r4:W.cell? ⟨w.heap.size,4,none⟩ = some (.string ⟨#[]⟩):=by rw [hW];exact (by first | (go_simp;done) | (go_simp;exact World.cell?_setCell_same' _ _ _ (by go_simp)))
   have r5:W.cell? ⟨w.heap.size,5,none⟩ = some (.slice none 0 0):=by rw [hW];exact (by first | (go_simp;done) | (go_simp;exact World.cell?_setCell_same' _ _ _ (by go_simp)))
   have r6:W.cell? ⟨w.heap.size + 1,0,none⟩ = some (.int .i64 a):=by rw [hW];exact (by first | (go_simp;done) | (go_simp;exact World.cell?_setCell_same' _ _ _ (by go_simp)))
   have r7:W.cell? ⟨w.heap.size + 1 + 1,0,none⟩ = some (.int .i64 c):=by rw [hW];exact (by first | (go_simp;done) | (go_simp;exact World.cell?_setCell_same' _ _ _ (by go_simp)))
   have hbW:Below w.heap.size w W:=by rw [hW];exact bel
   clear hW
   simp only [bodyPostD,Leaves]
   exact ⟨.tuple #[.agg #[.int .i64 0,.int .i64 0,.int .i64 0,.string ⟨#[]⟩,.string ⟨#[]⟩,.slice none 0 0],.int .i64 a,.int .i64 c],by simp [results,Tryz.results6,go_sem,r0,r1,r2,r3,r4,r5,r6,r7],RetPa.zero HG.out rfl hbW⟩
end Go.Proofs.YtldbpmlgbbomcaaGreatDoor
