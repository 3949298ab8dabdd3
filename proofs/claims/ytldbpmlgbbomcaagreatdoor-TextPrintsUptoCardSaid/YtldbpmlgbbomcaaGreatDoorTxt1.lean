/- text.Print's lines: of a field, of a page. -/
import Derived.Test.YtldbpmlgbbomcaaGreatDoorPrn4
import Derived.Test.YtldbpmlgbbomcaaGreatDoorPag2
namespace Go.Proofs.YtldbpmlgbbomcaaGreatDoor
open Go.RowKit

def kW (k:Int):ByteArray:=if k = 1 then ⟨#[105,110,112,117,116]⟩ else if k = 2 then ⟨#[102,111,114,109,117,108,97]⟩ else ⟨#[108,111,111,107,117,112]⟩
def tW (t:Int):ByteArray:=if t = 1 then ⟨#[105,110,116]⟩ else if t = 2 then ⟨#[98,111,111,108]⟩ else ⟨#[116,101,120,116]⟩
def hdF (f:Fld):ByteArray:=kW f.kind ++ ⟨#[32]⟩ ++ f.name ++ ⟨#[32]⟩ ++ tW f.type
def lineF (f:Fld):ByteArray:=if f.kind = 1 then hdF f else hdF f ++ ⟨#[32,61,32]⟩ ++ prX f.source
def jnT (sep:ByteArray) (l:List ByteArray):ByteArray:=⟨(Lib.join (l.map (·.data.toList)) sep.data.toList).toArray⟩
def hdP (p:Pag):ByteArray:=⟨#[112,97,103,101,32]⟩ ++ p.name ++ ⟨#[58,32]⟩ ++ jnT ⟨#[44,32]⟩ p.fields
def neverP (p:Pag):Bool:=bareB p.skip.op p.skip.v p.skip.name p.skip.args.length
def lineP (p:Pag):ByteArray:=if neverP p = true then hdP p else hdP p ++ ⟨#[59,32]⟩ ++ prX p.skip
theorem kW_len (k:Int):(kW k).size ≤ 7:=by unfold kW;split;decide;split <;> decide
theorem tW_len (k:Int):(tW k).size ≤ 4:=by unfold tW;split;decide;split <;> decide
theorem exprErr_prt {x:Exp} (h:exprErr x = 0):prtN x = 0:=by
 unfold exprErr at h
 split at h
 ·cases h
 ·split at h
  ·cases h
  ·exact h
theorem join_any (l:List ByteArray) (Y:Option Addr) (D:Nat) (sep:ByteArray) (w:World) (hs:Sl w (old w) 1 RStr Y l.length l) (hl:l.length ≤ 140737488355328) (hD:l.length ≤ D) (hz:(jnT sep l).size ≤ 140737488355328) :
  Calls Tryz.prog 27 #[.slice Y l.length D,.string sep] w (RetS w (jnT sep l)):=by
 by_cases h0:l.length = 0
 ·have hn:l = []:=List.eq_nil_of_length_eq_zero h0
  subst hn
  refine (Tryz.strings_Join_none Y D sep w).mono ?_
  rintro e w' ⟨rfl,rfl⟩
  exact ⟨rfl,Below.refl _ _⟩
 ·obtain ⟨b,o,rfl,hb,hc⟩:=hs.2 (by omega)
  refine (Tryz.strings_Join b o D l sep w (fun j x hx => ?_) hb hl hD ?_).mono ?_
  ·obtain ⟨cs,⟨rfl,_⟩,h1,h2⟩:=hc j x hx
   have:=h2 0 (by simp)
   simpa using this
  ·have:(jnT sep l).size = (Lib.join (l.map (·.data.toList)) sep.data.toList).length:=by show (Array.size _) = _;simp
   omega
  ·rintro e w' ⟨rfl,h⟩
   exact ⟨rfl,h⟩
def wordsV:Value:=.tuple #[.agg #[.string ⟨#[]⟩,.string ⟨#[105,110,116]⟩,.string ⟨#[98,111,111,108]⟩,.string ⟨#[116,101,120,116]⟩],.agg #[.string ⟨#[]⟩,.string ⟨#[105,110,112,117,116]⟩,.string ⟨#[102,111,114,109,117,108,97]⟩,.string ⟨#[108,111,111,107,117,112]⟩]]
set_option maxRecDepth 100000 in
set_option maxHeartbeats 1000000 in
theorem text_words (w:World):Calls Tryz.prog 55 #[] w fun e w' => e = .returned wordsV ∧ Below w.heap.size w w':=by
 unfold wordsV
 go_enter Tryz.func55,Tryz.ntmps55
 go_wp2_with fail
 exact bodyPost_ret (v:=.tuple #[.agg #[.string ⟨#[]⟩,.string ⟨#[105,110,116]⟩,.string ⟨#[98,111,111,108]⟩,.string ⟨#[116,101,120,116]⟩],.agg #[.string ⟨#[]⟩,.string ⟨#[105,110,112,117,116]⟩,.string ⟨#[102,111,114,109,117,108,97]⟩,.string ⟨#[108,111,111,107,117,112]⟩]]) (by first | (simp [results,Tryz.results55,go_sem];done) | (simp [results,Tryz.results55,go_sem, *];done)) rfl ⟨rfl,bel⟩
set_option maxRecDepth 100000 in
set_option maxHeartbeats 8000000 in
theorem text_fieldLine (f:Fld) (X:Option Addr) (C:Nat) (w:World) (hk:1 ≤ f.kind ∧ f.kind ≤ 3) (ht:1 ≤ f.type ∧ f.type ≤ 3) (he:f.kind ≠ 1 → exprErr f.source = 0) (hn:f.name.size ≤ 1048576) (hM:f.source.nodes ≤ 1048576) (hg:Gd w)
  (hx:XRep w (old w) [.int .i64 f.source.op,.int .i64 f.source.v.k,.int .i64 f.source.v.n,.string f.source.v.s,.string f.source.name,.slice X f.source.args.length C] f.source) :
  Calls Tryz.prog 25 #[.agg #[.string f.name,.int .i64 f.kind,.int .i64 f.type,.int .i64 f.source.op,.int .i64 f.source.v.k,.int .i64 f.source.v.n,.string f.source.v.s,.string f.source.name,.slice X f.source.args.length C]] w (RetS w (lineF f)):=by
 obtain ⟨nm,kd,ty,sx⟩:=f
 dsimp only at *
 have hpr:=fun w h h' => expr_Print sx X C w hM h h'
 have HX:=Lib.hid hx
 have HG:=Lib.hid hg
 have c32:(⟨#[32]⟩:ByteArray).size = 1:=rfl
 by_cases hk1:kd = 1
 ·have HL:Hid (lineF ⟨nm,kd,ty,sx⟩ = kW kd ++ ⟨#[32]⟩ ++ nm ++ ⟨#[32]⟩ ++ tW ty):=Lib.hid (by rw [lineF,if_pos hk1];rfl)
  clear hpr hx hg he hk
  subst hk1
  rcases (by omega:ty = 1 ∨ ty = 2 ∨ ty = 3) with rfl | rfl | rfl
  all_goals
   clear ht
   go_enter Tryz.func25,Tryz.ntmps25
   go_wp2_with (go_at_call 55;refine (text_words _).mono ?_;rintro e w1 ⟨rfl,hb1⟩;unfold wordsV;obtain ⟨hc1,hf1⟩:=bcell hb1;(try simp only [bqh,bqc,bqf] at hc1 hf1);have hz1:=hb1.size;(try simp at hz1);(try have hy1:=nl1 hz1);(try have hx1:=nl2 hy1);refine szz w1 w ?_;intros)
   go_quiet (fail)
   go_wp2_with fail
   go_ret
   exact ⟨by rw [HL.out];rfl,bel⟩
 ·have hz:=he hk1
  have hp2:printR sx = (prX sx,0):=by rw [printR,if_neg (by rw [hz];decide)]
  rw [hp2] at hpr
  have hsz:(prX sx).size ≤ 104857600:=by have:=prX_len sx (exprErr_prt hz);omega
  obtain ⟨tx,htx⟩:∃ tx,tx = prX sx:=⟨_,rfl⟩
  rw [← htx] at hpr hsz
  have HL:Hid (lineF ⟨nm,kd,ty,sx⟩ = kW kd ++ ⟨#[32]⟩ ++ nm ++ ⟨#[32]⟩ ++ tW ty ++ ⟨#[32,61,32]⟩ ++ tx):=Lib.hid (by rw [htx,lineF,if_neg hk1];rfl)
  clear hp2 htx hz he hx hg hM
  rcases (by omega:kd = 2 ∨ kd = 3) with rfl | rfl
  all_goals
   rcases (by omega:ty = 1 ∨ ty = 2 ∨ ty = 3) with rfl | rfl | rfl
  all_goals
   clear ht hk hk1
   go_enter Tryz.func25,Tryz.ntmps25
   go_wp2_with (go_at_call 55;refine (text_words _).mono ?_;rintro e w1 ⟨rfl,hb1⟩;unfold wordsV;obtain ⟨hc1,hf1⟩:=bcell hb1;(try simp only [bqh,bqc,bqf] at hc1 hf1);have hz1:=hb1.size;(try simp at hz1);(try have hy1:=nl1 hz1);(try have hx1:=nl2 hy1);refine szz w1 w ?_;intros)
   go_quiet (fail)
   try simp only [bqh]
   go_wp2_with (go_at_call 56;refine (hpr _ (HG.out.keep bel) (HX.out.keep (old_keep bel))).mono ?_;rintro e w2 ⟨rfl,hb2⟩;obtain ⟨hc2,hf2⟩:=bcell hb2;(try simp only [bqh,bqc,bqf] at hc2 hf2);have hz2:=hb2.size;(try simp at hz2);(try have hy2:=nl1 hz2);(try have hx2:=nl2 hy2);refine szz w2 w ?_;intros;refine szz w2 w1 ?_;intros)
   go_ret
   exact ⟨by rw [HL.out];rfl,bel⟩
set_option maxRecDepth 100000 in
set_option maxHeartbeats 8000000 in
theorem text_pageLine (p:Pag) (Y:Option Addr) (D:Nat) (X:Option Addr) (C:Nat) (w:World) (he:neverP p = false → exprErr p.skip = 0) (hn:p.name.size ≤ 1048576) (hf:(jnT ⟨#[44,32]⟩ p.fields).size ≤ 3145728) (hl:p.fields.length ≤ 1048576) (hD:p.fields.length ≤ D) (hM:p.skip.nodes ≤ 1048576) (hg:Gd w) (hn0:inL p.skip.args.length)
  (hs:Sl w (old w) 1 RStr Y p.fields.length p.fields) (hx:XRep w (old w) [.int .i64 p.skip.op,.int .i64 p.skip.v.k,.int .i64 p.skip.v.n,.string p.skip.v.s,.string p.skip.name,.slice X p.skip.args.length C] p.skip) :
  Calls Tryz.prog 26 #[.agg #[.string p.name,.slice Y p.fields.length D,.int .i64 p.skip.op,.int .i64 p.skip.v.k,.int .i64 p.skip.v.n,.string p.skip.v.s,.string p.skip.name,.slice X p.skip.args.length C]] w (RetS w (lineP p)):=by
 have hpr:=fun w h h' => expr_Print p.skip X C w hM h h'
 have hjn:=fun w h => join_any p.fields Y D ⟨#[44,32]⟩ w h (by omega) hD (by omega)
 have hnv:=fun w => page_Never p Y D X C w hn0
 have HX:=Lib.hid hx
 have HG:=Lib.hid hg
 have HS:=Lib.hid hs
 obtain ⟨J,hJ⟩:∃ J,J = jnT ⟨#[44,32]⟩ p.fields:=⟨_,rfl⟩
 rw [← hJ] at hjn hf
 have hno:¬ 9223372036854775807 < 5 + p.name.size + 2 + J.size:=by omega
 cases hb:neverP p with
 | true =>
  rw [show bareB p.skip.op p.skip.v p.skip.name p.skip.args.length = true from hb] at hnv
  have HL:Hid (lineP p = ⟨#[112,97,103,101,32]⟩ ++ p.name ++ ⟨#[58,32]⟩ ++ J):=Lib.hid (by rw [hJ,lineP,if_pos hb];rfl)
  clear hb hJ hpr he hx hs hg hM
  go_enter Tryz.func26,Tryz.ntmps26
  go_wp2_with fail
  refine wp_world ?_;intro W0 hW0
  have hS0:W0.drew.cell? ⟨w.heap.size,0,none⟩ = some (.string p.name) ∧ W0.drew.cell? ⟨w.heap.size,1,none⟩ = some (.slice Y p.fields.length D) ∧ (W0.drew.cell? ⟨w.heap.size,2,none⟩ = some (.int .i64 p.skip.op) ∧ W0.drew.cell? ⟨w.heap.size,3,none⟩ = some (.int .i64 p.skip.v.k) ∧ W0.drew.cell? ⟨w.heap.size,4,none⟩ = some (.int .i64 p.skip.v.n) ∧ W0.drew.cell? ⟨w.heap.size,5,none⟩ = some (.string p.skip.v.s) ∧ W0.drew.cell? ⟨w.heap.size,6,none⟩ = some (.string p.skip.name) ∧ W0.drew.cell? ⟨w.heap.size,7,none⟩ = some (.slice X p.skip.args.length C)):=by rw [hW0];and_intros <;> go_simp
  have hB0:Below w.heap.size w W0.drew:=by rw [hW0];exact bel
  have hl0:w.heap.size < W0.drew.heap.size:=by rw [hW0];simp
  clear hW0
  refine wp_region_T (fun w' => w'.cell? ⟨w.heap.size,0,none⟩ = some (.string p.name) ∧ w'.cell? ⟨w.heap.size,1,none⟩ = some (.slice Y p.fields.length D)) 8 (by kernel_rfl) ?_
  have hS1:=And.intro hS0.1 hS0.2.1
  refine wpAnyT_take (i:=0) (oi:=_) (v:=?_) rfl (by kernel_rfl) (fun _ _ _ h => h) hS1 (by rfl) ?_ ?_
  rotate_left
  ·intro w' hS';(try dsimp only at hS');(try go_split_ands);go_simp;(try rw [if_neg (by omega)]);try with_reducible rfl
  simp only [Act.put,List.setIfInBounds_toArray,List.set_cons_zero,List.set_cons_succ]
  refine wpAnyT_take (i:=1) (oi:=_) (v:=?_) rfl (by kernel_rfl) (fun _ _ _ h => h) hS1 (by rfl) ?_ ?_
  rotate_left
  ·intro w' hS';(try dsimp only at hS');(try go_split_ands);go_simp;(try rw [if_neg (by omega)]);try with_reducible rfl
  simp only [Act.put,List.setIfInBounds_toArray,List.set_cons_zero,List.set_cons_succ]
  refine wpAnyT_take (i:=2) (oi:=_) (v:=?_) rfl (by kernel_rfl) (fun _ _ _ h => h) hS1 (by rfl) ?_ ?_
  rotate_left
  ·intro w' hS';(try dsimp only at hS');(try go_split_ands);go_simp;(try rw [if_neg (by omega)]);try with_reducible rfl
  simp only [Act.put,List.setIfInBounds_toArray,List.set_cons_zero,List.set_cons_succ]
  refine wpAnyT_take (i:=3) (oi:=_) (v:=?_) rfl (by kernel_rfl) (fun _ _ _ h => h) hS1 (by rfl) ?_ ?_
  rotate_left
  ·intro w' hS';(try dsimp only at hS');(try go_split_ands);go_simp;(try rw [if_neg (by omega)]);try with_reducible rfl
  simp only [Act.put,List.setIfInBounds_toArray,List.set_cons_zero,List.set_cons_succ]
  refine wpAnyT_take (i:=4) (oi:=_) (v:=?_) rfl (by kernel_rfl) (fun _ _ _ h => h) hS1 (by rfl) ?_ ?_
  rotate_left
  ·intro w' hS';(try dsimp only at hS');(try go_split_ands);go_simp;(try rw [if_neg (by omega)]);try with_reducible rfl
  simp only [Act.put,List.setIfInBounds_toArray,List.set_cons_zero,List.set_cons_succ]
  refine wpAnyT_take (i:=5) (oi:=_) (v:=?_) rfl (by kernel_rfl) (fun _ _ _ h => h) hS1 (by rfl) ?_ ?_
  rotate_left
  ·intro w' hS';(try dsimp only at hS');(try go_split_ands);go_simp;(try rw [if_neg (by omega)]);try with_reducible rfl
  simp only [Act.put,List.setIfInBounds_toArray,List.set_cons_zero,List.set_cons_succ]
  refine wpAnyT_one (i:=6) (o:=_) rfl (by kernel_rfl) (fun K hK => ?_)
  go_simp
  go_at_call 27;refine (hjn _ (HS.out.now hB0)).mono ?_;rintro e w1 ⟨rfl,hb1⟩
  have hz1:=hb1.size
  obtain ⟨y0,y1,y2,y3,y4,y5,y6,y7⟩:=hS0
  have r0:=cell_keep y0 hb1
  have r1:=cell_keep y1 hb1
  have r2:=cell_keep y2 hb1
  have r3:=cell_keep y3 hb1
  have r4:=cell_keep y4 hb1
  have r5:=cell_keep y5 hb1
  have r6:=cell_keep y6 hb1
  have r7:=cell_keep y7 hb1
  have hB1:Below w.heap.size w w1:=below_step hB0 hb1 (Nat.le_of_lt hl0)
  have hl1:w.heap.size < w1.heap.size:=Nat.lt_of_lt_of_le hl0 hz1
  clear y0 y1 y2 y3 y4 y5 y6 y7 hS1 hb1 hz1
  refine hK.out _ _ (fun _ => ⟨r0,r1⟩) ?_
  clear hK K
  try simp only [Act.put,List.setIfInBounds_toArray,List.set_cons_zero,List.set_cons_succ]
  refine wpAnyT_one (i:=7) (o:=_) rfl (by kernel_rfl) (fun K hK => ?_)
  go_simp
  refine hK.out _ _ (fun _ => ⟨r0,r1⟩) ?_
  clear hK K
  try simp only [Act.put,List.setIfInBounds_toArray,List.set_cons_zero,List.set_cons_succ]
  refine wpAnyT_one (i:=8) (o:=_) rfl (by kernel_rfl) (fun K hK => ?_)
  go_simp
  refine hK.out _ _ (fun h => absurd h (by decide)) ?_
  clear hK K
  refine wpAnyT_done (by kernel_rfl) ?_ _
  try simp only [Act.put,List.setIfInBounds_toArray,List.set_cons_zero,List.set_cons_succ]
  go_wp2_with (go_at_call 57;refine (hnv _).mono ?_;rintro e w2 ⟨rfl,hb2⟩;obtain ⟨hc2,hf2⟩:=bcell hb2;(try simp only [bqh,bqc,bqf] at hc2 hf2);have hz2:=hb2.size;(try simp at hz2);(try have hy2:=nl1 hz2);(try have hx2:=nl2 hy2);refine szz w2 w ?_;intros;refine szz w2 w1 ?_;intros)
  go_ret
  exact ⟨by rw [HL.out];rfl,bel⟩
 | false =>
  rw [show bareB p.skip.op p.skip.v p.skip.name p.skip.args.length = false from hb] at hnv
  have hz:=he hb
  have hp2:printR p.skip = (prX p.skip,0):=by rw [printR,if_neg (by rw [hz];decide)]
  rw [hp2] at hpr
  have hsz:(prX p.skip).size ≤ 104857600:=by have:=prX_len p.skip (exprErr_prt hz);omega
  obtain ⟨tx,htx⟩:∃ tx,tx = prX p.skip:=⟨_,rfl⟩
  rw [← htx] at hpr hsz
  have HL:Hid (lineP p = ⟨#[112,97,103,101,32]⟩ ++ p.name ++ ⟨#[58,32]⟩ ++ J ++ ⟨#[59,32]⟩ ++ tx):=Lib.hid (by rw [hJ,htx,lineP,if_neg (by rw [hb];decide)];rfl)
  clear hb hp2 htx hJ hz he hx hs hg hM
  go_enter Tryz.func26,Tryz.ntmps26
  go_wp2_with fail
  refine wp_world ?_;intro W0 hW0
  have hS0:W0.drew.cell? ⟨w.heap.size,0,none⟩ = some (.string p.name) ∧ W0.drew.cell? ⟨w.heap.size,1,none⟩ = some (.slice Y p.fields.length D) ∧ (W0.drew.cell? ⟨w.heap.size,2,none⟩ = some (.int .i64 p.skip.op) ∧ W0.drew.cell? ⟨w.heap.size,3,none⟩ = some (.int .i64 p.skip.v.k) ∧ W0.drew.cell? ⟨w.heap.size,4,none⟩ = some (.int .i64 p.skip.v.n) ∧ W0.drew.cell? ⟨w.heap.size,5,none⟩ = some (.string p.skip.v.s) ∧ W0.drew.cell? ⟨w.heap.size,6,none⟩ = some (.string p.skip.name) ∧ W0.drew.cell? ⟨w.heap.size,7,none⟩ = some (.slice X p.skip.args.length C)):=by rw [hW0];and_intros <;> go_simp
  have hB0:Below w.heap.size w W0.drew:=by rw [hW0];exact bel
  have hl0:w.heap.size < W0.drew.heap.size:=by rw [hW0];simp
  clear hW0
  refine wp_region_T (fun w' => w'.cell? ⟨w.heap.size,0,none⟩ = some (.string p.name) ∧ w'.cell? ⟨w.heap.size,1,none⟩ = some (.slice Y p.fields.length D)) 8 (by kernel_rfl) ?_
  have hS1:=And.intro hS0.1 hS0.2.1
  refine wpAnyT_take (i:=0) (oi:=_) (v:=?_) rfl (by kernel_rfl) (fun _ _ _ h => h) hS1 (by rfl) ?_ ?_
  rotate_left
  ·intro w' hS';(try dsimp only at hS');(try go_split_ands);go_simp;(try rw [if_neg (by omega)]);try with_reducible rfl
  simp only [Act.put,List.setIfInBounds_toArray,List.set_cons_zero,List.set_cons_succ]
  refine wpAnyT_take (i:=1) (oi:=_) (v:=?_) rfl (by kernel_rfl) (fun _ _ _ h => h) hS1 (by rfl) ?_ ?_
  rotate_left
  ·intro w' hS';(try dsimp only at hS');(try go_split_ands);go_simp;(try rw [if_neg (by omega)]);try with_reducible rfl
  simp only [Act.put,List.setIfInBounds_toArray,List.set_cons_zero,List.set_cons_succ]
  refine wpAnyT_take (i:=2) (oi:=_) (v:=?_) rfl (by kernel_rfl) (fun _ _ _ h => h) hS1 (by rfl) ?_ ?_
  rotate_left
  ·intro w' hS';(try dsimp only at hS');(try go_split_ands);go_simp;(try rw [if_neg (by omega)]);try with_reducible rfl
  simp only [Act.put,List.setIfInBounds_toArray,List.set_cons_zero,List.set_cons_succ]
  refine wpAnyT_take (i:=3) (oi:=_) (v:=?_) rfl (by kernel_rfl) (fun _ _ _ h => h) hS1 (by rfl) ?_ ?_
  rotate_left
  ·intro w' hS';(try dsimp only at hS');(try go_split_ands);go_simp;(try rw [if_neg (by omega)]);try with_reducible rfl
  simp only [Act.put,List.setIfInBounds_toArray,List.set_cons_zero,List.set_cons_succ]
  refine wpAnyT_take (i:=4) (oi:=_) (v:=?_) rfl (by kernel_rfl) (fun _ _ _ h => h) hS1 (by rfl) ?_ ?_
  rotate_left
  ·intro w' hS';(try dsimp only at hS');(try go_split_ands);go_simp;(try rw [if_neg (by omega)]);try with_reducible rfl
  simp only [Act.put,List.setIfInBounds_toArray,List.set_cons_zero,List.set_cons_succ]
  refine wpAnyT_take (i:=5) (oi:=_) (v:=?_) rfl (by kernel_rfl) (fun _ _ _ h => h) hS1 (by rfl) ?_ ?_
  rotate_left
  ·intro w' hS';(try dsimp only at hS');(try go_split_ands);go_simp;(try rw [if_neg (by omega)]);try with_reducible rfl
  simp only [Act.put,List.setIfInBounds_toArray,List.set_cons_zero,List.set_cons_succ]
  refine wpAnyT_one (i:=6) (o:=_) rfl (by kernel_rfl) (fun K hK => ?_)
  go_simp
  go_at_call 27;refine (hjn _ (HS.out.now hB0)).mono ?_;rintro e w1 ⟨rfl,hb1⟩
  have hz1:=hb1.size
  obtain ⟨y0,y1,y2,y3,y4,y5,y6,y7⟩:=hS0
  have r0:=cell_keep y0 hb1
  have r1:=cell_keep y1 hb1
  have r2:=cell_keep y2 hb1
  have r3:=cell_keep y3 hb1
  have r4:=cell_keep y4 hb1
  have r5:=cell_keep y5 hb1
  have r6:=cell_keep y6 hb1
  have r7:=cell_keep y7 hb1
  have hB1:Below w.heap.size w w1:=below_step hB0 hb1 (Nat.le_of_lt hl0)
  have hl1:w.heap.size < w1.heap.size:=Nat.lt_of_lt_of_le hl0 hz1
  clear y0 y1 y2 y3 y4 y5 y6 y7 hS1 hb1 hz1
  refine hK.out _ _ (fun _ => ⟨r0,r1⟩) ?_
  clear hK K
  try simp only [Act.put,List.setIfInBounds_toArray,List.set_cons_zero,List.set_cons_succ]
  refine wpAnyT_one (i:=7) (o:=_) rfl (by kernel_rfl) (fun K hK => ?_)
  go_simp
  refine hK.out _ _ (fun _ => ⟨r0,r1⟩) ?_
  clear hK K
  try simp only [Act.put,List.setIfInBounds_toArray,List.set_cons_zero,List.set_cons_succ]
  refine wpAnyT_one (i:=8) (o:=_) rfl (by kernel_rfl) (fun K hK => ?_)
  go_simp
  refine hK.out _ _ (fun h => absurd h (by decide)) ?_
  clear hK K
  refine wpAnyT_done (by kernel_rfl) ?_ _
  try simp only [Act.put,List.setIfInBounds_toArray,List.set_cons_zero,List.set_cons_succ]
  go_wp2_with (first
   | (go_at_call 57;refine (hnv _).mono ?_;rintro e w2 ⟨rfl,hb2⟩;obtain ⟨hc2,hf2⟩:=bcell hb2;(try simp only [bqh,bqc,bqf] at hc2 hf2);have hz2:=hb2.size;(try simp at hz2);(try have hy2:=nl1 hz2);(try have hx2:=nl2 hy2);refine szz w2 w ?_;intros;refine szz w2 w1 ?_;intros)
   | (go_at_call 56;refine (hpr _ (HG.out.keep bel) (HX.out.keep (old_keep bel))).mono ?_;rintro e w3 ⟨rfl,hb3⟩;obtain ⟨hc3,hf3⟩:=bcell hb3;(try simp only [bqh,bqc,bqf] at hc3 hf3);have hz3:=hb3.size;(try simp at hz3);(try have hy3:=nl1 hz3);(try have hx3:=nl2 hy3);refine szz w3 w ?_;intros;refine szz w3 w1 ?_;intros;refine szz w3 w2 ?_;intros))
  go_ret
  exact ⟨by rw [HL.out];rfl,bel⟩
end Go.Proofs.YtldbpmlgbbomcaaGreatDoor
