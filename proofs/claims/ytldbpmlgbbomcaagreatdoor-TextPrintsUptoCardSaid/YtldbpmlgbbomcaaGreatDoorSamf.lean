/- Texts merged: Sam Same1 Sam2 Samf. -/
import Derived.Test.YtldbpmlgbbomcaaGreatDoorPrt3
import Derived.Test.YtldbpmlgbbomcaaGreatDoorTypes
import Derived.Test.YtldbpmlgbbomcaaGreatDoorNum
import Derived.Test.YtldbpmlgbbomcaaGreatDoorPag2
import Derived.Test.YtldbpmlgbbomcaaGreatDoorRig
/- sameExpr: true of a formula and its like. -/
namespace Go.Proofs.YtldbpmlgbbomcaaGreatDoor
open Go.RowKit

abbrev Exp.cells (x:Exp) (A:Option Addr) (c:Nat):List Value:=[.int .i64 x.op,.int .i64 x.v.k,.int .i64 x.v.n,.string x.v.s,.string x.name,.slice A x.args.length c]
theorem cf_sameExpr (args:Array Value) (w:World):(callFunc 8 args).run Tryz.prog w = .ok (.enter 8 args) w :=
 cf _ _ Tryz.func8 (by kernel_rfl) (by kernel_rfl) args w
set_option maxRecDepth 100000 in
set_option maxHeartbeats 1000000 in
theorem equal_Exprs (l:List Exp) (A:Option Addr) (n c:Nat) (A':Option Addr) (c':Nat) (w:World) (hn:inL n) (h:Sl w (old w) 6 (XRep w (old w)) A n l) (h':Sl w (old w) 6 (XRep w (old w)) A' n l)
  (hcall:∀ (wr:World) (k:Nat) (a:Exp) (X:Option Addr) (C:Nat) (X':Option Addr) (C':Nat),l[k]? = some a → XRep wr (old wr) (a.cells X C) a → XRep wr (old wr) (a.cells X' C') a →
   Calls Tryz.prog 8 #[.agg #[.int .i64 a.op,.int .i64 a.v.k,.int .i64 a.v.n,.string a.v.s,.string a.name,.slice X a.args.length C],.agg #[.int .i64 a.op,.int .i64 a.v.k,.int .i64 a.v.n,.string a.v.s,.string a.name,.slice X' a.args.length C']] wr (RetB wr true)) :
  Calls Tryz.prog 23 #[.slice A n c,.slice A' n c',.func (.func 8) #[] #[]] w (RetB w true):=by
 unfold inL at hn
 have HH:=Lib.hid (And.intro h (And.intro h' hcall))
 have hcf:=cf_sameExpr
 clear h h' hcall
 go_enter Tryz.func23,Tryz.ntmps23
 go_wp2_with fail
 go_loopw [17] (fun i wr => ∃ k:Nat,k ≤ n ∧ i = .int .i64 k ∧ Below w.heap.size w wr) (fun i _ => n - (intOf i).toNat)
 case atStart => exact ⟨0,by omega,rfl,Below.refl _ _⟩
 case round =>
  obtain ⟨k,hk,rfl,hb⟩:=hrel
  by_cases hlt:k < n
  ·obtain ⟨b1,o1,a,X,C,rfl,hb1,hl,hx,x0,x1,x2,x3,x4,x5⟩:=Exp_at (HH.out.1.nowN keeps_Exp hb) hlt
   obtain ⟨b2,o2,a',X',C',rfl,hb2,hl',hx',y0,y1,y2,y3,y4,y5⟩:=Exp_at (HH.out.2.1.nowN keeps_Exp hb) hlt
   rw [hl] at hl'
   cases hl'
   have hb1':b1 < wr.heap.size:=hb1
   have hb2':b2 < wr.heap.size:=hb2
   have HX:=Lib.hid (And.intro hx (And.intro hx' hl))
   clear hx hx' hl hb1 hb2
   go_wp2_with fail
   refine (HH.out.2.2 _ k a X C X' C' HX.out.2.2 (HX.out.1.keep (old_keep bel)) (HX.out.2.1.keep (old_keep bel))).mono ?_;rintro e w3 ⟨rfl,hb3⟩
   go_wp2_with fail
   go_roundw
   case rel => exact ⟨k + 1,by omega,by go_num,bel⟩
   case measure => simp [intOf];omega
  ·go_wp2_with fail
   go_ret
   exact ⟨rfl,hb⟩
set_option maxRecDepth 100000 in
set_option maxHeartbeats 1000000 in
theorem same_Expr (N:Nat):∀ (x:Exp) (A:Option Addr) (c:Nat) (A':Option Addr) (c':Nat) (w:World),x.nodes ≤ N → XRep w (old w) (x.cells A c) x → XRep w (old w) (x.cells A' c') x →
  Calls Tryz.prog 8 #[.agg #[.int .i64 x.op,.int .i64 x.v.k,.int .i64 x.v.n,.string x.v.s,.string x.name,.slice A x.args.length c],.agg #[.int .i64 x.op,.int .i64 x.v.k,.int .i64 x.v.n,.string x.v.s,.string x.name,.slice A' x.args.length c']] w (RetB w true):=by
 induction N with
 | zero =>
  intro x A c A' c' w hN
  obtain ⟨op,v,nm,args⟩:=x
  simp [Exp.nodes] at hN
 | succ N ih =>
  intro x A c A' c' w hN hx hx'
  have HI:=Lib.hid ih
  clear ih
  obtain ⟨A0,c0,e0,_,_,_,i4,_,hsl⟩:=hx.open_
  simp only [List.cons.injEq,Value.slice.injEq,and_true,true_and] at e0
  obtain ⟨rfl,rfl⟩:=e0
  obtain ⟨A1,c1,e1,_,_,_,_,_,hsl'⟩:=hx'.open_
  simp only [List.cons.injEq,Value.slice.injEq,and_true,true_and] at e1
  obtain ⟨rfl,rfl⟩:=e1
  have hch:∀ (i:Nat) (a:Exp),x.args[i]? = some a → a.nodes ≤ N:=by
   obtain ⟨op,v,nm,args⟩:=x
   intro i a h
   have:=nodes_at args i a h
   simp only [Exp.nodes] at hN
   omega
  have hcalls:=fun w h h' => equal_Exprs x.args A x.args.length c A' c' w (i4.l (by decide)) h h' (fun wr k a X C X' C' hk h1 h2 => HI.out a X C X' C' wr (hch k a hk) h1 h2)
  have HH:=Lib.hid (And.intro hsl (And.intro hsl' hcalls))
  have heq:=fun w => run_eql_Val w x.v.k x.v.n x.v.k x.v.n x.v.s x.v.s
  have hvv:valEq ⟨x.v.k,x.v.n,x.v.s⟩ ⟨x.v.k,x.v.n,x.v.s⟩ = true:=(valEq_iff _ _).2 rfl
  clear hsl hsl' hch hx hx' hN i4 hcalls
  go_enter Tryz.func8,Tryz.ntmps8
  go_wp2_with fail
  refine (HH.out.2.2 _ (HH.out.1.nowN keeps_Exp bel) (HH.out.2.1.nowN keeps_Exp bel)).mono ?_;rintro e w3 ⟨rfl,hb3⟩
  go_wp2_with fail
  go_ret
  exact ⟨rfl,bel⟩
end Go.Proofs.YtldbpmlgbbomcaaGreatDoor
/- slices.Equal over texts, and sameTexts: two slices that read as one list are the same. -/
namespace Go.Proofs.YtldbpmlgbbomcaaGreatDoor
open Go.RowKit

theorem Str_at' {w:World} {S:Nat → Prop} {A:Option Addr} {n k:Nat} {l:List ByteArray} (h:Sl w S 1 (fun cs s => cs = [Value.string s]) A n l) (hk:k < n) :
  ∃ b o c,A = some ⟨b,o,none⟩ ∧ S b ∧ l[k]? = some c ∧ w.cell? ⟨b,o + k,none⟩ = some (.string c):=by
 obtain ⟨b,o,c,cs,rfl,hs,hl,rfl,_,hc⟩:=h.at_ hk
 have h0:=hc 0 (by decide)
 rw [Nat.mul_one] at h0
 exact ⟨b,o,c,rfl,hs,hl,h0⟩

set_option maxHeartbeats 400000 in
theorem slices_Equal_Str (A A':Option Addr) (n c n' c':Nat) (l:List ByteArray) (S S':Nat → Prop) (w:World) (hn:n ≤ 9223372036854775807)
  (h:Sl w S 1 (fun cs s => cs = [Value.string s]) A n l) (h':Sl w S' 1 (fun cs s => cs = [Value.string s]) A' n' l) :
  Calls Tryz.prog 80 #[.slice A n c,.slice A' n' c'] w fun e w' => e = .returned (.bool true) ∧ ∃ k,w' = w.drewN k:=by
 obtain rfl:n = n':=by rw [← h.len,← h'.len]
 have HH:=Lib.hid (And.intro h h')
 clear h h'
 go_enter Tryz.func80,Tryz.ntmps80
 go_wp2_with fail
 go_loopw [13] (fun i wr => ∃ k:Nat,k ≤ n ∧ i = .int .i64 k ∧ ∃ j,wr = w.drewN j) (fun i _ => n - (intOf i).toNat)
 case atStart => exact ⟨0,by omega,rfl,0,rfl⟩
 case round =>
  obtain ⟨k,hk,rfl,j,rfl⟩:=hrel
  by_cases hlt:k < n
  ·obtain ⟨b,o,x,rfl,_,hl,h0⟩:=Str_at' HH.out.1 hlt
   obtain ⟨b',o',x',rfl,_,hl',h0'⟩:=Str_at' HH.out.2 hlt
   rw [hl] at hl'
   cases hl'
   clear hl
   go_wp2_with fail
   go_quiet (fail)
   go_wp2_with fail
   go_roundw
   case rel => exact ⟨k + 1,by omega,by go_num,_,rfl⟩
   case measure => simp [intOf];omega
  ·have hke:k = n:=by omega
   subst hke
   go_wp2_with fail
   go_ret
   exact ⟨rfl,_,rfl⟩

end Go.Proofs.YtldbpmlgbbomcaaGreatDoor
/- samePages: true of pages and their like. -/
namespace Go.Proofs.YtldbpmlgbbomcaaGreatDoor
open Go.RowKit

theorem Sl.strOf {w:World} {S:Nat → Prop} {A:Option Addr} {n:Nat} {l:List ByteArray} (h:Sl w S 1 RStr A n l):Sl w S 1 (fun cs s => cs = [Value.string s]) A n l :=
 h.keep (fun _ _ => rfl) (fun _ _ h => h.1)
abbrev Pag.cells (p:Pag) (Y:Option Addr) (D:Nat) (X:Option Addr) (C:Nat):List Value:=[.string p.name,.slice Y p.fields.length D,.int .i64 p.skip.op,.int .i64 p.skip.v.k,.int .i64 p.skip.v.n,.string p.skip.v.s,.string p.skip.name,.slice X p.skip.args.length C]
set_option maxRecDepth 100000 in
set_option maxHeartbeats 1000000 in
theorem samePages_1 (p:Pag) (Y X Y' X':Option Addr) (D C D' C':Nat) (w:World) (h:RPag w (old w) (p.cells Y D X C) p) (h':RPag w (old w) (p.cells Y' D' X' C') p) :
  Calls Tryz.prog 79 #[.agg #[.string p.name,.slice Y p.fields.length D,.int .i64 p.skip.op,.int .i64 p.skip.v.k,.int .i64 p.skip.v.n,.string p.skip.v.s,.string p.skip.name,.slice X p.skip.args.length C],
   .agg #[.string p.name,.slice Y' p.fields.length D',.int .i64 p.skip.op,.int .i64 p.skip.v.k,.int .i64 p.skip.v.n,.string p.skip.v.s,.string p.skip.name,.slice X' p.skip.args.length C']] w (RetB w true):=by
 obtain ⟨_,r2,_,r4,r5⟩:=h.open_
 obtain ⟨_,_,_,s4,s5⟩:=h'.open_
 have hn:p.fields.length ≤ 9223372036854775807:=by unfold inB at r2;omega
 have HH:=Lib.hid (And.intro r4 (And.intro r5 (And.intro s4 s5)))
 clear h h' r4 r5 s4 s5
 go_enter Tryz.func79,Tryz.ntmps79
 go_wp2_with fail
 refine (slices_Equal_Str Y Y' _ D _ D' p.fields _ _ _ hn (HH.out.1.now bel).strOf (HH.out.2.2.1.now bel).strOf).mono ?_;rintro e w1 ⟨rfl,q,rfl⟩
 go_wp2_with fail
 refine (same_Expr _ p.skip X C X' C' _ (Nat.le_refl _) (HH.out.2.1.keep (old_keep bel)) (HH.out.2.2.2.keep (old_keep bel))).mono ?_;rintro e w2 ⟨rfl,hb2⟩
 go_wp2_with fail
 go_ret
 exact ⟨rfl,bel⟩
theorem cf_samePages1 (args:Array Value) (w:World):(callFunc 79 args).run Tryz.prog w = .ok (.enter 79 args) w :=
 cf _ _ Tryz.func79 (by kernel_rfl) (by kernel_rfl) args w
set_option maxRecDepth 100000 in
set_option maxHeartbeats 1000000 in
theorem equal_Pags (l:List Pag) (A:Option Addr) (n c:Nat) (A':Option Addr) (c':Nat) (w:World) (hn:inL n) (h:Sl w (old w) 8 (RPag w (old w)) A n l) (h':Sl w (old w) 8 (RPag w (old w)) A' n l) :
  Calls Tryz.prog 78 #[.slice A n c,.slice A' n c',.func (.func 79) #[] #[]] w (RetB w true):=by
 unfold inL at hn
 have HH:=Lib.hid (And.intro h h')
 have hcf:=cf_samePages1
 clear h h'
 go_enter Tryz.func78,Tryz.ntmps78
 go_wp2_with fail
 go_loopw [17] (fun i wr => ∃ k:Nat,k ≤ n ∧ i = .int .i64 k ∧ Below w.heap.size w wr) (fun i _ => n - (intOf i).toNat)
 case atStart => exact ⟨0,by omega,rfl,Below.refl _ _⟩
 case round =>
  obtain ⟨k,hk,rfl,hb⟩:=hrel
  by_cases hlt:k < n
  ·obtain ⟨b1,o1,a,Y,D,X,C,rfl,hb1,hl,hx,x0,x1,x2,x3,x4,x5,x6,x7⟩:=Pag_at (HH.out.1.nowN keeps_Pag hb) hlt
   obtain ⟨b2,o2,a',Y',D',X',C',rfl,hb2,hl',hx',y0,y1,y2,y3,y4,y5,y6,y7⟩:=Pag_at (HH.out.2.nowN keeps_Pag hb) hlt
   rw [hl] at hl'
   cases hl'
   have hb1':b1 < wr.heap.size:=hb1
   have hb2':b2 < wr.heap.size:=hb2
   have HX:=Lib.hid (And.intro hx hx')
   clear hx hx' hl hb1 hb2
   go_wp2_with fail
   refine (samePages_1 a Y X Y' X' D C D' C' _ (HX.out.1.keep (old_keep bel)) (HX.out.2.keep (old_keep bel))).mono ?_;rintro e w3 ⟨rfl,hb3⟩
   go_wp2_with fail
   go_roundw
   case rel => exact ⟨k + 1,by omega,by go_num,bel⟩
   case measure => simp [intOf];omega
  ·go_wp2_with fail
   go_ret
   exact ⟨rfl,hb⟩
set_option maxHeartbeats 400000 in
theorem same_Pages (l:List Pag) (A:Option Addr) (n c:Nat) (A':Option Addr) (c':Nat) (w:World) (hn:inL n) (h:Sl w (old w) 8 (RPag w (old w)) A n l) (h':Sl w (old w) 8 (RPag w (old w)) A' n l) :
  Calls Tryz.prog 37 #[.slice A n c,.slice A' n c'] w (RetB w true):=by
 have HH:=Lib.hid (And.intro h h')
 clear h h'
 go_enter Tryz.func37,Tryz.ntmps37
 go_wp2_with (go_at_call 78;refine (equal_Pags l A n c A' c' _ hn HH.out.1 HH.out.2).mono ?_;rintro e w1 ⟨rfl,hb1⟩)
 go_ret
 exact ⟨rfl,hb1⟩
end Go.Proofs.YtldbpmlgbbomcaaGreatDoor
/- sameFields: true of fields and their like. -/
namespace Go.Proofs.YtldbpmlgbbomcaaGreatDoor
open Go.RowKit

set_option maxRecDepth 100000 in
set_option maxHeartbeats 1000000 in
theorem sameFields_1 (f:Fld) (X X':Option Addr) (C C':Nat) (w:World) (h:RFld w (old w) [.string f.name,.int .i64 f.kind,.int .i64 f.type,.int .i64 f.source.op,.int .i64 f.source.v.k,.int .i64 f.source.v.n,.string f.source.v.s,.string f.source.name,.slice X f.source.args.length C] f) (h':RFld w (old w) [.string f.name,.int .i64 f.kind,.int .i64 f.type,.int .i64 f.source.op,.int .i64 f.source.v.k,.int .i64 f.source.v.n,.string f.source.v.s,.string f.source.name,.slice X' f.source.args.length C'] f) :
  Calls Tryz.prog 77 #[.agg #[.string f.name,.int .i64 f.kind,.int .i64 f.type,.int .i64 f.source.op,.int .i64 f.source.v.k,.int .i64 f.source.v.n,.string f.source.v.s,.string f.source.name,.slice X f.source.args.length C],.agg #[.string f.name,.int .i64 f.kind,.int .i64 f.type,.int .i64 f.source.op,.int .i64 f.source.v.k,.int .i64 f.source.v.n,.string f.source.v.s,.string f.source.name,.slice X' f.source.args.length C']] w (RetB w true):=by
 obtain ⟨_,_,_,r4⟩:=h.parts
 obtain ⟨_,_,_,s4⟩:=h'.parts
 have HH:=Lib.hid (And.intro r4 s4)
 clear h h' r4 s4
 go_enter Tryz.func77,Tryz.ntmps77
 go_wp2_with fail
 refine (same_Expr _ f.source X C X' C' _ (Nat.le_refl _) (HH.out.1.keep (old_keep bel)) (HH.out.2.keep (old_keep bel))).mono ?_;rintro e w2 ⟨rfl,hb2⟩
 go_wp2_with fail
 go_ret
 exact ⟨rfl,bel⟩
theorem cf_sameFields1 (args:Array Value) (w:World):(callFunc 77 args).run Tryz.prog w = .ok (.enter 77 args) w :=
 cf _ _ Tryz.func77 (by kernel_rfl) (by kernel_rfl) args w
set_option maxRecDepth 100000 in
set_option maxHeartbeats 1000000 in
theorem equal_Flds (l:List Fld) (A:Option Addr) (n c:Nat) (A':Option Addr) (c':Nat) (w:World) (hn:inL n) (h:Sl w (old w) 9 (RFld w (old w)) A n l) (h':Sl w (old w) 9 (RFld w (old w)) A' n l) :
  Calls Tryz.prog 76 #[.slice A n c,.slice A' n c',.func (.func 77) #[] #[]] w (RetB w true):=by
 unfold inL at hn
 have HH:=Lib.hid (And.intro h h')
 have hcf:=cf_sameFields1
 clear h h'
 go_enter Tryz.func76,Tryz.ntmps76
 go_wp2_with fail
 go_loopw [17] (fun i wr => ∃ k:Nat,k ≤ n ∧ i = .int .i64 k ∧ Below w.heap.size w wr) (fun i _ => n - (intOf i).toNat)
 case atStart => exact ⟨0,by omega,rfl,Below.refl _ _⟩
 case round =>
  obtain ⟨k,hk,rfl,hb⟩:=hrel
  by_cases hlt:k < n
  ·obtain ⟨b1,o1,a,X,C,rfl,hb1,hl,hx,x0,x1,x2,x3,x4,x5,x6,x7,x8⟩:=Fld_at (HH.out.1.nowN keeps_Fld hb) hlt
   obtain ⟨b2,o2,a',X',C',rfl,hb2,hl',hx',y0,y1,y2,y3,y4,y5,y6,y7,y8⟩:=Fld_at (HH.out.2.nowN keeps_Fld hb) hlt
   rw [hl] at hl'
   cases hl'
   have hb1':b1 < wr.heap.size:=hb1
   have hb2':b2 < wr.heap.size:=hb2
   have HX:=Lib.hid (And.intro hx hx')
   clear hx hx' hl hb1 hb2
   go_wp2_with fail
   refine (sameFields_1 a X X' C C' _ (RFld.keep HX.out.1 (old_keep bel)) (RFld.keep HX.out.2 (old_keep bel))).mono ?_;rintro e w3 ⟨rfl,hb3⟩
   go_wp2_with fail
   go_roundw
   case rel => exact ⟨k + 1,by omega,by go_num,bel⟩
   case measure => simp [intOf];omega
  ·go_wp2_with fail
   go_ret
   exact ⟨rfl,hb⟩
set_option maxHeartbeats 400000 in
theorem same_Fields (l:List Fld) (A:Option Addr) (n c:Nat) (A':Option Addr) (c':Nat) (w:World) (hn:inL n) (h:Sl w (old w) 9 (RFld w (old w)) A n l) (h':Sl w (old w) 9 (RFld w (old w)) A' n l) :
  Calls Tryz.prog 36 #[.slice A n c,.slice A' n c'] w (RetB w true):=by
 have HH:=Lib.hid (And.intro h h')
 clear h h'
 go_enter Tryz.func36,Tryz.ntmps36
 go_wp2_with (go_at_call 76;refine (equal_Flds l A n c A' c' _ hn HH.out.1 HH.out.2).mono ?_;rintro e w1 ⟨rfl,hb1⟩)
 go_ret
 exact ⟨rfl,hb1⟩
end Go.Proofs.YtldbpmlgbbomcaaGreatDoor
