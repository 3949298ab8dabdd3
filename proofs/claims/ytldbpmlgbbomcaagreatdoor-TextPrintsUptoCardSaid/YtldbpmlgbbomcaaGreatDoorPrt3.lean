/- Texts merged: Cop Siz Prt PrtS Prt2 PrtE Prt3. -/
import Derived.Test.YtldbpmlgbbomcaaGreatDoorTypes
import Derived.Deep.RegionLaw
import Derived.Test.YtldbpmlgbbomcaaGreatDoorVal
import Derived.Test.YtldbpmlgbbomcaaGreatDoorLexName
import Derived.Great.BuildSlice
/- Copies of formulas: names.Copy and the reference ExprCopy. -/
namespace Go.Proofs.YtldbpmlgbbomcaaGreatDoor
open Go.RowKit

def fresh (w w':World):Nat → Prop:=fun b => w.heap.size ≤ b ∧ b < w'.heap.size
def RetExp (w:World) (x:Exp) (e:Ending) (w':World):Prop :=
 ∃ A c,e = .returned (.agg #[.int .i64 x.op,.int .i64 x.v.k,.int .i64 x.v.n,.string x.v.s,.string x.name,.slice A x.args.length c]) ∧
  XRep w' (fresh w w') [.int .i64 x.op,.int .i64 x.v.k,.int .i64 x.v.n,.string x.v.s,.string x.name,.slice A x.args.length c] x ∧ Below w.heap.size w w'

mutual
def Exp.nodes:Exp → Nat
 | .mk _ _ _ args => nodesL args + 1
def nodesL:List Exp → Nat
 | [] => 0
 | a :: l => a.nodes + nodesL l
end
theorem nodes_at:∀ (l:List Exp) (i:Nat) (a:Exp),l[i]? = some a → a.nodes ≤ nodesL l
 | [],i,a,h => by simp at h
 | b :: l,0,a,h => by simp at h;subst h;simp [nodesL]
 | b :: l,i + 1,a,h => by
  have:=nodes_at l i a (by simpa using h)
  simp only [nodesL];omega

theorem Tryz.infoExp:(Tryz.prog.info? 26).map (fun i => (i.zero,i.size,i.bytes)) = some (some (.agg #[.int .i64 0,.int .i64 0,.int .i64 0,.string ⟨#[]⟩,.string ⟨#[]⟩,.slice none 0 0]),6,80):=by kernel_rfl

theorem Exp_at {w:World} {S:Nat → Prop} {A:Option Addr} {n k:Nat} {l:List Exp} (h:Sl w S 6 (XRep w S) A n l) (hk:k < n) :
  ∃ b o f X C,A = some ⟨b,o,none⟩ ∧ S b ∧ l[k]? = some f ∧
   XRep w S [.int .i64 f.op,.int .i64 f.v.k,.int .i64 f.v.n,.string f.v.s,.string f.name,.slice X f.args.length C] f ∧
   w.cell? ⟨b,o + k * 6,none⟩ = some (.int .i64 f.op) ∧ w.cell? ⟨b,o + k * 6 + 1,none⟩ = some (.int .i64 f.v.k) ∧ w.cell? ⟨b,o + k * 6 + 2,none⟩ = some (.int .i64 f.v.n) ∧
   w.cell? ⟨b,o + k * 6 + 3,none⟩ = some (.string f.v.s) ∧ w.cell? ⟨b,o + k * 6 + 4,none⟩ = some (.string f.name) ∧ w.cell? ⟨b,o + k * 6 + 5,none⟩ = some (.slice X f.args.length C):=by
 obtain ⟨b,o,f,cs,rfl,hs,hl,hr,_,hc⟩:=h.at_ hk
 have hr':=hr
 obtain ⟨X,C,rfl,_⟩:=hr.open_
 exact ⟨b,o,f,X,C,rfl,hs,hl,hr',hc 0 (by decide),hc 1 (by decide),hc 2 (by decide),hc 3 (by decide),hc 4 (by decide),hc 5 (by decide)⟩
theorem Own.set {α:Type} {R:World → (Nat → Prop) → List Value → α → Prop} (K:Keeps R) {w:World} {base:Nat} {e:TypeId} {size:Nat} {v:Value} {l:List α} (h:Own w base e size R v l) (p:Addr) (u:Value) (hp:p.block < base):Own (w.setCell p u) base e size R v l:=by
 obtain ⟨C,h1,h2,h3,h4⟩:=h
 refine ⟨C,⟨h1.1,?_⟩,h2,h3,fun i c a hc ha => K _ _ _ _ _ _ (h4 i c a hc ha) fun b hb => ⟨⟨hb.1,by simpa using hb.2.1,hb.2.2⟩,heap_setCell_other w p b u (by have:=hb.1;omega)⟩⟩
 rcases h1.2 with hn | ⟨g,cap,cur,rfl,hbg,hgg,rest⟩
 ·exact .inl hn
 ·refine .inr ⟨g,cap,cur,rfl,hbg,?_,rest⟩
  rw [heap_setCell_other w p g u (by omega)]
  exact hgg
theorem Own.lt {α:Type} {R:World → (Nat → Prop) → List Value → α → Prop} {w:World} {base:Nat} {e:TypeId} {size:Nat} {v:Value} {l:List α} (h:Own w base e size R v l):∀ k,v.ownBlock = some k → base ≤ k ∧ k < w.heap.size:=by
 obtain ⟨C,h1,_⟩:=h
 exact h1.lt
def CopyRel (w:World) (o base:Nat) (x:Exp) (k:Nat) (wr:World):Prop :=
 ∃ (A':Option Addr) (c':Nat),wr.cell? ⟨o,0,none⟩ = some (.int .i64 x.op) ∧ wr.cell? ⟨o,1,none⟩ = some (.int .i64 x.v.k) ∧ wr.cell? ⟨o,2,none⟩ = some (.int .i64 x.v.n) ∧
  wr.cell? ⟨o,3,none⟩ = some (.string x.v.s) ∧ wr.cell? ⟨o,4,none⟩ = some (.string x.name) ∧ wr.cell? ⟨o,5,none⟩ = some (.slice A' k c') ∧
  wr.frozen? ⟨o,5,none⟩ = false ∧ Own wr base 26 6 XRep (.slice A' k c') (x.args.take k) ∧ Below w.heap.size w wr ∧ base ≤ wr.heap.size

end Go.Proofs.YtldbpmlgbbomcaaGreatDoor
/- expr.Size and the reference ExprSize. -/
namespace Go.Proofs.YtldbpmlgbbomcaaGreatDoor
open Go.RowKit

mutual
def szN:Exp → Int
 | .mk _ _ _ args => szNL 1 args
def szNL (n:Int):List Exp → Int
 | [] => n
 | a :: l => szNL (wrap64 (n + szN a)) l
end
mutual
def dpN:Exp → Int
 | .mk _ _ _ args => wrap64 (dpL 0 args + 1)
def dpL (d:Int):List Exp → Int
 | [] => d
 | a :: l => dpL (max d (dpN a)) l
end
theorem szNL_snoc:∀ (l:List Exp) (n:Int) (a:Exp),szNL n (l ++ [a]) = wrap64 (szNL n l + szN a)
 | [],n,a => by simp [szNL]
 | b :: l,n,a => by simp only [List.cons_append,szNL];exact szNL_snoc l _ a
theorem dpL_snoc:∀ (l:List Exp) (d:Int) (a:Exp),dpL d (l ++ [a]) = max (dpL d l) (dpN a)
 | [],d,a => by simp [dpL]
 | b :: l,d,a => by simp only [List.cons_append,dpL];exact dpL_snoc l _ a
theorem szN_eq (x:Exp):szN x = szNL 1 x.args:=by cases x;simp [szN,Exp.args]
theorem dpN_eq (x:Exp):dpN x = wrap64 (dpL 0 x.args + 1):=by cases x;simp [dpN,Exp.args]
def RetI2 (w:World) (a b:Int) (e:Ending) (w':World):Prop:=e = .returned (.tuple #[.int .i64 a,.int .i64 b]) ∧ Below w.heap.size w w'
set_option maxRecDepth 100000 in
set_option maxHeartbeats 1000000 in
theorem expr_Size (N:Nat):∀ (x:Exp) (A:Option Addr) (c:Nat) (w:World),x.nodes ≤ N →
  XRep w (old w) [.int .i64 x.op,.int .i64 x.v.k,.int .i64 x.v.n,.string x.v.s,.string x.name,.slice A x.args.length c] x →
  Calls Tryz.prog 42 #[.agg #[.int .i64 x.op,.int .i64 x.v.k,.int .i64 x.v.n,.string x.v.s,.string x.name,.slice A x.args.length c]] w (RetI2 w (szN x) (dpN x)):=by
 induction N with
 | zero =>
  intro x A c w hN
  obtain ⟨op,v,nm,args⟩:=x
  simp [Exp.nodes] at hN
 | succ N ih =>
  intro x A c w hN hx
  have HI:=Lib.hid ih
  clear ih
  obtain ⟨A0,c0,e0,i1,i2,i3,i4,i5,hsl⟩:=hx.open_
  simp only [List.cons.injEq,Value.slice.injEq,and_true,true_and] at e0
  obtain ⟨rfl,rfl⟩:=e0
  have hch:∀ (i:Nat) (a:Exp),x.args[i]? = some a → a.nodes ≤ N:=by
   obtain ⟨op,v,nm,args⟩:=x
   intro i a h
   have:=nodes_at args i a h
   simp only [Exp.nodes] at hN
   omega
  have HH:=Lib.hid (And.intro hsl hch)
  have hlen:x.args.length ≤ 1759218604416:=by unfold inB at i4;omega
  have hsz:=szN_eq x
  have hdp:=dpN_eq x
  generalize szN x = RN at hsz ⊢
  generalize dpN x = RD at hdp ⊢
  have HR:=Lib.hid (And.intro hsz hdp)
  clear hsl hch hx hN i1 i2 i3 i4 i5 hsz hdp
  go_enter Tryz.func42,Tryz.ntmps42
  go_wp2_with fail
  go_loopw [4,5,13] (fun nn dd i wr => ∃ k:Nat,k ≤ x.args.length ∧ i = .int .i64 k ∧ nn = .int .i64 (szNL 1 (x.args.take k)) ∧ dd = .int .i64 (dpL 0 (x.args.take k)) ∧ Below (w.alloc (.cells #[.int .i64 x.op,.int .i64 x.v.k,.int .i64 x.v.n,.string x.v.s,.string x.name,.slice A x.args.length c] 26)).heap.size (w.alloc (.cells #[.int .i64 x.op,.int .i64 x.v.k,.int .i64 x.v.n,.string x.v.s,.string x.name,.slice A x.args.length c] 26)) wr) (fun _ _ i _ => x.args.length - (intOf i).toNat)
  case atStart => exact ⟨0,by omega,rfl,by simp [szNL],by simp [dpL],Below.refl _ _⟩
  case round =>
   obtain ⟨k,hk,rfl,rfl,rfl,hbr⟩:=hrel
   have hbw:Below w.heap.size w wr:=alloc_below (by simpa using hbr)
   have hbx:wr.cell? ⟨w.heap.size,5,none⟩ = some (.slice A x.args.length c):=(hbr.cell (p:=⟨w.heap.size,5,none⟩) (by simp)).trans (by go_simp)
   by_cases hlt:k < x.args.length
   ·obtain ⟨b,o,a,X,C,hAe,hbl,hl,hxa,x0,x1,x2,x3,x4,x5⟩:=Exp_at (HH.out.1.nowN keeps_Exp hbw) hlt
    subst hAe
    have hbl':b < wr.heap.size:=hbl
    have etn:szNL 1 (x.args.take (k + 1)) = wrap64 (szNL 1 (x.args.take k) + szN a):=by rw [List.take_add_one,hl];exact szNL_snoc _ _ _
    have etd:dpL 0 (x.args.take (k + 1)) = max (dpL 0 (x.args.take k)) (dpN a):=by rw [List.take_add_one,hl];exact dpL_snoc _ _ _
    have HX:=Lib.hid (And.intro hxa (And.intro (HH.out.2 k a hl) (And.intro etn etd)))
    generalize szNL 1 (x.args.take k) = n0 at etn HX ⊢
    generalize dpL 0 (x.args.take k) = d0 at etd HX ⊢
    clear hxa hl etn etd hbl
    go_wp2_with fail
    refine (HI.out a X C _ HX.out.2.1 (HX.out.1.keep (old_keep bel))).mono ?_;rintro e w2 ⟨rfl,hb2⟩
    generalize szN a = na at HX ⊢
    generalize dpN a = da at HX ⊢
    go_wp2_with fail
    go_roundw
    case rel => exact ⟨k + 1,by omega,by go_num,by rw [HX.out.2.2.1],by rw [HX.out.2.2.2];congr 1;split <;> omega,bel⟩
    case measure => simp [intOf];omega
   ·have hkn:k = x.args.length:=by omega
    subst hkn
    have etk:x.args.take x.args.length = x.args:=List.take_of_length_le (Nat.le_refl _)
    rw [etk]
    go_wp2_with fail
    go_ret2
    exact ⟨(rfl:_ = Ending.returned (.tuple #[.int .i64 (szNL 1 x.args),.int .i64 (wrap64 (dpL 0 x.args + 1))])).trans (by rw [HR.out.1,HR.out.2]),hbw⟩
set_option maxRecDepth 100000 in
set_option maxHeartbeats 1000000 in
theorem ref_ExprSize (N:Nat):∀ (x:Exp) (A:Option Addr) (c:Nat) (w:World),x.nodes ≤ N →
  XRep w (old w) [.int .i64 x.op,.int .i64 x.v.k,.int .i64 x.v.n,.string x.v.s,.string x.name,.slice A x.args.length c] x →
  Calls Tryz.prog 51 #[.agg #[.int .i64 x.op,.int .i64 x.v.k,.int .i64 x.v.n,.string x.v.s,.string x.name,.slice A x.args.length c]] w (RetI2 w (szN x) (dpN x)):=by
 induction N with
 | zero =>
  intro x A c w hN
  obtain ⟨op,v,nm,args⟩:=x
  simp [Exp.nodes] at hN
 | succ N ih =>
  intro x A c w hN hx
  have HI:=Lib.hid ih
  clear ih
  obtain ⟨A0,c0,e0,i1,i2,i3,i4,i5,hsl⟩:=hx.open_
  simp only [List.cons.injEq,Value.slice.injEq,and_true,true_and] at e0
  obtain ⟨rfl,rfl⟩:=e0
  have hch:∀ (i:Nat) (a:Exp),x.args[i]? = some a → a.nodes ≤ N:=by
   obtain ⟨op,v,nm,args⟩:=x
   intro i a h
   have:=nodes_at args i a h
   simp only [Exp.nodes] at hN
   omega
  have HH:=Lib.hid (And.intro hsl hch)
  have hlen:x.args.length ≤ 1759218604416:=by unfold inB at i4;omega
  have hsz:=szN_eq x
  have hdp:=dpN_eq x
  generalize szN x = RN at hsz ⊢
  generalize dpN x = RD at hdp ⊢
  have HR:=Lib.hid (And.intro hsz hdp)
  clear hsl hch hx hN i1 i2 i3 i4 i5 hsz hdp
  go_enter Tryz.func51,Tryz.ntmps51
  go_wp2_with fail
  go_loopw [4,5,6] (fun nn dd i wr => ∃ k:Nat,k ≤ x.args.length ∧ i = .int .i64 k ∧ nn = .int .i64 (szNL 1 (x.args.take k)) ∧ dd = .int .i64 (dpL 0 (x.args.take k)) ∧ Below (w.alloc (.cells #[.int .i64 x.op,.int .i64 x.v.k,.int .i64 x.v.n,.string x.v.s,.string x.name,.slice A x.args.length c] 26)).heap.size (w.alloc (.cells #[.int .i64 x.op,.int .i64 x.v.k,.int .i64 x.v.n,.string x.v.s,.string x.name,.slice A x.args.length c] 26)) wr) (fun _ _ i _ => x.args.length - (intOf i).toNat)
  case atStart => exact ⟨0,by omega,rfl,by simp [szNL],by simp [dpL],Below.refl _ _⟩
  case round =>
   obtain ⟨k,hk,rfl,rfl,rfl,hbr⟩:=hrel
   have hbw:Below w.heap.size w wr:=alloc_below (by simpa using hbr)
   have hbx:wr.cell? ⟨w.heap.size,5,none⟩ = some (.slice A x.args.length c):=(hbr.cell (p:=⟨w.heap.size,5,none⟩) (by simp)).trans (by go_simp)
   by_cases hlt:k < x.args.length
   ·obtain ⟨b,o,a,X,C,hAe,hbl,hl,hxa,x0,x1,x2,x3,x4,x5⟩:=Exp_at (HH.out.1.nowN keeps_Exp hbw) hlt
    subst hAe
    have hbl':b < wr.heap.size:=hbl
    have etn:szNL 1 (x.args.take (k + 1)) = wrap64 (szNL 1 (x.args.take k) + szN a):=by rw [List.take_add_one,hl];exact szNL_snoc _ _ _
    have etd:dpL 0 (x.args.take (k + 1)) = max (dpL 0 (x.args.take k)) (dpN a):=by rw [List.take_add_one,hl];exact dpL_snoc _ _ _
    have HX:=Lib.hid (And.intro hxa (And.intro (HH.out.2 k a hl) (And.intro etn etd)))
    generalize szNL 1 (x.args.take k) = n0 at etn HX ⊢
    generalize dpL 0 (x.args.take k) = d0 at etd HX ⊢
    clear hxa hl etn etd hbl
    go_wp2_with fail
    refine (HI.out a X C _ HX.out.2.1 (HX.out.1.keep (old_keep bel))).mono ?_;rintro e w2 ⟨rfl,hb2⟩
    generalize szN a = na at HX ⊢
    generalize dpN a = da at HX ⊢
    by_cases hmx:d0 < da
    ·go_wp2_with fail
     go_roundw
     case rel => exact ⟨k + 1,by omega,by go_num,by rw [HX.out.2.2.1],by rw [HX.out.2.2.2,Int.max_eq_right (by omega)],bel⟩
     case measure => simp [intOf];omega
    ·go_wp2_with fail
     go_roundw
     case rel => exact ⟨k + 1,by omega,by go_num,by rw [HX.out.2.2.1],by rw [HX.out.2.2.2,Int.max_eq_left (by omega)],bel⟩
     case measure => simp [intOf];omega
   ·have hkn:k = x.args.length:=by omega
    subst hkn
    have etk:x.args.take x.args.length = x.args:=List.take_of_length_le (Nat.le_refl _)
    rw [etk]
    go_wp2_with fail
    go_ret2
    exact ⟨(rfl:_ = Ending.returned (.tuple #[.int .i64 (szNL 1 x.args),.int .i64 (wrap64 (dpL 0 x.args + 1))])).trans (by rw [HR.out.1,HR.out.2]),hbw⟩
end Go.Proofs.YtldbpmlgbbomcaaGreatDoor
/- One part of a formula: what expr.part and the reference partFault ask of it. -/
namespace Go.Proofs.YtldbpmlgbbomcaaGreatDoor
open Go.RowKit

def argsN (op:Int):Int:=if op = 1 ∨ op = 2 then 0 else if op = 3 ∨ op = 4 ∨ op = 18 then 1 else if op = 17 then 3 else 2
set_option maxHeartbeats 1000000 in
theorem ref_argsOf (op:Int) (w:World):Calls Tryz.prog 93 #[.int .i64 op] w (RetI w (argsN op)):=by
 rcases (by omega:op = 1 ∨ op = 2 ∨ op = 3 ∨ op = 4 ∨ op = 18 ∨ op = 17 ∨ (op ≠ 1 ∧ op ≠ 2 ∧ op ≠ 3 ∧ op ≠ 4 ∧ op ≠ 18 ∧ op ≠ 17)) with rfl | rfl | rfl | rfl | rfl | rfl | ⟨h1,h2,h3,h4,h5,h6⟩
 case inr.inr.inr.inr.inr.inr =>
  have e:argsN op = 2:=by rw [argsN,if_neg (by omega),if_neg (by omega),if_neg (by omega)]
  have h1':(op == 1) = false:=by simpa using h1
  have h2':(op == 2) = false:=by simpa using h2
  have h3':(op == 3) = false:=by simpa using h3
  have h4':(op == 4) = false:=by simpa using h4
  have h5':(op == 18) = false:=by simpa using h5
  have h6':(op == 17) = false:=by simpa using h6
  rw [e]
  clear e h1 h2 h3 h4 h5 h6
  go_enter Tryz.func93,Tryz.ntmps93
  go_wp2
  go_ret
  exact ⟨rfl,Below.refl _ _⟩
 all_goals
  go_enter Tryz.func93,Tryz.ntmps93
  go_wp2
  go_ret
  exact ⟨rfl,Below.refl _ _⟩
def shapesC:List Value:=[.string ⟨#[]⟩,.int .i64 0,.int .i64 0,.string ⟨#[]⟩,.int .i64 7,.int .i64 0,.string ⟨#[]⟩,.int .i64 7,.int .i64 0,.string ⟨#[45]⟩,.int .i64 6,.int .i64 1,.string ⟨#[110,111,116]⟩,.int .i64 6,.int .i64 1,.string ⟨#[42]⟩,.int .i64 5,.int .i64 2,.string ⟨#[47]⟩,.int .i64 5,.int .i64 2,.string ⟨#[37]⟩,.int .i64 5,.int .i64 2,.string ⟨#[43]⟩,.int .i64 4,.int .i64 2,.string ⟨#[45]⟩,.int .i64 4,.int .i64 2,.string ⟨#[38]⟩,.int .i64 4,.int .i64 2,.string ⟨#[60]⟩,.int .i64 3,.int .i64 2,.string ⟨#[60,61]⟩,.int .i64 3,.int .i64 2,.string ⟨#[61]⟩,.int .i64 3,.int .i64 2,.string ⟨#[33,61]⟩,.int .i64 3,.int .i64 2,.string ⟨#[97,110,100]⟩,.int .i64 2,.int .i64 2,.string ⟨#[111,114]⟩,.int .i64 1,.int .i64 2,.string ⟨#[105,102]⟩,.int .i64 7,.int .i64 3,.string ⟨#[108,101,110]⟩,.int .i64 7,.int .i64 1]
theorem Tryz.shape1 (w:World):(Instr.index 50 (.agg shapesC.toArray) (.int .i64 1)).run Tryz.prog w = .ok (.agg #[.string ⟨#[]⟩,.int .i64 7,.int .i64 0]) w:=by kernel_rfl
theorem Tryz.shape2 (w:World):(Instr.index 50 (.agg shapesC.toArray) (.int .i64 2)).run Tryz.prog w = .ok (.agg #[.string ⟨#[]⟩,.int .i64 7,.int .i64 0]) w:=by kernel_rfl
theorem Tryz.shape3 (w:World):(Instr.index 50 (.agg shapesC.toArray) (.int .i64 3)).run Tryz.prog w = .ok (.agg #[.string ⟨#[45]⟩,.int .i64 6,.int .i64 1]) w:=by kernel_rfl
theorem Tryz.shape4 (w:World):(Instr.index 50 (.agg shapesC.toArray) (.int .i64 4)).run Tryz.prog w = .ok (.agg #[.string ⟨#[110,111,116]⟩,.int .i64 6,.int .i64 1]) w:=by kernel_rfl
theorem Tryz.shape5 (w:World):(Instr.index 50 (.agg shapesC.toArray) (.int .i64 5)).run Tryz.prog w = .ok (.agg #[.string ⟨#[42]⟩,.int .i64 5,.int .i64 2]) w:=by kernel_rfl
theorem Tryz.shape6 (w:World):(Instr.index 50 (.agg shapesC.toArray) (.int .i64 6)).run Tryz.prog w = .ok (.agg #[.string ⟨#[47]⟩,.int .i64 5,.int .i64 2]) w:=by kernel_rfl
theorem Tryz.shape7 (w:World):(Instr.index 50 (.agg shapesC.toArray) (.int .i64 7)).run Tryz.prog w = .ok (.agg #[.string ⟨#[37]⟩,.int .i64 5,.int .i64 2]) w:=by kernel_rfl
theorem Tryz.shape8 (w:World):(Instr.index 50 (.agg shapesC.toArray) (.int .i64 8)).run Tryz.prog w = .ok (.agg #[.string ⟨#[43]⟩,.int .i64 4,.int .i64 2]) w:=by kernel_rfl
theorem Tryz.shape9 (w:World):(Instr.index 50 (.agg shapesC.toArray) (.int .i64 9)).run Tryz.prog w = .ok (.agg #[.string ⟨#[45]⟩,.int .i64 4,.int .i64 2]) w:=by kernel_rfl
theorem Tryz.shape10 (w:World):(Instr.index 50 (.agg shapesC.toArray) (.int .i64 10)).run Tryz.prog w = .ok (.agg #[.string ⟨#[38]⟩,.int .i64 4,.int .i64 2]) w:=by kernel_rfl
theorem Tryz.shape11 (w:World):(Instr.index 50 (.agg shapesC.toArray) (.int .i64 11)).run Tryz.prog w = .ok (.agg #[.string ⟨#[60]⟩,.int .i64 3,.int .i64 2]) w:=by kernel_rfl
theorem Tryz.shape12 (w:World):(Instr.index 50 (.agg shapesC.toArray) (.int .i64 12)).run Tryz.prog w = .ok (.agg #[.string ⟨#[60,61]⟩,.int .i64 3,.int .i64 2]) w:=by kernel_rfl
theorem Tryz.shape13 (w:World):(Instr.index 50 (.agg shapesC.toArray) (.int .i64 13)).run Tryz.prog w = .ok (.agg #[.string ⟨#[61]⟩,.int .i64 3,.int .i64 2]) w:=by kernel_rfl
theorem Tryz.shape14 (w:World):(Instr.index 50 (.agg shapesC.toArray) (.int .i64 14)).run Tryz.prog w = .ok (.agg #[.string ⟨#[33,61]⟩,.int .i64 3,.int .i64 2]) w:=by kernel_rfl
theorem Tryz.shape15 (w:World):(Instr.index 50 (.agg shapesC.toArray) (.int .i64 15)).run Tryz.prog w = .ok (.agg #[.string ⟨#[97,110,100]⟩,.int .i64 2,.int .i64 2]) w:=by kernel_rfl
theorem Tryz.shape16 (w:World):(Instr.index 50 (.agg shapesC.toArray) (.int .i64 16)).run Tryz.prog w = .ok (.agg #[.string ⟨#[111,114]⟩,.int .i64 1,.int .i64 2]) w:=by kernel_rfl
theorem Tryz.shape17 (w:World):(Instr.index 50 (.agg shapesC.toArray) (.int .i64 17)).run Tryz.prog w = .ok (.agg #[.string ⟨#[105,102]⟩,.int .i64 7,.int .i64 3]) w:=by kernel_rfl
theorem Tryz.shape18 (w:World):(Instr.index 50 (.agg shapesC.toArray) (.int .i64 18)).run Tryz.prog w = .ok (.agg #[.string ⟨#[108,101,110]⟩,.int .i64 7,.int .i64 1]) w:=by kernel_rfl
theorem shape_ix (op:Int) (h1:1 ≤ op) (h2:op ≤ 18):∃ s k,∀ w:World,(Instr.index 50 (.agg shapesC.toArray) (.int .i64 op)).run Tryz.prog w = .ok (.agg #[.string s,.int .i64 k,.int .i64 (argsN op)]) w:=by
 rcases (by omega:op = 1 ∨ op = 2 ∨ op = 3 ∨ op = 4 ∨ op = 5 ∨ op = 6 ∨ op = 7 ∨ op = 8 ∨ op = 9 ∨ op = 10 ∨ op = 11 ∨ op = 12 ∨ op = 13 ∨ op = 14 ∨ op = 15 ∨ op = 16 ∨ op = 17 ∨ op = 18) with rfl | rfl | rfl | rfl | rfl | rfl | rfl | rfl | rfl | rfl | rfl | rfl | rfl | rfl | rfl | rfl | rfl | rfl
 ·exact ⟨_,_,Tryz.shape1⟩
 ·exact ⟨_,_,Tryz.shape2⟩
 ·exact ⟨_,_,Tryz.shape3⟩
 ·exact ⟨_,_,Tryz.shape4⟩
 ·exact ⟨_,_,Tryz.shape5⟩
 ·exact ⟨_,_,Tryz.shape6⟩
 ·exact ⟨_,_,Tryz.shape7⟩
 ·exact ⟨_,_,Tryz.shape8⟩
 ·exact ⟨_,_,Tryz.shape9⟩
 ·exact ⟨_,_,Tryz.shape10⟩
 ·exact ⟨_,_,Tryz.shape11⟩
 ·exact ⟨_,_,Tryz.shape12⟩
 ·exact ⟨_,_,Tryz.shape13⟩
 ·exact ⟨_,_,Tryz.shape14⟩
 ·exact ⟨_,_,Tryz.shape15⟩
 ·exact ⟨_,_,Tryz.shape16⟩
 ·exact ⟨_,_,Tryz.shape17⟩
 ·exact ⟨_,_,Tryz.shape18⟩
def partOk (op:Int) (v:Val) (name:ByteArray) (n:Nat):Bool :=
 decide ((n:Int) = argsN op) &&
  (if op = 1 then name.toList.isEmpty && (valKnown v && (decide (v.k ≠ 1) || decide (0 ≤ v.n)))
   else valEq v ⟨0,0,⟨#[]⟩⟩ && (if op = 2 then decide (nameCheck name = 0) else name.toList.isEmpty))
def partErr (op:Int) (v:Val) (name:ByteArray) (n:Nat):Int:=if op < 1 ∨ 18 < op then 2 else if partOk op v name n then 0 else 3
theorem partErr_out {op:Int} {v:Val} {name:ByteArray} {n:Nat} (h:op < 1 ∨ 18 < op):partErr op v name n = 2:=if_pos h
theorem partErr_in {op:Int} {v:Val} {name:ByteArray} {n:Nat} (h:¬ (op < 1 ∨ 18 < op)):partErr op v name n = if partOk op v name n then 0 else 3:=if_neg h
theorem part_const {v:Val} {name:ByteArray} {n:Nat} (hn:(n:Int) = argsN 1) :
  ((!name.toList.isEmpty) = true ∧ partOk 1 v name n = false) ∨ ((!name.toList.isEmpty) = false ∧ valKnown v = false ∧ partOk 1 v name n = false) ∨
  ((!name.toList.isEmpty) = false ∧ valKnown v = true ∧ v.k = 1 ∧ v.n < 0 ∧ partOk 1 v name n = false) ∨ ((!name.toList.isEmpty) = false ∧ valKnown v = true ∧ v.k = 1 ∧ 0 ≤ v.n ∧ partOk 1 v name n = true) ∨
  ((!name.toList.isEmpty) = false ∧ valKnown v = true ∧ v.k ≠ 1 ∧ partOk 1 v name n = true):=by
 unfold partOk
 rw [if_pos rfl,decide_eq_true hn]
 cases h1:name.toList.isEmpty <;> cases h2:valKnown v <;> by_cases h3:v.k = 1 <;> by_cases h4:0 ≤ v.n <;> simp [h3,h4] <;> omega
theorem part_ref {v:Val} {name:ByteArray} {n:Nat} (hn:(n:Int) = argsN 2) :
  (nameCheck name ≠ 0 ∧ partOk 2 v name n = false) ∨ (nameCheck name = 0 ∧ valEq v ⟨0,0,⟨#[]⟩⟩ = false ∧ partOk 2 v name n = false) ∨ (nameCheck name = 0 ∧ valEq v ⟨0,0,⟨#[]⟩⟩ = true ∧ partOk 2 v name n = true):=by
 unfold partOk
 rw [if_neg (by decide),if_pos rfl,decide_eq_true hn]
 by_cases h1:nameCheck name = 0 <;> cases h2:valEq v ⟨0,0,⟨#[]⟩⟩ <;> simp [h1]
theorem part_other {op:Int} {v:Val} {name:ByteArray} {n:Nat} (h1:op ≠ 1) (h2:op ≠ 2) (hn:(n:Int) = argsN op) :
  ((!name.toList.isEmpty) = true ∧ partOk op v name n = false) ∨ ((!name.toList.isEmpty) = false ∧ valEq v ⟨0,0,⟨#[]⟩⟩ = false ∧ partOk op v name n = false) ∨ ((!name.toList.isEmpty) = false ∧ valEq v ⟨0,0,⟨#[]⟩⟩ = true ∧ partOk op v name n = true):=by
 unfold partOk
 rw [if_neg h1,if_neg h2,decide_eq_true hn]
 cases h1:name.toList.isEmpty <;> cases h2:valEq v ⟨0,0,⟨#[]⟩⟩ <;> simp
mutual
def prtN:Exp → Int
 | .mk op v name args => if partErr op v name args.length = 0 then prtL args else partErr op v name args.length
def prtL:List Exp → Int
 | [] => 0
 | a :: l => if prtN a = 0 then prtL l else prtN a
end
theorem prtN_eq (x:Exp):prtN x = if partErr x.op x.v x.name x.args.length = 0 then prtL x.args else partErr x.op x.v x.name x.args.length:=by
 cases x;rw [prtN];rfl
theorem prtL_next:∀ {l:List Exp} {k:Nat} {a:Exp},prtL (l.take k) = 0 → l[k]? = some a → prtN a = 0 → prtL (l.take (k + 1)) = 0
 | [],k,a,_,h,_ => by simp at h
 | b :: l,0,a,_,h,ha => by simp at h;subst h;simp [prtL,ha]
 | b :: l,k + 1,a,h0,h,ha => by
  simp only [List.take_succ_cons,prtL] at h0 ⊢
  by_cases hb:prtN b = 0
  ·rw [if_pos hb] at h0 ⊢;exact prtL_next h0 (by simpa using h) ha
  ·rw [if_neg hb] at h0;exact absurd h0 hb
theorem prtL_hit:∀ {l:List Exp} {k:Nat} {a:Exp},prtL (l.take k) = 0 → l[k]? = some a → prtN a ≠ 0 → prtL l = prtN a
 | [],k,a,_,h,_ => by simp at h
 | b :: l,0,a,_,h,ha => by simp at h;subst h;simp [prtL,ha]
 | b :: l,k + 1,a,h0,h,ha => by
  simp only [List.take_succ_cons,prtL] at h0 ⊢
  by_cases hb:prtN b = 0
  ·rw [if_pos hb] at h0 ⊢;exact prtL_hit h0 (by simpa using h) ha
  ·rw [if_neg hb] at h0;exact absurd h0 hb
theorem XRep.kids {w:World} {S:Nat → Prop} {x:Exp} {A:Option Addr} {c:Nat} (hx:XRep w S [.int .i64 x.op,.int .i64 x.v.k,.int .i64 x.v.n,.string x.v.s,.string x.name,.slice A x.args.length c] x) :
  inI x.op ∧ x.v.wf ∧ inS x.name ∧ inB 80 x.args.length ∧ x.args.length ≤ c ∧ Sl w S 6 (XRep w S) A x.args.length x.args ∧ ∀ (i:Nat) (a:Exp),x.args[i]? = some a → a.nodes + 1 ≤ x.nodes:=by
 obtain ⟨A0,c0,e0,i1,i2,i3,i4,i5,hsl⟩:=hx.open_
 simp only [List.cons.injEq,Value.slice.injEq,and_true,true_and] at e0
 obtain ⟨rfl,rfl⟩:=e0
 refine ⟨i1,i2,i3,i4,i5,hsl,?_⟩
 obtain ⟨op,v,nm,args⟩:=x
 intro i a h
 have:=nodes_at args i a h
 simp only [Exp.nodes]
 omega
end Go.Proofs.YtldbpmlgbbomcaaGreatDoor
/- The walk of expr.shapes: a table of 57 cells built and stored whole. -/
namespace Go.Proofs.YtldbpmlgbbomcaaGreatDoor
open Go.RowKit

theorem below_setRow {n:Nat} {a b:World} {g:Nat} {cs:Array Value} (h:Below n a b) (hg:n ≤ g):Below n a (b.setRow g cs) :=
 ⟨h.os,h.tape,h.output,by simpa using h.size,fun k hk => by rw [setRow_other _ _ _ _ (by omega)];exact h.block k hk⟩
set_option maxRecDepth 100000 in
set_option maxHeartbeats 1000000 in
theorem expr_shapes (w:World):Calls Tryz.prog 16 #[] w fun e w' => e = .returned (.agg shapesC.toArray) ∧ Below w.heap.size w w':=by
 go_enter Tryz.func16,Tryz.ntmps16
 go_wp2_with (first
  | (refine wpList_buildTo rfl 50 _ rfl (some 19) rfl shapesC.toArray (by kernel_rfl) ?_)
  | (refine wpList_store_rowTo rfl 50 _ _ rfl rfl w.heap.size shapesC.toArray rfl rfl 50 _ (heap_alloc_new w _) (by kernel_rfl) (by kernel_rfl) (by kernel_rfl) ?_))
 generalize hW:World.setRow _ _ _ = W
 have h1:W.heap[w.heap.size]? = some (.cells shapesC.toArray 50 (0,0)):=by
  rw [← hW];exact setRow_heap _ _ _ _ _ _ (heap_alloc_new w _)
 have hl:=run_loadVar_row (P:=Tryz.prog) W w.heap.size _ 50 shapesC.toArray _ _ h1 Tryz.underlying50 rfl (by kernel_rfl)
 have hb:Below w.heap.size w W:=by
  rw [← hW];exact below_setRow ((Below.refl _ _).alloc (Nat.le_refl _) _) (Nat.le_refl _)
 clear hW h1
 generalize shapesC.toArray = sc at hl ⊢
 refine bodyPost_ret (v:=.agg sc) ?_ rfl ⟨rfl,hb⟩
 simp [results,Tryz.results16,asAddr,Act.put,hl]
end Go.Proofs.YtldbpmlgbbomcaaGreatDoor
/- The walks of expr.part and of expr.parts. -/
namespace Go.Proofs.YtldbpmlgbbomcaaGreatDoor
open Go.RowKit

set_option maxRecDepth 100000 in
set_option maxHeartbeats 2000000 in
theorem expr_part (op vk vn:Int) (vs name:ByteArray) (A:Option Addr) (n c:Nat) (w:World) (hvs:vs.size ≤ maxLen) (hnm:name.size ≤ maxLen) (hn0:inL n) :
  Calls Tryz.prog 89 #[.agg #[.int .i64 op,.int .i64 vk,.int .i64 vn,.string vs,.string name,.slice A n c]] w (RetI w (partErr op ⟨vk,vn,vs⟩ name n)):=by
 have hn:n ≤ 140737488351232:=hn0
 by_cases ho:op < 1 ∨ 18 < op
 ·rw [partErr_out ho]
  rcases ho with ho | ho
  ·go_enter Tryz.func89,Tryz.ntmps89
   go_wp2_with fail
   go_ret
   exact ⟨rfl,bel⟩
  ·have ho':¬ op < 1:=by omega
   go_enter Tryz.func89,Tryz.ntmps89
   go_wp2_with fail
   go_ret
   exact ⟨rfl,bel⟩
 ·obtain ⟨s,k,hix⟩:=shape_ix op (by omega) (by omega)
  rw [partErr_in ho]
  have h1:¬ op < 1:=by omega
  have h2:¬ 18 < op:=by omega
  by_cases hl:(n:Int) = argsN op
  ·have hl':((n:Int) != argsN op) = false:=by simpa using hl
   by_cases e1:op = 1
   ·subst e1
    rcases part_const (v:=⟨vk,vn,vs⟩) (name:=name) hl with ⟨z,e⟩ | ⟨z,z2,e⟩ | ⟨z,z2,z3,z4,e⟩ | ⟨z,z2,z3,z4,e⟩ | ⟨z,z2,z3,e⟩
    all_goals
     simp only [e,Bool.false_eq_true,if_false,if_true]
     try dsimp only at z3
     try dsimp only at z4
     try (have z3':(vk == 1) = true:=by simpa using z3)
     try (have z3':(vk == 1) = false:=by simpa using z3)
     try (have z4':¬ vn < 0:=by omega)
     try (have hkn:=fun w => value_Known vk vn vs w hvs;simp only [z2] at hkn)
     try clear z3
     clear e hl
     generalize argsN 1 = q at hix hl'
     go_enter Tryz.func89,Tryz.ntmps89
     go_wp2_with fail
     refine wp_world ?_;intro W0 hW0
     have hS0:W0.cell? ⟨w.heap.size,5,none⟩ = some (.slice A n c) ∧ W0.cell? ⟨w.heap.size,0,none⟩ = some (.int .i64 1) ∧ Below W0.heap.size W0 W0 ∧ W0.heap.size ≤ W0.heap.size:=⟨by rw [hW0];go_simp,by rw [hW0];go_simp,Below.refl _ _,Nat.le_refl _⟩
     have HW0:=Lib.hid hW0;clear hW0
     refine wp_quietC (C:=fun w' => w'.cell? ⟨w.heap.size,5,none⟩ = some (.slice A n c) ∧ w'.cell? ⟨w.heap.size,0,none⟩ = some (.int .i64 1) ∧ Below W0.heap.size W0 w' ∧ W0.heap.size ≤ w'.heap.size) (by kernel_rfl) (by kernel_rfl) (held2d hS0) ?_
     clear hS0
     repeat (first
      | go_big_quiet_skip
      | (go_big_quiet_want;go_big_quiet_op;go_big_quiet_on)
      |
       go_big_quiet_want
       apply Exists.intro
       refine ⟨fun w' hw' => ?_,?_⟩
       ·unfold Oper.quietAt
        have hqs:=hw'
        obtain ⟨hq0,hq1,hqb,hql⟩:=hw'
        try go_simp
        first
         | with_reducible rfl
         | exact ⟨rfl,rfl⟩
         | (go_at_call 16;refine Calls.mono (expr_shapes _) ?_;rintro e w' ⟨rfl,hb⟩;exact ⟨rfl,held2 hqs hb⟩)
       go_big_quiet_on
       try go_simp)
     refine wpQuiet_nil ?_;intro wq9;(try simp only [and_imp]);intro hq0 hq1 hb9 hql;clear hq0 hq1 hql
     have hW0:=HW0.out;clear HW0;subst hW0
     obtain ⟨hc9,hf9⟩:=bcell hb9;(try simp only [bqh,bqc,bqf] at hc9 hf9);have hz9:=hb9.size;(try simp at hz9);(try have hy9:=nl1 hz9);(try have hx9:=nl2 hy9)
     first
      | (go_wp2_with fail;go_ret;exact ⟨rfl,bel⟩)
      | (go_wp2_with (go_at_call 129;refine (hkn _).mono ?_;rintro e w2 ⟨rfl,hb2⟩;obtain ⟨hc2,hf2⟩:=bcell hb2;(try simp only [bqh,bqc,bqf] at hc2 hf2);have hz2:=hb2.size;(try simp at hz2);(try have hy2:=nl1 hz2);(try have hx2:=nl2 hy2);refine szz w2 w ?_;intros;refine szz w2 wq9 ?_;intros;);go_ret;exact ⟨rfl,bel⟩)
   ·by_cases e2:op = 2
    ·subst e2
     rcases part_ref (v:=⟨vk,vn,vs⟩) (name:=name) hl with ⟨z,e⟩ | ⟨z,z2,e⟩ | ⟨z,z2,e⟩
     all_goals
      simp only [e,Bool.false_eq_true,if_false,if_true]
      have hlx:=fun w => lex_Name name w hnm
      try (have z':(nameCheck name != 0) = true:=by simpa using z)
      try simp only [z] at hlx
      have hne:=fun w => run_neq_Val w vk vn 0 0 vs ⟨#[]⟩
      try simp only [z2,Bool.not_true,Bool.not_false] at hne
      clear z e hl
      generalize argsN 2 = q at hix hl'
      go_enter Tryz.func89,Tryz.ntmps89
      go_wp2_with fail
      refine wp_world ?_;intro W0 hW0
      have hS0:W0.cell? ⟨w.heap.size,5,none⟩ = some (.slice A n c) ∧ W0.cell? ⟨w.heap.size,0,none⟩ = some (.int .i64 2) ∧ Below W0.heap.size W0 W0 ∧ W0.heap.size ≤ W0.heap.size:=⟨by rw [hW0];go_simp,by rw [hW0];go_simp,Below.refl _ _,Nat.le_refl _⟩
      have HW0:=Lib.hid hW0;clear hW0
      refine wp_quietC (C:=fun w' => w'.cell? ⟨w.heap.size,5,none⟩ = some (.slice A n c) ∧ w'.cell? ⟨w.heap.size,0,none⟩ = some (.int .i64 2) ∧ Below W0.heap.size W0 w' ∧ W0.heap.size ≤ w'.heap.size) (by kernel_rfl) (by kernel_rfl) (held2d hS0) ?_
      clear hS0
      repeat (first
       | go_big_quiet_skip
       | (go_big_quiet_want;go_big_quiet_op;go_big_quiet_on)
       |
        go_big_quiet_want
        apply Exists.intro
        refine ⟨fun w' hw' => ?_,?_⟩
        ·unfold Oper.quietAt
         have hqs:=hw'
         obtain ⟨hq0,hq1,hqb,hql⟩:=hw'
         try go_simp
         first
          | with_reducible rfl
          | exact ⟨rfl,rfl⟩
          | (go_at_call 16;refine Calls.mono (expr_shapes _) ?_;rintro e w' ⟨rfl,hb⟩;exact ⟨rfl,held2 hqs hb⟩)
        go_big_quiet_on
        try go_simp)
      refine wpQuiet_nil ?_;intro wq9;(try simp only [and_imp]);intro hq0 hq1 hb9 hql;clear hq0 hq1 hql
      have hW0:=HW0.out;clear HW0;subst hW0
      obtain ⟨hc9,hf9⟩:=bcell hb9;(try simp only [bqh,bqc,bqf] at hc9 hf9);have hz9:=hb9.size;(try simp at hz9);(try have hy9:=nl1 hz9);(try have hx9:=nl2 hy9)
      go_wp2_with (go_at_call 68;refine (hlx _).mono ?_;rintro e w2 ⟨rfl,rfl⟩)
      go_ret
      exact ⟨rfl,bel⟩
    ·rcases part_other (v:=⟨vk,vn,vs⟩) (name:=name) e1 e2 hl with ⟨z,e⟩ | ⟨z,z2,e⟩ | ⟨z,z2,e⟩
     all_goals
      simp only [e,Bool.false_eq_true,if_false,if_true]
      have hne:=fun w => run_neq_Val w vk vn 0 0 vs ⟨#[]⟩
      try simp only [z2,Bool.not_true,Bool.not_false] at hne
      have e1':(op == 1) = false:=by simpa using e1
      have e2':(op == 2) = false:=by simpa using e2
      clear e hl e1 e2
      generalize argsN op = q at hix hl'
      go_enter Tryz.func89,Tryz.ntmps89
      go_wp2_with fail
      refine wp_world ?_;intro W0 hW0
      have hS0:W0.cell? ⟨w.heap.size,5,none⟩ = some (.slice A n c) ∧ W0.cell? ⟨w.heap.size,0,none⟩ = some (.int .i64 op) ∧ Below W0.heap.size W0 W0 ∧ W0.heap.size ≤ W0.heap.size:=⟨by rw [hW0];go_simp,by rw [hW0];go_simp,Below.refl _ _,Nat.le_refl _⟩
      have HW0:=Lib.hid hW0;clear hW0
      refine wp_quietC (C:=fun w' => w'.cell? ⟨w.heap.size,5,none⟩ = some (.slice A n c) ∧ w'.cell? ⟨w.heap.size,0,none⟩ = some (.int .i64 op) ∧ Below W0.heap.size W0 w' ∧ W0.heap.size ≤ w'.heap.size) (by kernel_rfl) (by kernel_rfl) (held2d hS0) ?_
      clear hS0
      repeat (first
       | go_big_quiet_skip
       | (go_big_quiet_want;go_big_quiet_op;go_big_quiet_on)
       |
        go_big_quiet_want
        apply Exists.intro
        refine ⟨fun w' hw' => ?_,?_⟩
        ·unfold Oper.quietAt
         have hqs:=hw'
         obtain ⟨hq0,hq1,hqb,hql⟩:=hw'
         try go_simp
         first
          | with_reducible rfl
          | exact ⟨rfl,rfl⟩
          | (go_at_call 16;refine Calls.mono (expr_shapes _) ?_;rintro e w' ⟨rfl,hb⟩;exact ⟨rfl,held2 hqs hb⟩)
        go_big_quiet_on
        try go_simp)
      refine wpQuiet_nil ?_;intro wq9;(try simp only [and_imp]);intro hq0 hq1 hb9 hql;clear hq0 hq1 hql
      have hW0:=HW0.out;clear HW0;subst hW0
      obtain ⟨hc9,hf9⟩:=bcell hb9;(try simp only [bqh,bqc,bqf] at hc9 hf9);have hz9:=hb9.size;(try simp at hz9);(try have hy9:=nl1 hz9);(try have hx9:=nl2 hy9)
      go_wp2_with fail
      go_ret
      exact ⟨rfl,bel⟩
  ·have e:partOk op ⟨vk,vn,vs⟩ name n = false:=by rw [partOk,decide_eq_false hl,Bool.false_and]
   simp only [e,Bool.false_eq_true,if_false]
   have hl':((n:Int) != argsN op) = true:=by simpa using hl
   clear e hl
   generalize argsN op = q at hix hl'
   go_enter Tryz.func89,Tryz.ntmps89
   go_wp2_with fail
   refine wp_world ?_;intro W0 hW0
   have hS0:W0.cell? ⟨w.heap.size,5,none⟩ = some (.slice A n c) ∧ W0.cell? ⟨w.heap.size,0,none⟩ = some (.int .i64 op) ∧ Below W0.heap.size W0 W0 ∧ W0.heap.size ≤ W0.heap.size:=⟨by rw [hW0];go_simp,by rw [hW0];go_simp,Below.refl _ _,Nat.le_refl _⟩
   have HW0:=Lib.hid hW0;clear hW0
   refine wp_quietC (C:=fun w' => w'.cell? ⟨w.heap.size,5,none⟩ = some (.slice A n c) ∧ w'.cell? ⟨w.heap.size,0,none⟩ = some (.int .i64 op) ∧ Below W0.heap.size W0 w' ∧ W0.heap.size ≤ w'.heap.size) (by kernel_rfl) (by kernel_rfl) (held2d hS0) ?_
   clear hS0
   repeat (first
    | go_big_quiet_skip
    | (go_big_quiet_want;go_big_quiet_op;go_big_quiet_on)
    |
     go_big_quiet_want
     apply Exists.intro
     refine ⟨fun w' hw' => ?_,?_⟩
     ·unfold Oper.quietAt
      have hqs:=hw'
      obtain ⟨hq0,hq1,hqb,hql⟩:=hw'
      try go_simp
      first
       | with_reducible rfl
       | exact ⟨rfl,rfl⟩
       | (go_at_call 16;refine Calls.mono (expr_shapes _) ?_;rintro e w' ⟨rfl,hb⟩;exact ⟨rfl,held2 hqs hb⟩)
     go_big_quiet_on
     try go_simp)
   refine wpQuiet_nil ?_;intro wq9;(try simp only [and_imp]);intro hq0 hq1 hb9 hql;clear hq0 hq1 hql
   have hW0:=HW0.out;clear HW0;subst hW0
   obtain ⟨hc9,hf9⟩:=bcell hb9;(try simp only [bqh,bqc,bqf] at hc9 hf9);have hz9:=hb9.size;(try simp at hz9);(try have hy9:=nl1 hz9);(try have hx9:=nl2 hy9)
   go_wp2_with fail
   go_ret
   exact ⟨rfl,bel⟩
end Go.Proofs.YtldbpmlgbbomcaaGreatDoor
/- What is wrong with a formula. -/
namespace Go.Proofs.YtldbpmlgbbomcaaGreatDoor
open Go.RowKit

def exprErr (x:Exp):Int:=if 60 < szN x then 1 else if 12 < dpN x then 4 else prtN x
end Go.Proofs.YtldbpmlgbbomcaaGreatDoor
/- expr.parts and expr.Check. -/
namespace Go.Proofs.YtldbpmlgbbomcaaGreatDoor
open Go.RowKit

set_option maxRecDepth 100000 in
set_option maxHeartbeats 1000000 in
theorem expr_parts (N:Nat):∀ (x:Exp) (A:Option Addr) (c:Nat) (w:World),x.nodes ≤ N →
  XRep w (old w) [.int .i64 x.op,.int .i64 x.v.k,.int .i64 x.v.n,.string x.v.s,.string x.name,.slice A x.args.length c] x →
  Calls Tryz.prog 43 #[.agg #[.int .i64 x.op,.int .i64 x.v.k,.int .i64 x.v.n,.string x.v.s,.string x.name,.slice A x.args.length c]] w (RetI w (prtN x)):=by
 induction N with
 | zero =>
  intro x A c w hN
  obtain ⟨op,v,nm,args⟩:=x
  simp [Exp.nodes] at hN
 | succ N ih =>
  intro x A c w hN hx
  have HI:=Lib.hid ih
  clear ih
  obtain ⟨i1,i2,i3,i4,i5,hsl,hch⟩:=hx.kids
  have HH:=Lib.hid (And.intro hsl (fun i a h => by have:=hch i a h;omega:∀ (i:Nat) (a:Exp),x.args[i]? = some a → a.nodes ≤ N))
  have hlen:x.args.length ≤ 1759218604416:=by unfold inB at i4;omega
  have hpt:=fun w => expr_part x.op x.v.k x.v.n x.v.s x.name A x.args.length c w (inS_max i2.2.2) (inS_max i3) (i4.l (by decide))
  have hpn:=prtN_eq x
  rw [show (⟨x.v.k,x.v.n,x.v.s⟩:Val) = x.v from rfl] at hpt
  clear hsl hch hx hN i1 i2 i3 i4 i5
  by_cases h0:partErr x.op x.v x.name x.args.length = 0
  ·rw [if_pos h0] at hpn
   simp only [h0] at hpt
   rw [hpn]
   clear h0 hpn
   generalize hR:prtL x.args = R
   have HR:=Lib.hid hR
   clear hR
   go_enter Tryz.func43,Tryz.ntmps43
   go_wp2_with (go_at_call 89;refine (hpt _).mono ?_;rintro e w1 ⟨rfl,hb1⟩;obtain ⟨hc1,hf1⟩:=bcell hb1;(try simp only [bqh,bqc,bqf] at hc1 hf1);have hz1:=hb1.size;(try simp at hz1);(try have hy1:=nl1 hz1);(try have hx1:=nl2 hy1);refine szz w1 w ?_;intros)
   have hW1:Below w.heap.size w w1:=bel
   go_loopw [15] (fun i wr => ∃ k:Nat,k ≤ x.args.length ∧ i = .int .i64 k ∧ prtL (x.args.take k) = 0 ∧ Below w1.heap.size w1 wr) (fun i _ => x.args.length - (intOf i).toNat)
   case atStart => exact ⟨0,by omega,rfl,by simp [prtL],Below.refl _ _⟩
   case round =>
    obtain ⟨k,hk,rfl,hz,hbr⟩:=hrel
    have hbw:Below w.heap.size w wr:=below_step hW1 hbr hW1.size
    by_cases hlt:k < x.args.length
    ·obtain ⟨b,o,a,X,C,hAe,hbl,hl,hxa,x0,x1,x2,x3,x4,x5⟩:=Exp_at (HH.out.1.nowN keeps_Exp hbw) hlt
     subst hAe
     have hbl':b < wr.heap.size:=hbl
     have HX:=Lib.hid (And.intro hxa (And.intro (HH.out.2 k a hl) (And.intro hl hz)))
     clear hxa hl hz hbl
     have hia:=fun w (h:XRep w (old w) [.int .i64 a.op,.int .i64 a.v.k,.int .i64 a.v.n,.string a.v.s,.string a.name,.slice X a.args.length C] a) => HI.out a X C w HX.out.2.1 h
     by_cases hp:prtN a = 0
     ·have hp':prtL (x.args.take (k + 1)) = 0:=prtL_next HX.out.2.2.2 HX.out.2.2.1 hp
      have HP:=Lib.hid hp'
      simp only [hp] at hia
      clear hp hp'
      go_wp2_with (go_at_call 43;refine (hia _ (HX.out.1.keep (old_keep bel))).mono ?_;rintro e w2 ⟨rfl,hb2⟩)
      go_roundw
      case rel => exact ⟨k + 1,by omega,by go_num,HP.out,bel⟩
      case measure => simp [intOf];omega
     ·have hr:prtL x.args = prtN a:=prtL_hit HX.out.2.2.2 HX.out.2.2.1 hp
      rw [HR.out] at hr
      have hp':(prtN a != 0) = true:=by simpa using hp
      rw [← hr] at hp'
      simp only [← hr] at hia
      clear hp hr
      go_wp2_with (go_at_call 43;refine (hia _ (HX.out.1.keep (old_keep bel))).mono ?_;rintro e w2 ⟨rfl,hb2⟩)
      go_ret
      exact ⟨rfl,bel⟩
    ·have hkn:k = x.args.length:=by omega
     subst hkn
     have etk:x.args.take x.args.length = x.args:=List.take_of_length_le (Nat.le_refl _)
     rw [etk,HR.out] at hz
     subst hz
     go_wp2_with fail
     go_ret
     exact ⟨rfl,hbw⟩
  ·rw [if_neg h0] at hpn
   rw [hpn]
   have h0':(partErr x.op x.v x.name x.args.length != 0) = true:=by simpa using h0
   clear h0 hpn
   generalize partErr x.op x.v x.name x.args.length = R at hpt h0' ⊢
   go_enter Tryz.func43,Tryz.ntmps43
   go_wp2_with (go_at_call 89;refine (hpt _).mono ?_;rintro e w1 ⟨rfl,hb1⟩;obtain ⟨hc1,hf1⟩:=bcell hb1;(try simp only [bqh,bqc,bqf] at hc1 hf1);have hz1:=hb1.size;(try simp at hz1);(try have hy1:=nl1 hz1);(try have hx1:=nl2 hy1);refine szz w1 w ?_;intros)
   go_ret
   exact ⟨rfl,bel⟩
set_option maxRecDepth 100000 in
set_option maxHeartbeats 1000000 in
theorem expr_Check (x:Exp) (A:Option Addr) (c:Nat) (w:World) (hx:XRep w (old w) [.int .i64 x.op,.int .i64 x.v.k,.int .i64 x.v.n,.string x.v.s,.string x.name,.slice A x.args.length c] x) :
  Calls Tryz.prog 19 #[.agg #[.int .i64 x.op,.int .i64 x.v.k,.int .i64 x.v.n,.string x.v.s,.string x.name,.slice A x.args.length c]] w (RetI w (exprErr x)):=by
 have HX:=Lib.hid hx
 have hpt:=fun w h => expr_parts _ x A c w (Nat.le_refl _) h
 have hsz:=fun w h => expr_Size _ x A c w (Nat.le_refl _) h
 have he:exprErr x = if 60 < szN x then 1 else if 12 < dpN x then 4 else prtN x:=rfl
 clear hx
 generalize exprErr x = R at he ⊢
 generalize szN x = s at hsz he
 generalize dpN x = d at hsz he
 generalize prtN x = p at hpt he
 by_cases h1:60 < s
 ·rw [if_pos h1] at he
  subst he
  go_enter Tryz.func19,Tryz.ntmps19
  go_wp2_with (go_at_call 42;refine (hsz _ (HX.out.keep (old_keep bel))).mono ?_;rintro e w1 ⟨rfl,hb1⟩;obtain ⟨hc1,hf1⟩:=bcell hb1;(try simp only [bqh,bqc,bqf] at hc1 hf1);have hz1:=hb1.size;(try simp at hz1);(try have hy1:=nl1 hz1);(try have hx1:=nl2 hy1);refine szz w1 w ?_;intros)
  go_ret
  exact ⟨rfl,bel⟩
 ·rw [if_neg h1] at he
  by_cases h2:12 < d
  ·rw [if_pos h2] at he
   subst he
   go_enter Tryz.func19,Tryz.ntmps19
   go_wp2_with (go_at_call 42;refine (hsz _ (HX.out.keep (old_keep bel))).mono ?_;rintro e w1 ⟨rfl,hb1⟩;obtain ⟨hc1,hf1⟩:=bcell hb1;(try simp only [bqh,bqc,bqf] at hc1 hf1);have hz1:=hb1.size;(try simp at hz1);(try have hy1:=nl1 hz1);(try have hx1:=nl2 hy1);refine szz w1 w ?_;intros)
   go_ret
   exact ⟨rfl,bel⟩
  ·rw [if_neg h2] at he
   subst he
   go_enter Tryz.func19,Tryz.ntmps19
   go_wp2_with (first | (go_at_call 42;refine (hsz _ (HX.out.keep (old_keep bel))).mono ?_;rintro e w1 ⟨rfl,hb1⟩;obtain ⟨hc1,hf1⟩:=bcell hb1;(try simp only [bqh,bqc,bqf] at hc1 hf1);have hz1:=hb1.size;(try simp at hz1);(try have hy1:=nl1 hz1);(try have hx1:=nl2 hy1);refine szz w1 w ?_;intros;) | (go_at_call 43;refine (hpt _ (HX.out.keep (old_keep bel))).mono ?_;rintro e w2 ⟨rfl,hb2⟩))
   go_ret
   exact ⟨rfl,bel⟩
end Go.Proofs.YtldbpmlgbbomcaaGreatDoor
