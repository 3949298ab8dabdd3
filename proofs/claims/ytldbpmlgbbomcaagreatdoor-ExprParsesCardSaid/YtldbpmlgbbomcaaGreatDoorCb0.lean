/- The reference's climber: its box in memory; next, pass. -/
import Derived.Test.YtldbpmlgbbomcaaGreatDoorRd8
import Derived.Test.YtldbpmlgbbomcaaGreatDoorCls
namespace Go.Proofs.YtldbpmlgbbomcaaGreatDoor
open Go.RowKit

def CbC (w:World) (R:Nat) (A:Option Addr) (n c p:Nat) (b:Bool):Prop :=
 w.cell? ⟨R,0,none⟩ = some (.slice A n c) ∧ w.cell? ⟨R,1,none⟩ = some (.int .i64 p) ∧ w.cell? ⟨R,2,none⟩ = some (.bool b) ∧ w.frozen? ⟨R,1,none⟩ = false ∧ w.frozen? ⟨R,2,none⟩ = false
def CbS (T0:Nat) (w:World) (R:Nat) (l:List Tkn) (p:Nat) (b:Bool):Prop :=
 ∃ A c,CbC w R A l.length c p b ∧ (l.length ≤ c ∧ p ≤ l.length ∧ l.length ≤ 160) ∧ Sl w (fun b => T0 ≤ b ∧ b < R) 6 RTkn A l.length l
theorem CbC.lt {w:World} {R:Nat} {A:Option Addr} {n c p:Nat} {b:Bool} (h:CbC w R A n c p b):R < w.heap.size:=block_lt_of_cell h.1
theorem CbC.block {w w':World} {R:Nat} {A:Option Addr} {n c p:Nat} {b:Bool} (h:CbC w R A n c p b) (hb:w'.heap[R]? = w.heap[R]?):CbC w' R A n c p b :=
 ⟨(World.cell?_of_block (a:=⟨R,0,none⟩) hb).trans h.1,(World.cell?_of_block (a:=⟨R,1,none⟩) hb).trans h.2.1,(World.cell?_of_block (a:=⟨R,2,none⟩) hb).trans h.2.2.1,(World.frozen?_of_block (a:=⟨R,1,none⟩) hb).trans h.2.2.2.1,(World.frozen?_of_block (a:=⟨R,2,none⟩) hb).trans h.2.2.2.2⟩
theorem CbS.lt {T0:Nat} {w:World} {R:Nat} {l:List Tkn} {p:Nat} {b:Bool} (h:CbS T0 w R l p b):R < w.heap.size:=by
 obtain ⟨A,c,h,_⟩:=h
 exact h.lt
theorem CbS.bd {T0:Nat} {w:World} {R:Nat} {l:List Tkn} {p:Nat} {b:Bool} (h:CbS T0 w R l p b):p ≤ l.length ∧ l.length ≤ 160:=by
 obtain ⟨A,c,_,h,_⟩:=h
 exact h.2
theorem CbS.under {T0:Nat} {w w':World} {R n:Nat} {l:List Tkn} {p:Nat} {b:Bool} (h:CbS T0 w R l p b) (hb:Below n w w') (hn:R < n):CbS T0 w' R l p b:=by
 obtain ⟨A,c,h1,h2,h3⟩:=h
 exact ⟨A,c,h1.block (hb.block R hn),h2,h3.keep (w':=w') (fun b hb' => hb.block b (by omega)) (fun _ _ h => h)⟩
theorem CbS.keep {T0:Nat} {w w':World} {R:Nat} {l:List Tkn} {p:Nat} {b:Bool} (h:CbS T0 w R l p b) (hb:Below w.heap.size w w'):CbS T0 w' R l p b:=h.under hb h.lt
theorem CbS.bes {T0:Nat} {w w':World} {R X:Nat} {l:List Tkn} {p:Nat} {b:Bool} (h:CbS T0 w R l p b) (hb:Bes X w w') (hX:R < X) (hXl:X ≤ w.heap.size):CbS T0 w' R l p b :=
 h.under (n:=R + 1) ⟨hb.os,hb.tape,hb.output,hb.size,fun k hk => hb.block k (by omega) (by omega)⟩ (by omega)
theorem cbs_sl {T0 R o:Nat} {w:World} {v:Value} {A:Option Addr} {n:Nat} {l:List Tkn} (hs:Sl w (fun b => T0 ≤ b ∧ b < R) 6 RTkn A n l) (hlt:R < w.heap.size):Sl (w.setCell ⟨R,o,none⟩ v) (fun b => T0 ≤ b ∧ b < R) 6 RTkn A n l :=
 hs.keep (fun b hb => (bes_own (o:=o) (v:=v) (Bes.refl R w)).block b (by omega) (by omega)) (fun _ _ h => h)
theorem CbS.next {T0:Nat} {w:World} {R:Nat} {l:List Tkn} {p:Nat} {b:Bool} (h:CbS T0 w R l p b) (hp:p < l.length):CbS T0 (w.setCell ⟨R,1,none⟩ (.int .i64 ((p:Int) + 1))) R l (p + 1) b:=by
 obtain ⟨A,c,h1,h2,h3⟩:=h
 have hlt:=h1.lt
 refine ⟨A,c,⟨?_,?_,?_,?_,?_⟩,⟨h2.1,hp,h2.2.2⟩,cbs_sl h3 hlt⟩
 ·rw [World.cell?_setCell_other _ _ _ _ (by simp)];exact h1.1
 ·exact World.cell?_setCell_same' _ _ _ (by rw [h1.2.1];rfl)
 ·rw [World.cell?_setCell_other _ _ _ _ (by simp)];exact h1.2.2.1
 ·rw [World.frozen?_setCell];exact h1.2.2.2.1
 ·rw [World.frozen?_setCell];exact h1.2.2.2.2
theorem CbS.lose {T0:Nat} {w:World} {R:Nat} {l:List Tkn} {p:Nat} {b:Bool} (h:CbS T0 w R l p b):CbS T0 (w.setCell ⟨R,2,none⟩ (.bool true)) R l p true:=by
 obtain ⟨A,c,h1,h2,h3⟩:=h
 have hlt:=h1.lt
 refine ⟨A,c,⟨?_,?_,?_,?_,?_⟩,h2,cbs_sl h3 hlt⟩
 ·rw [World.cell?_setCell_other _ _ _ _ (by simp)];exact h1.1
 ·rw [World.cell?_setCell_other _ _ _ _ (by simp)];exact h1.2.1
 ·exact World.cell?_setCell_same' _ _ _ (by rw [h1.2.2.1];rfl)
 ·rw [World.frozen?_setCell];exact h1.2.2.2.1
 ·rw [World.frozen?_setCell];exact h1.2.2.2.2
def nxtT (ts:List Tkn):ByteArray:=match ts with | [] => ⟨#[]⟩ | t :: _ => if t.kind = 3 then ⟨#[]⟩ else t.s
theorem nxtT_is {g:ByteArray} {ts:List Tkn} (hg:g ≠ ⟨#[]⟩):isTk g ts = decide (nxtT ts = g):=by
 cases ts with
 | nil => exact (decide_eq_false (fun h => hg h.symm)).symm
 | cons t r =>
  show (t.kind != 3 && decide (t.s = g)) = _
  by_cases h:t.kind = 3
  ·have h1:(t.kind != 3) = false:=by rw [h];rfl
   rw [h1,Bool.false_and,nxtT,if_pos h]
   exact (decide_eq_false (fun h => hg h.symm)).symm
  ·have h1:(t.kind != 3) = true:=by simpa using h
   rw [h1,Bool.true_and,nxtT,if_neg h]
theorem nxtT_beq {g:ByteArray} {ts:List Tkn} (hg:g ≠ ⟨#[]⟩):((nxtT ts).toList == g.toList) = isTk g ts:=by
 rw [nxtT_is hg,Bool.eq_iff_iff,beq_iff_eq,decide_eq_true_eq]
 exact ⟨fun h => toList_inj h,fun h => by rw [h]⟩
theorem nxtT_beq' {g:ByteArray} {ts:List Tkn} (hg:g ≠ ⟨#[]⟩):(g.toList == (nxtT ts).toList) = isTk g ts:=by
 rw [← nxtT_beq hg,Bool.eq_iff_iff,beq_iff_eq,beq_iff_eq]
 exact ⟨Eq.symm,Eq.symm⟩
set_option maxHeartbeats 1000000 in
theorem climb_next (T0 R:Nat) (l:List Tkn) (p:Nat) (b:Bool) (w:World) (h:CbS T0 w R l p b) :
  Calls Tryz.prog 50 #[.pointer (some ⟨R,0,none⟩)] w fun e w' => e = .returned (.string (nxtT (l.drop p))) ∧ Below w.heap.size w w':=by
 obtain ⟨A,c,⟨h0,h1,h2,h3,h4⟩,⟨hc,hp,h160⟩,hs⟩:=h
 by_cases hlt:p < l.length
 ·obtain ⟨g,o,t,rfl,hb,hl,hwf,x0,x1,x2,x3,x4,x5⟩:=Tkn_at hs hlt
  have hgl:g < w.heap.size:=block_lt_of_cell x0
  have hlt':(p:Int) < (l.length:Int):=by omega
  have hdr:l.drop p = t :: l.drop (p + 1):=by rw [List.getElem?_eq_getElem hlt] at hl;rw [List.drop_eq_getElem_cons hlt,Option.some.inj hl]
  rw [hdr]
  clear hs hl hb hdr
  by_cases k3:t.kind = 3
  ·have g1:(t.kind != 3) = false:=by rw [k3];rfl
   have HX:Hid (nxtT (t :: l.drop (p + 1)) = ⟨#[]⟩):=Lib.hid (by rw [nxtT,if_pos k3])
   clear k3
   go_enter Tryz.func50,Tryz.ntmps50
   go_wp2_with fail
   go_quiet (fail)
   go_wp2_with fail
   go_ret
   exact ⟨by rw [HX.out];try rfl,bel⟩
  ·have g1:(t.kind != 3) = true:=by simpa using k3
   have HX:Hid (nxtT (t :: l.drop (p + 1)) = t.s):=Lib.hid (by rw [nxtT,if_neg k3])
   clear k3
   go_enter Tryz.func50,Tryz.ntmps50
   go_wp2_with fail
   go_quiet (fail)
   go_wp2_with fail
   go_quiet (fail)
   go_wp2_with fail
   go_ret
   exact ⟨by rw [HX.out];try rfl,bel⟩
 ·have hlt':¬ (p:Int) < (l.length:Int):=by omega
  rw [List.drop_eq_nil_of_le (by omega)]
  have HX:Hid (nxtT [] = ⟨#[]⟩):=Lib.hid rfl
  clear hs
  go_enter Tryz.func50,Tryz.ntmps50
  go_wp2_with fail
  go_quiet (fail)
  go_wp2_with fail
  go_ret
  exact ⟨by rw [HX.out];try rfl,bel⟩
set_option maxHeartbeats 1000000 in
theorem climb_pass (T0 R:Nat) (l:List Tkn) (p:Nat) (g:ByteArray) (w:World) (h:CbS T0 w R l p false) (hg:g ≠ ⟨#[]⟩) (ht:isTk g (l.drop p) = true) :
  Calls Tryz.prog 92 #[.pointer (some ⟨R,0,none⟩),.string g] w fun e w' => e = .returned (.tuple #[]) ∧ CbS T0 w' R l (p + 1) false ∧ Bes R w w':=by
 have h1:=fun w h => climb_next T0 R l p false w h
 have hp:p < l.length:=by have:=tail_len ht;rw [List.length_tail,List.length_drop] at this;omega
 have hq:((nxtT (l.drop p)).toList == g.toList) = true:=by rw [nxtT_beq hg];exact ht
 generalize nxtT (l.drop p) = s at h1 hq
 obtain ⟨hbp,hb160⟩:=h.bd
 have HH:=Lib.hid (And.intro h (And.intro h1 hp))
 have hRlt:=h.lt
 obtain ⟨A,c,⟨c0,c1,c2,c3,c4⟩,_⟩:=h
 clear h1 ht hp
 go_enter Tryz.func92,Tryz.ntmps92
 go_wp2_with (go_at_call 50;refine (HH.out.2.1 _ HH.out.1).mono ?_;rintro e w1 ⟨rfl,hb1⟩;obtain ⟨hc1,hf1⟩:=bcell hb1;(try simp only [bqh,bqc,bqf] at hc1 hf1);have hz1:=hb1.size;(try simp at hz1);(try have hy1:=nl1 hz1);(try have hx1:=nl2 hy1);refine szz w1 w ?_;intros)
 exact bodyPost_ret (v:=.tuple #[]) (by simp [results,Tryz.results92,go_sem]) rfl ⟨rfl,(HH.out.1.keep hb1).next HH.out.2.2,bes⟩
set_option maxHeartbeats 1000000 in
theorem climb_pass0 (T0 R:Nat) (l:List Tkn) (p:Nat) (b:Bool) (g:ByteArray) (w:World) (h:CbS T0 w R l p b) (hg:g ≠ ⟨#[]⟩) (ht:b = true ∨ isTk g (l.drop p) = false) :
  Calls Tryz.prog 92 #[.pointer (some ⟨R,0,none⟩),.string g] w fun e w' => e = .returned (.tuple #[]) ∧ CbS T0 w' R l p true ∧ Bes R w w':=by
 have h1:=fun w h => climb_next T0 R l p b w h
 have hq:b = true ∨ ((nxtT (l.drop p)).toList == g.toList) = false:=by rw [nxtT_beq hg];exact ht
 generalize nxtT (l.drop p) = s at h1 hq
 have HH:=Lib.hid (And.intro h h1)
 have hRlt:=h.lt
 obtain ⟨A,c,⟨c0,c1,c2,c3,c4⟩,_⟩:=h
 clear h1 ht
 cases b with
 | true =>
  clear hq
  go_enter Tryz.func92,Tryz.ntmps92
  go_wp2_with fail
  go_end0
  exact ⟨rfl,HH.out.1.lose,bes⟩
 | false =>
  replace hq:(s.toList == g.toList) = false:=by rcases hq with h | h;cases h;exact h
  go_enter Tryz.func92,Tryz.ntmps92
  go_wp2_with (go_at_call 50;refine (HH.out.2 _ HH.out.1).mono ?_;rintro e w1 ⟨rfl,hb1⟩;obtain ⟨hc1,hf1⟩:=bcell hb1;(try simp only [bqh,bqc,bqf] at hc1 hf1);have hz1:=hb1.size;(try simp at hz1);(try have hy1:=nl1 hz1);(try have hx1:=nl2 hy1);refine szz w1 w ?_;intros)
  go_end0
  exact ⟨rfl,(HH.out.1.keep hb1).lose,bes⟩
def CbX (T0 R:Nat) (l:List Tkn) (w:World) (x:Exp) (p:Nat) (b:Bool) (e:Ending) (w':World):Prop :=
 ∃ A c,e = .returned (.agg #[.int .i64 x.op,.int .i64 x.v.k,.int .i64 x.v.n,.string x.v.s,.string x.name,.slice A x.args.length c]) ∧
  XRep w' (fresh w w') [.int .i64 x.op,.int .i64 x.v.k,.int .i64 x.v.n,.string x.v.s,.string x.name,.slice A x.args.length c] x ∧ CbS T0 w' R l p b ∧ Bes R w w'
def CbOk (T0 R:Nat) (l:List Tkn) (w:World) (x:Exp) (ts:List Tkn) (e:Ending) (w':World):Prop:=∃ p,l.drop p = ts ∧ CbX T0 R l w x p false e w'
def CbBad (T0 R:Nat) (l:List Tkn) (w:World) (ts:List Tkn) (e:Ending) (w':World):Prop:=∃ x p,l.drop p = ts ∧ CbX T0 R l w x p true e w'
def CPost (T0 R:Nat) (l:List Tkn) (w:World) (r:PR Exp):Ending → World → Prop:=match r with
 | .ok x ts => CbOk T0 R l w x ts
 | .bad ts => CbBad T0 R l w ts
def FrmN (T0 R:Nat) (l:List Tkn) (n:Nat):Prop:=∀ (L:Int) (p:Nat) (w:World),1 ≤ L → L ≤ 6 → (l.drop p).length < n → CbS T0 w R l p false →
 Calls Tryz.prog 21 #[.pointer (some ⟨R,0,none⟩),.int .i64 L] w (CPost T0 R l w (rdForm L (l.drop p)))
def AhdN (T0 R:Nat) (l:List Tkn) (n:Nat):Prop:=∀ (p:Nat) (w:World),(l.drop p).length < n → CbS T0 w R l p false →
 Calls Tryz.prog 48 #[.pointer (some ⟨R,0,none⟩)] w (CPost T0 R l w (rdOne (l.drop p)))
def zE:Exp:=.mk 0 tkVal ⟨#[]⟩ []
theorem zE_rep {w:World} {S:Nat → Prop}:XRep w S [.int .i64 0,.int .i64 0,.int .i64 0,.string ⟨#[]⟩,.string ⟨#[]⟩,.slice none 0 0] zE :=
 XRep.shut (v:=tkVal) (A:=none) (n:=0) (c:=0) (inI_c 0 (by omega)) ⟨inI_c 0 (by omega),inI_c 0 (by omega),str_nil_in⟩ str_nil_in (by unfold inB;omega) (Nat.le_refl _) Sl.nil
set_option maxRecDepth 100000 in
set_option maxHeartbeats 2000000 in
theorem ahead_lost (T0 R:Nat) (l:List Tkn) (p:Nat) (w:World) (h:CbS T0 w R l p true) :
  Calls Tryz.prog 48 #[.pointer (some ⟨R,0,none⟩)] w (CbX T0 R l w zE p true):=by
 have hRlt:=h.lt
 have HH:=Lib.hid h
 have n0:¬ w.heap.size = R:=by omega
 obtain ⟨A,c,⟨c0,c1,c2,c3,c4⟩,_⟩:=h
 go_enter Tryz.func48,Tryz.ntmps48
 go_wp2_with fail
 exact bodyPost_ret (v:=.agg #[.int .i64 0,.int .i64 0,.int .i64 0,.string ⟨#[]⟩,.string ⟨#[]⟩,.slice none 0 0]) (by first | (simp [results,Tryz.results48,go_sem];done) | (simp [results,Tryz.results48,go_sem, *];done)) rfl ⟨none,0,rfl,zE_rep,HH.out.keep bel,bes⟩
end Go.Proofs.YtldbpmlgbbomcaaGreatDoor
