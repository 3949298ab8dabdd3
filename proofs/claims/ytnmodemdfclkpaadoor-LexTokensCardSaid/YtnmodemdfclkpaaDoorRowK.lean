/- Rows of tokens: slices.Equal, sameTokens. -/
import Derived.Test.YtnmodemdfclkpaaDoorTypes
import Derived.Deep.QuietTactic
import Derived.BigQuiet
namespace Go.Proofs.YtnmodemdfclkpaaDoor
open Go.RowKit

def Tkn.wf (_:Tkn):Prop:=True
def RTkn (cs:List Value) (v:Tkn):Prop:=cs = v.cs ∧ v.wf
theorem Tkn_at {w:World} {S:Nat → Prop} {A:Option Addr} {n k:Nat} {l:List Tkn} (h:Sl w S 6 RTkn A n l) (hk:k < n) :
  ∃ b o c,A = some ⟨b,o,none⟩ ∧ S b ∧ l[k]? = some c ∧ c.wf ∧ w.cell? ⟨b,o + k * 6,none⟩ = some (.int .i64 c.kind) ∧ w.cell? ⟨b,o + k * 6 + 1,none⟩ = some (.int .i64 c.at_) ∧ w.cell? ⟨b,o + k * 6 + 2,none⟩ = some (.string c.s) ∧ w.cell? ⟨b,o + k * 6 + 3,none⟩ = some (.int .i64 c.v.k) ∧ w.cell? ⟨b,o + k * 6 + 4,none⟩ = some (.int .i64 c.v.n) ∧ w.cell? ⟨b,o + k * 6 + 5,none⟩ = some (.string c.v.s):=by
 obtain ⟨b,o,c,cs,rfl,hs,hl,⟨rfl,hw⟩,_,hc⟩:=h.at_ hk
 exact ⟨b,o,c,rfl,hs,hl,hw,hc 0 (by decide),hc 1 (by decide),hc 2 (by decide),hc 3 (by decide),hc 4 (by decide),hc 5 (by decide)⟩
theorem Tryd.infoTkn:(Tryd.prog.info? 31).map (fun i => (i.zero,i.size,i.bytes)) = some (some (.agg #[.int .i64 0,.int .i64 0,.string ⟨#[]⟩,.int .i64 0,.int .i64 0,.string ⟨#[]⟩]),6,64):=by kernel_rfl
theorem oneTkn (l:List Tkn):∀ u ∈ l.flatMap Tkn.cs,u.oneCell' = true:=by
 intro u hu
 obtain ⟨x,_,hx⟩:=List.mem_flatMap.1 hu
 simp only [Tkn.cs,List.mem_cons,List.not_mem_nil,or_false] at hx
 rcases hx with rfl | rfl | rfl | rfl | rfl | rfl <;> rfl
theorem lenTkn (x:Tkn):x.cs.length = 6:=rfl
theorem Sl.cellsTkn {w:World} {S:Nat → Prop} {A:Option Addr} {n:Nat} {l:List Tkn} (h:Sl w S 6 RTkn A n l):∀ p,A = some p → ∀ j u,(l.flatMap Tkn.cs)[j]? = some u → w.cell? (p.add j) = some u :=
 Sl.cells (by decide) lenTkn (fun _ _ h => h.1) h
theorem Sl.wfTkn {w:World} {S:Nat → Prop} {A:Option Addr} {n:Nat} {l:List Tkn} (h:Sl w S 6 RTkn A n l):∀ x ∈ l,x.wf:=Sl.all_wf h fun _ _ h => h.2
theorem ownTkn {w:World} {base:Nat} {e:TypeId} {v:Value} {n:Nat} {l:List Tkn} (h:w.ownsRow base e 6 v n (l.flatMap Tkn.cs)) (hl:l.length = n) (hw:∀ a ∈ l,a.wf) :
  ∃ A c,v = .slice A n c ∧ n ≤ c ∧ Sl w (old w) 6 RTkn A n l:=own_slw Tkn.cs Tkn.wf lenTkn h hl hw
def tknEq (x y:Tkn):Bool:=(x.kind == y.kind && (x.at_ == y.at_ && (x.s.toList == y.s.toList && (x.v.k == y.v.k && (x.v.n == y.v.n && (x.v.s.toList == y.v.s.toList))))))
theorem tknEq_iff (x y:Tkn):tknEq x y = true ↔ x = y:=by
 simp only [tknEq,Bool.and_eq_true,beq_iff_eq]
 constructor
 ·intro h
  obtain ⟨a1,a2,a3,⟨a4,a5,a6⟩⟩:=x
  obtain ⟨b1,b2,b3,⟨b4,b5,b6⟩⟩:=y
  simp only at h
  simp only [Tkn.mk.injEq,Val.mk.injEq]
  grind [toList_inj]
 ·rintro rfl
  simp
theorem run_neq_Tkn (w:World) (x y:Tkn):(binOp .neq 31 (.agg #[.int .i64 x.kind,.int .i64 x.at_,.string x.s,.int .i64 x.v.k,.int .i64 x.v.n,.string x.v.s]) (.agg #[.int .i64 y.kind,.int .i64 y.at_,.string y.s,.int .i64 y.v.k,.int .i64 y.v.n,.string y.v.s])).run Tryd.prog w = .ok (.bool (!tknEq x y)) w:=by
 go_simp
 unfold tknEq
 (repeat' split) <;> simp_all
theorem run_eql_Tkn (w:World) (x y:Tkn):(binOp .eql 31 (.agg #[.int .i64 x.kind,.int .i64 x.at_,.string x.s,.int .i64 x.v.k,.int .i64 x.v.n,.string x.v.s]) (.agg #[.int .i64 y.kind,.int .i64 y.at_,.string y.s,.int .i64 y.v.k,.int .i64 y.v.n,.string y.v.s])).run Tryd.prog w = .ok (.bool (tknEq x y)) w:=by
 go_simp
 unfold tknEq
 (repeat' split) <;> simp_all
set_option maxHeartbeats 1000000 in
set_option maxRecDepth 100000 in
theorem equal_Tkn (A:Option Addr) (n c:Nat) (l:List Tkn) (A1:Option Addr) (n1 c1:Nat) (l1:List Tkn) (w:World) (hn:inL n) (hn1:inL n1) (h:Sl w (old w) 6 RTkn A n l) (h1:Sl w (old w) 6 RTkn A1 n1 l1) :
  Calls Tryd.prog 12 #[.slice A n c,.slice A1 n1 c1] w (RetB w (decide (l = l1))):=by
 unfold inL at hn hn1
 by_cases hne:n = n1
 ·subst hne
  have HH:=Lib.hid (And.intro h h1)
  clear h h1
  go_enter Tryd.func12,Tryd.ntmps12
  go_wp2_with fail
  go_loopw [13] (fun i wr => ∃ k:Nat,k ≤ n ∧ i = .int .i64 k ∧ l.take k = l1.take k ∧ Below w.heap.size w wr) (fun i _ => n - (intOf i).toNat)
  case atStart => exact ⟨0,by omega,rfl,by simp,Below.refl _ _⟩
  case round =>
   obtain ⟨k,hk,rfl,hv,hb⟩:=hrel
   by_cases hlt:k < n
   ·obtain ⟨b,o,x,rfl,_,hl,_,h0,h1,h2,h3,h4,h5⟩:=Tkn_at (HH.out.1.now hb) hlt
    obtain ⟨b1,o1,y,rfl,_,hl1,_,g0,g1,g2,g3,g4,g5⟩:=Tkn_at (HH.out.2.now hb) hlt
    have HL:=Lib.hid (And.intro hl (And.intro hl1 hv))
    clear hl hl1 hv
    have hneq:=fun w => run_neq_Tkn w x y
    cases he:tknEq x y
    ·have HE:=Lib.hid he
     go_wp2_with fail
     go_quiet (fail)
     go_wp2_with fail
     go_ret
     refine ⟨ret_bool ?_,bel⟩
     rw [eq_comm,decide_eq_false_iff_not]
     intro e
     subst e
     rw [HL.out.1] at HL
     have:=HL.out.2.1
     cases this
     rw [(tknEq_iff x x).2 rfl] at HE
     cases HE.out
    ·have HE:=Lib.hid he
     go_wp2_with fail
     go_quiet (fail)
     go_wp2_with fail
     go_roundw
     case rel =>
      refine ⟨k + 1,by omega,by go_num,?_,bel⟩
      rw [List.take_add_one,List.take_add_one,HL.out.1,HL.out.2.1,HL.out.2.2,(tknEq_iff x y).1 HE.out]
     case measure => simp [intOf];omega
   ·have hke:k = n:=by omega
    subst hke
    have e0:l.take k = l:=by rw [List.take_of_length_le (by rw [HH.out.1.len];exact Nat.le_refl _)]
    have e1:l1.take k = l1:=by rw [List.take_of_length_le (by rw [HH.out.2.len];exact Nat.le_refl _)]
    rw [e0,e1] at hv
    have HV:=Lib.hid hv
    clear hv e0 e1
    go_wp2_with fail
    go_ret
    exact ⟨ret_bool (by rw [eq_comm,decide_eq_true_iff];exact HV.out),hb⟩
 ·have hd:((n:Int) != (n1:Int)) = true:=by simp;omega
  have hf:decide (l = l1) = false:=by
   rw [decide_eq_false_iff_not]
   intro e
   exact hne (by rw [← h.len,← h1.len,e])
  rw [hf]
  clear h h1
  go_enter Tryd.func12,Tryd.ntmps12
  go_wp2_with fail
  go_ret
  exact ⟨rfl,Below.refl _ _⟩
set_option maxHeartbeats 400000 in
theorem same_Tokens (A:Option Addr) (n c:Nat) (l:List Tkn) (A1:Option Addr) (n1 c1:Nat) (l1:List Tkn) (w:World) (hn:inL n) (hn1:inL n1) (h:Sl w (old w) 6 RTkn A n l) (h1:Sl w (old w) 6 RTkn A1 n1 l1) :
  Calls Tryd.prog 6 #[.slice A n c,.slice A1 n1 c1] w (RetB w (decide (l = l1))):=by
 have HH:=Lib.hid (And.intro h h1)
 clear h h1
 go_enter Tryd.func6,Tryd.ntmps6
 go_wp2_with (refine (equal_Tkn A n c l A1 n1 c1 l1 _ hn hn1 HH.out.1 HH.out.2).mono ?_;rintro e w1 ⟨rfl,hb1⟩)
 go_ret
 exact ⟨rfl,hb1⟩
end Go.Proofs.YtnmodemdfclkpaaDoor
