/- Rows of tokens: slices.Equal, sameTokens. -/
import Derived.Test.YtldbpmlgbbomcaaGreatDoorTypes
import Derived.Deep.QuietTactic
import Derived.BigQuiet
namespace Go.Proofs.YtldbpmlgbbomcaaGreatDoor
open Go.RowKit

def Tkn.wf (_:Tkn):Prop:=True
def RTkn (cs:List Value) (v:Tkn):Prop:=cs = v.cs ∧ v.wf
theorem Tkn_at {w:World} {S:Nat → Prop} {A:Option Addr} {n k:Nat} {l:List Tkn} (h:Sl w S 6 RTkn A n l) (hk:k < n) :
  ∃ b o c,A = some ⟨b,o,none⟩ ∧ S b ∧ l[k]? = some c ∧ c.wf ∧ w.cell? ⟨b,o + k * 6,none⟩ = some (.int .i64 c.kind) ∧ w.cell? ⟨b,o + k * 6 + 1,none⟩ = some (.int .i64 c.at_) ∧ w.cell? ⟨b,o + k * 6 + 2,none⟩ = some (.string c.s) ∧ w.cell? ⟨b,o + k * 6 + 3,none⟩ = some (.int .i64 c.v.k) ∧ w.cell? ⟨b,o + k * 6 + 4,none⟩ = some (.int .i64 c.v.n) ∧ w.cell? ⟨b,o + k * 6 + 5,none⟩ = some (.string c.v.s):=by
 obtain ⟨b,o,c,cs,rfl,hs,hl,⟨rfl,hw⟩,_,hc⟩:=h.at_ hk
 exact ⟨b,o,c,rfl,hs,hl,hw,hc 0 (by decide),hc 1 (by decide),hc 2 (by decide),hc 3 (by decide),hc 4 (by decide),hc 5 (by decide)⟩
theorem Tryz.infoTkn:(Tryz.prog.info? 60).map (fun i => (i.zero,i.size,i.bytes)) = some (some (.agg #[.int .i64 0,.int .i64 0,.string ⟨#[]⟩,.int .i64 0,.int .i64 0,.string ⟨#[]⟩]),6,64):=by kernel_rfl
theorem oneTkn (l:List Tkn):∀ u ∈ l.flatMap Tkn.cs,u.oneCell' = true:=by
 intro u hu
 obtain ⟨x,_,hx⟩:=List.mem_flatMap.1 hu
 simp only [Tkn.cs,List.mem_cons,List.not_mem_nil,or_false] at hx
 rcases hx with rfl | rfl | rfl | rfl | rfl | rfl <;> rfl
theorem lenTkn (x:Tkn):x.cs.length = 6:=rfl
theorem Sl.cellsTkn {w:World} {S:Nat → Prop} {A:Option Addr} {n:Nat} {l:List Tkn} (h:Sl w S 6 RTkn A n l):∀ p,A = some p → ∀ j u,(l.flatMap Tkn.cs)[j]? = some u → w.cell? (p.add j) = some u :=
 Sl.cells (by decide) lenTkn (fun _ _ h => h.1) h
theorem Sl.wfTkn {w:World} {S:Nat → Prop} {A:Option Addr} {n:Nat} {l:List Tkn} (h:Sl w S 6 RTkn A n l):∀ x ∈ l,x.wf:=Sl.all_wf h fun _ _ h => h.2
theorem ownTkn {w:World} {base:Nat} {e:TypeId} {v:Value} {n:Nat} {l:List Tkn} (h:w.ownsRow base e 6 v n (l.flatMap Tkn.cs)) (hl:l.length = n) (hw:∀ a ∈ l,a.wf) :
  ∃ A c,v = .slice A n c ∧ n ≤ c ∧ Sl w (old w) 6 RTkn A n l:=own_slw Tkn.cs Tkn.wf lenTkn h hl hw
def tknEq (x y:Tkn):Bool:=(x.kind == y.kind && (x.at_ == y.at_ && (x.s.toList == y.s.toList && (x.v.k == y.v.k && (x.v.n == y.v.n && (x.v.s.toList == y.v.s.toList))))))
theorem tknEq_iff (x y:Tkn):tknEq x y = true ↔ x = y:=by
 simp only [tknEq,Bool.and_eq_true,beq_iff_eq]
 constructor
 ·intro h
  obtain ⟨a1,a2,a3,⟨a4,a5,a6⟩⟩:=x
  obtain ⟨b1,b2,b3,⟨b4,b5,b6⟩⟩:=y
  simp only at h
  simp only [Tkn.mk.injEq,Val.mk.injEq]
  grind [toList_inj]
 ·rintro rfl
  simp
theorem run_neq_Tkn (w:World) (x y:Tkn):(binOp .neq 60 (.agg #[.int .i64 x.kind,.int .i64 x.at_,.string x.s,.int .i64 x.v.k,.int .i64 x.v.n,.string x.v.s]) (.agg #[.int .i64 y.kind,.int .i64 y.at_,.string y.s,.int .i64 y.v.k,.int .i64 y.v.n,.string y.v.s])).run Tryz.prog w = .ok (.bool (!tknEq x y)) w:=by
 go_simp
 unfold tknEq
 (repeat' split) <;> simp_all
theorem run_eql_Tkn (w:World) (x y:Tkn):(binOp .eql 60 (.agg #[.int .i64 x.kind,.int .i64 x.at_,.string x.s,.int .i64 x.v.k,.int .i64 x.v.n,.string x.v.s]) (.agg #[.int .i64 y.kind,.int .i64 y.at_,.string y.s,.int .i64 y.v.k,.int .i64 y.v.n,.string y.v.s])).run Tryz.prog w = .ok (.bool (tknEq x y)) w:=by
 go_simp
 unfold tknEq
 (repeat' split) <;> simp_all
end Go.Proofs.YtldbpmlgbbomcaaGreatDoor
