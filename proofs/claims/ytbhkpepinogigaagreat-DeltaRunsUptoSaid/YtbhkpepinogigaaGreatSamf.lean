/- Texts merged: Sam Same1 Sam2 Samf. -/
import Derived.Test.YtbhkpepinogigaaGreatPrt3
import Derived.Test.YtbhkpepinogigaaGreatTypes
import Derived.Test.YtbhkpepinogigaaGreatNum
import Derived.Test.YtbhkpepinogigaaGreatPag2
import Derived.Test.YtbhkpepinogigaaGreatRig
/- sameExpr: true of a formula and its like. -/
namespace Go.Proofs.YtbhkpepinogigaaGreat
open Go.RowKit

abbrev Exp.cells (x:Exp) (A:Option Addr) (c:Nat):List Value:=[.int .i64 x.op,.int .i64 x.v.k,.int .i64 x.v.n,.string x.v.s,.string x.name,.slice A x.args.length c]
end Go.Proofs.YtbhkpepinogigaaGreat
/- slices.Equal over texts, and sameTexts: two slices that read as one list are the same. -/
namespace Go.Proofs.YtbhkpepinogigaaGreat
open Go.RowKit

theorem Str_at' {w:World} {S:Nat → Prop} {A:Option Addr} {n k:Nat} {l:List ByteArray} (h:Sl w S 1 (fun cs s => cs = [Value.string s]) A n l) (hk:k < n) :
  ∃ b o c,A = some ⟨b,o,none⟩ ∧ S b ∧ l[k]? = some c ∧ w.cell? ⟨b,o + k,none⟩ = some (.string c):=by
 obtain ⟨b,o,c,cs,rfl,hs,hl,rfl,_,hc⟩:=h.at_ hk
 have h0:=hc 0 (by decide)
 rw [Nat.mul_one] at h0
 exact ⟨b,o,c,rfl,hs,hl,h0⟩

set_option maxHeartbeats 400000 in
theorem slices_Equal_Str (A A':Option Addr) (n c n' c':Nat) (l:List ByteArray) (S S':Nat → Prop) (w:World) (hn:n ≤ 9223372036854775807)
  (h:Sl w S 1 (fun cs s => cs = [Value.string s]) A n l) (h':Sl w S' 1 (fun cs s => cs = [Value.string s]) A' n' l) :
  Calls Tryz.prog 72 #[.slice A n c,.slice A' n' c'] w fun e w' => e = .returned (.bool true) ∧ ∃ k,w' = w.drewN k:=by
 obtain rfl:n = n':=by rw [← h.len,← h'.len]
 have HH:=Lib.hid (And.intro h h')
 clear h h'
 go_enter Tryz.func72,Tryz.ntmps72
 go_wp2_with fail
 go_loopw [13] (fun i wr => ∃ k:Nat,k ≤ n ∧ i = .int .i64 k ∧ ∃ j,wr = w.drewN j) (fun i _ => n - (intOf i).toNat)
 case atStart => exact ⟨0,by omega,rfl,0,rfl⟩
 case round =>
  obtain ⟨k,hk,rfl,j,rfl⟩:=hrel
  by_cases hlt:k < n
  ·obtain ⟨b,o,x,rfl,_,hl,h0⟩:=Str_at' HH.out.1 hlt
   obtain ⟨b',o',x',rfl,_,hl',h0'⟩:=Str_at' HH.out.2 hlt
   rw [hl] at hl'
   cases hl'
   clear hl
   go_wp2_with fail
   go_quiet (fail)
   go_wp2_with fail
   go_roundw
   case rel => exact ⟨k + 1,by omega,by go_num,_,rfl⟩
   case measure => simp [intOf];omega
  ·have hke:k = n:=by omega
   subst hke
   go_wp2_with fail
   go_ret
   exact ⟨rfl,_,rfl⟩

set_option maxHeartbeats 400000 in
theorem same_Texts (A A':Option Addr) (n c n' c':Nat) (l:List ByteArray) (S S':Nat → Prop) (w:World) (hn:n ≤ 9223372036854775807)
  (h:Sl w S 1 (fun cs s => cs = [Value.string s]) A n l) (h':Sl w S' 1 (fun cs s => cs = [Value.string s]) A' n' l) :
  Calls Tryz.prog 23 #[.slice A n c,.slice A' n' c'] w fun e w' => e = .returned (.bool true) ∧ ∃ k,w' = w.drewN k:=by
 go_enter Tryz.func23,Tryz.ntmps23
 go_wp2_with (go_at_call 72;refine (slices_Equal_Str A A' n c n' c' l S S' _ hn h h').mono ?_;rintro e w1 ⟨rfl,k,rfl⟩)
 go_ret
 exact ⟨rfl,_,rfl⟩
end Go.Proofs.YtbhkpepinogigaaGreat
/- samePages: true of pages and their like. -/
namespace Go.Proofs.YtbhkpepinogigaaGreat
open Go.RowKit

theorem Sl.strOf {w:World} {S:Nat → Prop} {A:Option Addr} {n:Nat} {l:List ByteArray} (h:Sl w S 1 RStr A n l):Sl w S 1 (fun cs s => cs = [Value.string s]) A n l :=
 h.keep (fun _ _ => rfl) (fun _ _ h => h.1)
abbrev Pag.cells (p:Pag) (Y:Option Addr) (D:Nat) (X:Option Addr) (C:Nat):List Value:=[.string p.name,.slice Y p.fields.length D,.int .i64 p.skip.op,.int .i64 p.skip.v.k,.int .i64 p.skip.v.n,.string p.skip.v.s,.string p.skip.name,.slice X p.skip.args.length C]
end Go.Proofs.YtbhkpepinogigaaGreat
/- sameFields: true of fields and their like. -/
namespace Go.Proofs.YtbhkpepinogigaaGreat
open Go.RowKit

end Go.Proofs.YtbhkpepinogigaaGreat
