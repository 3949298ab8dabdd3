/- value.Show and the reference ValueText: what a value is shown as. -/
import Derived.Test.YtnmodemdfclkpaaDoorShelf
import Derived.Test.YtnmodemdfclkpaaDoorVal
import Derived.Test.YtnmodemdfclkpaaDoorShowP
import Derived.Lib.ItoaLen
namespace Go.Proofs.YtnmodemdfclkpaaDoor
open Go.RowKit

theorem tab_keep {n:String} {g:Nat} {k:IntKind} {zs:List Int} {w w':World} (hg:Tryd.prog.globalNamed n = some g) (h:Lib.TabIs Tryd.prog w n k zs) (hb:Below w.heap.size w w'):Lib.TabIs Tryd.prog w' n k zs:=by
 unfold Lib.TabIs World.var? at h ⊢
 rw [hg] at h ⊢
 simp only [Option.bind_some] at h ⊢
 have hlt:g < w.heap.size:=by
  rcases Nat.lt_or_ge g w.heap.size with h' | h'
  ·exact h'
  ·rw [Array.getElem?_eq_none h'] at h;cases h
 rw [hb.block g hlt]
 exact h
def ofL (l:List UInt8):ByteArray:=⟨l.toArray⟩
def showL (v:Val):List UInt8 :=
 if v.k = 1 then Lib.itoa v.n else if v.k = 2 then Lib.formatBool (v.n == 1) else if v.k = 3 then 34 :: (escL v.s.data.toList ++ [34]) else if v.k = 4 then [63] else 33 :: Lib.itoa v.n
def showV (v:Val):ByteArray:=if valCheck v = 0 then ofL (showL v) else ⟨#[]⟩
def RetSE (w:World) (s:ByteArray) (c:Int) (e:Ending) (w':World):Prop:=e = .returned (.tuple #[.string s,.int .i64 c]) ∧ Below w.heap.size w w'
theorem escL_len (l:List UInt8):(escL l).length ≤ 2 * l.length:=by
 unfold escL
 induction l with
 | nil => simp
 | cons a l ih =>
  have:(escF a).length ≤ 2:=by unfold escF;split <;> simp
  rw [List.flatMap_cons,List.length_append,List.length_cons]
  omega
theorem app_ofL (a b:List UInt8):ofL a ++ ofL b = ofL (a ++ b):=by
 apply toList_inj
 rw [ByteArray.toList_eq,ByteArray.toList_eq]
 simp [ofL]
theorem lit_ofL (a:Array UInt8):(⟨a⟩:ByteArray) = ofL a.toList:=rfl
theorem flatTwo_len (a:UInt8) (l:List UInt8):(l.flatMap (fun c => if c = a then [92,a] else [c])).length ≤ 2 * l.length:=by
 induction l with
 | nil => simp
 | cons b l ih =>
  have h2:(if b = a then [92,a] else [b]).length ≤ 2:=by split <;> simp
  rw [List.flatMap_cons,List.length_append,List.length_cons]
  omega
theorem itoa_in {v:Val} (h:v.wf):-9223372036854775808 ≤ v.n ∧ v.n ≤ 9223372036854775807:=inI_bd h.2.1
theorem below_grow {n:Nat} {a b:World} {k:Nat} {os:Array Obj} (h:Below n a b) (hn:n ≤ b.heap.size):Below n a (Sort.grow (b.drewN k) os) :=
 ⟨h.os,h.tape,h.output,by have:=h.size;simp [Sort.grow];omega,fun k' hk => (by simp only [Sort.grow];rw [Array.getElem?_append_left (by simp;omega)];exact h.block k' hk)⟩

theorem extract_one (s:ByteArray) (k:Nat) (h:k < s.size):s.extract k (k + 1) = ofL [s[k]]:=by
 apply toList_inj
 rw [ByteArray.toList_eq,ByteArray.toList_eq]
 rw [Lib.extract_data]
 have h1:k < s.data.toList.length:=by simpa using h
 rw [Nat.add_sub_cancel_left,List.drop_eq_getElem_cons h1]
 rfl
theorem byte3 (c:UInt8):c = 34 ∨ c = 92 ∨ (c ≠ 34 ∧ c ≠ 92):=by
 by_cases h1:c = 34
 ·exact .inl h1
 ·by_cases h2:c = 92
  ·exact .inr (.inl h2)
  ·exact .inr (.inr ⟨h1,h2⟩)
theorem byte_ne {a b:UInt8} (h:a ≠ b):((a.toNat:Int) == (b.toNat:Int)) = false:=by
 rw [beq_eq_false_iff_ne]
 intro e
 exact h (UInt8.toNat_inj.1 (by omega))
theorem escL_snoc (l:List UInt8) (c:UInt8):escL (l ++ [c]) = escL l ++ escF c:=by simp [escL]
end Go.Proofs.YtnmodemdfclkpaaDoor
