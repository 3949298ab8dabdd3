/- The reference's FormText. -/
import Derived.Test.YtldbpmlgbbomcaaGreatDoorTxt2
import Derived.Test.YtldbpmlgbbomcaaGreatDoorRfP
import Derived.Test.YtldbpmlgbbomcaaGreatDoorEvF
namespace Go.Proofs.YtldbpmlgbbomcaaGreatDoor
open Go.RowKit Go.Maps

theorem wpList_insert3 {P:Program} {ops:Array Oper} {rest:List Oper} {o1 o2 o3:Oper} {a:Act} {Q:Exit → Act → World → Prop} (w0:World) (hg1:o1.guard = none) (hg2:o2.guard = none) (hg3:o3.guard = none) (hd1:o1.dst = none) (hd2:o2.dst = none) (hd3:o3.dst = none)
  (m:Operand) (t:TypeId) (c1 c2 c3:Value) (h1:o1.op = Op.insert t m (.const (.int .i64 1)) (.const c1)) (h2:o2.op = Op.insert t m (.const (.int .i64 2)) (.const c2)) (h3:o3.op = Op.insert t m (.const (.int .i64 3)) (.const c3))
  (k e:TypeId) (K:Keyed P k) (ht:P.underlying t = some (.map k e)) (hk:∀ i:Int,(Lit.int .i64 i).wf = true → keyOf P k (.int .i64 i) = some (.int .i64 i)) (b:Nat) (hm:a.eval m = .map (some b)) (hbw:b = w0.heap.size)
  (hK:∀ w',MapIs w' P k b 3 (putAt (putAt (putAt (fun _ => none) (.int .i64 1) c1) (.int .i64 2) c2) (.int .i64 3) c3) → Below w0.heap.size w0 w' → wpList P ops Q rest a w'):wpList P ops Q (o1 :: o2 :: o3 :: rest) a (w0.alloc (.map #[] 0)):=by
 subst hbw
 have hp:∀ (o:Oper) (v:Value),o.dst = none → a.put o.dst v = a:=fun o v h => by rw [h];rfl
 refine wpList_insert_Is _ hg1 m _ _ t h1 k e K ht w0.heap.size 0 _ hm (MapIs.made _ _ _) (by unfold maxLen;omega) _ _ _ rfl rfl (hk 1 rfl) ?_
 intro u1 m1 g1
 rw [hp _ _ hd1]
 refine wpList_insert_Is _ hg2 m _ _ t h2 k e K ht w0.heap.size 1 _ hm m1 (by unfold maxLen;omega) _ _ _ rfl rfl (hk 2 rfl) ?_
 intro u2 m2 g2
 rw [hp _ _ hd2]
 refine wpList_insert_Is _ hg3 m _ _ t h3 k e K ht w0.heap.size 2 _ hm m2 (by unfold maxLen;omega) _ _ _ rfl rfl (hk 3 rfl) ?_
 intro u3 m3 g3
 rw [hp _ _ hd3]
 have s0:w0.heap.size ≤ u1.heap.size:=by have:=g1.size;simp at this;omega
 have s1:=Nat.le_trans s0 g2.size
 exact hK u3 m3 ((((Below.alloc (Below.refl _ w0) (Nat.le_refl _) _).grown g1 (by simp) (fun j e => by cases e;exact Nat.le_refl _)).grown g2 s0 (fun j e => by cases e;exact Nat.le_refl _)).grown g3 s1 (fun j e => by cases e;exact Nat.le_refl _))
def kMap:Lit → Option Value:=putAt (putAt (putAt (fun _ => none) (.int .i64 1) (.string ⟨#[105,110,112,117,116,32]⟩)) (.int .i64 2) (.string ⟨#[102,111,114,109,117,108,97,32]⟩)) (.int .i64 3) (.string ⟨#[108,111,111,107,117,112,32]⟩)
def tMap:Lit → Option Value:=putAt (putAt (putAt (fun _ => none) (.int .i64 1) (.string ⟨#[32,105,110,116]⟩)) (.int .i64 2) (.string ⟨#[32,98,111,111,108]⟩)) (.int .i64 3) (.string ⟨#[32,116,101,120,116]⟩)
theorem kMap_at {k:Int} (h:1 ≤ k ∧ k ≤ 3):(kMap (.int .i64 k)).getD (.string ⟨#[]⟩) = .string (kW k ++ ⟨#[32]⟩):=by
 rcases (by omega:k = 1 ∨ k = 2 ∨ k = 3) with rfl | rfl | rfl <;> rfl
theorem tMap_at {k:Int} (h:1 ≤ k ∧ k ≤ 3):(tMap (.int .i64 k)).getD (.string ⟨#[]⟩) = .string (⟨#[32]⟩ ++ tW k):=by
 rcases (by omega:k = 1 ∨ k = 2 ∨ k = 3) with rfl | rfl | rfl <;> rfl
theorem kt_wf {k:Int} (h:1 ≤ k ∧ k ≤ 3):(Lit.int .i64 k).wf = true:=by
 rcases (by omega:k = 1 ∨ k = 2 ∨ k = 3) with rfl | rfl | rfl <;> rfl
theorem Tryz.zeroStrX (w:World):(zeroValue 9).run Tryz.prog w = .ok (.string ⟨#[]⟩) w:=by kernel_rfl
theorem jnT_bound {sep:ByteArray} {l:List ByteArray} (hs:sep.size ≤ 2) (h20:l.length ≤ 20) (h:∀ s ∈ l,s.size ≤ 110000000):(jnT sep l).size ≤ 2300000000:=by
 have h3:=jnT_len sep l
 have h4:=sum_le ByteArray.size 110000000 l h
 have h5:110000000 * l.length ≤ 110000000 * 20:=Nat.mul_le_mul_left _ h20
 have h6:sep.size * l.length ≤ 2 * 20:=Nat.mul_le_mul hs h20
 omega
def preL (l:List ByteArray):ByteArray:=if l = [] then ⟨#[]⟩ else jnT ⟨#[10]⟩ l ++ ⟨#[10]⟩
theorem preL_next (l:List ByteArray) (y:ByteArray):jnT ⟨#[10]⟩ (l ++ [y]) = preL l ++ y:=by
 unfold preL
 split
 ·rename_i h
  subst h
  rw [List.nil_append,jnT_one]
  apply ByteArray.ext
  simp
 ·rename_i h
  exact jnT_snoc h y
theorem hdF_eq (f:Fld):(kW f.kind ++ ⟨#[32]⟩) ++ f.name ++ (⟨#[32]⟩ ++ tW f.type) = hdF f:=by
 unfold hdF
 simp only [ByteArray.append_assoc]
theorem ne_bytes {s:ByteArray} (h:s.size ≠ 0):(s.toList == []) = false:=by
 rw [ByteArray.toList_eq]
 have:s.data.toList ≠ []:=fun e => h (by show s.data.size = 0;rw [← Array.length_toList,e];rfl)
 simpa using this
theorem lineF_pos (f:Fld):(lineF f).size ≠ 0:=by
 have:(hdF f).size ≠ 0:=by
  unfold hdF
  simp only [ByteArray.size_append]
  have:(⟨#[32]⟩:ByteArray).size = 1:=rfl
  omega
 unfold lineF
 split
 ·exact this
 ·simp only [ByteArray.size_append]
  omega
theorem lineP_pos (p:Pag):(lineP p).size ≠ 0:=by
 have:(hdP p).size ≠ 0:=by
  unfold hdP
  simp only [ByteArray.size_append]
  have:(⟨#[58,32]⟩:ByteArray).size = 2:=rfl
  omega
 unfold lineP
 split
 ·exact this
 ·simp only [ByteArray.size_append]
  omega
theorem jnT_pos {sep:ByteArray} {l:List ByteArray} (h:l ≠ []) (hp:∀ s ∈ l,s.size ≠ 0):(jnT sep l).size ≠ 0:=by
 cases l with
 | nil => exact absurd rfl h
 | cons a l =>
  have h1:=hp a List.mem_cons_self
  show (Lib.join (List.map _ (a :: l)) _).toArray.size ≠ 0
  rw [List.map_cons,Lib.join_cons]
  simp only [List.size_toArray,List.length_append]
  have:a.data.toList.length = a.size:=by simp
  omega
end Go.Proofs.YtldbpmlgbbomcaaGreatDoor
