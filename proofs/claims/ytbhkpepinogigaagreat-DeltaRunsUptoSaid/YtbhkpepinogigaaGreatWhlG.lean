/- Rows of values that are written in place; what has been met along the order. -/
import Derived.Test.YtbhkpepinogigaaGreatWhl1
import Derived.Test.YtbhkpepinogigaaGreatRowV
namespace Go.Proofs.YtbhkpepinogigaaGreat
open Go.RowKit

theorem flat_setV (l:List Val) (k:Nat) (v:Val) (hk:k < l.length) :
  (((l.flatMap Val.cs).set (k * 3) (.int .i64 v.k)).set (k * 3 + 1) (.int .i64 v.n)).set (k * 3 + 2) (.string v.s) = (l.set k v).flatMap Val.cs:=by
 have e:l = l.take k ++ l[k] :: l.drop (k + 1):=by rw [List.getElem_cons_drop,List.take_append_drop]
 have hlen:((l.take k).flatMap Val.cs).length = k * 3:=by rw [flat_len _ 3 lenValR,List.length_take,Nat.min_eq_left (by omega)]
 have e1:l.flatMap Val.cs = (l.take k).flatMap Val.cs ++ (l[k].cs ++ (l.drop (k + 1)).flatMap Val.cs):=by
  conv => lhs;rw [e]
  rw [List.flatMap_append,List.flatMap_cons]
 have e2:(l.set k v).flatMap Val.cs = (l.take k).flatMap Val.cs ++ (v.cs ++ (l.drop (k + 1)).flatMap Val.cs):=by
  rw [List.set_eq_take_append_cons_drop,if_pos hk,List.flatMap_append,List.flatMap_cons]
 rw [e1,e2]
 rw [List.set_append_right _ _ (by omega),List.set_append_right _ _ (by omega),List.set_append_right _ _ (by omega),hlen]
 have a0:k * 3 - k * 3 = 0:=by omega
 have a1:k * 3 + 1 - k * 3 = 1:=by omega
 have a2:k * 3 + 2 - k * 3 = 2:=by omega
 rw [a0,a1,a2]
 simp [Val.cs]
theorem cells_ownV {w:World} {base g n cap k:Nat} {l:List Val} {e:TypeId} {x:Val} (h:w.ownsRow base e 3 (.slice (some ⟨g,0,none⟩) n cap) n (l.flatMap Val.cs)) (hx:l[k]? = some x) (hk:k < n) :
  w.cell? ⟨g,k * 3,none⟩ = some (.int .i64 x.k) ∧ w.cell? ⟨g,k * 3 + 1,none⟩ = some (.int .i64 x.n) ∧ w.cell? ⟨g,k * 3 + 2,none⟩ = some (.string x.s):=by
 have f:=fun j hj => flat_at Val.cs 3 lenValR l k j x hx hj
 refine ⟨?_,?_,?_⟩
 ·have:=f 0 (by decide);rw [Nat.add_zero] at this;rw [h.cellAt _ (by omega),this];rfl
 ·rw [h.cellAt _ (by omega),f 1 (by decide)];rfl
 ·rw [h.cellAt _ (by omega),f 2 (by decide)];rfl
theorem ownsRow_under {w w':World} {base N g n cap size:Nat} {e:TypeId} {xs:List Value} (h:w.ownsRow base e size (.slice (some ⟨g,0,none⟩) n cap) n xs) (hg:g < N) (hb:Below N w w'):w'.ownsRow base e size (.slice (some ⟨g,0,none⟩) n cap) n xs:=by
 refine ⟨h.1,?_⟩
 rcases h.2 with hn | ⟨g',cap',cur,he,hbg,hgg,rest⟩
 ·exact .inl hn
 ·simp only [Value.slice.injEq,Option.some.injEq,Addr.mk.injEq,and_true,true_and] at he
  obtain ⟨rfl,rfl⟩:=he
  exact .inr ⟨g,cap,cur,rfl,hbg,by rw [hb.block g hg];exact hgg,rest⟩
theorem RFld.now {w w':World} {cs:List Value} {f:Fld} (h:RFld w (old w) cs f) (hb:Below w.heap.size w w'):RFld w' (old w') cs f :=
 h.keep (old_keep hb)
def allR (F:List Fld) (P:List Pag) (ins orc:List Fct):List Val × Int:=if toldErr F P ins orc ≠ 0 then ([],toldErr F P ins orc) else (finV F ins orc,0)
theorem ord_at {F:List Fld} {j:Nat} {p:Int} (h:(toI (ordF F))[j]? = some p):∃ x:Nat,(ordF F)[j]? = some x ∧ p = x ∧ x < F.length:=by
 unfold toI at h
 rw [List.getElem?_map] at h
 cases hx:(ordF F)[j]? with
 | none => rw [hx] at h;cases h
 | some x => rw [hx] at h;exact ⟨x,rfl,(Option.some.inj h).symm,ordF_lt (List.mem_of_getElem? hx)⟩
theorem noVal_wf:noVal.wf:=by unfold noVal Val.wf inI inS;exact ⟨by decide +kernel,by decide +kernel,by decide⟩
end Go.Proofs.YtbhkpepinogigaaGreat
