/- Texts merged: NavQ NavP DecW RecP. -/
import Derived.Test.YtbhkpepinogigaaGreatFrm
import Derived.Test.YtbhkpepinogigaaGreatEvF
import Derived.Test.YtbhkpepinogigaaGreatOpen
/- Values that are right; forms that are right: plain laws. -/
namespace Go.Proofs.YtbhkpepinogigaaGreat
open Go.RowKit

def valErr (V:List Val) (i:Nat):Int:=match V[i]? with | none => 0 | some v => valCheck v
def valsErr (V:List Val):Int:=firstErr (valErr V) V.length
theorem valErr_at {V:List Val} {k:Nat} {v:Val} (h:V[k]? = some v):valErr V k = valCheck v:=by unfold valErr;rw [h]
theorem valsErr_hit {V:List Val} {k:Nat} {v:Val} (h:firstErr (valErr V) k = 0) (hx:V[k]? = some v) (he:valCheck v ≠ 0):valsErr V = valCheck v:=by
 unfold valsErr
 rw [firstErr_hit h (by rw [valErr_at hx];exact he) _ (List.getElem?_eq_some_iff.1 hx).1,valErr_at hx]
theorem valsErr_ok {V:List Val} (h:valsErr V = 0):∀ v ∈ V,valCheck v = 0:=by
 intro v hv
 obtain ⟨i,hi,rfl⟩:=List.mem_iff_getElem.1 hv
 have:=firstErr_all h i hi
 rwa [valErr_at (List.getElem?_eq_getElem hi)] at this
theorem firstErr_zero {g:Nat → Int}:∀ n,(∀ k,k < n → g k = 0) → firstErr g n = 0
 | 0,_ => rfl
 | n + 1,h => by rw [firstErr,if_pos (firstErr_zero n fun k hk => h k (by omega))];exact h n (by omega)
end Go.Proofs.YtbhkpepinogigaaGreat
/- What is wrong with a walk through the pages of a form; what a page lacks; the record of a walk. Plain laws. -/
namespace Go.Proofs.YtbhkpepinogigaaGreat
open Go.RowKit

structure Wlk where (at_:Int) (path:List Int) (done:Bool)
def prevAt (L:List Int):Nat → Int
 | 0 => -1
 | k + 1 => L[k]?.getD 0
def stepErr (n:Nat) (L:List Int) (k:Nat):Int:=match L[k]? with | none => 0 | some p => if p ≤ prevAt L k ∨ (n:Int) < p then 15 else 0
def walkOk (n:Nat) (x:Wlk):Bool:=decide (firstErr (stepErr n (x.path ++ [x.at_])) (x.path.length + 1) = 0) && (x.done == decide (x.at_ = n))
def walkErr (F:List Fld) (P:List Pag) (V:List Val) (x:Wlk):Int :=
 if formErr F P ≠ 0 then formErr F P else if V.length ≠ F.length then 1 else if valsErr V ≠ 0 then valsErr V else if walkOk P.length x then 0 else 15
def refGood (n:Nat) (x:Wlk):Nat → Bool
 | 0 => decide (0 ≤ x.at_) && decide (x.at_ ≤ n) && (x.done == decide (x.at_ = n))
 | k + 1 => refGood n x k && (match x.path[k]? with | none => true | some p => decide (0 ≤ p) && decide (p < x.at_) && (k == 0 || decide (prevAt x.path k < p)))
section
variable {F:List Fld} {P:List Pag} {V:List Val} {x:Wlk}
end
def valOf (F:List Fld) (V:List Val) (s:ByteArray):Val:=V[fieldAt F s]?.getD noVal
def lacks (F:List Fld) (V:List Val) (s:ByteArray):Bool:=decide (3 < (valOf F V s).k)
def lackL (F:List Fld) (V:List Val) (fs:List ByteArray):List ByteArray:=fs.filter (lacks F V)
def pageFs (P:List Pag) (at_:Int):Option (List ByteArray):=if at_ < 0 then none else (P[at_.toNat]?).map (·.fields)
def lackR (F:List Fld) (P:List Pag) (V:List Val) (at_:Int):List ByteArray × Int :=
 if walkErr F P V ⟨0,[],false⟩ ≠ 0 then ([],walkErr F P V ⟨0,[],false⟩) else match pageFs P at_ with
 | none => ([],4)
 | some fs => (lackL F V fs,0)
section
variable {F:List Fld} {P:List Pag} {V:List Val} {at_:Int}
end
end Go.Proofs.YtbhkpepinogigaaGreat
/- Readings: walks through pages. -/
namespace Go.Proofs.YtbhkpepinogigaaGreat
open Go.ChangeShapes Go.WideShapes Go.ChangeAt Go.RowKit

def RWlk (w:World) (S:Nat → Prop) (cs:List Value) (x:Wlk):Prop :=
 inI x.at_ ∧ ∃ Q q cq,cs = [.int .i64 x.at_,.slice Q q cq,.bool x.done] ∧ inB 8 q ∧ q ≤ cq ∧ Sl w S 1 RInt Q q x.path
def Wlk.bulk (_:Wlk):Nat:=1
end Go.Proofs.YtbhkpepinogigaaGreat
/- The record of a walk through a form's pages. Plain laws. -/
namespace Go.Proofs.YtbhkpepinogigaaGreat
open Go.RowKit

def fsOf (P:List Pag) (p:Int):List ByteArray:=(pageFs P p).getD []
def recL (F:List Fld) (V:List Val) (fs:List ByteArray):List Fct:=fs.map fun s => ⟨s,noVal,valOf F V s⟩
def recTo (F:List Fld) (P:List Pag) (V:List Val) (path:List Int):List Fct:=path.flatMap fun p => recL F V (fsOf P p)
def recBad (F:List Fld) (P:List Pag) (V:List Val) (p:Int):Bool:=(fsOf P p).any (lacks F V)
def recR (F:List Fld) (P:List Pag) (V:List Val) (x:Wlk):List Fct × Int :=
 if walkErr F P V x ≠ 0 then ([],walkErr F P V x) else if x.done = false then ([],11) else if x.path.any (recBad F P V) then ([],11) else (recTo F P V x.path,0)
section
variable {F:List Fld} {P:List Pag} {V:List Val} {x:Wlk}
end
end Go.Proofs.YtbhkpepinogigaaGreat
