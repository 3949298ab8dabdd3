/- Texts merged: Cmp ValCmp Ev. -/
import Derived.Test.YtldbpmlgbbomcaaGreatDoorTypes
import Derived.Test.YtldbpmlgbbomcaaGreatDoorVal
import Derived.Deep.DeepCutAuto
import Derived.Test.YtldbpmlgbbomcaaGreatDoorTy
import Derived.Test.YtldbpmlgbbomcaaGreatDoorAsk
import Derived.Test.YtldbpmlgbbomcaaGreatDoorNum
/- cmp.Compare and cmp.Or of Go's library, at int and string. -/
namespace Go.Proofs.YtldbpmlgbbomcaaGreatDoor
open Go.RowKit

def cmpZ (a b:Int):Int:=if a < b then -1 else if b < a then 1 else 0
set_option maxHeartbeats 400000 in
theorem cmp_isNaN_str (a:ByteArray) (w:World):Calls Tryz.prog 224 #[.string a] w fun e w' => e = .returned (.bool false) ∧ w = w':=by
 go_enter Tryz.func224,Tryz.ntmps224
 go_wp2
 go_ret
 exact ⟨rfl,rfl⟩
def cmpS (a b:ByteArray):Int:=if Op.bytesLess a.toList b.toList = true then -1 else if a.toList = b.toList then 0 else 1
def or2 (x y:Int):Int:=if x = 0 then y else x
end Go.Proofs.YtldbpmlgbbomcaaGreatDoor
/- value.Compare and the reference ValueOrder. -/
namespace Go.Proofs.YtldbpmlgbbomcaaGreatDoor
open Go.RowKit

def valOrder (a b:Val):Int × Int:=if valKnown a = true ∧ valKnown b = true ∧ a.k = b.k then (or2 (cmpZ a.n b.n) (cmpS a.s b.s),0) else (0,9)
theorem empty_toList {s:ByteArray} (h:emptyCheck s = 0):s.toList = []:=by
 unfold emptyCheck at h
 by_cases h':s.toList.isEmpty = true
 ·simpa using h'
 ·rw [if_neg h'] at h;cases h
theorem known_one {a b:Val} (ha:valKnown a = true) (hb:valKnown b = true) (hk:a.k = b.k):a.n = b.n ∨ a.s.toList = b.s.toList:=by
 obtain ⟨a1,a2,a3⟩:=(valKnown_iff a).1 ha
 obtain ⟨b1,b2,b3⟩:=(valKnown_iff b).1 hb
 obtain ⟨ak,an,sa⟩:=a
 obtain ⟨bk,bn,sb⟩:=b
 simp only at *
 subst hk
 unfold valCheck at a3 b3
 simp only at a3 b3
 rcases (by omega:ak = 1 ∨ ak = 2 ∨ ak = 3) with rfl | rfl | rfl
 ·right
  simp at a3 b3
  have e1:emptyCheck sa = 0:=by (repeat' split at a3) <;> simp_all
  have e2:emptyCheck sb = 0:=by (repeat' split at b3) <;> simp_all
  rw [empty_toList e1,empty_toList e2]
 ·right
  simp at a3 b3
  have e1:emptyCheck sa = 0:=by (repeat' split at a3) <;> simp_all
  have e2:emptyCheck sb = 0:=by (repeat' split at b3) <;> simp_all
  rw [empty_toList e1,empty_toList e2]
 ·left
  simp at a3 b3
  have e1:an = 0:=by (repeat' split at a3) <;> simp_all
  have e2:bn = 0:=by (repeat' split at b3) <;> simp_all
  rw [e1,e2]
def RetII (w:World) (x:Int × Int) (e:Ending) (w':World):Prop:=e = .returned (.tuple #[.int .i64 x.1,.int .i64 x.2]) ∧ Below w.heap.size w w'
theorem valOrder_cases (ak an:Int) (sa:ByteArray) (bk bn:Int) (sb:ByteArray) :
  let r:=valOrder ⟨ak,an,sa⟩ ⟨bk,bn,sb⟩
  (valKnown ⟨ak,an,sa⟩ = false ∧ r = (0,9)) ∨ (valKnown ⟨ak,an,sa⟩ = true ∧ valKnown ⟨bk,bn,sb⟩ = false ∧ r = (0,9)) ∨ (valKnown ⟨ak,an,sa⟩ = true ∧ valKnown ⟨bk,bn,sb⟩ = true ∧ (ak != bk) = true ∧ r = (0,9)) ∨
  (valKnown ⟨ak,an,sa⟩ = true ∧ valKnown ⟨bk,bn,sb⟩ = true ∧ ak = bk ∧ r = (or2 (cmpZ an bn) (cmpS sa sb),0)):=by
 intro r
 have hr:r = valOrder ⟨ak,an,sa⟩ ⟨bk,bn,sb⟩:=rfl
 clear_value r
 unfold valOrder at hr
 by_cases h:ak = bk <;> cases h1:valKnown ⟨ak,an,sa⟩ <;> cases h2:valKnown ⟨bk,bn,sb⟩ <;> simp_all
theorem less_cases (an bn:Int) (sa sb:ByteArray) (h:an = bn ∨ sa.toList = sb.toList) :
  let x:=or2 (cmpZ an bn) (cmpS sa sb)
  (an < bn ∧ x = -1) ∨ (bn ≤ an ∧ Op.bytesLess sa.toList sb.toList = true ∧ x = -1) ∨ (bn < an ∧ Op.bytesLess sa.toList sb.toList = false ∧ x = 1) ∨
  (an = bn ∧ Op.bytesLess sa.toList sb.toList = false ∧ (!sa.toList == sb.toList) = true ∧ x = 1) ∨ (an = bn ∧ Op.bytesLess sa.toList sb.toList = false ∧ (!sa.toList == sb.toList) = false ∧ x = 0):=by
 intro x
 have hx:x = or2 (cmpZ an bn) (cmpS sa sb):=rfl
 clear_value x
 have hself:∀ l:List UInt8,Op.bytesLess l l = false:=by
  intro l
  induction l with
  | nil => rfl
  | cons a l ih => simp [Op.bytesLess,ih]
 unfold or2 cmpZ cmpS at hx
 rcases Int.lt_trichotomy an bn with h1 | h1 | h1
 ·left;refine ⟨h1,?_⟩;rw [hx,if_pos h1];rfl
 ·subst h1
  rw [if_neg (Int.lt_irrefl _),if_neg (Int.lt_irrefl _),if_pos rfl] at hx
  cases h2:Op.bytesLess sa.toList sb.toList
  ·rw [h2,if_neg (by simp)] at hx
   by_cases h3:sa.toList = sb.toList
   ·rw [if_pos h3] at hx
    exact .inr (.inr (.inr (.inr ⟨rfl,rfl,by simp [h3],hx⟩)))
   ·rw [if_neg h3] at hx
    exact .inr (.inr (.inr (.inl ⟨rfl,rfl,by simp [h3],hx⟩)))
  ·rw [h2,if_pos rfl] at hx
   exact .inr (.inl ⟨Int.le_refl _,rfl,hx⟩)
 ·have h3:sa.toList = sb.toList:=by rcases h with h | h;omega;exact h
  rw [if_neg (show ¬ an < bn by omega),if_pos h1,if_neg (show ¬ (1:Int) = 0 by decide)] at hx
  exact .inr (.inr (.inl ⟨h1,by rw [h3];exact hself _,hx⟩))
end Go.Proofs.YtldbpmlgbbomcaaGreatDoor
/- What a formula is worth: the plain function. -/
namespace Go.Proofs.YtldbpmlgbbomcaaGreatDoor
open Go.RowKit

def noS:ByteArray:=⟨#[]⟩
def faultV (e:Int):Val:=⟨5,e,⟨#[]⟩⟩
def truthV (b:Bool):Val:=⟨2,bif b then 1 else 0,⟨#[]⟩⟩
def factV (l:List Fct) (nm:ByteArray):Option Val:=(l.find? (sameName nm)).map (·.has)
def numApp (op a b:Int):Int × Int:=if op = 5 then numMul a b else if op = 6 then numDiv a b else if op = 7 then numMod a b else if op = 8 then numAdd a b else numSub a b
def cmpTruth (op c:Int):Bool:=if op = 11 then decide (c < 0) else if op = 12 then decide (c ≤ 0) else if op = 13 then c == 0 else c != 0
def numV (r:Int × Int):Val:=if r.2 = 0 then ⟨1,r.1,⟨#[]⟩⟩ else faultV r.2
def cmpV (op:Int) (r:Int × Int):Val:=if r.2 = 0 then truthV (cmpTruth op r.1) else faultV r.2
def vAt (vs:List Val) (i:Nat):Val:=vs[i]?.getD noVal
def joinV (a b:ByteArray):Val:=if a.size + b.size ≤ 40 then ⟨3,0,a ++ b⟩ else faultV 1
def appV (op:Int) (vs:List Val):Val :=
 if 11 ≤ op ∧ op ≤ 14 then cmpV op (valOrder (vAt vs 0) (vAt vs 1))
 else if op = 4 then (if (vAt vs 0).k = 2 then truthV ((vAt vs 0).n == 0) else faultV 9)
 else if op = 10 then (if (vAt vs 0).k = 3 ∧ (vAt vs 1).k = 3 then joinV (vAt vs 0).s (vAt vs 1).s else faultV 9)
 else if op = 18 then (if (vAt vs 0).k = 3 then ⟨1,(vAt vs 0).s.size,⟨#[]⟩⟩ else faultV 9)
 else if op = 3 then (if (vAt vs 0).k = 1 then ⟨1,-(vAt vs 0).n,⟨#[]⟩⟩ else faultV 9)
 else (if (vAt vs 0).k = 1 ∧ (vAt vs 1).k = 1 then numV (numApp op (vAt vs 0).n (vAt vs 1).n) else faultV 9)
def boolV (v:Val):Val:=if v.k = 1 ∨ v.k = 3 then faultV 9 else v
def lackV (vs:List Val):Option Val:=match vs.find? (fun v => v.k == 5) with
 | some v => some v
 | none => vs.find? (fun v => v.k == 4)
def isChoice (op:Int):Prop:=op = 15 ∨ op = 16 ∨ op = 17
def opV (op:Int) (vs:List Val):Val :=
 if op = 15 ∨ op = 16 then (if (vAt vs 0).k = 2 then (if ((vAt vs 0).n == 1) = (op == 16) then vAt vs 0 else boolV (vAt vs 1)) else boolV (vAt vs 0))
 else if op = 17 then (if (vAt vs 0).k = 2 then (if (vAt vs 0).n = 1 then vAt vs 1 else vAt vs 2) else boolV (vAt vs 0))
 else (lackV vs).getD (appV op vs)
mutual
def evX (l:List Fct):Exp → Val
 | .mk op v name args => if op = 1 then v else if op = 2 then (factV l name).getD (faultV 5) else opV op (evL l args)
def evL (l:List Fct):List Exp → List Val
 | [] => []
 | a :: r => evX l a :: evL l r
end
theorem evL_map (l:List Fct):∀ xs,evL l xs = xs.map (evX l)
 | [] => by simp [evL]
 | a :: r => by simp [evL,evL_map l r]
theorem evX_const (l:List Fct) {x:Exp} (h:x.op = 1):evX l x = x.v:=by
 obtain ⟨op,v,nm,args⟩:=x
 have h':op = 1:=h
 simp [evX,h',Exp.v]
theorem evX_ref (l:List Fct) {x:Exp} (h:x.op = 2):evX l x = (factV l x.name).getD (faultV 5):=by
 obtain ⟨op,v,nm,args⟩:=x
 have h':op = 2:=h
 simp [evX,h',Exp.name]
theorem evX_app (l:List Fct) {x:Exp} (h1:x.op ≠ 1) (h2:x.op ≠ 2):evX l x = opV x.op (x.args.map (evX l)):=by
 obtain ⟨op,v,nm,args⟩:=x
 have h1':op ≠ 1:=h1
 have h2':op ≠ 2:=h2
 simp only [evX,h1',h2',if_false,evL_map]
 rfl
theorem evX_at (l:List Fct) {x a:Exp} {k:Nat} (h:x.args[k]? = some a):vAt (x.args.map (evX l)) k = evX l a:=by
 unfold vAt;rw [List.getElem?_map,h];rfl
def factsOk (l:List Fct):Prop:=∀ f ∈ l,valCheck f.has = 0

theorem emptyCheck_nil:emptyCheck ⟨#[]⟩ = 0:=by
 unfold emptyCheck
 rw [if_pos (by rw [ByteArray.toList_eq];rfl)]
theorem valCheck_fault {e:Int} (h1:1 ≤ e) (h2:e ≤ 15):valCheck (faultV e) = 0:=by
 have e0:(faultV e).k = 5:=rfl
 have e1:(faultV e).n = e:=rfl
 have e2:(faultV e).s = ⟨#[]⟩:=rfl
 unfold valCheck
 rw [e0,e1,e2,if_neg (by decide),if_neg (by decide),if_neg (by decide),if_neg (by decide),if_pos rfl,if_neg (by omega)]
 exact emptyCheck_nil
theorem valCheck_truth (b:Bool):valCheck (truthV b) = 0:=by
 have e0:(truthV b).k = 2:=rfl
 have e2:(truthV b).s = ⟨#[]⟩:=rfl
 unfold valCheck
 rw [e0,e2,if_neg (by decide),if_pos rfl,if_pos (by cases b;exact .inl rfl;exact .inr rfl)]
 exact emptyCheck_nil
theorem valCheck_bool {v:Val} (h:valCheck v = 0):valCheck (boolV v) = 0:=by
 unfold boolV;split
 ·exact valCheck_fault (by decide) (by decide)
 ·exact h
theorem empty_eq {s:ByteArray} (h:emptyCheck s = 0):s = ⟨#[]⟩:=by
 unfold emptyCheck at h
 split at h
 ·rename_i h1
  have h2:s.toList = []:=by simpa using h1
  rw [ByteArray.toList_eq] at h2
  obtain ⟨d⟩:=s
  simp at h2
  rw [h2]
 ·cases h
theorem val_int {v:Val} (h:valCheck v = 0) (hk:v.k = 1):numCheck v.n = 0 ∧ v.s = ⟨#[]⟩:=by
 unfold valCheck at h
 rw [if_pos hk] at h
 split at h
 ·exact ⟨by assumption,empty_eq h⟩
 ·cases h
theorem val_bool {v:Val} (h:valCheck v = 0) (hk:v.k = 2):(v.n = 0 ∨ v.n = 1) ∧ v.s = ⟨#[]⟩:=by
 unfold valCheck at h
 rw [if_neg (by omega),if_pos hk] at h
 split at h
 ·exact ⟨by assumption,empty_eq h⟩
 ·cases h
theorem val_text {v:Val} (h:valCheck v = 0) (hk:v.k = 3):v.n = 0 ∧ v.s.size ≤ 40 ∧ v.s.data.toList.all okByte = true:=by
 unfold valCheck at h
 rw [if_neg (by omega),if_neg (by omega),if_pos hk] at h
 split at h
 ·rename_i h0
  unfold textCheck at h
  split at h
  ·cases h
  ·split at h
   ·exact ⟨h0,by omega,by assumption⟩
   ·cases h
 ·cases h
theorem val_pend {v:Val} (h:valCheck v = 0) (hk:v.k = 4):v = ⟨4,0,⟨#[]⟩⟩:=by
 unfold valCheck at h
 rw [if_neg (by omega),if_neg (by omega),if_neg (by omega),if_pos hk] at h
 split at h
 ·rename_i h0
  obtain ⟨k,n,s⟩:=v
  simp only at hk h0 h
  rw [hk,h0,empty_eq h]
 ·cases h
theorem val_size {v:Val} (h:valCheck v = 0):v.s.size ≤ 40:=by
 rcases (by have:=valCheck_kind h;omega:v.k = 1 ∨ v.k = 2 ∨ v.k = 3 ∨ v.k = 4 ∨ v.k = 5) with hk | hk | hk | hk | hk
 ·rw [(val_int h hk).2];decide
 ·rw [(val_bool h hk).2];decide
 ·exact (val_text h hk).2.1
 ·rw [val_pend h hk];decide
 ·unfold valCheck at h
  rw [if_neg (by omega),if_neg (by omega),if_neg (by omega),if_neg (by omega),if_pos hk] at h
  split at h
  ·cases h
  ·rw [empty_eq h];decide
theorem numRes_ok (n:Int):(numRes n).2 = 0 ∧ numCheck (numRes n).1 = 0 ∨ (numRes n).2 = 7:=by
 unfold numRes;split
 ·exact .inl ⟨rfl,by assumption⟩
 ·exact .inr rfl
theorem numGuard_ok {a b:Int} {r:Int × Int} (h:r.2 = 0 ∧ numCheck r.1 = 0 ∨ r.2 = 7):(numGuard a b r).2 = 0 ∧ numCheck (numGuard a b r).1 = 0 ∨ (numGuard a b r).2 = 7 ∨ (numGuard a b r).2 = 8:=by
 unfold numGuard;split
 ·rcases h with h | h
  ·exact .inl h
  ·exact .inr (.inl h)
 ·exact .inr (.inl rfl)
theorem numApp_ok (op a b:Int):(numApp op a b).2 = 0 ∧ numCheck (numApp op a b).1 = 0 ∨ (numApp op a b).2 = 7 ∨ (numApp op a b).2 = 8:=by
 unfold numApp
 split
 ·exact numGuard_ok (numRes_ok _)
 split
 ·unfold numDiv;split
  ·exact .inr (.inr rfl)
  ·exact numGuard_ok (numRes_ok _)
 split
 ·unfold numMod;split
  ·exact .inr (.inr rfl)
  ·exact numGuard_ok (numRes_ok _)
 split
 ·exact numGuard_ok (numRes_ok _)
 ·exact numGuard_ok (numRes_ok _)
theorem valCheck_intV {n:Int} (h:numCheck n = 0):valCheck ⟨1,n,⟨#[]⟩⟩ = 0:=by
 unfold valCheck
 rw [if_pos rfl,if_pos h]
 exact emptyCheck_nil
theorem numV_ok {r:Int × Int} (h:r.2 = 0 ∧ numCheck r.1 = 0 ∨ r.2 = 7 ∨ r.2 = 8):valCheck (numV r) = 0:=by
 unfold numV
 rcases h with ⟨h,h1⟩ | h | h
 ·rw [if_pos h];exact valCheck_intV h1
 ·rw [if_neg (by omega),h];exact valCheck_fault (by decide) (by decide)
 ·rw [if_neg (by omega),h];exact valCheck_fault (by decide) (by decide)
theorem valOrder_or (a b:Val):(valOrder a b).2 = 0 ∨ (valOrder a b).2 = 9:=by
 unfold valOrder;split
 ·exact .inl rfl
 ·exact .inr rfl
theorem cmpV_ok (op:Int) (a b:Val):valCheck (cmpV op (valOrder a b)) = 0:=by
 unfold cmpV
 rcases valOrder_or a b with h | h
 ·rw [if_pos h];exact valCheck_truth _
 ·rw [if_neg (by omega),h];exact valCheck_fault (by decide) (by decide)
theorem joinV_ok {a b:ByteArray} (ha:a.data.toList.all okByte = true) (hb:b.data.toList.all okByte = true):valCheck (joinV a b) = 0:=by
 unfold joinV
 split
 ·rename_i h
  unfold valCheck
  show (if (3:Int) = 1 then _ else if (3:Int) = 2 then _ else if (3:Int) = 3 then (if (0:Int) = 0 then textCheck (a ++ b) else 4) else _) = (0:Int)
  rw [if_neg (by decide),if_neg (by decide),if_pos rfl,if_pos rfl]
  unfold textCheck
  rw [if_neg (by show ¬ 40 < (a ++ b).size;rw [ByteArray.size_append];omega),if_pos]
  show ((a ++ b).data.toList.all okByte) = true
  rw [ByteArray.data_append,Array.toList_append,List.all_append,ha,hb];rfl
 ·exact valCheck_fault (by decide) (by decide)
theorem appV_ok {op:Int} {vs:List Val} (h0:valCheck (vAt vs 0) = 0) (h1:(vAt vs 1).k = 3 → valCheck (vAt vs 1) = 0):valCheck (appV op vs) = 0:=by
 unfold appV
 split
 ·exact cmpV_ok _ _ _
 split
 ·split
  ·exact valCheck_truth _
  ·exact valCheck_fault (by decide) (by decide)
 split
 ·split
  ·rename_i h
   exact joinV_ok (val_text h0 h.1).2.2 (val_text (h1 h.2) h.2).2.2
  ·exact valCheck_fault (by decide) (by decide)
 split
 ·split
  ·rename_i h
   have:=(val_text h0 h).2.1
   exact valCheck_intV (numCheck_of (by omega) (by omega))
  ·exact valCheck_fault (by decide) (by decide)
 split
 ·split
  ·rename_i h
   have:=numCheck_lo (val_int h0 h).1
   exact valCheck_intV (numCheck_of (by omega) (by omega))
  ·exact valCheck_fault (by decide) (by decide)
 ·split
  ·exact numV_ok (numApp_ok _ _ _)
  ·exact valCheck_fault (by decide) (by decide)
theorem lackV_mem {vs:List Val} {v:Val} (h:lackV vs = some v):v ∈ vs:=by
 unfold lackV at h
 split at h
 ·rename_i u hu
  cases h;exact List.mem_of_find?_eq_some hu
 ·exact List.mem_of_find?_eq_some h
theorem opV_ok {op:Int} {vs:List Val} (hne:(vs.length:Int) = argsN op) (h3:3 ≤ op) (h:∀ v ∈ vs,valCheck v = 0):valCheck (opV op vs) = 0:=by
 have hat:∀ i,i < vs.length → valCheck (vAt vs i) = 0:=fun i hi => by
  unfold vAt;rw [List.getElem?_eq_getElem hi];exact h _ (List.getElem_mem hi)
 have h0:0 < vs.length:=by
  have:(0:Int) < argsN op:=by
   unfold argsN;repeat' split
   all_goals omega
  omega
 unfold opV
 split
 ·rename_i ho
  have h1:1 < vs.length:=by
   have:argsN op = 2:=by rcases ho with rfl | rfl <;> rfl
   omega
  split
  ·split
   ·exact hat 0 h0
   ·exact valCheck_bool (hat 1 h1)
  ·exact valCheck_bool (hat 0 h0)
 split
 ·rename_i ho
  have h1:vs.length = 3:=by
   have:argsN op = 3:=by subst ho;rfl
   omega
  split
  ·split
   ·exact hat 1 (by omega)
   ·exact hat 2 (by omega)
  ·exact valCheck_bool (hat 0 h0)
 ·cases hl:lackV vs with
  | some v => exact h v (lackV_mem hl)
  | none =>
   refine appV_ok (hat 0 h0) (fun hk => ?_)
   by_cases h1:1 < vs.length
   ·exact hat 1 h1
   ·exfalso
    unfold vAt at hk
    rw [List.getElem?_eq_none (by omega)] at hk
    exact absurd hk (by decide)
theorem factV_ok {l:List Fct} (hl:factsOk l) {nm:ByteArray} {v:Val} (h:factV l nm = some v):valCheck v = 0:=by
 unfold factV at h
 cases hf:l.find? (sameName nm) with
 | none => rw [hf] at h;cases h
 | some f => rw [hf] at h;cases h;exact hl f (List.mem_of_find?_eq_some hf)
theorem part_v {x:Exp} (h:prtN x = 0) (ho:x.op = 1):valKnown x.v = true:=by
 rw [prtN_eq] at h
 by_cases hp:partErr x.op x.v x.name x.args.length = 0
 ·unfold partErr at hp
  rw [if_neg (by omega)] at hp
  have hk:partOk x.op x.v x.name x.args.length = true:=by
   cases hq:partOk x.op x.v x.name x.args.length
   ·rw [hq] at hp;simp at hp
   ·rfl
  unfold partOk at hk
  rw [if_pos ho] at hk
  simp only [Bool.and_eq_true] at hk
  exact hk.2.2.1
 ·rw [if_neg hp] at h;exact absurd h hp
theorem evX_ok {l:List Fct} (hl:factsOk l) (N:Nat):∀ x:Exp,x.nodes ≤ N → prtN x = 0 → valCheck (evX l x) = 0:=by
 induction N with
 | zero =>
  intro x hN
  obtain ⟨op,v,nm,args⟩:=x
  simp [Exp.nodes] at hN
 | succ N ih =>
  intro x hN hp
  obtain ⟨p1,p2,p3,p4⟩:=prt_ok hp
  by_cases h1:x.op = 1
  ·rw [evX_const l h1]
   exact ((valKnown_iff' _).1 (part_v hp h1)).1
  by_cases h2:x.op = 2
  ·rw [evX_ref l h2]
   cases hf:factV l x.name with
   | none => exact valCheck_fault (by decide) (by decide)
   | some v => exact factV_ok hl hf
  rw [evX_app l h1 h2]
  refine opV_ok (by rw [List.length_map];exact p3) (by omega) fun v hv => ?_
  obtain ⟨a,ha,rfl⟩:=List.mem_map.1 hv
  refine ih a ?_ (p4 a ha)
  obtain ⟨i,hi⟩:=List.mem_iff_getElem?.1 ha
  obtain ⟨op,v,nm,args⟩:=x
  have:=nodes_at args i a hi
  simp only [Exp.nodes] at hN
  omega
end Go.Proofs.YtldbpmlgbbomcaaGreatDoor
