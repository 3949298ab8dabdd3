/- What a formula is printed as. Plain laws. -/
import Derived.Test.YtldbpmlgbbomcaaGreatDoorSub
import Derived.Test.YtldbpmlgbbomcaaGreatDoorPrt3
import Derived.Test.YtldbpmlgbbomcaaGreatDoorPrt4
import Derived.Test.YtldbpmlgbbomcaaGreatDoorTy
import Derived.Test.YtldbpmlgbbomcaaGreatDoorEv
namespace Go.Proofs.YtldbpmlgbbomcaaGreatDoor
open Go.RowKit

theorem val_wf9 {v:Val} (h:valCheck v = 0):v.wf:=by
 have hs:=val_size h
 have hb:∀ n:Int,-1099511627776 ≤ n → n ≤ 1099511627776 → inI n:=by
  intro n h1 h2
  unfold inI
  rw [Lit.wf]
  have e:IntKind.i64.min = -9223372036854775808:=by decide
  have e':IntKind.i64.max = 9223372036854775807:=by decide
  simp only [e,e',Bool.and_eq_true,decide_eq_true_eq]
  omega
 have hk:=valCheck_kind h
 refine ⟨hb _ (by omega) (by omega),?_,by unfold inS;omega⟩
 rcases (by omega:v.k = 1 ∨ v.k = 2 ∨ v.k = 3 ∨ v.k = 4 ∨ v.k = 5) with e | e | e | e | e
 ·have:=numCheck_lo (val_int h e).1;exact hb _ (by omega) (by omega)
 ·have:=(val_bool h e).1;exact hb _ (by omega) (by omega)
 ·have:=(val_text h e).1;exact hb _ (by omega) (by omega)
 ·rw [val_pend h e];exact hb _ (by decide) (by decide)
 ·unfold valCheck at h
  rw [if_neg (by omega),if_neg (by omega),if_neg (by omega),if_neg (by omega),if_pos e] at h
  split at h
  ·cases h
  ·exact hb _ (by omega) (by omega)

def lvlN (op:Int):Int:=if op = 16 then 1 else if op = 15 then 2 else if 11 ≤ op ∧ op ≤ 14 then 3 else if 8 ≤ op ∧ op ≤ 10 then 4 else if 5 ≤ op ∧ op ≤ 7 then 5 else if op = 3 ∨ op = 4 then 6 else 7
def sgnN (op:Int):ByteArray :=
 if op = 3 then ⟨#[45]⟩ else if op = 4 then ⟨#[110,111,116]⟩ else if op = 5 then ⟨#[42]⟩ else if op = 6 then ⟨#[47]⟩ else if op = 7 then ⟨#[37]⟩ else if op = 8 then ⟨#[43]⟩ else if op = 9 then ⟨#[45]⟩
 else if op = 10 then ⟨#[38]⟩ else if op = 11 then ⟨#[60]⟩ else if op = 12 then ⟨#[60,61]⟩ else if op = 13 then ⟨#[61]⟩ else if op = 14 then ⟨#[33,61]⟩ else if op = 15 then ⟨#[97,110,100]⟩
 else if op = 16 then ⟨#[111,114]⟩ else if op = 17 then ⟨#[105,102]⟩ else if op = 18 then ⟨#[108,101,110]⟩ else ⟨#[]⟩
theorem shape_at (op:Int) (h1:1 ≤ op) (h2:op ≤ 18) (w:World):(Instr.index 50 (.agg shapesC.toArray) (.int .i64 op)).run Tryz.prog w = .ok (.agg #[.string (sgnN op),.int .i64 (lvlN op),.int .i64 (argsN op)]) w:=by
 rcases (by omega:op = 1 ∨ op = 2 ∨ op = 3 ∨ op = 4 ∨ op = 5 ∨ op = 6 ∨ op = 7 ∨ op = 8 ∨ op = 9 ∨ op = 10 ∨ op = 11 ∨ op = 12 ∨ op = 13 ∨ op = 14 ∨ op = 15 ∨ op = 16 ∨ op = 17 ∨ op = 18) with rfl | rfl | rfl | rfl | rfl | rfl | rfl | rfl | rfl | rfl | rfl | rfl | rfl | rfl | rfl | rfl | rfl | rfl
 ·exact Tryz.shape1 w
 ·exact Tryz.shape2 w
 ·exact Tryz.shape3 w
 ·exact Tryz.shape4 w
 ·exact Tryz.shape5 w
 ·exact Tryz.shape6 w
 ·exact Tryz.shape7 w
 ·exact Tryz.shape8 w
 ·exact Tryz.shape9 w
 ·exact Tryz.shape10 w
 ·exact Tryz.shape11 w
 ·exact Tryz.shape12 w
 ·exact Tryz.shape13 w
 ·exact Tryz.shape14 w
 ·exact Tryz.shape15 w
 ·exact Tryz.shape16 w
 ·exact Tryz.shape17 w
 ·exact Tryz.shape18 w
def brk (l:Int) (t:Int × ByteArray):ByteArray:=if lvlN t.1 < l then ⟨#[40]⟩ ++ t.2 ++ ⟨#[41]⟩ else t.2
def tAt (ts:List (Int × ByteArray)) (i:Nat):Int × ByteArray:=ts[i]?.getD (1,⟨#[]⟩)
def preT (s:ByteArray):List (Int × ByteArray) → ByteArray
 | [] => s
 | t :: r => r.foldl (fun a u => a ++ ⟨#[44,32]⟩ ++ u.2) (s ++ t.2)
theorem preT_next (s:ByteArray) (l:List (Int × ByteArray)) (t:Int × ByteArray) (h:l ≠ []):preT s (l ++ [t]) = preT s l ++ ⟨#[44,32]⟩ ++ t.2:=by
 cases l with
 | nil => exact absurd rfl h
 | cons a r => simp [preT,List.foldl_append]
def joinT (op:Int) (v:Val) (nm:ByteArray) (ts:List (Int × ByteArray)):ByteArray :=
 if op = 1 then showV v else if op = 2 then nm else if op = 17 ∨ op = 18 then preT (sgnN op ++ ⟨#[40]⟩) ts ++ ⟨#[41]⟩
 else if op = 3 then sgnN op ++ brk 6 (tAt ts 0) else if op = 4 then sgnN op ++ ⟨#[32]⟩ ++ brk 6 (tAt ts 0)
 else brk (if lvlN op = 3 then 4 else lvlN op) (tAt ts 0) ++ ⟨#[32]⟩ ++ sgnN op ++ ⟨#[32]⟩ ++ brk (lvlN op + 1) (tAt ts 1)
mutual
def prX:Exp → ByteArray
 | .mk op v nm args => joinT op v nm (prL args)
def prL:List Exp → List (Int × ByteArray)
 | [] => []
 | a :: l => (a.op,prX a) :: prL l
end
theorem prL_map:∀ l,prL l = l.map (fun a => (a.op,prX a))
 | [] => by simp [prL]
 | a :: l => by simp [prL,prL_map l]
theorem prX_eq (x:Exp):prX x = joinT x.op x.v x.name (x.args.map fun a => (a.op,prX a)):=by
 obtain ⟨op,v,nm,args⟩:=x
 rw [prX,prL_map]
 rfl
def prT (x:Exp):Int × ByteArray:=(x.op,prX x)
theorem ite3 {c:Prop} [Decidable c] {a b:ByteArray} (ha:a.size ≤ 3) (hb:b.size ≤ 3):(if c then a else b).size ≤ 3:=by split <;> assumption
theorem sgn_len (op:Int):(sgnN op).size ≤ 3:=by
 unfold sgnN
 iterate 16 refine ite3 (by decide) ?_
 decide
theorem le_sum9:∀ (l:List Nat) (n:Nat),n ∈ l → n ≤ l.sum
 | [],_,h => absurd h List.not_mem_nil
 | a :: l,n,h => by
  rw [List.sum_cons]
  rcases List.mem_cons.1 h with rfl | h
  ·omega
  ·have:=le_sum9 l n h;omega
theorem brk_len (l:Int) (t:Int × ByteArray):(brk l t).size ≤ t.2.size + 2:=by
 unfold brk
 split
 ·rw [ByteArray.size_append,ByteArray.size_append]
  have h1:(⟨#[40]⟩:ByteArray).size = 1:=rfl
  have h2:(⟨#[41]⟩:ByteArray).size = 1:=rfl
  omega
 ·omega
theorem part_name {x:Exp} (h:prtN x = 0) (ho:x.op = 2):x.name.size ≤ 10:=by
 rw [prtN_eq] at h
 by_cases hp:partErr x.op x.v x.name x.args.length = 0
 ·unfold partErr at hp
  rw [if_neg (by omega)] at hp
  have hk:partOk x.op x.v x.name x.args.length = true:=by
   cases hq:partOk x.op x.v x.name x.args.length
   ·rw [hq] at hp;simp at hp
   ·rfl
  unfold partOk at hk
  rw [if_neg (by omega),if_pos ho] at hk
  simp only [Bool.and_eq_true,decide_eq_true_eq] at hk
  have hn:=hk.2.2
  unfold nameCheck at hn
  split at hn
  ·cases hn
  ·omega
 ·rw [if_neg hp] at h;exact absurd h hp
theorem joinT_len {op:Int} {v:Val} {nm:ByteArray} {ts:List (Int × ByteArray)} (hv:op = 1 → (showV v).size ≤ 82) (hn:op = 2 → nm.size ≤ 10) (ha:(ts.length:Int) = argsN op) (h1:1 ≤ op) (h2:op ≤ 18) :
  (joinT op v nm ts).size ≤ (ts.map (fun t => t.2.size)).sum + 82:=by
 have c32:(⟨#[32]⟩:ByteArray).size = 1:=rfl
 have c40:(⟨#[40]⟩:ByteArray).size = 1:=rfl
 have c41:(⟨#[41]⟩:ByteArray).size = 1:=rfl
 have c44:(⟨#[44,32]⟩:ByteArray).size = 2:=rfl
 have hs:=sgn_len op
 unfold joinT
 split
 ·have:=hv (by assumption);omega
 split
 ·have:=hn (by assumption);omega
 split
 ·rename_i ho
  have hl:ts.length = 3 ∨ ts.length = 1:=by
   rcases ho with rfl | rfl
   ·left;have:argsN 17 = 3:=rfl
    omega
   ·right;have:argsN 18 = 1:=rfl
    omega
  rcases hl with hl | hl
  ·match ts,hl with
   | [a,b,c],_ =>
    simp only [preT,List.foldl,ByteArray.size_append,List.map_cons,List.map_nil,List.sum_cons,List.sum_nil]
    omega
  ·match ts,hl with
   | [a],_ =>
    simp only [preT,List.foldl,ByteArray.size_append,List.map_cons,List.map_nil,List.sum_cons,List.sum_nil]
    omega
 have hone:∀ i,(tAt ts i).2.size ≤ (ts.map (fun t => t.2.size)).sum:=by
  intro i
  unfold tAt
  rcases Nat.lt_or_ge i ts.length with h | h
  ·rw [List.getElem?_eq_getElem h]
   exact le_sum9 _ _ (List.mem_map.2 ⟨ts[i],List.getElem_mem h,rfl⟩)
  ·rw [List.getElem?_eq_none h]
   exact Nat.zero_le _
 split
 ·have hb:=brk_len 6 (tAt ts 0)
  have:=hone 0
  rw [ByteArray.size_append]
  omega
 split
 ·have hb:=brk_len 6 (tAt ts 0)
  have:=hone 0
  rw [ByteArray.size_append,ByteArray.size_append]
  omega
 ·have hl:ts.length = 2:=by
   have:argsN op = 2:=by unfold argsN;rw [if_neg (by omega),if_neg (by omega),if_neg (by omega)]
   omega
  match ts,hl with
  | [a,b],_ =>
   have hb:=brk_len (if lvlN op = 3 then 4 else lvlN op) a
   have hc:=brk_len (lvlN op + 1) b
   have e0:tAt [a,b] 0 = a:=rfl
   have e1:tAt [a,b] 1 = b:=rfl
   rw [e0,e1]
   simp only [ByteArray.size_append,List.map_cons,List.map_nil,List.sum_cons,List.sum_nil]
   omega
theorem fold_len:∀ (r:List (Int × ByteArray)) (s:ByteArray),(r.foldl (fun a u => a ++ ⟨#[44,32]⟩ ++ u.2) s).size ≤ s.size + (r.map (fun t => t.2.size)).sum + 2 * r.length
 | [],s => by simp
 | t :: r,s => by
  have h:=fold_len r (s ++ ⟨#[44,32]⟩ ++ t.2)
  have c44:(⟨#[44,32]⟩:ByteArray).size = 2:=rfl
  simp only [ByteArray.size_append] at h
  simp only [List.foldl_cons,List.map_cons,List.sum_cons,List.length_cons]
  omega
theorem preT_len (s:ByteArray) (l:List (Int × ByteArray)):(preT s l).size ≤ s.size + (l.map (fun t => t.2.size)).sum + 2 * l.length:=by
 cases l with
 | nil => simp [preT]
 | cons t r =>
  have h:=fold_len r (s ++ t.2)
  rw [ByteArray.size_append] at h
  simp only [preT,List.map_cons,List.sum_cons,List.length_cons]
  omega
mutual
theorem prX_len:∀ x:Exp,prtN x = 0 → (prX x).size ≤ 100 * x.nodes
 | .mk op v nm args,h => by
  obtain ⟨p1,p2,p3,p4⟩:=prt_ok h
  have hs:=prL_len args p4
  rw [prX]
  have hv:op = 1 → (showV v).size ≤ 82:=fun ho => showV_len (val_wf9 ((valKnown_iff' _).1 (part_v h ho)).1)
  have hn:op = 2 → nm.size ≤ 10:=fun ho => part_name h ho
  have hj:=joinT_len (op:=op) (v:=v) (nm:=nm) (ts:=prL args) hv hn (by rw [prL_map,List.length_map];exact p3) p1 p2
  have e:(Exp.mk op v nm args).nodes = nodesL args + 1:=rfl
  omega
theorem prL_len:∀ l:List Exp,(∀ a ∈ l,prtN a = 0) → ((prL l).map (fun t => t.2.size)).sum ≤ 100 * nodesL l
 | [],_ => by simp [prL,nodesL]
 | a :: l,h => by
  have h1:=prX_len a (h a (by simp))
  have h2:=prL_len l (fun b hb => h b (by simp [hb]))
  have e:nodesL (a :: l) = a.nodes + nodesL l:=rfl
  simp only [prL,List.map_cons,List.sum_cons]
  omega
end
end Go.Proofs.YtldbpmlgbbomcaaGreatDoor
