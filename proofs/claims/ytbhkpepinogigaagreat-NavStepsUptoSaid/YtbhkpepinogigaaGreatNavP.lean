/- Texts merged: NavQ NavP DecW RecP. -/
import Derived.Test.YtbhkpepinogigaaGreatFrm
import Derived.Test.YtbhkpepinogigaaGreatEvF
import Derived.Test.YtbhkpepinogigaaGreatOpen
/- Values that are right; forms that are right: plain laws. -/
namespace Go.Proofs.YtbhkpepinogigaaGreat
open Go.RowKit

def valErr (V:List Val) (i:Nat):Int:=match V[i]? with | none => 0 | some v => valCheck v
def valsErr (V:List Val):Int:=firstErr (valErr V) V.length
theorem valErr_at {V:List Val} {k:Nat} {v:Val} (h:V[k]? = some v):valErr V k = valCheck v:=by unfold valErr;rw [h]
theorem valsErr_hit {V:List Val} {k:Nat} {v:Val} (h:firstErr (valErr V) k = 0) (hx:V[k]? = some v) (he:valCheck v ≠ 0):valsErr V = valCheck v:=by
 unfold valsErr
 rw [firstErr_hit h (by rw [valErr_at hx];exact he) _ (List.getElem?_eq_some_iff.1 hx).1,valErr_at hx]
theorem valsErr_ok {V:List Val} (h:valsErr V = 0):∀ v ∈ V,valCheck v = 0:=by
 intro v hv
 obtain ⟨i,hi,rfl⟩:=List.mem_iff_getElem.1 hv
 have:=firstErr_all h i hi
 rwa [valErr_at (List.getElem?_eq_getElem hi)] at this
theorem firstErr_zero {g:Nat → Int}:∀ n,(∀ k,k < n → g k = 0) → firstErr g n = 0
 | 0,_ => rfl
 | n + 1,h => by rw [firstErr,if_pos (firstErr_zero n fun k hk => h k (by omega))];exact h n (by omega)
theorem formErr_pages {F:List Fld} {P:List Pag} (h:formErr F P = 0):pagesErr P F = 0:=by
 unfold formErr at h
 by_cases he:(rankR F).2.2 = 0
 ·rwa [if_neg (by simpa using he)] at h
 ·rw [if_pos he] at h;exact absurd h he
end Go.Proofs.YtbhkpepinogigaaGreat
/- What is wrong with a walk through the pages of a form; what a page lacks; the record of a walk. Plain laws. -/
namespace Go.Proofs.YtbhkpepinogigaaGreat
open Go.RowKit

structure Wlk where (at_:Int) (path:List Int) (done:Bool)
def prevAt (L:List Int):Nat → Int
 | 0 => -1
 | k + 1 => L[k]?.getD 0
def stepErr (n:Nat) (L:List Int) (k:Nat):Int:=match L[k]? with | none => 0 | some p => if p ≤ prevAt L k ∨ (n:Int) < p then 15 else 0
theorem stepErr_at {n:Nat} {L:List Int} {k:Nat} {p:Int} (h:L[k]? = some p):stepErr n L k = if p ≤ prevAt L k ∨ (n:Int) < p then 15 else 0:=by unfold stepErr;rw [h]
def walkOk (n:Nat) (x:Wlk):Bool:=decide (firstErr (stepErr n (x.path ++ [x.at_])) (x.path.length + 1) = 0) && (x.done == decide (x.at_ = n))
def walkErr (F:List Fld) (P:List Pag) (V:List Val) (x:Wlk):Int :=
 if formErr F P ≠ 0 then formErr F P else if V.length ≠ F.length then 1 else if valsErr V ≠ 0 then valsErr V else if walkOk P.length x then 0 else 15
def refGood (n:Nat) (x:Wlk):Nat → Bool
 | 0 => decide (0 ≤ x.at_) && decide (x.at_ ≤ n) && (x.done == decide (x.at_ = n))
 | k + 1 => refGood n x k && (match x.path[k]? with | none => true | some p => decide (0 ≤ p) && decide (p < x.at_) && (k == 0 || decide (prevAt x.path k < p)))
theorem refGood_iff (n:Nat) (x:Wlk):∀ k,k ≤ x.path.length → (refGood n x k = true ↔ (0 ≤ x.at_ ∧ x.at_ ≤ n ∧ (x.done == decide (x.at_ = n)) = true) ∧ ∀ i p,i < k → x.path[i]? = some p → 0 ≤ p ∧ p < x.at_ ∧ (i = 0 ∨ prevAt x.path i < p))
 | 0,_ => by
  simp only [refGood,Bool.and_eq_true,decide_eq_true_eq]
  constructor
  ·rintro ⟨⟨h1,h2⟩,h3⟩;exact ⟨⟨h1,h2,h3⟩,fun i p hi => absurd hi (by omega)⟩
  ·rintro ⟨⟨h1,h2,h3⟩,_⟩;exact ⟨⟨h1,h2⟩,h3⟩
 | k + 1,hk => by
  have ih:=refGood_iff n x k (by omega)
  have hp:x.path[k]? = some x.path[k]:=List.getElem?_eq_getElem (by omega)
  simp only [refGood,Bool.and_eq_true]
  rw [ih,hp]
  simp only [Bool.and_eq_true,decide_eq_true_eq,Bool.or_eq_true,beq_iff_eq]
  constructor
  ·rintro ⟨⟨h1,h2⟩,⟨h3,h4⟩,h5⟩
   refine ⟨h1,fun i p hi hpi => ?_⟩
   rcases Nat.lt_or_ge i k with h | h
   ·exact h2 i p h hpi
   ·obtain rfl:i = k:=by omega
    rw [hp] at hpi;cases hpi
    exact ⟨h3,h4,h5⟩
  ·rintro ⟨h1,h2⟩
   obtain ⟨h3,h4,h5⟩:=h2 k _ (by omega) hp
   exact ⟨⟨h1,fun i p hi hpi => h2 i p (by omega) hpi⟩,⟨h3,h4⟩,h5⟩
theorem prevAt_app (L M:List Int):∀ k,k ≤ L.length → prevAt (L ++ M) k = prevAt L k
 | 0,_ => rfl
 | k + 1,h => by simp only [prevAt];rw [List.getElem?_append_left (by omega)]
theorem walkOk_ref (n:Nat) (x:Wlk):refGood n x x.path.length = walkOk n x:=by
 rw [Bool.eq_iff_iff,refGood_iff n x _ (Nat.le_refl _),walkOk,Bool.and_eq_true,decide_eq_true_eq]
 have hL:∀ k p,k < x.path.length → x.path[k]? = some p → (x.path ++ [x.at_])[k]? = some p:=fun k p hk h => by rw [List.getElem?_append_left hk];exact h
 have hE:(x.path ++ [x.at_])[x.path.length]? = some x.at_:=by simp
 constructor
 ·rintro ⟨⟨h1,h2,h3⟩,h4⟩
  refine ⟨firstErr_zero _ fun k hk => ?_,h3⟩
  rcases Nat.lt_or_ge k x.path.length with h | h
  ·have hp:x.path[k]? = some x.path[k]:=List.getElem?_eq_getElem h
   obtain ⟨q1,q2,q3⟩:=h4 k _ h hp
   rw [stepErr_at (hL k _ h hp),prevAt_app _ _ _ (by omega),if_neg]
   rintro (h5 | h5)
   ·rcases q3 with rfl | q3
    ·simp only [prevAt] at h5;omega
    ·omega
   ·omega
  ·obtain rfl:k = x.path.length:=by omega
   rw [stepErr_at hE,prevAt_app _ _ _ (Nat.le_refl _),if_neg]
   rintro (h5 | h5)
   ·cases hl:x.path.length with
    | zero => rw [hl] at h5;simp only [prevAt] at h5;omega
    | succ j =>
     rw [hl] at h5
     have hp:x.path[j]? = some x.path[j]:=List.getElem?_eq_getElem (by omega)
     obtain ⟨q1,q2,q3⟩:=h4 j _ (by omega) hp
     simp only [prevAt,hp,Option.getD_some] at h5
     omega
   ·omega
 ·rintro ⟨h,h3⟩
  have hs:∀ k p,k ≤ x.path.length → (x.path ++ [x.at_])[k]? = some p → prevAt x.path k < p ∧ p ≤ n:=by
   intro k p hk hp
   have:=firstErr_all h k (by omega)
   rw [stepErr_at hp,prevAt_app _ _ _ hk] at this
   split at this
   ·cases this
   ·rename_i hh;omega
  have hge:∀ k p,k ≤ x.path.length → (x.path ++ [x.at_])[k]? = some p → 0 ≤ p:=by
   intro k
   induction k with
   | zero => intro p hk hp;have:=(hs 0 p hk hp).1;simp only [prevAt] at this;omega
   | succ k ih =>
    intro p hk hp
    have h1:=(hs (k + 1) p hk hp).1
    have hp':x.path[k]? = some x.path[k]:=List.getElem?_eq_getElem (by omega)
    have h2:=ih _ (by omega) (hL k _ (by omega) hp')
    simp only [prevAt,hp',Option.getD_some] at h1
    omega
  have hat:=hs x.path.length x.at_ (Nat.le_refl _) hE
  have hlt:∀ d k p,k + d + 1 = x.path.length → x.path[k]? = some p → p < x.at_:=by
   intro d
   induction d with
   | zero =>
    intro k p hk hp
    have h1:=hat.1
    rw [← hk] at h1
    simp only [prevAt,hp,Option.getD_some] at h1
    exact h1
   | succ d ih =>
    intro k p hk hp
    have hp':x.path[k + 1]? = some x.path[k + 1]:=List.getElem?_eq_getElem (by omega)
    have h1:=ih (k + 1) _ (by omega) hp'
    have h2:=(hs (k + 1) _ (by omega) (hL _ _ (by omega) hp')).1
    simp only [prevAt,hp,Option.getD_some] at h2
    omega
  refine ⟨⟨hge _ _ (Nat.le_refl _) hE,hat.2,h3⟩,fun i p hi hp => ⟨hge i p (by omega) (hL i p hi hp),hlt (x.path.length - i - 1) i p (by omega) hp,.inr (hs i p (by omega) (hL i p hi hp)).1⟩⟩
theorem walkOk_path {n:Nat} {x:Wlk} (h:walkOk n x = true):0 ≤ x.at_ ∧ x.at_ ≤ n ∧ (x.done = decide (x.at_ = n)) ∧ ∀ i p,x.path[i]? = some p → 0 ≤ p ∧ p < x.at_ ∧ prevAt x.path i < p:=by
 rw [← walkOk_ref,refGood_iff n x _ (Nat.le_refl _)] at h
 obtain ⟨⟨h1,h2,h3⟩,h4⟩:=h
 refine ⟨h1,h2,by simpa using h3,fun i p hp => ?_⟩
 obtain ⟨q1,q2,q3⟩:=h4 i p (List.getElem?_eq_some_iff.1 hp).1 hp
 refine ⟨q1,q2,?_⟩
 rcases q3 with rfl | q3
 ·simp only [prevAt];omega
 ·exact q3
theorem walkOk_len {n:Nat} {x:Wlk} (h:walkOk n x = true):x.path.length ≤ n:=by
 obtain ⟨h1,h2,_,h4⟩:=walkOk_path h
 have hge:∀ (k:Nat) p,x.path[k]? = some p → (k:Int) ≤ p:=by
  intro k
  induction k with
  | zero => intro p hp;exact (h4 0 p hp).1
  | succ k ih =>
   intro p hp
   have hk:=(List.getElem?_eq_some_iff.1 hp).1
   have hp':x.path[k]? = some x.path[k]:=List.getElem?_eq_getElem (by omega)
   have q:=(h4 _ _ hp).2.2
   simp only [prevAt,hp',Option.getD_some] at q
   have:=ih _ hp'
   omega
 cases hl:x.path.length with
 | zero => omega
 | succ j =>
  have hp':x.path[j]? = some x.path[j]:=List.getElem?_eq_getElem (by omega)
  have q1:=hge j _ hp'
  have q2:=(h4 _ _ hp').2.1
  omega
section
variable {F:List Fld} {P:List Pag} {V:List Val} {x:Wlk}
theorem walkErr_form (h:formErr F P ≠ 0):walkErr F P V x = formErr F P:=by unfold walkErr;rw [if_pos h]
theorem walkErr_len (h:formErr F P = 0) (h1:V.length ≠ F.length):walkErr F P V x = 1:=by unfold walkErr;rw [if_neg (by simpa using h),if_pos h1]
theorem walkErr_val (h:formErr F P = 0) (h1:V.length = F.length) (h2:valsErr V ≠ 0):walkErr F P V x = valsErr V:=by unfold walkErr;rw [if_neg (by simpa using h),if_neg (by simpa using h1),if_pos h2]
theorem walkErr_walk (h:formErr F P = 0) (h1:V.length = F.length) (h2:valsErr V = 0):walkErr F P V x = if walkOk P.length x then 0 else 15:=by unfold walkErr;rw [if_neg (by simpa using h),if_neg (by simpa using h1),if_neg (by simpa using h2)]
theorem walkErr_zero (h:walkErr F P V x = 0):formErr F P = 0 ∧ V.length = F.length ∧ valsErr V = 0 ∧ walkOk P.length x = true:=by
 unfold walkErr at h
 by_cases h1:formErr F P = 0
 ·rw [if_neg (by simpa using h1)] at h
  by_cases h2:V.length = F.length
  ·rw [if_neg (by simpa using h2)] at h
   by_cases h3:valsErr V = 0
   ·rw [if_neg (by simpa using h3)] at h
    cases h4:walkOk P.length x
    ·rw [h4] at h;cases h
    ·exact ⟨h1,h2,h3,rfl⟩
   ·rw [if_pos h3] at h;exact absurd h h3
  ·rw [if_pos h2] at h;cases h
 ·rw [if_pos h1] at h;exact absurd h h1
end
theorem pagesErr_len {F:List Fld} {P:List Pag} (h:pagesErr P F = 0):1 ≤ P.length ∧ P.length ≤ 6:=by
 unfold pagesErr at h
 split at h
 ·cases h
 ·omega
theorem pagesErr_at {F:List Fld} {P:List Pag} (h:pagesErr P F = 0) {k:Nat} {p:Pag} (hp:P[k]? = some p):pe P F k = 0:=by
 unfold pagesErr at h
 split at h
 ·cases h
 ·exact firstErr_all h k (List.getElem?_eq_some_iff.1 hp).1
theorem pe_names {F:List Fld} {P:List Pag} {k:Nat} {p:Pag} (hp:P[k]? = some p) (h:pe P F k = 0):firstErr (ne F (metOf P k) p.fields) p.fields.length = 0:=by
 rw [pe_eq hp] at h
 by_cases h1:nameCheck p.name = 0
 ·rw [if_neg (by simpa using h1)] at h
  cases h2:(P.take k).any (hasPage p.name)
  ·rw [h2,if_neg (by decide)] at h
   by_cases h3:firstErr (ne F (metOf P k) p.fields) p.fields.length = 0
   ·exact h3
   ·rw [if_pos h3] at h;exact h
  ·rw [h2,if_pos rfl] at h;cases h
 ·rw [if_pos h1] at h;exact absurd h h1
theorem ne_zero {F:List Fld} {met fs:List ByteArray} {j:Nat} {s:ByteArray} (h:fs[j]? = some s) (h0:ne F met fs j = 0):F.any (hasName s) = true ∧ (met ++ fs.take j).any (isStr s) = false:=by
 rcases ne_some (lf:=F) (met:=met) h with ⟨_,e⟩ | ⟨_,_,e⟩ | ⟨h1,h2,_⟩
 ·rw [e] at h0;cases h0
 ·rw [e] at h0;cases h0
 ·exact ⟨h1,h2⟩
theorem pages_names {F:List Fld} {P:List Pag} (h:pagesErr P F = 0) {k:Nat} {p:Pag} (hp:P[k]? = some p) {s:ByteArray} (hs:s ∈ p.fields):F.any (hasName s) = true:=by
 have h1:=pe_names hp (pagesErr_at h hp)
 obtain ⟨j,hj,rfl⟩:=List.mem_iff_getElem.1 hs
 exact (ne_zero (List.getElem?_eq_getElem hj) (firstErr_all h1 j hj)).1
theorem firstErr_met {F:List Fld} {met fs:List ByteArray} (hm:Met F met):∀ j,j ≤ fs.length → firstErr (ne F met fs) j = 0 → Met F (met ++ fs.take j)
 | 0,_,_ => by simpa using hm
 | j + 1,hj,h => by
  have h0:=firstErr_all h
  have hs:fs[j]? = some fs[j]:=List.getElem?_eq_getElem (by omega)
  obtain ⟨q1,q2⟩:=ne_zero hs (h0 j (by omega))
  have ih:=firstErr_met hm j (by omega) (firstErr_zero _ fun k hk => h0 k (by omega))
  have:=ih.snoc q1 q2
  rw [List.take_add_one,hs,← List.append_assoc]
  exact this
theorem pages_met {F:List Fld} {P:List Pag} (h:pagesErr P F = 0):∀ k,k ≤ P.length → Met F (metOf P k)
 | 0,_ => ⟨by simp [metOf],by simp [metOf]⟩
 | k + 1,hk => by
  have hp:P[k]? = some P[k]:=List.getElem?_eq_getElem (by omega)
  have ih:=pages_met h k (by omega)
  rw [metOf_next hp]
  have:=firstErr_met ih _ (Nat.le_refl _) (pe_names hp (pagesErr_at h hp))
  rwa [List.take_length] at this
theorem page_fields_len {F:List Fld} {P:List Pag} (h:pagesErr P F = 0) {k:Nat} {p:Pag} (hp:P[k]? = some p):p.fields.length ≤ F.length:=by
 have:=(pages_met h (k + 1) (List.getElem?_eq_some_iff.1 hp).1).len
 rw [metOf_next hp,List.length_append] at this
 omega
def valOf (F:List Fld) (V:List Val) (s:ByteArray):Val:=V[fieldAt F s]?.getD noVal
def lacks (F:List Fld) (V:List Val) (s:ByteArray):Bool:=decide (3 < (valOf F V s).k)
def lackL (F:List Fld) (V:List Val) (fs:List ByteArray):List ByteArray:=fs.filter (lacks F V)
theorem lackL_yes {F:List Fld} {V:List Val} {fs:List ByteArray} {k:Nat} {s:ByteArray} (h:fs[k]? = some s) (hk:lacks F V s = true):lackL F V (fs.take (k + 1)) = lackL F V (fs.take k) ++ [s]:=by
 unfold lackL;rw [List.take_add_one,h,List.filter_append];simp [hk]
theorem lackL_no {F:List Fld} {V:List Val} {fs:List ByteArray} {k:Nat} {s:ByteArray} (h:fs[k]? = some s) (hk:lacks F V s = false):lackL F V (fs.take (k + 1)) = lackL F V (fs.take k):=by
 unfold lackL;rw [List.take_add_one,h,List.filter_append];simp [hk]
theorem lackL_len (F:List Fld) (V:List Val) (fs:List ByteArray):(lackL F V fs).length ≤ fs.length:=List.length_filter_le _ _
theorem valOf_at {F:List Fld} {V:List Val} {s:ByteArray} (hs:F.any (hasName s) = true) (hl:V.length = F.length):fieldAt F s < V.length ∧ ∃ v,V[fieldAt F s]? = some v ∧ valOf F V s = v:=by
 obtain ⟨f,h1,h2,h3⟩:=find_at (hasName s) F hs
 have hk:fieldAt F s < V.length:=by rw [hl];exact h3
 exact ⟨hk,_,List.getElem?_eq_getElem hk,by unfold valOf;rw [List.getElem?_eq_getElem hk];rfl⟩
theorem lacks_known {F:List Fld} {V:List Val} {s:ByteArray} {v:Val} (h:valOf F V s = v) (hv:valCheck v = 0):valKnown v = !lacks F V s:=by
 unfold lacks
 rw [h,Bool.eq_iff_iff,valKnown_iff']
 simp [hv]
 omega
def pageFs (P:List Pag) (at_:Int):Option (List ByteArray):=if at_ < 0 then none else (P[at_.toNat]?).map (·.fields)
def lackR (F:List Fld) (P:List Pag) (V:List Val) (at_:Int):List ByteArray × Int :=
 if walkErr F P V ⟨0,[],false⟩ ≠ 0 then ([],walkErr F P V ⟨0,[],false⟩) else match pageFs P at_ with
 | none => ([],4)
 | some fs => (lackL F V fs,0)
theorem walkOk_at {n:Nat} {x:Wlk} {k:Nat} {p:Int} (h:firstErr (stepErr n (x.path ++ [x.at_])) k = 0) (hp:(x.path ++ [x.at_])[k]? = some p) (hb:p ≤ prevAt (x.path ++ [x.at_]) k ∨ (n:Int) < p):walkOk n x = false:=by
 have hk:k < x.path.length + 1:=by have:=(List.getElem?_eq_some_iff.1 hp).1;simpa using this
 have h1:stepErr n (x.path ++ [x.at_]) k = 15:=by rw [stepErr_at hp,if_pos hb]
 have h2:=firstErr_hit h (by rw [h1];decide) (x.path.length + 1) hk
 unfold walkOk
 rw [h2,h1]
 rfl
theorem walkOk_end {n:Nat} {x:Wlk} (h:firstErr (stepErr n (x.path ++ [x.at_])) (x.path.length + 1) = 0):walkOk n x = (x.done == decide (x.at_ = n)):=by
 unfold walkOk;rw [h];simp
section
variable {F:List Fld} {P:List Pag} {V:List Val} {at_:Int}
theorem lackR_err (h:walkErr F P V ⟨0,[],false⟩ ≠ 0):lackR F P V at_ = ([],walkErr F P V ⟨0,[],false⟩):=by unfold lackR;rw [if_pos h]
theorem lackR_out (h:walkErr F P V ⟨0,[],false⟩ = 0) (ha:at_ < 0 ∨ (P.length:Int) ≤ at_):lackR F P V at_ = ([],4):=by
 unfold lackR
 rw [if_neg (by simpa using h)]
 have e:pageFs P at_ = none:=by
  unfold pageFs
  by_cases h0:at_ < 0
  ·rw [if_pos h0]
  ·rw [if_neg h0,List.getElem?_eq_none (by omega)];rfl
 rw [e]
theorem pageFs_at {k:Nat} {p:Pag} (hp:P[k]? = some p):pageFs P (k:Int) = some p.fields:=by
 unfold pageFs
 rw [if_neg (by omega),Int.toNat_natCast,hp];rfl
theorem lackR_in (h:walkErr F P V ⟨0,[],false⟩ = 0) {k:Nat} {p:Pag} (hp:P[k]? = some p):lackR F P V (k:Int) = (lackL F V p.fields,0):=by
 unfold lackR
 rw [if_neg (by simpa using h),pageFs_at hp]
theorem lackL_in {p:ByteArray → Prop} {fs:List ByteArray} (h:∀ s ∈ fs,p s):∀ s ∈ lackL F V fs,p s:=fun s hs => h s (List.mem_filter.1 hs).1
end
end Go.Proofs.YtbhkpepinogigaaGreat
/- Readings: walks through pages. -/
namespace Go.Proofs.YtbhkpepinogigaaGreat
open Go.ChangeShapes Go.WideShapes Go.ChangeAt Go.RowKit

theorem bytes_int:Tryz.prog.bytesOf 3 = 8:=by kernel_rfl
theorem dec_Ints:Dec 23 (fun w => RSl 1 8 (fun _ _ => RInt) w (old w)) (fun l => (l.map fun _v:Int => 1).sum + 1) :=
 dec_sl (R:=fun _ _ => RInt) Tryz.underlying23 cells_int bytes_int (by decide) (dec_int Tryz.underlying3)
def RWlk (w:World) (S:Nat → Prop) (cs:List Value) (x:Wlk):Prop :=
 inI x.at_ ∧ ∃ Q q cq,cs = [.int .i64 x.at_,.slice Q q cq,.bool x.done] ∧ inB 8 q ∧ q ≤ cq ∧ Sl w S 1 RInt Q q x.path
def Wlk.bulk (_:Wlk):Nat:=1
theorem cells_Wlk:Tryz.prog.cellsOf 35 = 3:=by kernel_rfl
theorem cells_Ints:Tryz.prog.cellsOf 23 = 1:=by kernel_rfl
theorem cells_bool:Tryz.prog.cellsOf 4 = 1:=by kernel_rfl
set_option maxRecDepth 100000 in
theorem dec_Wlk:Dec 35 (fun w => RWlk w (old w)) Wlk.bulk:=by
 intro H enc w fuel cs x h hw
 obtain ⟨xs,n,hfu,hlen,hl,hb,hf⟩:=struct_parts Tryz.underlying35 h hw
 rw [cells_Wlk] at hl
 match cs,hl with
 | [c0,c1,c2],_ =>
  match xs,hlen with
  | [y0,y1,y2],_ =>
   obtain ⟨z0,e0,g0,q0⟩:=hf 0 _ rfl
   cases e0
   change DataW.trod enc Tryz.prog w 0 (fun _ => true) true n 3 (List.take (Tryz.prog.cellsOf 3) [c0,c1,c2]) = some y0 at g0
   rw [cells_int] at g0
   change DataW.trod enc Tryz.prog w 0 (fun _ => true) true n 3 [c0] = some y0 at g0
   obtain ⟨a0,⟨r0,i0⟩,m0⟩:=dec_int Tryz.underlying3 g0 q0
   simp only [List.cons.injEq,and_true] at r0
   subst r0
   obtain ⟨z1,e1,g1,q1⟩:=hf 1 _ rfl
   cases e1
   change DataW.trod enc Tryz.prog w 0 (fun _ => true) true n 23 (List.take (Tryz.prog.cellsOf 23) [c1,c2]) = some y1 at g1
   rw [cells_Ints] at g1
   change DataW.trod enc Tryz.prog w 0 (fun _ => true) true n 23 [c1] = some y1 at g1
   obtain ⟨a1,⟨A1,k1,c1',r1,i1,i1',s1⟩,m1⟩:=dec_Ints g1 q1
   simp only [List.cons.injEq,and_true] at r1
   subst r1
   obtain ⟨z2,e2,g2,q2⟩:=hf 2 _ rfl
   cases e2
   change DataW.trod enc Tryz.prog w 0 (fun _ => true) true n 4 (List.take (Tryz.prog.cellsOf 4) [c2]) = some y2 at g2
   rw [cells_bool] at g2
   change DataW.trod enc Tryz.prog w 0 (fun _ => true) true n 4 [c2] = some y2 at g2
   obtain ⟨a2,r2,m2⟩:=dec_bool Tryz.underlying4 g2 q2
   simp only [List.cons.injEq,and_true] at r2
   subst r2
   simp only [List.map_cons,List.map_nil,List.sum_cons,List.sum_nil] at hb
   exact ⟨⟨a0,a1,a2⟩,⟨i0,A1,k1,c1',rfl,i1,i1',s1⟩,by unfold Wlk.bulk;simp only [] at *;omega⟩
end Go.Proofs.YtbhkpepinogigaaGreat
/- The record of a walk through a form's pages. Plain laws. -/
namespace Go.Proofs.YtbhkpepinogigaaGreat
open Go.RowKit

def fsOf (P:List Pag) (p:Int):List ByteArray:=(pageFs P p).getD []
def recL (F:List Fld) (V:List Val) (fs:List ByteArray):List Fct:=fs.map fun s => ⟨s,noVal,valOf F V s⟩
def recTo (F:List Fld) (P:List Pag) (V:List Val) (path:List Int):List Fct:=path.flatMap fun p => recL F V (fsOf P p)
def recBad (F:List Fld) (P:List Pag) (V:List Val) (p:Int):Bool:=(fsOf P p).any (lacks F V)
def recR (F:List Fld) (P:List Pag) (V:List Val) (x:Wlk):List Fct × Int :=
 if walkErr F P V x ≠ 0 then ([],walkErr F P V x) else if x.done = false then ([],11) else if x.path.any (recBad F P V) then ([],11) else (recTo F P V x.path,0)
section
variable {F:List Fld} {P:List Pag} {V:List Val} {x:Wlk}
end
end Go.Proofs.YtbhkpepinogigaaGreat
