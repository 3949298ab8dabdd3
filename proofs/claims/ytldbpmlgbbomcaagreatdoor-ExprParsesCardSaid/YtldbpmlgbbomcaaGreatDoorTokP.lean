/- The tokens of a text are such as may be. Plain laws. -/
import Derived.Test.YtldbpmlgbbomcaaGreatDoorRd2
namespace Go.Proofs.YtldbpmlgbbomcaaGreatDoor
open Go.RowKit

theorem inI_nat {n:Nat} (h:n ≤ 1099511627776):inI (n:Int):=by
 have e:IntKind.i64.min = -9223372036854775808:=by decide
 have:IntKind.i64.min ≤ (n:Int) ∧ (n:Int) ≤ 9223372036854775807:=by omega
 simpa [inI,Lit.wf] using this
theorem tkVal_wf:tkVal.wf:=⟨inI_c 0 (by omega),inI_c 0 (by omega),str_nil_in⟩
theorem oneX_val {r:List UInt8} (h:(oneX r).2 = 0):(oneX r).1.v.wf:=by
 unfold oneX at h ⊢
 cases r with
 | nil => cases h
 | cons c t =>
  dsimp only at h ⊢
  split at h
  ·rename_i hc
   rw [if_pos hc]
   unfold numX at h ⊢
   split at h
   ·cases h
   ·rename_i a1
    split at h
    ·cases h
    ·rename_i a2
     rw [if_neg a1,if_neg a2]
     exact ⟨inI_c 1 (by omega),inI_nat (by omega),str_nil_in⟩
  ·rename_i hc
   rw [if_neg hc]
   split at h
   ·rename_i hl
    rw [if_pos hl]
    unfold wordX at h ⊢
    split at h
    ·cases h
    ·rename_i a1
     rw [if_neg a1]
     exact tkVal_wf
   ·rename_i hl
    rw [if_neg hl]
    split at h
    ·rename_i hq
     rw [if_pos hq]
     unfold quoteX at h ⊢
     cases hx:qt (c :: t).tail with
     | none => rw [hx] at h;cases h
     | some y =>
      obtain ⟨x,n⟩:=y
      rw [hx] at h
      dsimp only at h ⊢
      split at h
      ·cases h
      ·rename_i a1
       rw [if_neg a1]
       refine ⟨inI_c 3 (by omega),inI_c 0 (by omega),?_⟩
       show (ofL x).size ≤ 140737488351232
       rw [ofL_size]
       omega
    ·rename_i hq
     rw [if_neg hq]
     unfold signX at h ⊢
     cases hx:signsX.find? (fun g => Lib.hasPrefix (c :: t) g) with
     | none => rw [hx] at h;cases h
     | some g => exact tkVal_wf
theorem lexF_tok (l:List UInt8) (hl:l.length ≤ 160):∀ (f p:Nat),TokOk (lexF l f p).1
 | 0,p => by rw [lexF];intro t ht;cases ht
 | f + 1,p => by
  have nl:TokOk []:=fun t ht => by cases ht
  rw [lexF]
  split
  ·split
   ·exact lexF_tok l hl f _
   ·split
    ·rename_i h2
     split
     ·intro t ht
      rcases List.mem_cons.1 ht with rfl | ht
      ·have h1:=oneX_len h2
       rw [List.length_drop] at h1
       refine ⟨?_,oneX_val h2⟩
       show (oneX (l.drop p)).1.s.size ≤ 140737488351232
       omega
      ·exact lexF_tok l hl f _ t ht
     ·exact nl
    ·exact nl
  ·exact nl
theorem lexX_tok (s:ByteArray):TokOk (lexX s.data.toList).1:=by
 unfold lexX
 split
 ·intro t ht;cases ht
 ·exact lexF_tok _ (by omega) _ _
end Go.Proofs.YtldbpmlgbbomcaaGreatDoor
