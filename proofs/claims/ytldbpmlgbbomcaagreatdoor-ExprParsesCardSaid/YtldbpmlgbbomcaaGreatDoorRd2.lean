/- The reader of formulas: what each call hands back; the arguments of a call. -/
import Derived.Test.YtldbpmlgbbomcaaGreatDoorRd1
import Derived.Test.YtldbpmlgbbomcaaGreatDoorPar
namespace Go.Proofs.YtldbpmlgbbomcaaGreatDoor
open Go.RowKit

def RetX (T0 R:Nat) (en:Int) (w:World) (x:Exp) (ts:List Tkn) (e:Ending) (w':World):Prop :=
 ∃ A c,e = .returned (.agg #[.int .i64 x.op,.int .i64 x.v.k,.int .i64 x.v.n,.string x.v.s,.string x.name,.slice A x.args.length c]) ∧
  XRep w' (fresh w w') [.int .i64 x.op,.int .i64 x.v.k,.int .i64 x.v.n,.string x.v.s,.string x.name,.slice A x.args.length c] x ∧ RdS T0 w' R ts en ∧ Bes R w w'
def RetBad (R:Nat) (en:Int) (w:World) (ts:List Tkn) (e:Ending) (w':World):Prop:=e = lostE en ts ∧ Bes R w w'
def PPost (T0 R:Nat) (en:Int) (w:World) (r:PR Exp):Ending → World → Prop:=match r with
 | .ok x ts => RetX T0 R en w x ts
 | .bad ts => RetBad R en w ts
def RetL (T0 R:Nat) (en:Int) (w:World) (l:List Exp) (ts:List Tkn) (e:Ending) (w':World):Prop :=
 ∃ v,e = .returned v ∧ Own w' w.heap.size 26 6 XRep v l ∧ RdS T0 w' R ts en ∧ Bes R w w'
def LPost (T0 R:Nat) (en:Int) (w:World) (r:PR (List Exp)):Ending → World → Prop:=match r with
 | .ok l ts => RetL T0 R en w l ts
 | .bad ts => RetBad R en w ts
def TokOk (ts:List Tkn):Prop:=∀ t ∈ ts,inS t.s ∧ t.v.wf
theorem TokOk.tail {ts:List Tkn} (h:TokOk ts):TokOk ts.tail:=fun t ht => h t (List.mem_of_mem_tail ht)
theorem p_suffix:∀ n,(∀ ts x r,pOne n ts = .ok x r → r <:+ ts) ∧ (∀ L ts x r,pForm n L ts = .ok x r → r <:+ ts) ∧
  (∀ L h x ts y r,pClimb n L h x ts = .ok y r → r <:+ ts) ∧ ∀ k g acc ts l r,pArgs n k g acc ts = .ok l r → r <:+ ts
 | 0 => by
  refine ⟨fun ts x r h => ?_,fun L ts x r h => ?_,fun L h x ts y r h' => ?_,fun k g acc ts l r h => ?_⟩
  ·rw [pOne] at h;cases h
  ·rw [pForm] at h;cases h
  ·rw [pClimb] at h';cases h'
  ·rw [pArgs] at h;cases h
 | n + 1 => by
  obtain ⟨i1,i2,i3,i4⟩:=p_suffix n
  have tl:∀ ts:List Tkn,ts.tail <:+ ts:=List.tail_suffix
  refine ⟨fun ts x r h => ?_,fun L ts x r h => ?_,fun L h x ts y r h' => ?_,fun k g acc ts l r h => ?_⟩
  ·rw [pOne] at h
   split at h
   ·obtain ⟨y,r',e,e'⟩:=then_ok h
    cases e'
    exact (i1 _ _ _ e).trans (tl _)
   split at h
   ·obtain ⟨y,r',e,e'⟩:=then_ok h
    cases e'
    exact (i1 _ _ _ e).trans (tl _)
   split at h
   ·obtain ⟨y,r',e,e'⟩:=then_ok h
    obtain ⟨_,rfl,_⟩:=wantT_ok e'
    exact ((tl _).trans (i2 _ _ _ _ e)).trans (tl _)
   split at h
   ·cases h;exact tl _
   split at h
   ·cases h;exact tl _
   split at h
   ·obtain ⟨y,r',e,e'⟩:=then_ok h
    cases e'
    exact (i4 _ _ _ _ _ _ e).trans (tl _)
   split at h
   ·obtain ⟨y,r',e,e'⟩:=then_ok h
    cases e'
    exact (i4 _ _ _ _ _ _ e).trans (tl _)
   ·unfold leafP at h
    cases ts with
    | nil => cases h
    | cons t r' =>
     simp only at h
     split at h
     ·cases h;exact List.suffix_cons _ _
     ·split at h
      ·cases h;exact List.suffix_cons _ _
      ·cases h
  ·rw [pForm] at h
   obtain ⟨y,r',e,e'⟩:=then_ok h
   exact (i3 _ _ _ _ _ _ e').trans (i1 _ _ _ e)
  ·rw [pClimb] at h'
   cases hb:binAt L h ts with
   | none => rw [hb] at h';cases h';exact List.suffix_refl _
   | some op =>
    rw [hb] at h'
    obtain ⟨z,r',e,e'⟩:=then_ok h'
    exact ((i3 _ _ _ _ _ _ e').trans (i2 _ _ _ _ e)).trans (tl _)
  ·cases k with
   | zero =>
    rw [pArgs] at h
    obtain ⟨_,rfl,_⟩:=wantT_ok h
    exact tl _
   | succ k =>
    rw [pArgs] at h
    obtain ⟨y,r',e,e'⟩:=then_ok h
    obtain ⟨_,rfl,_⟩:=wantT_ok e
    obtain ⟨z,r2,e2,e3⟩:=then_ok e'
    exact ((i4 _ _ _ _ _ _ e3).trans (i2 _ _ _ _ e2)).trans (tl _)
theorem TokOk.suf {ts r:List Tkn} (h:TokOk ts) (hr:r <:+ ts):TokOk r:=fun t ht => h t (hr.subset ht)
theorem rdForm_suf {L:Int} {ts r:List Tkn} {x:Exp} (h:rdForm L ts = .ok x r):r <:+ ts:=(p_suffix _).2.1 _ _ _ _ h
theorem rdOne_suf {ts r:List Tkn} {x:Exp} (h:rdOne ts = .ok x r):r <:+ ts:=(p_suffix _).1 _ _ _ h
theorem rdArgs_suf {k:Nat} {g:ByteArray} {acc l:List Exp} {ts r:List Tkn} (h:rdArgs k g acc ts = .ok l r):r <:+ ts:=(p_suffix _).2.2.2 _ _ _ _ _ _ h
theorem rdArgs_shr {k:Nat} {g:ByteArray} {acc l:List Exp} {ts r:List Tkn} (h:rdArgs k g acc ts = .ok l r):r.length < ts.length:=(p_shrink _).2.2.2 _ _ _ _ _ _ h
def GlobR (R:Nat):Prop:=0 < R ∧ 5 < R ∧ 1 < R ∧ 2 < R
theorem tab_bes {n:String} {g R:Nat} {k:IntKind} {zs:List Int} {w w':World} (hg:Tryz.prog.globalNamed n = some g) (h:Lib.TabIs Tryz.prog w n k zs) (hb:Bes R w w') (hR:g < R):Lib.TabIs Tryz.prog w' n k zs:=by
 unfold Lib.TabIs World.var? at h ⊢
 rw [hg] at h ⊢
 simp only [Option.bind_some] at h ⊢
 have hlt:g < w.heap.size:=by
  rcases Nat.lt_or_ge g w.heap.size with h' | h'
  ·exact h'
  ·rw [Array.getElem?_eq_none h'] at h;cases h
 rw [hb.block g hlt (by omega)]
 exact h
theorem cell_bes {R g:Nat} {w w':World} {v:Value} (h:w.cell? ⟨g,0,none⟩ = some v) (hb:Bes R w w') (hR:g < R):w'.cell? ⟨g,0,none⟩ = some v :=
 (World.cell?_of_block (a:=⟨g,0,none⟩) (hb.block g (block_lt_of_cell h) (by omega))).trans h
theorem GdA.bes {R:Nat} {w w':World} (h:GdA w) (hb:Bes R w w') (hR:GlobR R):GdA w':=by
 obtain ⟨⟨⟨m,hm⟩,ht⟩,⟨v,hv,k⟩,v',hv',k'⟩:=h
 obtain ⟨r1,r2,r3,r4⟩:=hR
 exact ⟨⟨⟨m,cell_bes hm hb r1⟩,tab_bes (g:=5) (by kernel_rfl) ht hb r2⟩,⟨v,cell_bes hv hb r3,k⟩,v',cell_bes hv' hb r4,k'⟩
def LevN (T0 R:Nat) (en:Int) (n:Nat):Prop:=∀ (L:Int) (ts:List Tkn) (w:World),1 ≤ L → L ≤ 6 → ts.length < n → TokOk ts → GlobR R → GdA w → RdS T0 w R ts en →
 Calls Tryz.prog 17 #[.pointer (some ⟨R,0,none⟩),.int .i64 L] w (PPost T0 R en w (rdForm L ts))
def OneN (T0 R:Nat) (en:Int) (n:Nat):Prop:=∀ (ts:List Tkn) (w:World),ts.length < n → TokOk ts → GlobR R → GdA w → RdS T0 w R ts en →
 Calls Tryz.prog 39 #[.pointer (some ⟨R,0,none⟩)] w (PPost T0 R en w (rdOne ts))
theorem Own.ovr {α:Type} {w w':World} {base:Nat} {e:TypeId} {size:Nat} {R:World → (Nat → Prop) → List Value → α → Prop} {v:Value} {l:List α} (K:Keeps R) (h:Own w base e size R v l) (hz:w.heap.size ≤ w'.heap.size)
  (hb:∀ b,base ≤ b → b < w.heap.size → w'.heap[b]? = w.heap[b]?):Own w' base e size R v l:=by
 obtain ⟨C,h1,h2,h3,h4⟩:=h
 refine ⟨C,?_,h2,h3,fun i c a hc ha => K _ _ _ _ _ _ (h4 i c a hc ha) fun b hb' => ⟨⟨hb'.1,Nat.lt_of_lt_of_le hb'.2.1 hz,hb'.2.2⟩,hb b hb'.1 hb'.2.1⟩⟩
 obtain ⟨a1,a2⟩:=h1
 refine ⟨a1,?_⟩
 rcases a2 with a2 | ⟨g,cap,cur,rfl,hg,hh,r⟩
 ·exact .inl a2
 ·refine .inr ⟨g,cap,cur,rfl,hg,?_,r⟩
  have hlt:g < w.heap.size:=by
   rcases Nat.lt_or_ge g w.heap.size with h | h
   ·exact h
   ·rw [Array.getElem?_eq_none h] at hh;cases hh
  rw [hb g hg hlt];exact hh
theorem Tryz.infoExpR:(Tryz.prog.info? 26).map (fun i => (i.zero,i.size,i.bytes)) = some (some (.agg #[.int .i64 0,.int .i64 0,.int .i64 0,.string ⟨#[]⟩,.string ⟨#[]⟩,.slice none 0 0]),6,80):=by kernel_rfl
def gAt (j:Nat):ByteArray:=if j = 0 then tOpen else tComma
theorem gAt_ix (j:Nat):(min (j:Int) 1 = 0 ∧ gAt j = tOpen) ∨ (min (j:Int) 1 = 1 ∧ gAt j = tComma):=by
 by_cases h:j = 0
 ·exact .inl ⟨by omega,by rw [gAt,if_pos h]⟩
 ·exact .inr ⟨by omega,by rw [gAt,if_neg h]⟩
end Go.Proofs.YtldbpmlgbbomcaaGreatDoor
