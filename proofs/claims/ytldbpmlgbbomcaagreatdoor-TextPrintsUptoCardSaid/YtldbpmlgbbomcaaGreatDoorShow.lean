/- value.Show and the reference ValueText: what a value is shown as. -/
import Derived.Test.YtldbpmlgbbomcaaGreatDoorShelf
import Derived.Test.YtldbpmlgbbomcaaGreatDoorVal
import Derived.Test.YtldbpmlgbbomcaaGreatDoorShowP
import Derived.Lib.ItoaLen
namespace Go.Proofs.YtldbpmlgbbomcaaGreatDoor
open Go.RowKit

def Gd (w : World) : Prop := (∃ m, w.cell? ⟨0, 0, none⟩ = some (.int .i64 m)) ∧ Lib.TabIs Tryz.prog w "internal/strconv.uint64pow10" .u64 Lib.pow10Tab
theorem tab_keep {n:String} {g:Nat} {k:IntKind} {zs:List Int} {w w':World} (hg:Tryz.prog.globalNamed n = some g) (h:Lib.TabIs Tryz.prog w n k zs) (hb:Below w.heap.size w w'):Lib.TabIs Tryz.prog w' n k zs:=by
 unfold Lib.TabIs World.var? at h ⊢
 rw [hg] at h ⊢
 simp only [Option.bind_some] at h ⊢
 have hlt:g < w.heap.size:=by
  rcases Nat.lt_or_ge g w.heap.size with h' | h'
  ·exact h'
  ·rw [Array.getElem?_eq_none h'] at h;cases h
 rw [hb.block g hlt]
 exact h
theorem Gd.keep {w w':World} (h:Gd w) (hb:Below w.heap.size w w'):Gd w':=by
 obtain ⟨⟨m,hm⟩,ht⟩:=h
 exact ⟨⟨m,cell_keep hm hb⟩,tab_keep (g:=5) (by kernel_rfl) ht hb⟩

def ofL (l:List UInt8):ByteArray:=⟨l.toArray⟩
def showL (v:Val):List UInt8 :=
 if v.k = 1 then Lib.itoa v.n else if v.k = 2 then Lib.formatBool (v.n == 1) else if v.k = 3 then 34 :: (escL v.s.data.toList ++ [34]) else if v.k = 4 then [63] else 33 :: Lib.itoa v.n
def showV (v:Val):ByteArray:=if valCheck v = 0 then ofL (showL v) else ⟨#[]⟩
def RetSE (w:World) (s:ByteArray) (c:Int) (e:Ending) (w':World):Prop:=e = .returned (.tuple #[.string s,.int .i64 c]) ∧ Below w.heap.size w w'
theorem escL_len (l:List UInt8):(escL l).length ≤ 2 * l.length:=by
 unfold escL
 induction l with
 | nil => simp
 | cons a l ih =>
  have:(escF a).length ≤ 2:=by unfold escF;split <;> simp
  rw [List.flatMap_cons,List.length_append,List.length_cons]
  omega
theorem app_ofL (a b:List UInt8):ofL a ++ ofL b = ofL (a ++ b):=by
 apply toList_inj
 rw [ByteArray.toList_eq,ByteArray.toList_eq]
 simp [ofL]
theorem lit_ofL (a:Array UInt8):(⟨a⟩:ByteArray) = ofL a.toList:=rfl
theorem flatTwo_len (a:UInt8) (l:List UInt8):(l.flatMap (fun c => if c = a then [92,a] else [c])).length ≤ 2 * l.length:=by
 induction l with
 | nil => simp
 | cons b l ih =>
  have h2:(if b = a then [92,a] else [b]).length ≤ 2:=by split <;> simp
  rw [List.flatMap_cons,List.length_append,List.length_cons]
  omega
theorem replaceAll_at (a:UInt8) (s:ByteArray) (w:World) (hg:Gd w) (hs:s.size ≤ 1000) :
  Calls Tryz.prog 175 #[.string s,.string ⟨#[a]⟩,.string ⟨#[92,a]⟩] w fun e w' => e = .returned (.string (ofL (s.data.toList.flatMap (fun c => if c = a then [92,a] else [c])))) ∧ Below w.heap.size w w':=by
 obtain ⟨⟨m,hm⟩,_⟩:=hg
 have hcl:=Lib.countB_le ⟨#[a]⟩ (by show 1 ≤ 1;omega) s.size s (Nat.le_refl _)
 refine (Tryz.strings_ReplaceAll s ⟨#[a]⟩ ⟨#[92,a]⟩ m w (by omega) hm (by show 1 ≤ 1;omega) ?_).mono ?_
 ·show s.size + Lib.countB s ⟨#[a]⟩ * 2 ≤ _
  omega
 ·rintro e w' ⟨rfl,hb⟩
  have hr:=replaceAll_one a [92,a] s.data.toList (by simp)
  refine ⟨?_,hb⟩
  show Ending.returned (.string ⟨(Lib.replaceAll s.data.toList [a] [92,a]).toArray⟩) = _
  rw [hr]
  rfl
theorem itoa_in {v:Val} (h:v.wf):-9223372036854775808 ≤ v.n ∧ v.n ≤ 9223372036854775807:=inI_bd h.2.1
theorem below_grow {n:Nat} {a b:World} {k:Nat} {os:Array Obj} (h:Below n a b) (hn:n ≤ b.heap.size):Below n a (Sort.grow (b.drewN k) os) :=
 ⟨h.os,h.tape,h.output,by have:=h.size;simp [Sort.grow];omega,fun k' hk => (by simp only [Sort.grow];rw [Array.getElem?_append_left (by simp;omega)];exact h.block k' hk)⟩

set_option maxRecDepth 100000 in
set_option maxHeartbeats 2000000 in
theorem value_Show (v:Val) (w:World) (hv:v.wf) (hg:Gd w):Calls Tryz.prog 147 #[.agg #[.int .i64 v.k,.int .i64 v.n,.string v.s]] w (RetSE w (showV v) (valCheck v)):=by
 have hs:v.s.size ≤ maxLen:=inS_max hv.2.2
 have hck:=fun w => value_Check v.k v.n v.s w hs
 by_cases hc:valCheck v = 0
 ·have hk:=valCheck_kind hc
  have hsh:showV v = ofL (showL v):=by rw [showV,if_pos hc]
  have hc':valCheck ⟨v.k,v.n,v.s⟩ = 0:=hc
  rw [hc,hsh]
  rw [hc'] at hck
  have hin:=itoa_in hv
  have hn5:v.k = 3 → v.s.size ≤ 40:=fun h3 => by
   have h:=hc
   unfold valCheck at h
   rw [h3] at h
   simp only [show ¬ ((3:Int) = 1) by decide,show ¬ ((3:Int) = 2) by decide,if_false,if_true] at h
   split at h
   ·unfold textCheck at h
    split at h
    ·cases h
    ·omega
   ·cases h
  obtain ⟨k,n,s⟩:=v
  clear hc hc' hsh hv
  dsimp only at hk hin hn5 hck ⊢
  have HG:=Lib.hid hg
  have HK:=Lib.hid hk
  obtain ⟨L,hL⟩:∃ L,L = showL ⟨k,n,s⟩:=⟨_,rfl⟩
  rw [← hL]
  have HL:=Lib.hid hL
  clear hg hL
  have hil:=Lib.itoa_length_le n hin.1 hin.2
  rcases (by omega:k = 1 ∨ k = 2 ∨ k = 3 ∨ k = 4 ∨ k = 5) with rfl | rfl | rfl | rfl | rfl
  ·go_enter Tryz.func147,Tryz.ntmps147
   go_wp2_with (first
    | (go_at_call 164;refine (hck _).mono ?_;rintro e w1 ⟨rfl,hb1⟩;obtain ⟨hc1,hf1⟩:=bcell hb1;(try simp only [bqh,bqc,bqf] at hc1 hf1);have hz1:=hb1.size;(try simp at hz1);(try have hy1:=nl1 hz1);(try have hx1:=nl2 hy1);refine szz w1 w ?_;intros)
    | (go_at_call 116;refine (Tryz.strconv_Itoa n hin.1 hin.2 _ (HG.out.keep bel).2).mono ?_;rintro e w2 ⟨rfl,kk,os,rfl⟩))
   go_ret2
   exact ⟨by rw [HL.out];rfl,below_grow bel (by omega)⟩
  ·go_enter Tryz.func147,Tryz.ntmps147
   go_wp2_with (first
    | (go_at_call 164;refine (hck _).mono ?_;rintro e w1 ⟨rfl,hb1⟩;obtain ⟨hc1,hf1⟩:=bcell hb1;(try simp only [bqh,bqc,bqf] at hc1 hf1);have hz1:=hb1.size;(try simp at hz1);(try have hy1:=nl1 hz1);(try have hx1:=nl2 hy1);refine szz w1 w ?_;intros)
    | (go_at_call 174;refine (Tryz.strconv_FormatBool _ _).mono ?_;rintro e w2 ⟨rfl,rfl⟩))
   go_ret2
   exact ⟨by rw [HL.out];rfl,bel⟩
  ·have h40:=hn5 rfl
   have he:=escL_two s.data.toList
   rw [replaceAll_one 92 _ _ (by decide),replaceAll_one 34 _ _ (by decide)] at he
   have hl1:=flatTwo_len 92 s.data.toList
   have hsz1:(ofL (s.data.toList.flatMap (fun c => if c = 92 then [92,92] else [c]))).size ≤ 80:=by
    show (List.flatMap _ _).toArray.size ≤ 80
    simp only [List.size_toArray,Array.length_toList] at hl1 ⊢
    have:s.data.size = s.size:=rfl
    omega
   have hl2:=escL_len s.data.toList
   have hsz2:(escL s.data.toList).length ≤ 80:=by
    simp only [Array.length_toList] at hl2
    have:s.data.size = s.size:=rfl
    omega
   have HE:=Lib.hid he
   have hdat:(ofL (s.data.toList.flatMap (fun c => if c = 92 then [92,92] else [c]))).data.toList = s.data.toList.flatMap (fun c => if c = 92 then [92,92] else [c]):=by simp [ofL]
   obtain ⟨s1,hs1⟩:∃ s1,s1 = ofL (s.data.toList.flatMap (fun c => if c = 92 then [92,92] else [c])):=⟨_,rfl⟩
   have r1:=fun w h => replaceAll_at 92 s w h (by omega)
   rw [← hs1] at r1 hdat hsz1
   have r2:=fun w h => replaceAll_at 34 s1 w h (by omega)
   rw [hdat,he] at r2
   have hl9:L = 34 :: (escL s.data.toList ++ [34]):=HL.out
   have HL2:=Lib.hid hl9
   clear hl9
   have hsz3:(ofL (escL s.data.toList)).size ≤ 80:=by show (escL s.data.toList).toArray.size ≤ 80;simpa using hsz2
   generalize escL s.data.toList = el at r2 HL2 hsz3
   have hsz4:((⟨#[34]⟩:ByteArray) ++ ofL el).size ≤ 81:=by
    rw [ByteArray.size_append]
    have:(⟨#[34]⟩:ByteArray).size = 1:=rfl
    omega
   clear he hdat hs1 hl1 hl2 hsz2 HE
   go_enter Tryz.func147,Tryz.ntmps147
   go_wp2_with (first
    | (go_at_call 164;refine (hck _).mono ?_;rintro e w1 ⟨rfl,hb1⟩;obtain ⟨hc1,hf1⟩:=bcell hb1;(try simp only [bqh,bqc,bqf] at hc1 hf1);have hz1:=hb1.size;(try simp at hz1);(try have hy1:=nl1 hz1);(try have hx1:=nl2 hy1);refine szz w1 w ?_;intros)
    | (go_at_call 175;refine (r1 _ (HG.out.keep bel)).mono ?_;clear r1;rintro e w2 ⟨rfl,hb2⟩;obtain ⟨hc2,hf2⟩:=bcell hb2;(try simp only [bqh,bqc,bqf] at hc2 hf2);have hz2:=hb2.size;(try simp at hz2);(try have hy2:=nl1 hz2);(try have hx2:=nl2 hy2);refine szz w2 w ?_;intros;refine szz w2 w1 ?_;intros)
    | (go_at_call 175;refine (r2 _ (HG.out.keep bel)).mono ?_;clear r2;rintro e w3 ⟨rfl,hb3⟩;obtain ⟨hc3,hf3⟩:=bcell hb3;(try simp only [bqh,bqc,bqf] at hc3 hf3);have hz3:=hb3.size;(try simp at hz3);(try have hy3:=nl1 hz3);(try have hx3:=nl2 hy3);refine szz w3 w ?_;intros;refine szz w3 w1 ?_;intros;refine szz w3 w2 ?_;intros))
   go_ret2
   exact ⟨by rw [HL2.out,lit_ofL #[34],app_ofL,app_ofL];rfl,bel⟩
  ·go_enter Tryz.func147,Tryz.ntmps147
   go_wp2_with (go_at_call 164;refine (hck _).mono ?_;rintro e w1 ⟨rfl,hb1⟩;obtain ⟨hc1,hf1⟩:=bcell hb1;(try simp only [bqh,bqc,bqf] at hc1 hf1);have hz1:=hb1.size;(try simp at hz1);(try have hy1:=nl1 hz1);(try have hx1:=nl2 hy1);refine szz w1 w ?_;intros)
   go_ret2
   exact ⟨by rw [HL.out];rfl,bel⟩
  ·go_enter Tryz.func147,Tryz.ntmps147
   go_wp2_with (first
    | (go_at_call 164;refine (hck _).mono ?_;rintro e w1 ⟨rfl,hb1⟩;obtain ⟨hc1,hf1⟩:=bcell hb1;(try simp only [bqh,bqc,bqf] at hc1 hf1);have hz1:=hb1.size;(try simp at hz1);(try have hy1:=nl1 hz1);(try have hx1:=nl2 hy1);refine szz w1 w ?_;intros)
    | (go_at_call 116;refine (Tryz.strconv_Itoa n hin.1 hin.2 _ (HG.out.keep bel).2).mono ?_;rintro e w2 ⟨rfl,kk,os,rfl⟩))
   go_ret2
   exact ⟨by rw [HL.out,lit_ofL #[33],show (⟨(Lib.itoa n).toArray⟩:ByteArray) = ofL (Lib.itoa n) from rfl,app_ofL];rfl,below_grow bel (by omega)⟩
 ·have hsh:showV v = ⟨#[]⟩:=by rw [showV,if_neg hc]
  rw [hsh]
  have hc':(valCheck ⟨v.k,v.n,v.s⟩:Int) = valCheck v:=rfl
  rw [hc'] at hck
  generalize valCheck v = er at hc hck
  have hne:(er != 0) = true:=by simpa using hc
  clear hc hsh hc' hg
  go_enter Tryz.func147,Tryz.ntmps147
  go_wp2_with (go_at_call 164;refine (hck _).mono ?_;rintro e w1 ⟨rfl,hb1⟩;obtain ⟨hc1,hf1⟩:=bcell hb1;(try simp only [bqh,bqc,bqf] at hc1 hf1);have hz1:=hb1.size;(try simp at hz1);(try have hy1:=nl1 hz1);(try have hx1:=nl2 hy1);refine szz w1 w ?_;intros)
  go_ret2
  exact ⟨rfl,bel⟩

theorem extract_one (s:ByteArray) (k:Nat) (h:k < s.size):s.extract k (k + 1) = ofL [s[k]]:=by
 apply toList_inj
 rw [ByteArray.toList_eq,ByteArray.toList_eq]
 rw [Lib.extract_data]
 have h1:k < s.data.toList.length:=by simpa using h
 rw [Nat.add_sub_cancel_left,List.drop_eq_getElem_cons h1]
 rfl
theorem byte3 (c:UInt8):c = 34 ∨ c = 92 ∨ (c ≠ 34 ∧ c ≠ 92):=by
 by_cases h1:c = 34
 ·exact .inl h1
 ·by_cases h2:c = 92
  ·exact .inr (.inl h2)
  ·exact .inr (.inr ⟨h1,h2⟩)
theorem byte_ne {a b:UInt8} (h:a ≠ b):((a.toNat:Int) == (b.toNat:Int)) = false:=by
 rw [beq_eq_false_iff_ne]
 intro e
 exact h (UInt8.toNat_inj.1 (by omega))
theorem escL_snoc (l:List UInt8) (c:UInt8):escL (l ++ [c]) = escL l ++ escF c:=by simp [escL]
set_option maxRecDepth 100000 in
set_option maxHeartbeats 2000000 in
theorem ref_ValueText (v:Val) (w:World) (hv:v.wf) (hg:Gd w):Calls Tryz.prog 63 #[.agg #[.int .i64 v.k,.int .i64 v.n,.string v.s]] w (RetSE w (showV v) (valCheck v)):=by
 have hs:v.s.size ≤ maxLen:=inS_max hv.2.2
 have hck:=fun w => ref_ValueFault v.k v.n v.s w hs
 by_cases hc:valCheck v = 0
 ·have hk:=valCheck_kind hc
  have hsh:showV v = ofL (showL v):=by rw [showV,if_pos hc]
  have hc':valCheck ⟨v.k,v.n,v.s⟩ = 0:=hc
  rw [hc,hsh]
  rw [hc'] at hck
  have hin:=itoa_in hv
  have hn5:v.k = 3 → v.s.size ≤ 40:=fun h3 => by
   have h:=hc
   unfold valCheck at h
   rw [h3] at h
   simp only [show ¬ ((3:Int) = 1) by decide,show ¬ ((3:Int) = 2) by decide,if_false,if_true] at h
   split at h
   ·unfold textCheck at h
    split at h
    ·cases h
    ·omega
   ·cases h
  have hn2:v.k = 2 → v.n = 0 ∨ v.n = 1:=fun h3 => by
   have h:=hc
   unfold valCheck at h
   rw [h3] at h
   simp only [show ¬ ((2:Int) = 1) by decide,if_false,if_true] at h
   split at h
   ·assumption
   ·cases h
  obtain ⟨k,n,s⟩:=v
  clear hc hc' hsh hv
  dsimp only at hk hin hn5 hn2 hck ⊢
  have HG:=Lib.hid hg
  obtain ⟨L,hL⟩:∃ L,L = showL ⟨k,n,s⟩:=⟨_,rfl⟩
  rw [← hL]
  have HL:=Lib.hid hL
  clear hg hL
  have hil:=Lib.itoa_length_le n hin.1 hin.2
  rcases (by omega:k = 1 ∨ k = 2 ∨ k = 3 ∨ k = 4 ∨ k = 5) with rfl | rfl | rfl | rfl | rfl
  ·go_enter Tryz.func63,Tryz.ntmps63
   go_wp2_with (first
    | (go_at_call 115;refine (hck _).mono ?_;rintro e w1 ⟨rfl,hb1⟩;obtain ⟨hc1,hf1⟩:=bcell hb1;(try simp only [bqh,bqc,bqf] at hc1 hf1);have hz1:=hb1.size;(try simp at hz1);(try have hy1:=nl1 hz1);(try have hx1:=nl2 hy1);refine szz w1 w ?_;intros)
    | (go_at_call 116;refine (Tryz.strconv_Itoa n hin.1 hin.2 _ (HG.out.keep bel).2).mono ?_;rintro e w2 ⟨rfl,kk,os,hw2⟩;have hb2:Below w1.heap.size w1 w2:=(by rw [hw2];exact below_grow (Below.refl _ _) (Nat.le_refl _));obtain ⟨hc2,hf2⟩:=bcell hb2;(try simp only [bqh,bqc,bqf] at hc2 hf2);have hz2:=hb2.size;(try simp at hz2);(try have hy2:=nl1 hz2);(try have hx2:=nl2 hy2);refine szz w2 w ?_;intros;refine szz w2 w1 ?_;intros;clear hw2))
   go_ret2
   exact ⟨by rw [HL.out];rfl,bel⟩
  ·rcases hn2 rfl with rfl | rfl
   all_goals
    go_enter Tryz.func63,Tryz.ntmps63
    go_wp2_with (first
     | (go_at_call 115;refine (hck _).mono ?_;rintro e w1 ⟨rfl,hb1⟩;obtain ⟨hc1,hf1⟩:=bcell hb1;(try simp only [bqh,bqc,bqf] at hc1 hf1);have hz1:=hb1.size;(try simp at hz1);(try have hy1:=nl1 hz1);(try have hx1:=nl2 hy1);refine szz w1 w ?_;intros))
    go_ret2
    exact ⟨by rw [HL.out];rfl,bel⟩
  ·have h40:=hn5 rfl
   have hl2:L = 34 :: (escL s.data.toList ++ [34]):=HL.out
   have HL2:=Lib.hid hl2
   clear hl2
   go_enter Tryz.func63,Tryz.ntmps63
   go_wp2_with (first
    | (go_at_call 115;refine (hck _).mono ?_;rintro e w1 ⟨rfl,hb1⟩;obtain ⟨hc1,hf1⟩:=bcell hb1;(try simp only [bqh,bqc,bqf] at hc1 hf1);have hz1:=hb1.size;(try simp at hz1);(try have hy1:=nl1 hz1);(try have hx1:=nl2 hy1);refine szz w1 w ?_;intros))
   go_loop [5,6] (fun t i => ∃ k:Nat,k ≤ s.size ∧ i = .int .i64 k ∧ t = .string (ofL (34 :: escL (s.data.toList.take k)))) (fun _ i => s.size - (intOf i).toNat)
   case atStart => exact ⟨0,by omega,rfl,rfl⟩
   case round =>
    obtain ⟨k,hk,rfl,rfl⟩:=hrel
    have hl2:=escL_len (s.data.toList.take k)
    have hsz:(ofL (34 :: escL (s.data.toList.take k))).size ≤ 81:=by
     show (34 :: escL (s.data.toList.take k)).toArray.size ≤ 81
     have:s.data.size = s.size:=rfl
     simp at hl2 ⊢
     omega
    obtain ⟨t,ht⟩:∃ t,t = ofL (34 :: escL (s.data.toList.take k)):=⟨_,rfl⟩
    rw [← ht] at hsz ⊢
    have HT:=Lib.hid ht
    clear ht hl2
    by_cases hlt:k < s.size
    ·have hsn:=take_snoc s k hlt
     have hex:=extract_one s k hlt
     have HS:=Lib.hid (And.intro hsn hex)
     have hsx:(s.extract k (k + 1)).size ≤ 1:=by rw [ByteArray.size_extract];omega
     have hst:(t ++ ⟨#[92]⟩:ByteArray).size ≤ 82:=by
      rw [ByteArray.size_append]
      have:(⟨#[92]⟩:ByteArray).size = 1:=rfl
      omega
     clear hsn hex
     rcases byte3 s[k] with h | h | ⟨h,h'⟩
     ·have g1:((s[k].toNat:Int) == 34) = true:=by rw [h];rfl
      have HC:=Lib.hid h
      clear h
      go_wp2_with fail
      go_round
      case rel =>
       refine ⟨k + 1,by omega,by go_num,?_⟩
       have he:escF s[k] = [92,s[k]]:=by unfold escF;rw [if_pos (.inl HC.out)]
       rw [HT.out,HS.out.2,HS.out.1,escL_snoc,he,lit_ofL #[92],app_ofL,app_ofL]
       simp
      case measure => simp [intOf];omega
     ·have g1:((s[k].toNat:Int) == 34) = false:=by rw [h];rfl
      have g2:((s[k].toNat:Int) == 92) = true:=by rw [h];rfl
      have HC:=Lib.hid h
      clear h
      go_wp2_with fail
      go_round
      case rel =>
       refine ⟨k + 1,by omega,by go_num,?_⟩
       have he:escF s[k] = [92,s[k]]:=by unfold escF;rw [if_pos (.inr HC.out)]
       rw [HT.out,HS.out.2,HS.out.1,escL_snoc,he,lit_ofL #[92],app_ofL,app_ofL]
       simp
      case measure => simp [intOf];omega
     ·have g1:((s[k].toNat:Int) == 34) = false:=byte_ne h
      have g2:((s[k].toNat:Int) == 92) = false:=byte_ne h'
      have HC:=Lib.hid (And.intro h h')
      clear h h'
      go_wp2_with fail
      go_round
      case rel =>
       refine ⟨k + 1,by omega,by go_num,?_⟩
       have he:escF s[k] = [s[k]]:=by unfold escF;rw [if_neg (fun h => h.elim HC.out.1 HC.out.2)]
       rw [HT.out,HS.out.2,HS.out.1,escL_snoc,he,app_ofL]
       simp
      case measure => simp [intOf];omega
    ·have hke:k = s.size:=by omega
     subst hke
     go_wp2_with fail
     go_ret2
     refine ⟨?_,bel⟩
     have htk:s.data.toList.take s.size = s.data.toList:=List.take_of_length_le (by simp)
     rw [HT.out,HL2.out,htk,lit_ofL #[34],app_ofL]
     rfl
  ·go_enter Tryz.func63,Tryz.ntmps63
   go_wp2_with (go_at_call 115;refine (hck _).mono ?_;rintro e w1 ⟨rfl,hb1⟩;obtain ⟨hc1,hf1⟩:=bcell hb1;(try simp only [bqh,bqc,bqf] at hc1 hf1);have hz1:=hb1.size;(try simp at hz1);(try have hy1:=nl1 hz1);(try have hx1:=nl2 hy1);refine szz w1 w ?_;intros)
   go_ret2
   exact ⟨by rw [HL.out];rfl,bel⟩
  ·go_enter Tryz.func63,Tryz.ntmps63
   go_wp2_with (first
    | (go_at_call 115;refine (hck _).mono ?_;rintro e w1 ⟨rfl,hb1⟩;obtain ⟨hc1,hf1⟩:=bcell hb1;(try simp only [bqh,bqc,bqf] at hc1 hf1);have hz1:=hb1.size;(try simp at hz1);(try have hy1:=nl1 hz1);(try have hx1:=nl2 hy1);refine szz w1 w ?_;intros)
    | (go_at_call 116;refine (Tryz.strconv_Itoa n hin.1 hin.2 _ (HG.out.keep bel).2).mono ?_;rintro e w2 ⟨rfl,kk,os,hw2⟩;have hb2:Below w1.heap.size w1 w2:=(by rw [hw2];exact below_grow (Below.refl _ _) (Nat.le_refl _));obtain ⟨hc2,hf2⟩:=bcell hb2;(try simp only [bqh,bqc,bqf] at hc2 hf2);have hz2:=hb2.size;(try simp at hz2);(try have hy2:=nl1 hz2);(try have hx2:=nl2 hy2);refine szz w2 w ?_;intros;refine szz w2 w1 ?_;intros;clear hw2))
   go_ret2
   exact ⟨by rw [HL.out,lit_ofL #[33],show (⟨(Lib.itoa n).toArray⟩:ByteArray) = ofL (Lib.itoa n) from rfl,app_ofL];rfl,bel⟩
 ·have hsh:showV v = ⟨#[]⟩:=by rw [showV,if_neg hc]
  rw [hsh]
  have hc':(valCheck ⟨v.k,v.n,v.s⟩:Int) = valCheck v:=rfl
  rw [hc'] at hck
  generalize valCheck v = er at hc hck
  have hne:(er != 0) = true:=by simpa using hc
  clear hc hsh hc' hg
  go_enter Tryz.func63,Tryz.ntmps63
  go_wp2_with (go_at_call 115;refine (hck _).mono ?_;rintro e w1 ⟨rfl,hb1⟩;obtain ⟨hc1,hf1⟩:=bcell hb1;(try simp only [bqh,bqc,bqf] at hc1 hf1);have hz1:=hb1.size;(try simp at hz1);(try have hy1:=nl1 hz1);(try have hx1:=nl2 hy1);refine szz w1 w ?_;intros)
  go_ret2
  exact ⟨rfl,bel⟩
end Go.Proofs.YtldbpmlgbbomcaaGreatDoor
