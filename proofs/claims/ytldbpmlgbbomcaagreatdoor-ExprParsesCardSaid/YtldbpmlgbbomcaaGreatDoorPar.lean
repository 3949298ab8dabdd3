/- value.Parse and the reference ValueOf: the value that is shown so. -/
import Derived.Test.YtldbpmlgbbomcaaGreatDoorParP
import Derived.Test.YtldbpmlgbbomcaaGreatDoorByt
import Derived.Laws.IdiomStrings
import Derived.Lib.AtoiErrMem
namespace Go.Proofs.YtldbpmlgbbomcaaGreatDoor
open Go.RowKit

def GdA (w:World):Prop:=Gd w ∧ (∃ v,w.cell? ⟨1,0,none⟩ = some v ∧ (v = .nilIface ∨ ∃ te pe,v = .iface te pe)) ∧ ∃ v,w.cell? ⟨2,0,none⟩ = some v ∧ (v = .nilIface ∨ ∃ te pe,v = .iface te pe)
theorem GdA.keep {w w':World} (h:GdA w) (hb:Below w.heap.size w w'):GdA w':=by
 obtain ⟨h0,⟨v,hv,k⟩,v',hv',k'⟩:=h
 exact ⟨h0.keep hb,⟨v,cell_keep hv hb,k⟩,v',cell_keep hv' hb,k'⟩
def RetNE (w:World) (n:Int) (e:Ending) (w':World):Prop:=∃ er,e = .returned (.tuple #[.int .i64 n,er]) ∧ Below w.heap.size w w'
theorem atoi_at (s:ByteArray) (w:World) (hs:inS s) (hg:GdA w):Calls Tryz.prog 45 #[.string s] w (RetNE w (atoiV s.data.toList)):=by
 have hm:=inS_max hs
 unfold maxLen at hm
 have hs2:s.size ≤ 140737488351232:=hs
 obtain ⟨_,⟨v,hv,k⟩,v',hv',k'⟩:=hg
 cases h:Lib.atoiAll s.data.toList with
 | ok n =>
  have e:atoiV s.data.toList = n:=by rw [atoiV,h]
  rw [e]
  refine (Tryz.strconv_Atoi_ok s (by omega) n h w).mono ?_
  rintro e w' ⟨rfl,h2⟩
  refine ⟨_,rfl,?_⟩
  rcases h2 with rfl | ⟨t,rfl⟩
  ·exact Below.refl _ _
  ·exact Lib.bytesWorld_below _ _ _
 | «syntax» =>
  have e:atoiV s.data.toList = 0:=by rw [atoiV,h]
  rw [e]
  refine (Tryz.strconv_Atoi_syntax s (by omega) h v w hv k).mono ?_
  rintro e w' ⟨N,rfl,_,_,hb⟩
  exact ⟨_,rfl,hb⟩
 | range =>
  have e:atoiV s.data.toList = Lib.atoiSat s.data.toList:=by rw [atoiV,h]
  rw [e]
  refine (Tryz.strconv_Atoi_range s (by omega) h v' w hv' k').mono ?_
  rintro e w' ⟨N,rfl,_,_,hb⟩
  exact ⟨_,rfl,hb⟩
set_option maxRecDepth 100000 in
set_option maxHeartbeats 2000000 in
theorem value_unquote (s:ByteArray) (w:World) (hs:inS s):Calls Tryz.prog 163 #[.string s] w fun e w' => e = .returned (.string (ofL (unq s.data.toList 1))) ∧ Below w.heap.size w w':=by
 have hs2:s.size ≤ 140737488351232:=hs
 have hsl:s.data.toList.length = s.size:=by simp
 obtain ⟨i0,hi,hz0,hz1,hz2⟩:=info_parts Tryz.infoByte
 have HSL:=Lib.hid hsl
 clear hsl hs
 go_enter Tryz.func163,Tryz.ntmps163
 go_wp2_with fail
 go_loopw [3,4] (fun v i wr => ∃ (k:Nat) (l:List UInt8),1 ≤ k ∧ k ≤ s.size + 1 ∧ i = .int .i64 k ∧ wr.ownsRow w.heap.size 5 1 v l.length (l.map bv) ∧ l ++ unq s.data.toList k = unq s.data.toList 1 ∧ l.length ≤ k ∧ Below w.heap.size w wr) (fun _ i _ => s.size + 1 - (intOf i).toNat)
 case atStart => exact ⟨1,[],by omega,by omega,rfl,by simpa using World.ownsRow_nil _ _ _ _,rfl,by simp,Below.refl _ _⟩
 case round =>
  obtain ⟨k,l,hk1,hk2,rfl,hown,hun,hlk,hb⟩:=hrel
  by_cases hlt:k + 1 < s.size
  ·have hget:s.data.toList[k]? = some s[k]:=by rw [List.getElem?_eq_getElem (by rw [HSL.out];omega)];rfl
   have hkk:(k:Int) < (s.size:Int) - 1:=by omega
   by_cases hesc:s[k] = 92
   ·have g1:((s[k].toNat:Int) == 92) = true:=by rw [hesc];rfl
    by_cases h2:k + 2 < s.size
    ·have hk3:(k:Int) < (s.size:Int) - 2:=by omega
     have hget2:s.data.toList[k + 1]? = some s[k + 1]:=by rw [List.getElem?_eq_getElem (by rw [HSL.out];omega)];rfl
     have hun2:=unq_esc (s:=s.data.toList) (i:=k) (by rw [HSL.out];omega) (by rw [hget,hesc]) hget2
     rw [hun2] at hun
     have HO:=Lib.hid (And.intro hown (And.intro hun (And.intro hlk hb)))
     clear hown hun hb hun2 hget hget2 hesc hlk
     have hlk:=HO.out.2.2.1
     go_wp2_with (at_builtin;refine wpList_append1 rfl _ _ 111 rfl w.heap.size 5 i0 (.int .u8 0) 1 1 Tryz.underlying111 hi hz0 hz1 hz2 rfl (by decide) _ l.length _ rfl HO.out.1 [bv s[k + 1]] 5 rfl wr.heap.size rfl (by simp) rfl (by intro u hu;simp at hu;subst hu;rfl) (by omega) (by unfold maxLen;omega) HO.out.2.2.2.size ?_;intro v3 w3 hown3 hb3 hs3 _)
     have HQ:=Lib.hid (And.intro hown3 hb3)
     clear hown3 hb3
     go_roundw
     case rel => exact ⟨k + 2,l ++ [s[k + 1]],by omega,by omega,by go_num,by rw [List.length_append,List.map_append];exact HQ.out.1,by rw [List.append_assoc];exact HO.out.2.1,by simp;omega,HO.out.2.2.2.trans HQ.out.2⟩
     case measure => simp [intOf];omega
    ·have hk3:¬ (k:Int) < (s.size:Int) - 2:=by omega
     have hun2:=unq_one (s:=s.data.toList) (i:=k) (c:=s[k]) (by rw [HSL.out];omega) (by rw [HSL.out];exact fun h => h2 h.2) hget
     rw [hun2] at hun
     have HO:=Lib.hid (And.intro hown (And.intro hun (And.intro hlk hb)))
     clear hown hun hb hun2 hget hesc hlk
     have hlk:=HO.out.2.2.1
     go_wp2_with (at_builtin;refine wpList_append1 rfl _ _ 111 rfl w.heap.size 5 i0 (.int .u8 0) 1 1 Tryz.underlying111 hi hz0 hz1 hz2 rfl (by decide) _ l.length _ rfl HO.out.1 [bv s[k]] 5 rfl wr.heap.size rfl (by simp) rfl (by intro u hu;simp at hu;subst hu;rfl) (by omega) (by unfold maxLen;omega) HO.out.2.2.2.size ?_;intro v3 w3 hown3 hb3 hs3 _)
     have HQ:=Lib.hid (And.intro hown3 hb3)
     clear hown3 hb3
     go_roundw
     case rel => exact ⟨k + 1,l ++ [s[k]],by omega,by omega,by go_num,by rw [List.length_append,List.map_append];exact HQ.out.1,by rw [List.append_assoc];exact HO.out.2.1,by simp;omega,HO.out.2.2.2.trans HQ.out.2⟩
     case measure => simp [intOf];omega
   ·have g1:((s[k].toNat:Int) == 92) = false:=byte_ne hesc
    have hun2:=unq_one (s:=s.data.toList) (i:=k) (c:=s[k]) (by rw [HSL.out];omega) (by rw [hget];exact fun h => hesc (Option.some.inj h.1)) hget
    rw [hun2] at hun
    have HO:=Lib.hid (And.intro hown (And.intro hun (And.intro hlk hb)))
    clear hown hun hb hun2 hget hesc hlk
    have hlk:=HO.out.2.2.1
    go_wp2_with (at_builtin;refine wpList_append1 rfl _ _ 111 rfl w.heap.size 5 i0 (.int .u8 0) 1 1 Tryz.underlying111 hi hz0 hz1 hz2 rfl (by decide) _ l.length _ rfl HO.out.1 [bv s[k]] 5 rfl wr.heap.size rfl (by simp) rfl (by intro u hu;simp at hu;subst hu;rfl) (by omega) (by unfold maxLen;omega) HO.out.2.2.2.size ?_;intro v3 w3 hown3 hb3 hs3 _)
    have HQ:=Lib.hid (And.intro hown3 hb3)
    clear hown3 hb3
    go_roundw
    case rel => exact ⟨k + 1,l ++ [s[k]],by omega,by omega,by go_num,by rw [List.length_append,List.map_append];exact HQ.out.1,by rw [List.append_assoc];exact HO.out.2.1,by simp;omega,HO.out.2.2.2.trans HQ.out.2⟩
    case measure => simp [intOf];omega
  ·have hkk:¬ (k:Int) < (s.size:Int) - 1:=by omega
   rw [unq_end (by rw [HSL.out];exact hlt),List.append_nil] at hun
   have hcv:=bytes_out _ w.heap.size _ l hown
   have HO:=Lib.hid (And.intro hun hb)
   clear hown hun hb
   go_wp2_with fail
   go_ret
   exact ⟨by rw [HO.out.1];rfl,HO.out.2⟩

def RetVC (w:World) (v:Val) (c:Int) (e:Ending) (w':World):Prop:=e = .returned (.tuple #[.agg #[.int .i64 v.k,.int .i64 v.n,.string v.s],.int .i64 c]) ∧ Below w.heap.size w w'
theorem ofL_toL (l:List UInt8):(ofL l).data.toList = l:=by simp [ofL]
theorem unq_in {s:ByteArray} (hs:inS s) (i:Nat):inS (ofL (unq s.data.toList i)):=by
 have h:=unq_len s.data.toList _ i (Nat.le_refl _)
 have hs2:s.size ≤ 140737488351232:=hs
 have h3:(ofL (unq s.data.toList i)).size = (unq s.data.toList i).length:=by show (unq s.data.toList i).toArray.size = _;simp
 have h4:s.data.toList.length = s.size:=by simp
 show (ofL (unq s.data.toList i)).size ≤ 140737488351232
 omega
theorem inI_c (k:Nat) (h:k ≤ 15):inI (k:Int):=by
 have:k = 0 ∨ k = 1 ∨ k = 2 ∨ k = 3 ∨ k = 4 ∨ k = 5 ∨ k = 6 ∨ k = 7 ∨ k = 8 ∨ k = 9 ∨ k = 10 ∨ k = 11 ∨ k = 12 ∨ k = 13 ∨ k = 14 ∨ k = 15:=by omega
 rcases this with rfl | rfl | rfl | rfl | rfl | rfl | rfl | rfl | rfl | rfl | rfl | rfl | rfl | rfl | rfl | rfl <;> rfl
theorem str_nil_in:inS ⟨#[]⟩:=by show (0:Nat) ≤ 140737488351232;omega
theorem parse_post (s:ByteArray) (v:Val) (w:World) (h:candV s.data.toList = v):parseV s = if shows s v = true then (v,0) else (noVal,3):=by
 rw [parseV_shows,h]
set_option maxRecDepth 100000 in
set_option maxHeartbeats 2000000 in
theorem value_Parse_q (s:ByteArray) (w:World) (hs2:s.size ≤ 140737488351232) (hg:GdA w) (tx:ByteArray) (er:Int) (c1:(s.toList == [63]) = true)
  (hq:∀ w,Gd w → Calls Tryz.prog 147 #[.agg #[.int .i64 4,.int .i64 0,.string ⟨#[]⟩]] w (RetSE w tx er)) :
  Calls Tryz.prog 127 #[.string s] w (RetVC w (if er = 0 ∧ tx.toList = s.toList then (⟨4,0,⟨#[]⟩⟩,0) else ((noVal,3):Val × Int)).1 (if er = 0 ∧ tx.toList = s.toList then (⟨4,0,⟨#[]⟩⟩,0) else ((noVal,3):Val × Int)).2):=by
 have HG:=Lib.hid hg
 clear hg
 obtain ⟨R,hR⟩:∃ R,R = (if er = 0 ∧ tx.toList = s.toList then (⟨4,0,⟨#[]⟩⟩,0) else ((noVal,3):Val × Int)):=⟨_,rfl⟩
 rw [← hR]
 by_cases he:er = 0
 rotate_left
 ·rw [if_neg (fun h => he h.1)] at hR
  have he':(er != 0) = true:=by simpa using he
  have HR:=Lib.hid hR
  clear hR he
  go_enter Tryz.func127,Tryz.ntmps127
  go_wp2_with (first
   | (go_at_call 147;refine (hq _ (HG.out.keep bel).1).mono ?_;rintro e w2 ⟨rfl,hb2⟩;obtain ⟨hc2,hf2⟩:=bcell hb2;(try simp only [bqh,bqc,bqf] at hc2 hf2);have hz2:=hb2.size;(try simp at hz2);(try have hy2:=nl1 hz2);(try have hx2:=nl2 hy2);refine szz w2 w ?_;intros;have hy0:w.heap.size < w.heap.size + 1 + 1:=(by omega);have hy1:w.heap.size < w.heap.size + 2:=(by omega)))
  exact bodyPost_ret (v:=.tuple #[.agg #[.int .i64 (0),.int .i64 (0),.string ⟨#[]⟩],.int .i64 3]) (by first | (simp [results,Tryz.results127,go_sem];done) | (simp [results,Tryz.results127,go_sem, *];done)) rfl ⟨by rw [HR.out];try rfl,bel⟩
 subst he
 by_cases ht:tx.toList = s.toList
 rotate_left
 ·rw [if_neg (fun h => ht h.2)] at hR
  have ht':(tx.toList == s.toList) = false:=by simpa using ht
  have HR:=Lib.hid hR
  clear hR ht
  go_enter Tryz.func127,Tryz.ntmps127
  go_wp2_with (first
   | (go_at_call 147;refine (hq _ (HG.out.keep bel).1).mono ?_;rintro e w2 ⟨rfl,hb2⟩;obtain ⟨hc2,hf2⟩:=bcell hb2;(try simp only [bqh,bqc,bqf] at hc2 hf2);have hz2:=hb2.size;(try simp at hz2);(try have hy2:=nl1 hz2);(try have hx2:=nl2 hy2);refine szz w2 w ?_;intros;have hy0:w.heap.size < w.heap.size + 1 + 1:=(by omega);have hy1:w.heap.size < w.heap.size + 2:=(by omega)))
  exact bodyPost_ret (v:=.tuple #[.agg #[.int .i64 (0),.int .i64 (0),.string ⟨#[]⟩],.int .i64 3]) (by first | (simp [results,Tryz.results127,go_sem];done) | (simp [results,Tryz.results127,go_sem, *];done)) rfl ⟨by rw [HR.out];try rfl,bel⟩
 rw [if_pos ⟨rfl,ht⟩] at hR
 have ht':(tx.toList == s.toList) = true:=by simpa using ht
 have HR:=Lib.hid hR
 clear hR ht
 go_enter Tryz.func127,Tryz.ntmps127
 go_wp2_with (first
  | (go_at_call 147;refine (hq _ (HG.out.keep bel).1).mono ?_;rintro e w2 ⟨rfl,hb2⟩;obtain ⟨hc2,hf2⟩:=bcell hb2;(try simp only [bqh,bqc,bqf] at hc2 hf2);have hz2:=hb2.size;(try simp at hz2);(try have hy2:=nl1 hz2);(try have hx2:=nl2 hy2);refine szz w2 w ?_;intros;have hy0:w.heap.size < w.heap.size + 1 + 1:=(by omega);have hy1:w.heap.size < w.heap.size + 2:=(by omega)))
 exact bodyPost_ret (v:=.tuple #[.agg #[.int .i64 (4),.int .i64 (0),.string ⟨#[]⟩],.int .i64 0]) (by first | (simp [results,Tryz.results127,go_sem];done) | (simp [results,Tryz.results127,go_sem, *];done)) rfl ⟨by rw [HR.out];try rfl,bel⟩
set_option maxRecDepth 100000 in
set_option maxHeartbeats 2000000 in
theorem value_Parse_t (s:ByteArray) (w:World) (hs2:s.size ≤ 140737488351232) (hg:GdA w) (tx:ByteArray) (er:Int) (c1:(s.toList == [63]) = false) (c2:(s.toList == [116,114,117,101]) = true) (hz:s.size = 4)
  (hq:∀ w,Gd w → Calls Tryz.prog 147 #[.agg #[.int .i64 2,.int .i64 1,.string ⟨#[]⟩]] w (RetSE w tx er)) :
  Calls Tryz.prog 127 #[.string s] w (RetVC w (if er = 0 ∧ tx.toList = s.toList then (⟨2,1,⟨#[]⟩⟩,0) else ((noVal,3):Val × Int)).1 (if er = 0 ∧ tx.toList = s.toList then (⟨2,1,⟨#[]⟩⟩,0) else ((noVal,3):Val × Int)).2):=by
 have HG:=Lib.hid hg
 clear hg
 obtain ⟨R,hR⟩:∃ R,R = (if er = 0 ∧ tx.toList = s.toList then (⟨2,1,⟨#[]⟩⟩,0) else ((noVal,3):Val × Int)):=⟨_,rfl⟩
 rw [← hR]
 by_cases he:er = 0
 rotate_left
 ·rw [if_neg (fun h => he h.1)] at hR
  have he':(er != 0) = true:=by simpa using he
  have HR:=Lib.hid hR
  clear hR he
  go_enter Tryz.func127,Tryz.ntmps127
  go_wp2_with (first
   | (go_at_call 147;refine (hq _ (HG.out.keep bel).1).mono ?_;rintro e w2 ⟨rfl,hb2⟩;obtain ⟨hc2,hf2⟩:=bcell hb2;(try simp only [bqh,bqc,bqf] at hc2 hf2);have hz2:=hb2.size;(try simp at hz2);(try have hy2:=nl1 hz2);(try have hx2:=nl2 hy2);refine szz w2 w ?_;intros;have hy0:w.heap.size < w.heap.size + 1 + 1:=(by omega);have hy1:w.heap.size < w.heap.size + 2:=(by omega)))
  exact bodyPost_ret (v:=.tuple #[.agg #[.int .i64 (0),.int .i64 (0),.string ⟨#[]⟩],.int .i64 3]) (by first | (simp [results,Tryz.results127,go_sem];done) | (simp [results,Tryz.results127,go_sem, *];done)) rfl ⟨by rw [HR.out];try rfl,bel⟩
 subst he
 by_cases ht:tx.toList = s.toList
 rotate_left
 ·rw [if_neg (fun h => ht h.2)] at hR
  have ht':(tx.toList == s.toList) = false:=by simpa using ht
  have HR:=Lib.hid hR
  clear hR ht
  go_enter Tryz.func127,Tryz.ntmps127
  go_wp2_with (first
   | (go_at_call 147;refine (hq _ (HG.out.keep bel).1).mono ?_;rintro e w2 ⟨rfl,hb2⟩;obtain ⟨hc2,hf2⟩:=bcell hb2;(try simp only [bqh,bqc,bqf] at hc2 hf2);have hz2:=hb2.size;(try simp at hz2);(try have hy2:=nl1 hz2);(try have hx2:=nl2 hy2);refine szz w2 w ?_;intros;have hy0:w.heap.size < w.heap.size + 1 + 1:=(by omega);have hy1:w.heap.size < w.heap.size + 2:=(by omega)))
  exact bodyPost_ret (v:=.tuple #[.agg #[.int .i64 (0),.int .i64 (0),.string ⟨#[]⟩],.int .i64 3]) (by first | (simp [results,Tryz.results127,go_sem];done) | (simp [results,Tryz.results127,go_sem, *];done)) rfl ⟨by rw [HR.out];try rfl,bel⟩
 rw [if_pos ⟨rfl,ht⟩] at hR
 have ht':(tx.toList == s.toList) = true:=by simpa using ht
 have HR:=Lib.hid hR
 clear hR ht
 go_enter Tryz.func127,Tryz.ntmps127
 go_wp2_with (first
  | (go_at_call 147;refine (hq _ (HG.out.keep bel).1).mono ?_;rintro e w2 ⟨rfl,hb2⟩;obtain ⟨hc2,hf2⟩:=bcell hb2;(try simp only [bqh,bqc,bqf] at hc2 hf2);have hz2:=hb2.size;(try simp at hz2);(try have hy2:=nl1 hz2);(try have hx2:=nl2 hy2);refine szz w2 w ?_;intros;have hy0:w.heap.size < w.heap.size + 1 + 1:=(by omega);have hy1:w.heap.size < w.heap.size + 2:=(by omega)))
 exact bodyPost_ret (v:=.tuple #[.agg #[.int .i64 (2),.int .i64 (1),.string ⟨#[]⟩],.int .i64 0]) (by first | (simp [results,Tryz.results127,go_sem];done) | (simp [results,Tryz.results127,go_sem, *];done)) rfl ⟨by rw [HR.out];try rfl,bel⟩
set_option maxRecDepth 100000 in
set_option maxHeartbeats 2000000 in
theorem value_Parse_f (s:ByteArray) (w:World) (hs2:s.size ≤ 140737488351232) (hg:GdA w) (tx:ByteArray) (er:Int) (c1:(s.toList == [63]) = false) (c2:(s.toList == [116,114,117,101]) = false) (c3:(s.toList == [102,97,108,115,101]) = true) (hz:s.size = 5)
  (hq:∀ w,Gd w → Calls Tryz.prog 147 #[.agg #[.int .i64 2,.int .i64 0,.string ⟨#[]⟩]] w (RetSE w tx er)) :
  Calls Tryz.prog 127 #[.string s] w (RetVC w (if er = 0 ∧ tx.toList = s.toList then (⟨2,0,⟨#[]⟩⟩,0) else ((noVal,3):Val × Int)).1 (if er = 0 ∧ tx.toList = s.toList then (⟨2,0,⟨#[]⟩⟩,0) else ((noVal,3):Val × Int)).2):=by
 have HG:=Lib.hid hg
 clear hg
 obtain ⟨R,hR⟩:∃ R,R = (if er = 0 ∧ tx.toList = s.toList then (⟨2,0,⟨#[]⟩⟩,0) else ((noVal,3):Val × Int)):=⟨_,rfl⟩
 rw [← hR]
 by_cases he:er = 0
 rotate_left
 ·rw [if_neg (fun h => he h.1)] at hR
  have he':(er != 0) = true:=by simpa using he
  have HR:=Lib.hid hR
  clear hR he
  go_enter Tryz.func127,Tryz.ntmps127
  go_wp2_with (first
   | (go_at_call 147;refine (hq _ (HG.out.keep bel).1).mono ?_;rintro e w2 ⟨rfl,hb2⟩;obtain ⟨hc2,hf2⟩:=bcell hb2;(try simp only [bqh,bqc,bqf] at hc2 hf2);have hz2:=hb2.size;(try simp at hz2);(try have hy2:=nl1 hz2);(try have hx2:=nl2 hy2);refine szz w2 w ?_;intros;have hy0:w.heap.size < w.heap.size + 1 + 1:=(by omega);have hy1:w.heap.size < w.heap.size + 2:=(by omega)))
  exact bodyPost_ret (v:=.tuple #[.agg #[.int .i64 (0),.int .i64 (0),.string ⟨#[]⟩],.int .i64 3]) (by first | (simp [results,Tryz.results127,go_sem];done) | (simp [results,Tryz.results127,go_sem, *];done)) rfl ⟨by rw [HR.out];try rfl,bel⟩
 subst he
 by_cases ht:tx.toList = s.toList
 rotate_left
 ·rw [if_neg (fun h => ht h.2)] at hR
  have ht':(tx.toList == s.toList) = false:=by simpa using ht
  have HR:=Lib.hid hR
  clear hR ht
  go_enter Tryz.func127,Tryz.ntmps127
  go_wp2_with (first
   | (go_at_call 147;refine (hq _ (HG.out.keep bel).1).mono ?_;rintro e w2 ⟨rfl,hb2⟩;obtain ⟨hc2,hf2⟩:=bcell hb2;(try simp only [bqh,bqc,bqf] at hc2 hf2);have hz2:=hb2.size;(try simp at hz2);(try have hy2:=nl1 hz2);(try have hx2:=nl2 hy2);refine szz w2 w ?_;intros;have hy0:w.heap.size < w.heap.size + 1 + 1:=(by omega);have hy1:w.heap.size < w.heap.size + 2:=(by omega)))
  exact bodyPost_ret (v:=.tuple #[.agg #[.int .i64 (0),.int .i64 (0),.string ⟨#[]⟩],.int .i64 3]) (by first | (simp [results,Tryz.results127,go_sem];done) | (simp [results,Tryz.results127,go_sem, *];done)) rfl ⟨by rw [HR.out];try rfl,bel⟩
 rw [if_pos ⟨rfl,ht⟩] at hR
 have ht':(tx.toList == s.toList) = true:=by simpa using ht
 have HR:=Lib.hid hR
 clear hR ht
 go_enter Tryz.func127,Tryz.ntmps127
 go_wp2_with (first
  | (go_at_call 147;refine (hq _ (HG.out.keep bel).1).mono ?_;rintro e w2 ⟨rfl,hb2⟩;obtain ⟨hc2,hf2⟩:=bcell hb2;(try simp only [bqh,bqc,bqf] at hc2 hf2);have hz2:=hb2.size;(try simp at hz2);(try have hy2:=nl1 hz2);(try have hx2:=nl2 hy2);refine szz w2 w ?_;intros;have hy0:w.heap.size < w.heap.size + 1 + 1:=(by omega);have hy1:w.heap.size < w.heap.size + 2:=(by omega)))
 exact bodyPost_ret (v:=.tuple #[.agg #[.int .i64 (2),.int .i64 (0),.string ⟨#[]⟩],.int .i64 0]) (by first | (simp [results,Tryz.results127,go_sem];done) | (simp [results,Tryz.results127,go_sem, *];done)) rfl ⟨by rw [HR.out];try rfl,bel⟩
set_option maxRecDepth 100000 in
set_option maxHeartbeats 2000000 in
theorem value_Parse_x (s:ByteArray) (a:Int) (w:World) (hs2:s.size ≤ 140737488351232) (hg:GdA w) (tx:ByteArray) (er:Int) (c1:(s.toList == [63]) = false) (c2:(s.toList == [116,114,117,101]) = false) (c3:(s.toList == [102,97,108,115,101]) = false) (p1:Lib.hasPrefix s.data.toList [33] = true) (hz:1 ≤ s.size) (hat:∀ w,GdA w → Calls Tryz.prog 45 #[.string (s.extract 1 s.size)] w (RetNE w a))
  (hq:∀ w,Gd w → Calls Tryz.prog 147 #[.agg #[.int .i64 5,.int .i64 a,.string ⟨#[]⟩]] w (RetSE w tx er)) :
  Calls Tryz.prog 127 #[.string s] w (RetVC w (if er = 0 ∧ tx.toList = s.toList then (⟨5,a,⟨#[]⟩⟩,0) else ((noVal,3):Val × Int)).1 (if er = 0 ∧ tx.toList = s.toList then (⟨5,a,⟨#[]⟩⟩,0) else ((noVal,3):Val × Int)).2):=by
 have HG:=Lib.hid hg
 clear hg
 obtain ⟨R,hR⟩:∃ R,R = (if er = 0 ∧ tx.toList = s.toList then (⟨5,a,⟨#[]⟩⟩,0) else ((noVal,3):Val × Int)):=⟨_,rfl⟩
 rw [← hR]
 by_cases he:er = 0
 rotate_left
 ·rw [if_neg (fun h => he h.1)] at hR
  have he':(er != 0) = true:=by simpa using he
  have HR:=Lib.hid hR
  clear hR he
  go_enter Tryz.func127,Tryz.ntmps127
  go_wp2_with (first
   | (go_at_call 72;refine (Tryz.strings_HasPrefix _ _ _).mono ?_;rintro e wp ⟨rfl,rfl⟩)
   | (go_at_call 45;refine (hat _ (HG.out.keep bel)).mono ?_;clear hat;rintro e w1 ⟨er1,rfl,hb1⟩;obtain ⟨hc1,hf1⟩:=bcell hb1;(try simp only [bqh,bqc,bqf] at hc1 hf1);have hz1:=hb1.size;(try simp at hz1);(try have hy1:=nl1 hz1);(try have hx1:=nl2 hy1);refine szz w1 w ?_;intros;have hy0:w.heap.size < w.heap.size + 1 + 1:=(by omega);have hy1:w.heap.size < w.heap.size + 2:=(by omega))
   | (go_at_call 147;refine (hq _ (HG.out.keep bel).1).mono ?_;rintro e w2 ⟨rfl,hb2⟩;obtain ⟨hc2,hf2⟩:=bcell hb2;(try simp only [bqh,bqc,bqf] at hc2 hf2);have hz2:=hb2.size;(try simp at hz2);(try have hy2:=nl1 hz2);(try have hx2:=nl2 hy2);refine szz w2 w ?_;intros;refine szz w2 w1 ?_;intros;have hy0:w.heap.size < w.heap.size + 1 + 1:=(by omega);have hy1:w.heap.size < w.heap.size + 2:=(by omega)))
  exact bodyPost_ret (v:=.tuple #[.agg #[.int .i64 (0),.int .i64 (0),.string ⟨#[]⟩],.int .i64 3]) (by first | (simp [results,Tryz.results127,go_sem];done) | (simp [results,Tryz.results127,go_sem, *];done)) rfl ⟨by rw [HR.out];try rfl,bel⟩
 subst he
 by_cases ht:tx.toList = s.toList
 rotate_left
 ·rw [if_neg (fun h => ht h.2)] at hR
  have ht':(tx.toList == s.toList) = false:=by simpa using ht
  have HR:=Lib.hid hR
  clear hR ht
  go_enter Tryz.func127,Tryz.ntmps127
  go_wp2_with (first
   | (go_at_call 72;refine (Tryz.strings_HasPrefix _ _ _).mono ?_;rintro e wp ⟨rfl,rfl⟩)
   | (go_at_call 45;refine (hat _ (HG.out.keep bel)).mono ?_;clear hat;rintro e w1 ⟨er1,rfl,hb1⟩;obtain ⟨hc1,hf1⟩:=bcell hb1;(try simp only [bqh,bqc,bqf] at hc1 hf1);have hz1:=hb1.size;(try simp at hz1);(try have hy1:=nl1 hz1);(try have hx1:=nl2 hy1);refine szz w1 w ?_;intros;have hy0:w.heap.size < w.heap.size + 1 + 1:=(by omega);have hy1:w.heap.size < w.heap.size + 2:=(by omega))
   | (go_at_call 147;refine (hq _ (HG.out.keep bel).1).mono ?_;rintro e w2 ⟨rfl,hb2⟩;obtain ⟨hc2,hf2⟩:=bcell hb2;(try simp only [bqh,bqc,bqf] at hc2 hf2);have hz2:=hb2.size;(try simp at hz2);(try have hy2:=nl1 hz2);(try have hx2:=nl2 hy2);refine szz w2 w ?_;intros;refine szz w2 w1 ?_;intros;have hy0:w.heap.size < w.heap.size + 1 + 1:=(by omega);have hy1:w.heap.size < w.heap.size + 2:=(by omega)))
  exact bodyPost_ret (v:=.tuple #[.agg #[.int .i64 (0),.int .i64 (0),.string ⟨#[]⟩],.int .i64 3]) (by first | (simp [results,Tryz.results127,go_sem];done) | (simp [results,Tryz.results127,go_sem, *];done)) rfl ⟨by rw [HR.out];try rfl,bel⟩
 rw [if_pos ⟨rfl,ht⟩] at hR
 have ht':(tx.toList == s.toList) = true:=by simpa using ht
 have HR:=Lib.hid hR
 clear hR ht
 go_enter Tryz.func127,Tryz.ntmps127
 go_wp2_with (first
  | (go_at_call 72;refine (Tryz.strings_HasPrefix _ _ _).mono ?_;rintro e wp ⟨rfl,rfl⟩)
  | (go_at_call 45;refine (hat _ (HG.out.keep bel)).mono ?_;clear hat;rintro e w1 ⟨er1,rfl,hb1⟩;obtain ⟨hc1,hf1⟩:=bcell hb1;(try simp only [bqh,bqc,bqf] at hc1 hf1);have hz1:=hb1.size;(try simp at hz1);(try have hy1:=nl1 hz1);(try have hx1:=nl2 hy1);refine szz w1 w ?_;intros;have hy0:w.heap.size < w.heap.size + 1 + 1:=(by omega);have hy1:w.heap.size < w.heap.size + 2:=(by omega))
  | (go_at_call 147;refine (hq _ (HG.out.keep bel).1).mono ?_;rintro e w2 ⟨rfl,hb2⟩;obtain ⟨hc2,hf2⟩:=bcell hb2;(try simp only [bqh,bqc,bqf] at hc2 hf2);have hz2:=hb2.size;(try simp at hz2);(try have hy2:=nl1 hz2);(try have hx2:=nl2 hy2);refine szz w2 w ?_;intros;refine szz w2 w1 ?_;intros;have hy0:w.heap.size < w.heap.size + 1 + 1:=(by omega);have hy1:w.heap.size < w.heap.size + 2:=(by omega)))
 exact bodyPost_ret (v:=.tuple #[.agg #[.int .i64 (5),.int .i64 (a),.string ⟨#[]⟩],.int .i64 0]) (by first | (simp [results,Tryz.results127,go_sem];done) | (simp [results,Tryz.results127,go_sem, *];done)) rfl ⟨by rw [HR.out];try rfl,bel⟩
set_option maxRecDepth 100000 in
set_option maxHeartbeats 2000000 in
theorem value_Parse_d (s:ByteArray) (u:ByteArray) (w:World) (hs2:s.size ≤ 140737488351232) (hg:GdA w) (tx:ByteArray) (er:Int) (c1:(s.toList == [63]) = false) (c2:(s.toList == [116,114,117,101]) = false) (c3:(s.toList == [102,97,108,115,101]) = false) (p1:Lib.hasPrefix s.data.toList [33] = false) (p2:Lib.hasPrefix s.data.toList [34] = true) (hun:∀ w,Calls Tryz.prog 163 #[.string s] w fun e w' => e = .returned (.string u) ∧ Below w.heap.size w w')
  (hq:∀ w,Gd w → Calls Tryz.prog 147 #[.agg #[.int .i64 3,.int .i64 0,.string u]] w (RetSE w tx er)) :
  Calls Tryz.prog 127 #[.string s] w (RetVC w (if er = 0 ∧ tx.toList = s.toList then (⟨3,0,u⟩,0) else ((noVal,3):Val × Int)).1 (if er = 0 ∧ tx.toList = s.toList then (⟨3,0,u⟩,0) else ((noVal,3):Val × Int)).2):=by
 have HG:=Lib.hid hg
 clear hg
 obtain ⟨R,hR⟩:∃ R,R = (if er = 0 ∧ tx.toList = s.toList then (⟨3,0,u⟩,0) else ((noVal,3):Val × Int)):=⟨_,rfl⟩
 rw [← hR]
 by_cases he:er = 0
 rotate_left
 ·rw [if_neg (fun h => he h.1)] at hR
  have he':(er != 0) = true:=by simpa using he
  have HR:=Lib.hid hR
  clear hR he
  go_enter Tryz.func127,Tryz.ntmps127
  go_wp2_with (first
   | (go_at_call 72;refine (Tryz.strings_HasPrefix _ _ _).mono ?_;rintro e wp ⟨rfl,rfl⟩)
   | (go_at_call 163;refine (hun _).mono ?_;clear hun;rintro e w1 ⟨rfl,hb1⟩;obtain ⟨hc1,hf1⟩:=bcell hb1;(try simp only [bqh,bqc,bqf] at hc1 hf1);have hz1:=hb1.size;(try simp at hz1);(try have hy1:=nl1 hz1);(try have hx1:=nl2 hy1);refine szz w1 w ?_;intros;have hy0:w.heap.size < w.heap.size + 1 + 1:=(by omega);have hy1:w.heap.size < w.heap.size + 2:=(by omega))
   | (go_at_call 147;refine (hq _ (HG.out.keep bel).1).mono ?_;rintro e w2 ⟨rfl,hb2⟩;obtain ⟨hc2,hf2⟩:=bcell hb2;(try simp only [bqh,bqc,bqf] at hc2 hf2);have hz2:=hb2.size;(try simp at hz2);(try have hy2:=nl1 hz2);(try have hx2:=nl2 hy2);refine szz w2 w ?_;intros;refine szz w2 w1 ?_;intros;have hy0:w.heap.size < w.heap.size + 1 + 1:=(by omega);have hy1:w.heap.size < w.heap.size + 2:=(by omega)))
  exact bodyPost_ret (v:=.tuple #[.agg #[.int .i64 (0),.int .i64 (0),.string ⟨#[]⟩],.int .i64 3]) (by first | (simp [results,Tryz.results127,go_sem];done) | (simp [results,Tryz.results127,go_sem, *];done)) rfl ⟨by rw [HR.out];try rfl,bel⟩
 subst he
 by_cases ht:tx.toList = s.toList
 rotate_left
 ·rw [if_neg (fun h => ht h.2)] at hR
  have ht':(tx.toList == s.toList) = false:=by simpa using ht
  have HR:=Lib.hid hR
  clear hR ht
  go_enter Tryz.func127,Tryz.ntmps127
  go_wp2_with (first
   | (go_at_call 72;refine (Tryz.strings_HasPrefix _ _ _).mono ?_;rintro e wp ⟨rfl,rfl⟩)
   | (go_at_call 163;refine (hun _).mono ?_;clear hun;rintro e w1 ⟨rfl,hb1⟩;obtain ⟨hc1,hf1⟩:=bcell hb1;(try simp only [bqh,bqc,bqf] at hc1 hf1);have hz1:=hb1.size;(try simp at hz1);(try have hy1:=nl1 hz1);(try have hx1:=nl2 hy1);refine szz w1 w ?_;intros;have hy0:w.heap.size < w.heap.size + 1 + 1:=(by omega);have hy1:w.heap.size < w.heap.size + 2:=(by omega))
   | (go_at_call 147;refine (hq _ (HG.out.keep bel).1).mono ?_;rintro e w2 ⟨rfl,hb2⟩;obtain ⟨hc2,hf2⟩:=bcell hb2;(try simp only [bqh,bqc,bqf] at hc2 hf2);have hz2:=hb2.size;(try simp at hz2);(try have hy2:=nl1 hz2);(try have hx2:=nl2 hy2);refine szz w2 w ?_;intros;refine szz w2 w1 ?_;intros;have hy0:w.heap.size < w.heap.size + 1 + 1:=(by omega);have hy1:w.heap.size < w.heap.size + 2:=(by omega)))
  exact bodyPost_ret (v:=.tuple #[.agg #[.int .i64 (0),.int .i64 (0),.string ⟨#[]⟩],.int .i64 3]) (by first | (simp [results,Tryz.results127,go_sem];done) | (simp [results,Tryz.results127,go_sem, *];done)) rfl ⟨by rw [HR.out];try rfl,bel⟩
 rw [if_pos ⟨rfl,ht⟩] at hR
 have ht':(tx.toList == s.toList) = true:=by simpa using ht
 have HR:=Lib.hid hR
 clear hR ht
 go_enter Tryz.func127,Tryz.ntmps127
 go_wp2_with (first
  | (go_at_call 72;refine (Tryz.strings_HasPrefix _ _ _).mono ?_;rintro e wp ⟨rfl,rfl⟩)
  | (go_at_call 163;refine (hun _).mono ?_;clear hun;rintro e w1 ⟨rfl,hb1⟩;obtain ⟨hc1,hf1⟩:=bcell hb1;(try simp only [bqh,bqc,bqf] at hc1 hf1);have hz1:=hb1.size;(try simp at hz1);(try have hy1:=nl1 hz1);(try have hx1:=nl2 hy1);refine szz w1 w ?_;intros;have hy0:w.heap.size < w.heap.size + 1 + 1:=(by omega);have hy1:w.heap.size < w.heap.size + 2:=(by omega))
  | (go_at_call 147;refine (hq _ (HG.out.keep bel).1).mono ?_;rintro e w2 ⟨rfl,hb2⟩;obtain ⟨hc2,hf2⟩:=bcell hb2;(try simp only [bqh,bqc,bqf] at hc2 hf2);have hz2:=hb2.size;(try simp at hz2);(try have hy2:=nl1 hz2);(try have hx2:=nl2 hy2);refine szz w2 w ?_;intros;refine szz w2 w1 ?_;intros;have hy0:w.heap.size < w.heap.size + 1 + 1:=(by omega);have hy1:w.heap.size < w.heap.size + 2:=(by omega)))
 exact bodyPost_ret (v:=.tuple #[.agg #[.int .i64 (3),.int .i64 (0),.string u],.int .i64 0]) (by first | (simp [results,Tryz.results127,go_sem];done) | (simp [results,Tryz.results127,go_sem, *];done)) rfl ⟨by rw [HR.out];try rfl,bel⟩
set_option maxRecDepth 100000 in
set_option maxHeartbeats 2000000 in
theorem value_Parse_n (s:ByteArray) (a:Int) (w:World) (hs2:s.size ≤ 140737488351232) (hg:GdA w) (tx:ByteArray) (er:Int) (c1:(s.toList == [63]) = false) (c2:(s.toList == [116,114,117,101]) = false) (c3:(s.toList == [102,97,108,115,101]) = false) (p1:Lib.hasPrefix s.data.toList [33] = false) (p2:Lib.hasPrefix s.data.toList [34] = false) (hat:∀ w,GdA w → Calls Tryz.prog 45 #[.string s] w (RetNE w a))
  (hq:∀ w,Gd w → Calls Tryz.prog 147 #[.agg #[.int .i64 1,.int .i64 a,.string ⟨#[]⟩]] w (RetSE w tx er)) :
  Calls Tryz.prog 127 #[.string s] w (RetVC w (if er = 0 ∧ tx.toList = s.toList then (⟨1,a,⟨#[]⟩⟩,0) else ((noVal,3):Val × Int)).1 (if er = 0 ∧ tx.toList = s.toList then (⟨1,a,⟨#[]⟩⟩,0) else ((noVal,3):Val × Int)).2):=by
 have HG:=Lib.hid hg
 clear hg
 obtain ⟨R,hR⟩:∃ R,R = (if er = 0 ∧ tx.toList = s.toList then (⟨1,a,⟨#[]⟩⟩,0) else ((noVal,3):Val × Int)):=⟨_,rfl⟩
 rw [← hR]
 by_cases he:er = 0
 rotate_left
 ·rw [if_neg (fun h => he h.1)] at hR
  have he':(er != 0) = true:=by simpa using he
  have HR:=Lib.hid hR
  clear hR he
  go_enter Tryz.func127,Tryz.ntmps127
  go_wp2_with (first
   | (go_at_call 72;refine (Tryz.strings_HasPrefix _ _ _).mono ?_;rintro e wp ⟨rfl,rfl⟩)
   | (go_at_call 45;refine (hat _ (HG.out.keep bel)).mono ?_;clear hat;rintro e w1 ⟨er1,rfl,hb1⟩;obtain ⟨hc1,hf1⟩:=bcell hb1;(try simp only [bqh,bqc,bqf] at hc1 hf1);have hz1:=hb1.size;(try simp at hz1);(try have hy1:=nl1 hz1);(try have hx1:=nl2 hy1);refine szz w1 w ?_;intros;have hy0:w.heap.size < w.heap.size + 1 + 1:=(by omega);have hy1:w.heap.size < w.heap.size + 2:=(by omega))
   | (go_at_call 147;refine (hq _ (HG.out.keep bel).1).mono ?_;rintro e w2 ⟨rfl,hb2⟩;obtain ⟨hc2,hf2⟩:=bcell hb2;(try simp only [bqh,bqc,bqf] at hc2 hf2);have hz2:=hb2.size;(try simp at hz2);(try have hy2:=nl1 hz2);(try have hx2:=nl2 hy2);refine szz w2 w ?_;intros;refine szz w2 w1 ?_;intros;have hy0:w.heap.size < w.heap.size + 1 + 1:=(by omega);have hy1:w.heap.size < w.heap.size + 2:=(by omega)))
  exact bodyPost_ret (v:=.tuple #[.agg #[.int .i64 (0),.int .i64 (0),.string ⟨#[]⟩],.int .i64 3]) (by first | (simp [results,Tryz.results127,go_sem];done) | (simp [results,Tryz.results127,go_sem, *];done)) rfl ⟨by rw [HR.out];try rfl,bel⟩
 subst he
 by_cases ht:tx.toList = s.toList
 rotate_left
 ·rw [if_neg (fun h => ht h.2)] at hR
  have ht':(tx.toList == s.toList) = false:=by simpa using ht
  have HR:=Lib.hid hR
  clear hR ht
  go_enter Tryz.func127,Tryz.ntmps127
  go_wp2_with (first
   | (go_at_call 72;refine (Tryz.strings_HasPrefix _ _ _).mono ?_;rintro e wp ⟨rfl,rfl⟩)
   | (go_at_call 45;refine (hat _ (HG.out.keep bel)).mono ?_;clear hat;rintro e w1 ⟨er1,rfl,hb1⟩;obtain ⟨hc1,hf1⟩:=bcell hb1;(try simp only [bqh,bqc,bqf] at hc1 hf1);have hz1:=hb1.size;(try simp at hz1);(try have hy1:=nl1 hz1);(try have hx1:=nl2 hy1);refine szz w1 w ?_;intros;have hy0:w.heap.size < w.heap.size + 1 + 1:=(by omega);have hy1:w.heap.size < w.heap.size + 2:=(by omega))
   | (go_at_call 147;refine (hq _ (HG.out.keep bel).1).mono ?_;rintro e w2 ⟨rfl,hb2⟩;obtain ⟨hc2,hf2⟩:=bcell hb2;(try simp only [bqh,bqc,bqf] at hc2 hf2);have hz2:=hb2.size;(try simp at hz2);(try have hy2:=nl1 hz2);(try have hx2:=nl2 hy2);refine szz w2 w ?_;intros;refine szz w2 w1 ?_;intros;have hy0:w.heap.size < w.heap.size + 1 + 1:=(by omega);have hy1:w.heap.size < w.heap.size + 2:=(by omega)))
  exact bodyPost_ret (v:=.tuple #[.agg #[.int .i64 (0),.int .i64 (0),.string ⟨#[]⟩],.int .i64 3]) (by first | (simp [results,Tryz.results127,go_sem];done) | (simp [results,Tryz.results127,go_sem, *];done)) rfl ⟨by rw [HR.out];try rfl,bel⟩
 rw [if_pos ⟨rfl,ht⟩] at hR
 have ht':(tx.toList == s.toList) = true:=by simpa using ht
 have HR:=Lib.hid hR
 clear hR ht
 go_enter Tryz.func127,Tryz.ntmps127
 go_wp2_with (first
  | (go_at_call 72;refine (Tryz.strings_HasPrefix _ _ _).mono ?_;rintro e wp ⟨rfl,rfl⟩)
  | (go_at_call 45;refine (hat _ (HG.out.keep bel)).mono ?_;clear hat;rintro e w1 ⟨er1,rfl,hb1⟩;obtain ⟨hc1,hf1⟩:=bcell hb1;(try simp only [bqh,bqc,bqf] at hc1 hf1);have hz1:=hb1.size;(try simp at hz1);(try have hy1:=nl1 hz1);(try have hx1:=nl2 hy1);refine szz w1 w ?_;intros;have hy0:w.heap.size < w.heap.size + 1 + 1:=(by omega);have hy1:w.heap.size < w.heap.size + 2:=(by omega))
  | (go_at_call 147;refine (hq _ (HG.out.keep bel).1).mono ?_;rintro e w2 ⟨rfl,hb2⟩;obtain ⟨hc2,hf2⟩:=bcell hb2;(try simp only [bqh,bqc,bqf] at hc2 hf2);have hz2:=hb2.size;(try simp at hz2);(try have hy2:=nl1 hz2);(try have hx2:=nl2 hy2);refine szz w2 w ?_;intros;refine szz w2 w1 ?_;intros;have hy0:w.heap.size < w.heap.size + 1 + 1:=(by omega);have hy1:w.heap.size < w.heap.size + 2:=(by omega)))
 exact bodyPost_ret (v:=.tuple #[.agg #[.int .i64 (1),.int .i64 (a),.string ⟨#[]⟩],.int .i64 0]) (by first | (simp [results,Tryz.results127,go_sem];done) | (simp [results,Tryz.results127,go_sem, *];done)) rfl ⟨by rw [HR.out];try rfl,bel⟩

theorem hasPrefix1 (c:UInt8) (l:List UInt8):Lib.hasPrefix l [c] = decide (l.head? = some c):=by
 cases l with
 | nil => rfl
 | cons a l =>
  rw [Bool.eq_iff_iff,decide_eq_true_eq]
  simp [Lib.hasPrefix]
  exact eq_comm
theorem toList_data (s:ByteArray):s.toList = s.data.toList:=ByteArray.toList_eq s
theorem value_Parse (s:ByteArray) (w:World) (hs:inS s) (hg:GdA w):Calls Tryz.prog 127 #[.string s] w (RetVC w (parseV s).1 (parseV s).2):=by
 have hs2:s.size ≤ 140737488351232:=hs
 have key:∀ v:Val,candV s.data.toList = v → parseV s = if valCheck v = 0 ∧ (showV v).toList = s.toList then (v,0) else (noVal,3):=by
  intro v h
  rw [parse_post s v w h]
  simp only [shows,Bool.and_eq_true,decide_eq_true_eq,beq_iff_eq]
 have hsz:s.size = s.data.toList.length:=by simp
 by_cases h1:s.data.toList = [63]
 ·rw [key ⟨4,0,⟨#[]⟩⟩ (by unfold candV;rw [if_pos h1])]
  exact value_Parse_q s w hs2 hg _ _ (by rw [toList_data,h1];rfl) fun w h => value_Show ⟨4,0,⟨#[]⟩⟩ w ⟨inI_c 4 (by omega),inI_c 0 (by omega),str_nil_in⟩ h
 have c1:(s.toList == [63]) = false:=by rw [toList_data];simpa using h1
 by_cases h2:s.data.toList = [116,114,117,101]
 ·rw [key ⟨2,1,⟨#[]⟩⟩ (by unfold candV;rw [if_neg h1,if_pos h2])]
  exact value_Parse_t s w hs2 hg _ _ c1 (by rw [toList_data,h2];rfl) (by rw [hsz,h2];rfl) fun w h => value_Show ⟨2,1,⟨#[]⟩⟩ w ⟨inI_c 2 (by omega),inI_c 1 (by omega),str_nil_in⟩ h
 have c2:(s.toList == [116,114,117,101]) = false:=by rw [toList_data];simpa using h2
 by_cases h3:s.data.toList = [102,97,108,115,101]
 ·rw [key ⟨2,0,⟨#[]⟩⟩ (by unfold candV;rw [if_neg h1,if_neg h2,if_pos h3])]
  exact value_Parse_f s w hs2 hg _ _ c1 c2 (by rw [toList_data,h3];rfl) (by rw [hsz,h3];rfl) fun w h => value_Show ⟨2,0,⟨#[]⟩⟩ w ⟨inI_c 2 (by omega),inI_c 0 (by omega),str_nil_in⟩ h
 have c3:(s.toList == [102,97,108,115,101]) = false:=by rw [toList_data];simpa using h3
 by_cases h4:s.data.toList.head? = some 33
 ·rw [key ⟨5,atoiV s.data.toList.tail,⟨#[]⟩⟩ (by unfold candV;rw [if_neg h1,if_neg h2,if_neg h3,if_pos h4])]
  have hne:1 ≤ s.size:=by
   rw [hsz]
   cases h:s.data.toList with
   | nil => rw [h] at h4;cases h4
   | cons a l => simp
  have htl:(s.extract 1 s.size).data.toList = s.data.toList.tail:=by
   rw [Lib.extract_data,List.take_of_length_le (by rw [List.length_drop,← hsz];exact Nat.le_refl _),List.drop_one]
  refine value_Parse_x s _ w hs2 hg _ _ c1 c2 c3 (by rw [hasPrefix1,h4];rfl) hne (fun w h => ?_) fun w h => value_Show ⟨5,atoiV s.data.toList.tail,⟨#[]⟩⟩ w ⟨inI_c 5 (by omega),atoiV_in _,str_nil_in⟩ h
  rw [← htl]
  exact atoi_at _ w (by show (s.extract 1 s.size).size ≤ 140737488351232;rw [ByteArray.size_extract];omega) h
 by_cases h5:s.data.toList.head? = some 34
 ·rw [key ⟨3,0,ofL (unq s.data.toList 1)⟩ (by unfold candV;rw [if_neg h1,if_neg h2,if_neg h3,if_neg h4,if_pos h5])]
  exact value_Parse_d s _ w hs2 hg _ _ c1 c2 c3 (by rw [hasPrefix1,h5];rfl) (by rw [hasPrefix1,h5];rfl) (fun w => value_unquote s w hs) fun w h => value_Show ⟨3,0,ofL (unq s.data.toList 1)⟩ w ⟨inI_c 3 (by omega),inI_c 0 (by omega),unq_in hs 1⟩ h
 ·rw [key ⟨1,atoiV s.data.toList,⟨#[]⟩⟩ (by unfold candV;rw [if_neg h1,if_neg h2,if_neg h3,if_neg h4,if_neg h5])]
  exact value_Parse_n s _ w hs2 hg _ _ c1 c2 c3 (by rw [hasPrefix1];simpa using h4) (by rw [hasPrefix1];simpa using h5) (fun w h => atoi_at s w hs h) fun w h => value_Show ⟨1,atoiV s.data.toList,⟨#[]⟩⟩ w ⟨inI_c 1 (by omega),atoiV_in _,str_nil_in⟩ h
end Go.Proofs.YtldbpmlgbbomcaaGreatDoor
