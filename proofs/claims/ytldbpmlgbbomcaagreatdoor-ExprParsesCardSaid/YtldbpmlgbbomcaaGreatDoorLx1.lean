/- lex.Tokens: the tokens of a text, read one by one. -/
import Derived.Test.YtldbpmlgbbomcaaGreatDoorLexP
import Derived.Test.YtldbpmlgbbomcaaGreatDoorByt
namespace Go.Proofs.YtldbpmlgbbomcaaGreatDoor
open Go.RowKit

def RetT (w:World) (t:Tkn) (c:Int) (e:Ending) (w':World):Prop:=e = .returned (.tuple #[.agg #[.int .i64 t.kind,.int .i64 t.at_,.string t.s,.int .i64 t.v.k,.int .i64 t.v.n,.string t.v.s],.int .i64 c]) ∧ Below w.heap.size w w'
theorem ret_T {w w':World} {t:Tkn} {c:Int} {r:Tkn × Int} (h:r = (t,c)) (hb:Below w.heap.size w w') (e:Ending) (he:e = .returned (.tuple #[.agg #[.int .i64 t.kind,.int .i64 t.at_,.string t.s,.int .i64 t.v.k,.int .i64 t.v.n,.string t.v.s],.int .i64 c])):RetT w r.1 r.2 e w':=by
 rw [h];exact ⟨he,hb⟩
theorem cf_digit (args:Array Value) (w:World):(callFunc 81 args).run Tryz.prog w = .ok (.enter 81 args) w :=
 cf _ _ Tryz.func81 (by kernel_rfl) (by kernel_rfl) args w
set_option maxHeartbeats 400000 in
theorem lex_one1 (c:UInt8) (w:World) :
  Calls Tryz.prog 85 #[.int .u8 (c.toNat:Int)] w fun e w' => e = .returned (.bool (isWord c)) ∧ w = w':=by
 have hb:=byte_bd c
 go_enter Tryz.func85,Tryz.ntmps85
 go_wp2_with (first | (go_at_call 83;refine (lex_letter c _).mono ?_;rintro e w' ⟨rfl,rfl⟩) | (go_at_call 81;refine (lex_digit c _).mono ?_;rintro e w' ⟨rfl,rfl⟩))
 all_goals
  go_ret
  exact ⟨ret_bool (by simp_all [isWord]),rfl⟩
theorem cf_one1 (args:Array Value) (w:World):(callFunc 85 args).run Tryz.prog w = .ok (.enter 85 args) w :=
 cf _ _ Tryz.func85 (by kernel_rfl) (by kernel_rfl) args w
theorem extract_take (s:ByteArray) (n:Nat) (_h:n ≤ s.size):s.extract 0 n = ofL (s.data.toList.take n):=by
 apply toList_inj
 rw [ByteArray.toList_eq,ByteArray.toList_eq,Lib.extract_data]
 simp [ofL]
theorem get_of (s:ByteArray) (k:Nat) (h:k < s.size):s.data.toList[k]? = some s[k]:=by rw [List.getElem?_eq_getElem (by simpa using h)];rfl

set_option maxRecDepth 100000 in
set_option maxHeartbeats 2000000 in
theorem lex_number (s:ByteArray) (w:World) (hs:s.size ≤ 160) (h0:0 < s.size):Calls Tryz.prog 82 #[.string s] w (RetT w (numX s.data.toList).1 (numX s.data.toList).2):=by
 have hsl:s.data.toList.length = s.size:=by simp
 have hsp:=fun w => lex_span 81 isDig s w (by unfold maxLen;omega) cf_digit lex_digit
 have hnl:=spanLen_le isDig s.data.toList
 have hall:=spanLen_take isDig s.data.toList
 have hnx:∀ r,r = numX s.data.toList → r = if 1 < spanLen isDig s.data.toList ∧ s[0] = 48 then (noTk,3) else if 1099511627776 < digV (s.data.toList.take (spanLen isDig s.data.toList)) then (noTk,7)
   else (⟨1,0,ofL (s.data.toList.take (spanLen isDig s.data.toList)),⟨1,digV (s.data.toList.take (spanLen isDig s.data.toList)),⟨#[]⟩⟩⟩,0):=by
  rintro r rfl
  unfold numX
  rw [get_of s 0 h0]
  simp only [Option.some.injEq]
 rw [hsl] at hnl
 generalize spanLen isDig s.data.toList = n at hsp hnl hall hnx
 have HS:=Lib.hid (And.intro hsl hall)
 have HN:=Lib.hid hnx
 clear hsl hall hnx
 obtain ⟨R,hR⟩:∃ R,R = numX s.data.toList:=⟨_,rfl⟩
 rw [← hR]
 have HR:=Lib.hid (HN.out R hR)
 clear hR HN
 by_cases hz:1 < n ∧ s[0] = 48
 ·have h1:(1:Int) < (n:Int):=by omega
  have h2:((s[0].toNat:Int) == 48) = true:=by rw [hz.2];rfl
  have h3:=HR.out
  rw [if_pos hz] at h3
  have HE:=Lib.hid h3
  clear h3 hz HR
  go_enter Tryz.func82,Tryz.ntmps82
  go_wp2_with (go_at_call 84;refine (hsp _).mono ?_;rintro e w' ⟨rfl,rfl⟩)
  exact bodyPost_ret (v:=.tuple #[.agg #[.int .i64 0,.int .i64 0,.string ⟨#[]⟩,.int .i64 0,.int .i64 0,.string ⟨#[]⟩],.int .i64 3]) (by first | (simp [results,Tryz.results82,go_sem];done) | (simp [results,Tryz.results82,go_sem, *];done)) rfl (ret_T HE.out bel _ rfl)
 ·have h2:1 < n → ((s[0].toNat:Int) == 48) = false:=fun h => byte_ne (b:=48) (fun e => hz ⟨h,e⟩)
  have h3:=HR.out
  rw [if_neg hz] at h3
  have HE:=Lib.hid h3
  clear h3 hz HR
  have hcut:(n:Int) ≤ 1 ∨ (1 < (n:Int) ∧ ((s[0].toNat:Int) == 48) = false):=by
   by_cases h:1 < n
   ·exact .inr ⟨by omega,h2 h⟩
   ·exact .inl (by omega)
  clear h2
  rcases hcut with h1 | ⟨h1,h2⟩
  all_goals
   go_enter Tryz.func82,Tryz.ntmps82
   go_wp2_with (go_at_call 84;refine (hsp _).mono ?_;rintro e w' ⟨rfl,rfl⟩)
   go_loop [5,18] (fun v i => ∃ k:Nat,k ≤ n ∧ i = .int .i64 k ∧ v = .int .i64 (digV (s.data.toList.take k)) ∧ digV (s.data.toList.take k) ≤ 1099511627776) (fun _ i => n - (intOf i).toNat)
   case atStart => exact ⟨0,by omega,rfl,rfl,by simp [digV]⟩
   case round =>
    obtain ⟨k,hk,rfl,rfl,hv⟩:=hrel
    by_cases hlt:k < n
    ·have hks:k < s.size:=by omega
     have hget:=get_of s k hks
     have hdig:isDig s[k] = true:=by
      have h:=HS.out.2
      rw [List.all_eq_true] at h
      exact h _ (List.mem_of_getElem? (i:=k) (by rw [List.getElem?_take_of_lt hlt];exact hget))
     have hsn:digV (s.data.toList.take (k + 1)) = 10 * digV (s.data.toList.take k) + (s[k].toNat - 48):=by rw [take_snoc s k hks,digV_snoc]
     obtain ⟨hd1,hd2⟩:=isDig_iff.1 hdig
     have hmono:digV (s.data.toList.take (k + 1)) ≤ digV (s.data.toList.take n):=by
      have h:=digV_take (s.data.toList.take n) (k + 1)
      rwa [List.take_take,Nat.min_eq_left (by omega)] at h
     have HM:=Lib.hid (And.intro hsn hmono)
     clear hsn hmono hget hdig
     generalize hgv:digV (s.data.toList.take k) = v at *
     have hi1:(48:Int) ≤ (s[k].toNat:Int):=by omega
     have hi2:(s[k].toNat:Int) ≤ 57:=by omega
     obtain ⟨d,hd⟩:∃ d:Nat,(s[k].toNat:Int) = (d:Int) + 48:=⟨s[k].toNat - 48,by omega⟩
     by_cases hov:1099511627776 < 10 * v + d
     ·have ho:(1099511627776:Int) < 10 * (v:Int) + (d:Int):=by omega
      have hx:R = (noTk,7):=by
       rw [HE.out,if_pos]
       have:=HM.out
       omega
      have HX:=Lib.hid hx
      clear hx
      go_wp2_with fail
      exact bodyPost_ret (v:=.tuple #[.agg #[.int .i64 0,.int .i64 0,.string ⟨#[]⟩,.int .i64 0,.int .i64 0,.string ⟨#[]⟩],.int .i64 7]) (by first | (simp [results,Tryz.results82,go_sem];done) | (simp [results,Tryz.results82,go_sem, *];done)) rfl (ret_T HX.out bel _ rfl)
     ·have ho:10 * (v:Int) + (d:Int) ≤ (1099511627776:Int):=by omega
      go_wp2_with fail
      go_round
      case rel => exact ⟨k + 1,by omega,by go_num,by rw [HM.out.1];congr 1;omega,by rw [HM.out.1];omega⟩
      case measure => simp [intOf];omega
    ·have hkn:k = n:=by omega
     subst hkn
     have hex:=extract_take s k (by omega)
     have hx:R = (⟨1,0,ofL (s.data.toList.take k),⟨1,digV (s.data.toList.take k),⟨#[]⟩⟩⟩,0):=by rw [HE.out,if_neg (by omega)]
     generalize digV (s.data.toList.take k) = v at *
     rw [← hex] at hx
     have HX:=Lib.hid hx
     clear hx hex
     go_wp2_with fail
     exact bodyPost_ret (v:=.tuple #[.agg #[.int .i64 1,.int .i64 0,.string (s.extract 0 k),.int .i64 1,.int .i64 v,.string ⟨#[]⟩],.int .i64 0]) (by first | (simp [results,Tryz.results82,go_sem];done) | (simp [results,Tryz.results82,go_sem, *];done)) rfl (ret_T HX.out bel _ rfl)
theorem own_byte {w:World} {base:Nat} {v:Value} {l:List Value} {n:Nat} (h:w.ownsRow base 5 1 v n l):∃ A c,v = .slice A n c ∧ True:=by
 rcases h.2 with ⟨rfl,rfl⟩ | ⟨g,cap,cur,rfl,_⟩
 ·exact ⟨_,_,rfl,trivial⟩
 ·exact ⟨_,_,rfl,trivial⟩
set_option maxRecDepth 100000 in
set_option maxHeartbeats 4000000 in
theorem lex_quote (s:ByteArray) (w:World) (hs:s.size ≤ 160) (h0:0 < s.size):Calls Tryz.prog 86 #[.string s] w (RetT w (quoteX s.data.toList).1 (quoteX s.data.toList).2):=by
 have hsl:s.data.toList.length = s.size:=by simp
 obtain ⟨i0,hi,hz0,hz1,hz2⟩:=info_parts Tryz.infoByte
 obtain ⟨R,hR⟩:∃ R,R = quoteX s.data.toList:=⟨_,rfl⟩
 rw [← hR]
 have HR:=Lib.hid hR
 have HSL:=Lib.hid hsl
 clear hR hsl
 go_enter Tryz.func86,Tryz.ntmps86
 go_wp2_with fail
 go_loopw [4,5] (fun v i wr => ∃ (k:Nat) (x:List UInt8),1 ≤ k ∧ k ≤ s.size + 1 ∧ i = .int .i64 k ∧ wr.ownsRow (w.heap.size + 1) 5 1 v x.length (x.map bv) ∧ qtAt s.data.toList k x ∧ x.length ≤ k ∧ Below (w.heap.size + 1) (w.alloc (.cells #[.int .i64 0,.int .i64 0,.string ⟨#[]⟩,.int .i64 0,.int .i64 0,.string ⟨#[]⟩] 60)) wr) (fun _ i _ => s.size + 1 - (intOf i).toNat)
 case atStart => exact ⟨1,[],by omega,by omega,rfl,by simpa using World.ownsRow_nil _ _ _ _,qtAt_start _,by simp,Below.refl _ _⟩
 case round =>
  obtain ⟨k,x,hk1,hk2,rfl,hown,hqt,hlx,hbr0⟩:=hrel
  have hbr:Below (w.alloc (.cells #[.int .i64 0,.int .i64 0,.string ⟨#[]⟩,.int .i64 0,.int .i64 0,.string ⟨#[]⟩] 60)).heap.size (w.alloc (.cells #[.int .i64 0,.int .i64 0,.string ⟨#[]⟩,.int .i64 0,.int .i64 0,.string ⟨#[]⟩] 60)) wr:=by simpa using hbr0
  have HB:=Lib.hid hbr0
  have hb0:Below w.heap.size w wr:=alloc_below hbr0
  clear hbr0
  obtain ⟨hcr,hfr⟩:=bcell hbr;(try simp only [bqh,bqc,bqf] at hcr hfr);have hzr:=hbr.size;(try simp at hzr);(try have hyr:=nl1 hzr);(try have hxr:=nl2 hyr)
  have HO:=Lib.hid hown
  by_cases hlt:k < s.size
  ·have hget:=get_of s k hlt
   by_cases hq:s[k] = 34
   ·have g1:((s[k].toNat:Int) == 34) = true:=by rw [hq];rfl
    have hcl:=qtAt_close hqt hk1 (by rw [hget,hq])
    rw [← HR.out] at hcl
    clear hqt hget hq
    by_cases h40:40 < x.length
    ·have h40':(40:Int) < (x.length:Int):=by omega
     rw [if_pos h40] at hcl
     have hx:=hcl
     clear hcl
     obtain ⟨A4,c4,rfl,-⟩:=own_byte hown
     clear hown
     have HX:=Lib.hid hx
     clear hx
     go_wp2_with fail
     exact bodyPost_ret (v:=.tuple #[.agg #[.int .i64 0,.int .i64 0,.string ⟨#[]⟩,.int .i64 0,.int .i64 0,.string ⟨#[]⟩],.int .i64 1]) (by first | (simp [results,Tryz.results86,go_sem];done) | (simp [results,Tryz.results86,go_sem, *];done)) rfl (ret_T HX.out bel _ rfl)
    ·have h40':(x.length:Int) ≤ (40:Int):=by omega
     rw [if_neg h40] at hcl
     obtain ⟨A4,c4,rfl,-⟩:=own_byte hown
     have hcv:=bytes_out wr (w.heap.size + 1) _ x hown
     have hcv2:=bytes_out wr.drew (w.heap.size + 1) _ x hown
     have hex:=extract_take s (k + 1) (by omega)
     rw [← hex] at hcl
     have HX:=Lib.hid hcl
     clear hcl hown hex
     go_wp2_with fail
     go_region
     all_goals
      go_wp2_with fail
      exact bodyPost_ret (v:=.tuple #[.agg #[.int .i64 3,.int .i64 0,.string (s.extract 0 (k + 1)),.int .i64 3,.int .i64 0,.string (ofL x)],.int .i64 0]) (by first | (simp [results,Tryz.results86,go_sem];done) | (simp [results,Tryz.results86,go_sem, *];done)) rfl (ret_T HX.out bel _ rfl)
   ·have g1:((s[k].toNat:Int) == 34) = false:=byte_ne (b:=34) hq
    by_cases he:s[k] = 92
    ·have g2:((s[k].toNat:Int) == 92) = true:=by rw [he];rfl
     by_cases hk:k + 1 < s.size
     ·have hki:(k:Int) + 1 < (s.size:Int):=by omega
      have hget2:=get_of s (k + 1) hk
      rcases byte3 s[k + 1] with hd | hd | ⟨hd,hd'⟩
      ·have g3:((s[k + 1].toNat:Int) == 34) = true:=by rw [hd];rfl
       have hy:=qtAt_esc hqt hk1 (by rw [hget,he]) hget2 (.inl hd)
       clear hqt hget hget2 he hq hown hd
       have HY:=Lib.hid hy
       clear hy
       go_wp2_with (at_builtin;refine wpList_append1 rfl _ _ 111 rfl (w.heap.size + 1) 5 i0 (.int .u8 0) 1 1 Tryz.underlying111 hi hz0 hz1 hz2 rfl (by decide) _ x.length _ rfl HO.out [bv s[k + 1]] 5 rfl wr.heap.size rfl (by simp) rfl (by intro u hu;simp at hu;subst hu;rfl) (by omega) (by unfold maxLen;omega) hzr ?_;intro v3 w3 hown3 hb3 hs3 _)
       have HQ:=Lib.hid (And.intro hown3 hb3)
       clear hown3 hb3
       go_roundw
       case rel => exact ⟨k + 2,x ++ [s[k + 1]],by omega,by omega,by go_num,by rw [List.length_append,List.map_append];exact HQ.out.1,HY.out,by simp;omega,HB.out.trans HQ.out.2⟩
       case measure => simp [intOf];omega
      ·have g3:((s[k + 1].toNat:Int) == 34) = false:=by rw [hd];rfl
       have g4:((s[k + 1].toNat:Int) == 92) = true:=by rw [hd];rfl
       have hy:=qtAt_esc hqt hk1 (by rw [hget,he]) hget2 (.inr hd)
       clear hqt hget hget2 he hq hown hd
       have HY:=Lib.hid hy
       clear hy
       go_wp2_with (at_builtin;refine wpList_append1 rfl _ _ 111 rfl (w.heap.size + 1) 5 i0 (.int .u8 0) 1 1 Tryz.underlying111 hi hz0 hz1 hz2 rfl (by decide) _ x.length _ rfl HO.out [bv s[k + 1]] 5 rfl wr.heap.size rfl (by simp) rfl (by intro u hu;simp at hu;subst hu;rfl) (by omega) (by unfold maxLen;omega) hzr ?_;intro v3 w3 hown3 hb3 hs3 _)
       have HQ:=Lib.hid (And.intro hown3 hb3)
       clear hown3 hb3
       go_roundw
       case rel => exact ⟨k + 2,x ++ [s[k + 1]],by omega,by omega,by go_num,by rw [List.length_append,List.map_append];exact HQ.out.1,HY.out,by simp;omega,HB.out.trans HQ.out.2⟩
       case measure => simp [intOf];omega
      ·have g3:((s[k + 1].toNat:Int) == 34) = false:=byte_ne (b:=34) hd
       have g4:((s[k + 1].toNat:Int) == 92) = false:=byte_ne (b:=92) hd'
       have hx:=qtAt_bad hqt hget hq (.inl ⟨he,fun d h => by rw [hget2] at h;cases h;exact ⟨hd,hd'⟩⟩)
       rw [← HR.out] at hx
       have g5:¬ (s[k].toNat:Int) < 32:=by rw [he];decide
       have g6:¬ (126:Int) < (s[k].toNat:Int):=by rw [he];decide
       clear hqt hget hget2 he hq hown hd hd'
       have HX:=Lib.hid hx
       clear hx
       go_wp2_with fail
       exact bodyPost_ret (v:=.tuple #[.agg #[.int .i64 0,.int .i64 0,.string ⟨#[]⟩,.int .i64 0,.int .i64 0,.string ⟨#[]⟩],.int .i64 3]) (by first | (simp [results,Tryz.results86,go_sem];done) | (simp [results,Tryz.results86,go_sem, *];done)) rfl (ret_T HX.out bel _ rfl)
     ·have hki:¬ (k:Int) + 1 < (s.size:Int):=by omega
      have hx:=qtAt_bad hqt hget hq (.inl ⟨he,fun d h => by have:=(List.getElem?_eq_some_iff.1 h).1;rw [HSL.out] at this;omega⟩)
      rw [← HR.out] at hx
      have g5:¬ (s[k].toNat:Int) < 32:=by rw [he];decide
      have g6:¬ (126:Int) < (s[k].toNat:Int):=by rw [he];decide
      clear hqt hget he hq hown
      have HX:=Lib.hid hx
      clear hx
      go_wp2_with fail
      exact bodyPost_ret (v:=.tuple #[.agg #[.int .i64 0,.int .i64 0,.string ⟨#[]⟩,.int .i64 0,.int .i64 0,.string ⟨#[]⟩],.int .i64 3]) (by first | (simp [results,Tryz.results86,go_sem];done) | (simp [results,Tryz.results86,go_sem, *];done)) rfl (ret_T HX.out bel _ rfl)
    ·have g2:((s[k].toNat:Int) == 92) = false:=byte_ne (b:=92) he
     by_cases hlo:s[k].toNat < 32
     ·have g5:(s[k].toNat:Int) < 32:=by omega
      have hx:=qtAt_bad hqt hget hq (.inr ⟨he,.inl hlo⟩)
      rw [← HR.out] at hx
      clear hqt hget he hq hown hlo
      have HX:=Lib.hid hx
      clear hx
      go_wp2_with fail
      exact bodyPost_ret (v:=.tuple #[.agg #[.int .i64 0,.int .i64 0,.string ⟨#[]⟩,.int .i64 0,.int .i64 0,.string ⟨#[]⟩],.int .i64 3]) (by first | (simp [results,Tryz.results86,go_sem];done) | (simp [results,Tryz.results86,go_sem, *];done)) rfl (ret_T HX.out bel _ rfl)
     ·have g5:¬ (s[k].toNat:Int) < 32:=by omega
      by_cases hhi:126 < s[k].toNat
      ·have g6:(126:Int) < (s[k].toNat:Int):=by omega
       have hx:=qtAt_bad hqt hget hq (.inr ⟨he,.inr hhi⟩)
       rw [← HR.out] at hx
       clear hqt hget he hq hown hlo hhi
       have HX:=Lib.hid hx
       clear hx
       go_wp2_with fail
       exact bodyPost_ret (v:=.tuple #[.agg #[.int .i64 0,.int .i64 0,.string ⟨#[]⟩,.int .i64 0,.int .i64 0,.string ⟨#[]⟩],.int .i64 3]) (by first | (simp [results,Tryz.results86,go_sem];done) | (simp [results,Tryz.results86,go_sem, *];done)) rfl (ret_T HX.out bel _ rfl)
      ·have g6:¬ (126:Int) < (s[k].toNat:Int):=by omega
       have hy:=qtAt_char hqt hk1 hget hq he (by omega)
       clear hqt hget he hq hown hlo hhi
       have HY:=Lib.hid hy
       clear hy
       go_wp2_with (at_builtin;refine wpList_append1 rfl _ _ 111 rfl (w.heap.size + 1) 5 i0 (.int .u8 0) 1 1 Tryz.underlying111 hi hz0 hz1 hz2 rfl (by decide) _ x.length _ rfl HO.out [bv s[k]] 5 rfl wr.heap.size rfl (by simp) rfl (by intro u hu;simp at hu;subst hu;rfl) (by omega) (by unfold maxLen;omega) hzr ?_;intro v3 w3 hown3 hb3 hs3 _)
       have HQ:=Lib.hid (And.intro hown3 hb3)
       clear hown3 hb3
       go_roundw
       case rel => exact ⟨k + 1,x ++ [s[k]],by omega,by omega,by go_num,by rw [List.length_append,List.map_append];exact HQ.out.1,HY.out,by simp;omega,HB.out.trans HQ.out.2⟩
       case measure => simp [intOf];omega
  ·have hki:¬ (k:Int) < (s.size:Int):=by omega
   have hx:=qtAt_end hqt (by rw [HSL.out];omega)
   rw [← HR.out] at hx
   clear hqt hown
   have HX:=Lib.hid hx
   clear hx
   go_wp2_with fail
   exact bodyPost_ret (v:=.tuple #[.agg #[.int .i64 0,.int .i64 0,.string ⟨#[]⟩,.int .i64 0,.int .i64 0,.string ⟨#[]⟩],.int .i64 3]) (by first | (simp [results,Tryz.results86,go_sem];done) | (simp [results,Tryz.results86,go_sem, *];done)) rfl (ret_T HX.out bel _ rfl)
end Go.Proofs.YtldbpmlgbbomcaaGreatDoor
