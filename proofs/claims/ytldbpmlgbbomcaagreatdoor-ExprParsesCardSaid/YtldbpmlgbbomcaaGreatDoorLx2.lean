/- lex.one and lex.Tokens. -/
import Derived.Test.YtldbpmlgbbomcaaGreatDoorLx1
import Derived.Test.YtldbpmlgbbomcaaGreatDoorRowK
namespace Go.Proofs.YtldbpmlgbbomcaaGreatDoor
open Go.RowKit

theorem find_hit {α:Type} {p:α → Bool} {l:List α} {k:Nat} {g:α} (h:(l.take k).find? p = none) (hk:l[k]? = some g) (hp:p g = true):l.find? p = some g:=by
 have hd:l.drop k = g :: l.drop (k + 1):=by
  have hl:=(List.getElem?_eq_some_iff.1 hk).1
  rw [List.drop_eq_getElem_cons hl]
  congr 1
  exact (List.getElem?_eq_some_iff.1 hk).2
 have:(l.take k ++ l.drop k).find? p = some g:=by rw [List.find?_append,h,hd];simp [hp]
 rwa [List.take_append_drop] at this
theorem find_next {α:Type} {p:α → Bool} {l:List α} {k:Nat} {g:α} (h:(l.take k).find? p = none) (hk:l[k]? = some g) (hp:p g = false):(l.take (k + 1)).find? p = none:=by
 rw [List.take_add_one,hk,List.find?_append,h]
 simp [hp]
def signsV:Value:=.agg #[.string ⟨#[60,61]⟩,.string ⟨#[33,61]⟩,.string ⟨#[60]⟩,.string ⟨#[61]⟩,.string ⟨#[43]⟩,.string ⟨#[45]⟩,.string ⟨#[42]⟩,.string ⟨#[47]⟩,.string ⟨#[37]⟩,.string ⟨#[38]⟩,.string ⟨#[40]⟩,.string ⟨#[41]⟩,.string ⟨#[44]⟩]
theorem signs_at (k:Nat) (hk:k < 13):∃ g,signsX[k]? = some g ∧ ∀ w:World,(Instr.index 133 signsV (.int .i64 (k:Int))).run Tryz.prog w = .ok (.string (ofL g)) w:=by
 rcases (by omega:k = 0 ∨ k = 1 ∨ k = 2 ∨ k = 3 ∨ k = 4 ∨ k = 5 ∨ k = 6 ∨ k = 7 ∨ k = 8 ∨ k = 9 ∨ k = 10 ∨ k = 11 ∨ k = 12) with rfl | rfl | rfl | rfl | rfl | rfl | rfl | rfl | rfl | rfl | rfl | rfl | rfl <;> exact ⟨_,rfl,fun w => by kernel_rfl⟩
theorem oneX_cons (s:ByteArray) (h0:0 < s.size):oneX s.data.toList = if isDig s[0] = true then numX s.data.toList else if isLow s[0] = true then wordX s.data.toList else if s[0] = 34 then quoteX s.data.toList else signX s.data.toList:=by
 have hg:=get_of s 0 h0
 unfold oneX
 cases hd:s.data.toList with
 | nil => rw [hd] at hg;cases hg
 | cons c t =>
  rw [hd] at hg
  have e:c = s[0]:=Option.some.inj hg
  rw [e]
set_option maxRecDepth 100000 in
set_option maxHeartbeats 4000000 in
theorem lex_one (s:ByteArray) (w:World) (hs:s.size ≤ 160) (h0:0 < s.size):Calls Tryz.prog 38 #[.string s] w (RetT w (oneX s.data.toList).1 (oneX s.data.toList).2):=by
 have hx:=oneX_cons s h0
 by_cases h1:isDig s[0] = true
 ·rw [if_pos h1] at hx
  rw [hx]
  have hc:=fun w => lex_number s w hs h0
  obtain ⟨R,hR⟩:∃ R,R = numX s.data.toList:=⟨_,rfl⟩
  rw [← hR] at hc ⊢
  clear hx hR
  obtain ⟨t,c⟩:=R
  dsimp only at hc ⊢
  go_enter Tryz.func38,Tryz.ntmps38
  go_wp2_with (first
   | (go_at_call 81;refine (lex_digit _ _).mono ?_;rintro e w' ⟨rfl,rfl⟩)
   | (go_at_call 82;refine (hc _).mono ?_;rintro e w1 ⟨rfl,hb1⟩;obtain ⟨hc1,hf1⟩:=bcell hb1;(try simp only [bqh,bqc,bqf] at hc1 hf1);have hz1:=hb1.size;(try simp at hz1);(try have hy1:=nl1 hz1);(try have hx1:=nl2 hy1);refine szz w1 w ?_;intros))
  exact bodyPost_ret (v:=.tuple #[.agg #[.int .i64 t.kind,.int .i64 t.at_,.string t.s,.int .i64 t.v.k,.int .i64 t.v.n,.string t.v.s],.int .i64 c]) (by first | (simp [results,Tryz.results38,go_sem];done) | (simp [results,Tryz.results38,go_sem, *];done)) rfl ⟨rfl,bel⟩
 rw [if_neg h1] at hx
 have d1:isDig s[0] = false:=by simpa using h1
 by_cases h2:isLow s[0] = true
 ·rw [if_pos h2] at hx
  rw [hx]
  have hsp:=fun w => lex_span 85 isWord s w (by unfold maxLen;omega) cf_one1 lex_one1
  have hnl:=spanLen_le isWord s.data.toList
  rw [show s.data.toList.length = s.size by simp] at hnl
  obtain ⟨R,hR⟩:∃ R,R = wordX s.data.toList:=⟨_,rfl⟩
  have hR2:=hR
  unfold wordX at hR2
  rw [← hR]
  generalize spanLen isWord s.data.toList = n at hsp hnl hR2
  clear hx hR
  by_cases h3:10 < n
  ·have h3':(10:Int) < (n:Int):=by omega
   rw [if_pos h3] at hR2
   have HX:=Lib.hid hR2
   clear hR2
   go_enter Tryz.func38,Tryz.ntmps38
   go_wp2_with (first
    | (go_at_call 81;refine (lex_digit _ _).mono ?_;rintro e w' ⟨rfl,rfl⟩)
    | (go_at_call 83;refine (lex_letter _ _).mono ?_;rintro e w' ⟨rfl,rfl⟩)
    | (go_at_call 84;refine (hsp _).mono ?_;rintro e w' ⟨rfl,rfl⟩))
   exact bodyPost_ret (v:=.tuple #[.agg #[.int .i64 0,.int .i64 0,.string ⟨#[]⟩,.int .i64 0,.int .i64 0,.string ⟨#[]⟩],.int .i64 1]) (by first | (simp [results,Tryz.results38,go_sem];done) | (simp [results,Tryz.results38,go_sem, *];done)) rfl (ret_T HX.out bel _ rfl)
  ·have h3':¬ (10:Int) < (n:Int):=by omega
   rw [if_neg h3] at hR2
   have hex:=extract_take s n (by omega)
   rw [← hex] at hR2
   have HX:=Lib.hid hR2
   clear hR2 hex
   go_enter Tryz.func38,Tryz.ntmps38
   go_wp2_with (first
    | (go_at_call 81;refine (lex_digit _ _).mono ?_;rintro e w' ⟨rfl,rfl⟩)
    | (go_at_call 83;refine (lex_letter _ _).mono ?_;rintro e w' ⟨rfl,rfl⟩)
    | (go_at_call 84;refine (hsp _).mono ?_;rintro e w' ⟨rfl,rfl⟩))
   exact bodyPost_ret (v:=.tuple #[.agg #[.int .i64 2,.int .i64 0,.string (s.extract 0 n),.int .i64 0,.int .i64 0,.string ⟨#[]⟩],.int .i64 0]) (by first | (simp [results,Tryz.results38,go_sem];done) | (simp [results,Tryz.results38,go_sem, *];done)) rfl (ret_T HX.out bel _ rfl)
 rw [if_neg h2] at hx
 have d2:isLow s[0] = false:=by simpa using h2
 by_cases h3:s[0] = 34
 ·rw [if_pos h3] at hx
  rw [hx]
  have d3:((s[0].toNat:Int) == 34) = true:=by rw [h3];rfl
  have hc:=fun w => lex_quote s w hs h0
  obtain ⟨R,hR⟩:∃ R,R = quoteX s.data.toList:=⟨_,rfl⟩
  rw [← hR] at hc ⊢
  clear hx hR h1 h2 h3
  obtain ⟨t,c⟩:=R
  dsimp only at hc ⊢
  go_enter Tryz.func38,Tryz.ntmps38
  go_wp2_with (first
   | (go_at_call 81;refine (lex_digit _ _).mono ?_;rintro e w' ⟨rfl,rfl⟩)
   | (go_at_call 83;refine (lex_letter _ _).mono ?_;rintro e w' ⟨rfl,rfl⟩)
   | (go_at_call 86;refine (hc _).mono ?_;rintro e w1 ⟨rfl,hb1⟩;obtain ⟨hc1,hf1⟩:=bcell hb1;(try simp only [bqh,bqc,bqf] at hc1 hf1);have hz1:=hb1.size;(try simp at hz1);(try have hy1:=nl1 hz1);(try have hx1:=nl2 hy1);refine szz w1 w ?_;intros))
  exact bodyPost_ret (v:=.tuple #[.agg #[.int .i64 t.kind,.int .i64 t.at_,.string t.s,.int .i64 t.v.k,.int .i64 t.v.n,.string t.v.s],.int .i64 c]) (by first | (simp [results,Tryz.results38,go_sem];done) | (simp [results,Tryz.results38,go_sem, *];done)) rfl ⟨rfl,bel⟩
 rw [if_neg h3] at hx
 rw [hx]
 have d3:((s[0].toNat:Int) == 34) = false:=byte_ne (b:=34) h3
 obtain ⟨R,hR⟩:∃ R,R = signX s.data.toList:=⟨_,rfl⟩
 rw [← hR]
 have HR:=Lib.hid hR
 have HSV:=Lib.hid signs_at
 clear hx h1 h2 h3 hR
 go_enter Tryz.func38,Tryz.ntmps38
 go_wp2_with (first
  | (go_at_call 81;refine (lex_digit _ _).mono ?_;rintro e w' ⟨rfl,rfl⟩)
  | (go_at_call 83;refine (lex_letter _ _).mono ?_;rintro e w' ⟨rfl,rfl⟩))
 go_loop [37] (fun i => ∃ k:Nat,k ≤ 13 ∧ i = .int .i64 k ∧ Hid ((signsX.take k).find? (fun g => Lib.hasPrefix s.data.toList g) = none)) (fun i => 13 - (intOf i).toNat)
 case atStart => exact ⟨0,by omega,rfl,Lib.hid rfl⟩
 case round =>
  obtain ⟨k,hk,rfl,hfi⟩:=hrel
  by_cases hlt:k < 13
  ·obtain ⟨g,hg,ix⟩:=HSV.out k hlt
   unfold signsV at ix
   have hg':(k:Int) < 13:=by omega
   cases hp:Lib.hasPrefix s.data.toList g with
   | true =>
    have hx:R = (⟨4,0,ofL g,tkVal⟩,0):=by rw [HR.out,signX,find_hit hfi.out hg hp]
    have HX:=Lib.hid hx
    have hp2:Lib.hasPrefix s.data.toList (ofL g).data.toList = true:=hp
    clear hx hp hg
    go_wp2_with (go_at_call 72;refine (Tryz.strings_HasPrefix _ _ _).mono ?_;rintro e wp ⟨rfl,rfl⟩)
    exact bodyPost_ret (v:=.tuple #[.agg #[.int .i64 4,.int .i64 0,.string (ofL g),.int .i64 0,.int .i64 0,.string ⟨#[]⟩],.int .i64 0]) (by first | (simp [results,Tryz.results38,go_sem];done) | (simp [results,Tryz.results38,go_sem, *];done)) rfl (ret_T HX.out bel _ rfl)
   | false =>
    have hn:=find_next hfi.out hg hp
    have HN:=Lib.hid hn
    have hp2:Lib.hasPrefix s.data.toList (ofL g).data.toList = false:=hp
    clear hn hp hg
    go_wp2_with (go_at_call 72;refine (Tryz.strings_HasPrefix _ _ _).mono ?_;rintro e wp ⟨rfl,rfl⟩)
    go_round
    case rel => exact ⟨k + 1,by omega,by go_num,HN⟩
    case measure => simp [intOf];omega
  ·have hke:k = 13:=by omega
   subst hke
   have hx:R = (noTk,3):=by
    have h:=hfi.out
    rw [show signsX.take 13 = signsX from rfl] at h
    rw [HR.out,signX,h]
   have HX:=Lib.hid hx
   clear hx
   go_wp2_with fail
   exact bodyPost_ret (v:=.tuple #[.agg #[.int .i64 0,.int .i64 0,.string ⟨#[]⟩,.int .i64 0,.int .i64 0,.string ⟨#[]⟩],.int .i64 3]) (by first | (simp [results,Tryz.results38,go_sem];done) | (simp [results,Tryz.results38,go_sem, *];done)) rfl (ret_T HX.out bel _ rfl)
def RetTk (w:World) (r:List Tkn × Int × Int) (E:Ending) (w':World):Prop :=
 ∃ v,E = .returned (.tuple #[v,.int .i64 r.2.1,.int .i64 r.2.2]) ∧ w'.ownsRow w.heap.size 60 6 v r.1.length (r.1.flatMap Tkn.cs) ∧ Below w.heap.size w w'
theorem RetTk.nil {w w':World} {E:Ending} {r:List Tkn × Int × Int} {a c:Int} (hr:r = ([],a,c)) (he:E = .returned (.tuple #[.slice none 0 0,.int .i64 a,.int .i64 c])) (hb:Below w.heap.size w w'):RetTk w r E w':=by
 subst hr
 exact ⟨_,he,World.ownsRow_nil _ _ _ _,hb⟩
theorem extract_drop (s:ByteArray) (p:Nat):(s.extract p s.size).data.toList = s.data.toList.drop p:=by
 rw [Lib.extract_data,List.take_of_length_le]
 rw [List.length_drop]
 simp
set_option maxRecDepth 100000 in
set_option maxHeartbeats 4000000 in
theorem lex_Tokens (s:ByteArray) (w:World) (hs:s.size ≤ maxLen):Calls Tryz.prog 14 #[.string s] w (RetTk w (lexX s.data.toList)):=by
 have hsl:s.data.toList.length = s.size:=by simp
 obtain ⟨R,hR⟩:∃ R,R = lexX s.data.toList:=⟨_,rfl⟩
 rw [← hR]
 unfold lexX at hR
 rw [hsl] at hR
 unfold maxLen at hs
 have HSL:=Lib.hid hsl
 clear hsl
 by_cases h160:160 < s.size
 ·rw [if_pos h160] at hR
  have h160':(160:Int) < (s.size:Int):=by omega
  have HR:=Lib.hid hR
  clear hR
  go_enter Tryz.func14,Tryz.ntmps14
  go_wp2_with fail
  go_ret3
  exact RetTk.nil HR.out rfl bel
 rw [if_neg h160] at hR
 have h160':¬ (160:Int) < (s.size:Int):=by omega
 have hR':R = lexF s.data.toList (s.data.toList.length + 1) 0:=by rw [HSL.out];exact hR
 have HR:=Lib.hid hR'
 clear hR hR'
 obtain ⟨i0,ei,ez0,ez1,ez2⟩:=info_parts Tryz.infoTkn
 go_enter Tryz.func14,Tryz.ntmps14
 go_wp2_with fail
 go_loopw [5,6] (fun v i wr => ∃ (p f:Nat) (out:List Tkn),p ≤ s.size ∧ s.size + 1 ≤ f + p ∧ i = .int .i64 p ∧ Hid (wr.ownsRow w.heap.size 60 6 v out.length (out.flatMap Tkn.cs)) ∧ Hid (lexAt s.data.toList f p out) ∧ out.length ≤ p ∧ Below w.heap.size w wr) (fun _ i _ => s.size + 1 - (intOf i).toNat)
 case atStart => exact ⟨0,s.size + 1,[],by omega,by omega,rfl,Lib.hid (World.ownsRow_nil _ _ _ _),Lib.hid (by have:=lexAt_start s.data.toList;rwa [HSL.out] at this),by simp,Below.refl _ _⟩
 case round =>
  obtain ⟨p,f,out,hp,hf,rfl,hown,hat,hlo,hb⟩:=hrel
  obtain ⟨f,rfl⟩:∃ f',f = f' + 1:=⟨f - 1,by omega⟩
  by_cases hlt:p < s.size
  ·have hget:=get_of s p hlt
   by_cases hbl:s[p] = 32
   ·have g1:((s[p].toNat:Int) == 32) = true:=by rw [hbl];rfl
    have hn:=lexAt_blank hat.out (by rw [hget,hbl])
    have HN:=Lib.hid hn
    clear hn hget hbl
    go_wp2_with fail
    go_roundw
    case rel => exact ⟨p + 1,f,out,by omega,by omega,by go_num,hown,HN,by omega,hb⟩
    case measure => simp [intOf];omega
   ·have g1:((s[p].toNat:Int) == 32) = false:=byte_ne (b:=32) hbl
    have hc:=fun w => lex_one (s.extract p s.size) w (by rw [ByteArray.size_extract];omega) (by rw [ByteArray.size_extract];omega)
    simp only [extract_drop] at hc
    have hne:s.data.toList[p]? ≠ some 32:=by rw [hget];intro h;exact hbl (Option.some.inj h)
    have hlt':p < s.data.toList.length:=by rw [HSL.out];exact hlt
    by_cases he:(oneX (s.data.toList.drop p)).2 = 0
    ·have hn:=lexAt_next hat.out hlt' hne he
     have hlen:=oneX_len he
     rw [List.length_drop,HSL.out] at hlen
     generalize oneX (s.data.toList.drop p) = r at hc hn hlen he
     obtain ⟨⟨tk,ta,ts,⟨vk,vn,vs⟩⟩,c⟩:=r
     dsimp only at hc hn hlen he
     subst he
     have HN:=Lib.hid hn
     clear hn hget hbl hne
     go_wp2_with (first
      | (go_at_call 38;refine (hc _).mono ?_;rintro e w1 ⟨rfl,hb1⟩;obtain ⟨hc1,hf1⟩:=bcell hb1;(try simp only [bqh,bqc,bqf] at hc1 hf1);have hz1:=hb1.size;(try simp at hz1);(try have hy1:=nl1 hz1);(try have hx1:=nl2 hy1);refine szz w1 wr ?_;intros)
      | (at_builtin;refine wpList_append1 rfl _ _ 42 rfl w.heap.size 60 i0 _ 6 64 Tryz.underlying42 ei ez0 ez1 ez2 rfl (by decide) _ out.length _ rfl (ownsRow_keep hown.out (show Below wr.heap.size wr _ from bel)) (Tkn.mk tk p ts ⟨vk,vn,vs⟩).cs 60 rfl _ rfl (by first | rfl | simp) rfl (by simp [Value.oneCell']) (by omega) (by unfold maxLen;omega) (by have:=hb.size;first | omega | (simp;omega)) ?_;intro v6 w6 hown6 hb6 hz6 _))
     go_roundw
     case rel => exact ⟨p + ts.size,f,out ++ [⟨tk,p,ts,⟨vk,vn,vs⟩⟩],by omega,by omega,by go_num,Lib.hid (by rw [List.flatMap_append,List.length_append];simpa using hown6),HN,by simp;omega,below_step (below_step hb (((show Below wr.heap.size wr w1 from bel).alloc (show wr.heap.size ≤ w1.heap.size from by omega) _)) hb.size) hb6 (Nat.le_refl _)⟩
     case measure => simp [intOf];omega
    ·have hx:=lexAt_bad hat.out hlt' hne he
     rw [← HR.out] at hx
     have HX:=Lib.hid hx
     have he':((oneX (s.data.toList.drop p)).2 != 0) = true:=by simpa using he
     clear hx
     generalize oneX (s.data.toList.drop p) = r at hc he he' HX
     obtain ⟨⟨tk,ta,ts,⟨vk,vn,vs⟩⟩,c⟩:=r
     dsimp only at hc he he' HX
     clear he hget hbl hne
     go_wp2_with (first
      | (go_at_call 38;refine (hc _).mono ?_;rintro e w1 ⟨rfl,hb1⟩;obtain ⟨hc1,hf1⟩:=bcell hb1;(try simp only [bqh,bqc,bqf] at hc1 hf1);have hz1:=hb1.size;(try simp at hz1);(try have hy1:=nl1 hz1);(try have hx1:=nl2 hy1);refine szz w1 wr ?_;intros))
     go_ret3
     exact RetTk.nil HX.out rfl (below_chain hb bel)
  ·have hx:=lexAt_end hat.out (by rw [HSL.out];omega)
   rw [← HR.out] at hx
   have HX:=Lib.hid hx
   clear hx
   have hpe:p = s.size:=by omega
   go_wp2_with fail
   go_ret3
   rw [HX.out]
   exact ⟨_,rfl,hown.out,hb⟩
end Go.Proofs.YtldbpmlgbbomcaaGreatDoor
