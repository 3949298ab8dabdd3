/- The reference's rising, asked, NamesOf, NamesHas. -/
import Derived.Test.YtldbpmlgbbomcaaGreatDoorNam3
import Derived.Test.YtldbpmlgbbomcaaGreatDoorPrt4
namespace Go.Proofs.YtldbpmlgbbomcaaGreatDoor
open Go.RowKit

theorem ltS_less {a b:ByteArray}:Op.bytesLess a.toList b.toList = true ↔ ltS a b:=by
 rw [bytesLess_eq,decide_eq_true_eq,ByteArray.toList_eq,ByteArray.toList_eq];rfl
theorem gtS_cases (t s:ByteArray):(ltS s t ∧ Op.bytesLess t.toList s.toList = false ∧ (t.toList == s.toList) = false) ∨ (¬ ltS s t ∧ (Op.bytesLess t.toList s.toList = true ∨ (t.toList == s.toList) = true)):=by
 rcases ltS_tri s t with h | h | h
 ·refine .inl ⟨h,?_,?_⟩
  ·rw [Bool.eq_false_iff,Ne,ltS_less];exact fun k => ltS_irr _ (ltS_tr _ _ _ h k)
  ·rw [beq_eq_false_iff_ne]
   intro e
   rw [toList_inj e] at h
   exact ltS_irr _ h
 ·exact .inr ⟨by rw [h];exact ltS_irr _,.inr (by rw [h];simp)⟩
 ·exact .inr ⟨fun k => ltS_irr _ (ltS_tr _ _ _ h k),.inl (ltS_less.2 h)⟩
theorem putK_step (s:ByteArray) (l:List ByteArray) (k:Nat) (t:ByteArray) (ht:l[k]? = some t) (h:ltS s t):putK s l (k + 1) = putK s l k:=by
 rw [putK,ht];dsimp only;exact if_pos h
theorem putK_stop (s:ByteArray) (l:List ByteArray) (k:Nat) (t:ByteArray) (ht:l[k]? = some t) (h:¬ ltS s t):putK s l (k + 1) = k + 1:=by
 rw [putK,ht];dsimp only;exact if_neg h

theorem own_take {w:World} {base g cap:Nat} {e:TypeId} {n k:Nat} {l:List ByteArray} (h:w.ownsRow base e 1 (.slice (some ⟨g,0,none⟩) n cap) n (l.flatMap strCs)) (hl:l.length = n) (hk:k ≤ n):w.ownsRow base e 1 (.slice (some ⟨g,0,none⟩) k cap) k ((l.take k).flatMap strCs):=by
 rcases h.2 with ⟨h0,_⟩ | ⟨g',cap',cur,h0,h1,h2,h3,h4,h5,h6⟩
 ·cases h0
 ·cases h0
  have hc:cur.toList.take (k * 1) = (l.take k).flatMap strCs:=by
   rw [← flat_take strCs 1 (fun _ => rfl) l k (by omega),← h6,List.take_take,Nat.min_eq_left (by omega)]
  exact ⟨by rw [flat_len strCs 1 (fun _ => rfl),List.length_take];simp;omega,.inr ⟨g,cap,cur,rfl,h1,h2,by omega,h4,h5,hc⟩⟩
theorem own_drop {w:World} {base g cap:Nat} {e:TypeId} {n k:Nat} {l:List ByteArray} (h:w.ownsRow base e 1 (.slice (some ⟨g,0,none⟩) n cap) n (l.flatMap strCs)) (hl:l.length = n) (hk:k ≤ n) :
  ∀ p,(if cap = k then some (⟨g,0,none⟩:Addr) else some ⟨g,k,none⟩) = some p → ∀ j u,((l.drop k).flatMap strCs)[j]? = some u → w.cell? (p.add j) = some u:=by
 intro p hp j u hu
 have hc:=h.cells (g:=g) rfl (k + j) u
 rw [← flat_drop strCs 1 (fun _ => rfl) l k (by omega),List.getElem?_drop,Nat.mul_one] at hu
 have hc':=hc hu
 have hlt:k + j < n:=by
  have h1:=(List.getElem?_eq_some_iff.1 hu).1
  rw [flat_len strCs 1 (fun _ => rfl)] at h1
  omega
 have hncap:n ≤ cap:=by
  rcases h.2 with ⟨h0,_⟩ | ⟨g',cap',cur,h0,_,_,h3,_⟩
  ·cases h0
  ·cases h0;exact h3
 rw [if_neg (by omega)] at hp
 cases hp
 rw [Addr.add_lit] at hc' ⊢
 simpa using hc'
theorem own_form {w:World} {base:Nat} {e:TypeId} {size:Nat} {v:Value} {n:Nat} {xs:List Value} (h:w.ownsRow base e size v n xs) (hn:0 < n):∃ g cap,v = .slice (some ⟨g,0,none⟩) n cap:=by
 rcases h.2 with ⟨_,h0⟩ | ⟨g,cap,cur,h1,_⟩
 ·omega
 ·exact ⟨g,cap,h1⟩
theorem one_cons (s:ByteArray) (l:List ByteArray):∀ u ∈ [Value.string s] ++ l.flatMap strCs,u.oneCell' = true:=by
 intro u hu
 rcases List.mem_append.1 hu with h | h
 ·simp at h;subst h;rfl
 ·exact oneStr _ u h
theorem own_str (w:World) (e:TypeId) (s:ByteArray):(w.alloc (.cells #[.string s] e)).ownsRow w.heap.size e 1 (.slice (some ⟨w.heap.size,0,none⟩) 1 1) 1 [.string s] :=
 ⟨rfl,.inr ⟨w.heap.size,1,#[.string s],rfl,Nat.le_refl _,heap_alloc_new w _,Nat.le_refl _,by decide,rfl,rfl⟩⟩
set_option maxRecDepth 100000 in
set_option maxHeartbeats 4000000 in
theorem ref_rising (A:Option Addr) (n c:Nat) (l:List ByteArray) (w:World) (hn:n ≤ 1048576) (h:Sl w (old w) 1 RStr A n l) :
  Calls Tryz.prog 152 #[.slice A n c] w (OwnRow strCs 9 1 w (rise l)):=by
 have HH:=Lib.hid h
 have hall:∀ x ∈ l,inS x:=Sl.all_wf h fun _ _ h => h.2
 have HA:=Lib.hid hall
 obtain ⟨i0,hi,hz0,hz1,hz2⟩:=info_parts Tryz.infoStr'
 clear h hall
 go_enter Tryz.func152,Tryz.ntmps152
 go_wp2_with fail
 go_loopw [3,9] (fun v i wr => ∃ k:Nat,k ≤ n ∧ i = .int .i64 k ∧ wr.ownsRow w.heap.size 9 1 v (rise (l.take k)).length ((rise (l.take k)).flatMap strCs) ∧ Below w.heap.size w wr) (fun _ i _ => n - (intOf i).toNat)
 case atStart => exact ⟨0,by omega,rfl,by simpa [rise] using World.ownsRow_nil _ _ _ _,Below.refl _ _⟩
 case round =>
  obtain ⟨k,hk,rfl,hown,hb⟩:=hrel
  by_cases hlt:k < n
  ·obtain ⟨b,o,s,rfl,hbl,hl,hins,h0⟩:=Str_at (HH.out.now hb) hlt
   have hbl':b < wr.heap.size:=hbl
   have hrs:rise (l.take (k + 1)) = riseOne (rise (l.take k)) s:=by rw [List.take_add_one,hl];exact rise_snoc _ _
   have hrl:=rise_len (l.take k)
   have htl:(l.take k).length ≤ k:=by rw [List.length_take];omega
   have hin:∀ x ∈ rise (l.take k),inS x:=fun x hx => HA.out x (List.mem_of_mem_take ((rise_mem _ _).1 hx))
   obtain ⟨AO,CO,rfl,hcO,hslO⟩:=ownStr hown rfl hin
   generalize rise (l.take k) = R at hown hrs hrl hin hslO
   have HL:=Lib.hid (And.intro hl (And.intro hrs (And.intro hin (And.intro hown (And.intro hb hslO)))))
   have hRl:R.length ≤ 1048576:=by omega
   clear hl hrs hin hown hslO hbl
   cases hany:R.any (isStr s)
   ·have hcl:=fun w h => ref_holds s AO R.length CO R w (by unfold inL;omega) h
    rw [hany] at hcl
    have hR1:riseOne R s = R.take (putK s R R.length) ++ s :: R.drop (putK s R R.length):=by rw [riseOne,if_neg (by rw [hany];simp)]
    have HR1:=Lib.hid hR1
    clear hany hR1
    rcases HL.out.2.2.2.1.2 with ⟨hv,hz⟩ | ⟨g,cap,cur,hv,hbg,hgg,hnc,hcm,_⟩
    ·obtain rfl:R = []:=List.eq_nil_of_length_eq_zero hz
     cases hv
     clear hz
     go_wp2_with (go_at_call 111;refine (hcl _ (HL.out.2.2.2.2.2.now bel)).mono ?_;rintro e w1 ⟨rfl,hb1⟩)
     clear hcl
     generalize hwq:wr = wq at *
     clear hwq
     go_loopw [6] (fun jj wr => jj = .int .i64 0 ∧ Below wq.heap.size wq wr) (fun jj _ => 0)
     case atStart => exact ⟨rfl,hb1⟩
     case round =>
      obtain ⟨rfl,hbj⟩:=hrel
      go_wp2_with fail
      go_region_law (first
       | (refine step_append_sl rfl (.tmp 35) (.tmp 38) 63 rfl wr.heap.size 9 i0 (.string ⟨#[]⟩) 1 16 Tryz.underlying63 hi hz0 hz1 hz2 rfl (by decide) (.slice (some ⟨wr.heap.size,0,none⟩) 1 1) 1 [.string s] rfl (own_str wr 9 s) none 0 0 [] rfl rfl (by intro p hp;cases hp) (by intro _;rfl) (by simp) (by unfold maxLen;omega) (by omega) (by simp) ?_;intro v1 w2 hown1 hb2 hq2;obtain ⟨g1,cap1,rfl⟩:∃ g1 cap1,v1 = .slice (some ⟨g1,0,none⟩) 1 cap1:=own_form hown1 (by omega);have hB2:Below wr.heap.size wr w2:=(((Below.refl wr.heap.size wr).alloc (Nat.le_refl _) _).drew.trans hb2);have HO1:=Lib.hid hown1;clear hown1)
       | (refine step_append_sl rfl (.tmp 33) (.tmp 39) 63 rfl w.heap.size 9 i0 (.string ⟨#[]⟩) 1 16 Tryz.underlying63 hi hz0 hz1 hz2 rfl (by decide) (.slice none 0 0) 0 [] rfl (World.ownsRow_nil _ _ _ _) (some ⟨g1,0,none⟩) 1 cap1 [.string s] rfl rfl (fun p hp j u hu => by cases hp;exact HO1.out.cells (g:=g1) rfl j u hu) (by intro h;cases h) (by intro u hu;simp at hu;subst hu;rfl) (by unfold maxLen;omega) (by omega) (by have h1:=HL.out.2.2.2.2.1.size;have h2:=hB2.size;have h3:=hbj.size;omega) ?_;intro v2 w3 hown2 hb3 hq3;have HO2:=Lib.hid hown2;clear hown2))
      go_wp2_with fail
      go_roundw
      case rel => exact ⟨k + 1,by omega,by go_num,by rw [HL.out.2.1];exact HO2.out,(below_chain (below_chain HL.out.2.2.2.2.1 hbj) hB2).trans hb3⟩
      case measure => simp [intOf];omega
    ·cases hv
     go_wp2_with (go_at_call 111;refine (hcl _ (HL.out.2.2.2.2.2.now bel)).mono ?_;rintro e w1 ⟨rfl,hb1⟩)
     clear hcl
     generalize hwq:wr = wq at *
     clear hwq
     go_loopw [6] (fun jj wr => ∃ j:Nat,j ≤ R.length ∧ jj = .int .i64 j ∧ putK s R R.length = putK s R j ∧ Below wq.heap.size wq wr) (fun jj _ => (intOf jj).toNat)
     case atStart => exact ⟨R.length,Nat.le_refl _,rfl,rfl,hb1⟩
     case round =>
      obtain ⟨j,hj,rfl,hpk,hbj⟩:=hrel
      rcases j with _ | j
      ·have HS:=Lib.hid (hpk.trans rfl:putK s R R.length = 0)
       clear hpk
       go_wp2_with fail
       have hKR:(0:Nat) ≤ R.length:=by omega
       have hKC:(0:Nat) ≤ CO:=by omega
       have hoK:=own_take (ownsRow_keep HL.out.2.2.2.1 hbj) rfl hKR
       have hoD:=own_drop (ownsRow_keep HL.out.2.2.2.1 hbj) rfl hKR
       have HO:=Lib.hid (And.intro hoK hoD)
       clear hoK hoD
       go_region_law (first
        | (refine step_append_sl rfl (.tmp 35) (.tmp 38) 63 rfl wr.heap.size 9 i0 (.string ⟨#[]⟩) 1 16 Tryz.underlying63 hi hz0 hz1 hz2 rfl (by decide) (.slice (some ⟨wr.heap.size,0,none⟩) 1 1) 1 [.string s] rfl (own_str wr 9 s) (some ⟨g,0,none⟩) R.length CO ((R.drop 0).flatMap strCs) rfl (by rw [flat_len strCs 1 (fun _ => rfl),List.length_drop];first | done | simp) (fun p hp j u hu => Lib.cell?_alloc_some _ (HO.out.2 p (by simpa using hp) j u hu)) (by intro h;first | cases h | (split at h <;> cases h)) (oneStr _) (by unfold maxLen;omega) (by omega) (by simp) ?_;intro v1 w2 hown1 hb2 hq2;obtain ⟨g1,cap1,rfl⟩:∃ g1 cap1,v1 = .slice (some ⟨g1,0,none⟩) (1 + R.length) cap1:=own_form hown1 (by omega);have hB2:Below wr.heap.size wr w2:=(((Below.refl wr.heap.size wr).alloc (Nat.le_refl _) _).drew.trans hb2);have HO1:=Lib.hid hown1;clear hown1)
        | (refine step_append_sl rfl (.tmp 33) (.tmp 39) 63 rfl w.heap.size 9 i0 (.string ⟨#[]⟩) 1 16 Tryz.underlying63 hi hz0 hz1 hz2 rfl (by decide) (.slice (some ⟨g,0,none⟩) 0 CO) 0 ((R.take 0).flatMap strCs) rfl (ownsRow_keep HO.out.1 hB2) (some ⟨g1,0,none⟩) (1 + R.length) cap1 ([.string s] ++ (R.drop 0).flatMap strCs) rfl (by rw [List.length_append,flat_len strCs 1 (fun _ => rfl),List.length_drop];simp) (fun p hp j u hu => by cases hp;exact HO1.out.cells (g:=g1) rfl j u hu) (by intro h;cases h) (one_cons s _) (by unfold maxLen;omega) (by omega) (by have h1:=HL.out.2.2.2.2.1.size;have h2:=hB2.size;have h3:=hbj.size;omega) ?_;intro v2 w3 hown2 hb3 hq3;have HO2:=Lib.hid hown2;clear hown2))
       go_wp2_with fail
       go_roundw
       case rel =>
        refine ⟨k + 1,by omega,by go_num,?_,?_⟩
        ·have e1:(R.take (putK s R R.length) ++ s :: R.drop (putK s R R.length)).length = 0 + (1 + R.length):=by rw [HS.out];simp;try omega
         rw [HL.out.2.1,HR1.out,e1,HS.out,List.flatMap_append,List.flatMap_cons]
         exact HO2.out
        ·exact (below_chain (below_chain HL.out.2.2.2.2.1 hbj) hB2).trans hb3
       case measure => simp [intOf];omega
      ·obtain ⟨b2,o2,t,hAe,hbl2,hlt2,_,g0⟩:=Str_at (HL.out.2.2.2.2.2.now hbj) (show j < R.length by omega)
       cases hAe
       rw [Nat.zero_add] at g0
       have hbl2':g < wr.heap.size:=hbl2
       rcases gtS_cases t s with ⟨h1,h2,h3⟩ | ⟨h1,h2⟩
       ·have HS:=Lib.hid (hpk.trans (putK_step s R j t hlt2 h1))
        clear hpk hlt2 h1 hbl2
        go_wp2_with fail
        go_roundw
        case rel => exact ⟨j,by omega,by go_num,HS.out,hbj⟩
        case measure => simp [intOf]
       ·have HS:=Lib.hid (hpk.trans (putK_stop s R j t hlt2 h1))
        clear hpk hlt2 h1 hbl2
        rcases h2 with h2 | h2
        all_goals
         go_wp2_with fail
         generalize hKe:j + 1 = K at *
         clear hKe
         have hKR:(K:Nat) ≤ R.length:=by omega
         have hKC:(K:Nat) ≤ CO:=by omega
         have hoK:=own_take (ownsRow_keep HL.out.2.2.2.1 hbj) rfl hKR
         have hoD:=own_drop (ownsRow_keep HL.out.2.2.2.1 hbj) rfl hKR
         have HO:=Lib.hid (And.intro hoK hoD)
         clear hoK hoD
         go_region_law (first
          | (refine step_append_sl rfl (.tmp 35) (.tmp 38) 63 rfl wr.heap.size 9 i0 (.string ⟨#[]⟩) 1 16 Tryz.underlying63 hi hz0 hz1 hz2 rfl (by decide) (.slice (some ⟨wr.heap.size,0,none⟩) 1 1) 1 [.string s] rfl (own_str wr 9 s) (if CO = K then some ⟨g,0,none⟩ else some ⟨g,K,none⟩) (R.length - K) (CO - K) ((R.drop K).flatMap strCs) rfl (by rw [flat_len strCs 1 (fun _ => rfl),List.length_drop];first | done | simp) (fun p hp j u hu => Lib.cell?_alloc_some _ (HO.out.2 p hp j u hu)) (by intro h;first | cases h | (split at h <;> cases h)) (oneStr _) (by unfold maxLen;omega) (by omega) (by simp) ?_;intro v1 w2 hown1 hb2 hq2;obtain ⟨g1,cap1,rfl⟩:∃ g1 cap1,v1 = .slice (some ⟨g1,0,none⟩) (1 + (R.length - K)) cap1:=own_form hown1 (by omega);have hB2:Below wr.heap.size wr w2:=(((Below.refl wr.heap.size wr).alloc (Nat.le_refl _) _).drew.trans hb2);have HO1:=Lib.hid hown1;clear hown1)
          | (refine step_append_sl rfl (.tmp 33) (.tmp 39) 63 rfl w.heap.size 9 i0 (.string ⟨#[]⟩) 1 16 Tryz.underlying63 hi hz0 hz1 hz2 rfl (by decide) (.slice (some ⟨g,0,none⟩) K CO) K ((R.take K).flatMap strCs) rfl (ownsRow_keep HO.out.1 hB2) (some ⟨g1,0,none⟩) (1 + (R.length - K)) cap1 ([.string s] ++ (R.drop K).flatMap strCs) rfl (by rw [List.length_append,flat_len strCs 1 (fun _ => rfl),List.length_drop];simp) (fun p hp j u hu => by cases hp;exact HO1.out.cells (g:=g1) rfl j u hu) (by intro h;cases h) (one_cons s _) (by unfold maxLen;omega) (by omega) (by have h1:=HL.out.2.2.2.2.1.size;have h2:=hB2.size;have h3:=hbj.size;omega) ?_;intro v2 w3 hown2 hb3 hq3;have HO2:=Lib.hid hown2;clear hown2))
         go_wp2_with fail
         go_roundw
         case rel =>
          refine ⟨k + 1,by omega,by go_num,?_,?_⟩
          ·have e1:(R.take (putK s R R.length) ++ s :: R.drop (putK s R R.length)).length = K + (1 + (R.length - K)):=by rw [HS.out];simp;try omega
           rw [HL.out.2.1,HR1.out,e1,HS.out,List.flatMap_append,List.flatMap_cons]
           exact HO2.out
          ·exact (below_chain (below_chain HL.out.2.2.2.2.1 hbj) hB2).trans hb3
         case measure => simp [intOf];omega
   ·have hcl:=fun w h => ref_holds s AO R.length CO R w (by unfold inL;omega) h
    rw [hany] at hcl
    have hR1:riseOne R s = R:=by rw [riseOne,if_pos hany]
    have HR1:=Lib.hid hR1
    clear hany hR1
    go_wp2_with (go_at_call 111;refine (hcl _ (HL.out.2.2.2.2.2.now bel)).mono ?_;rintro e w1 ⟨rfl,hb1⟩)
    go_roundw
    case rel => exact ⟨k + 1,by omega,by go_num,by rw [HL.out.2.1,HR1.out];exact ownsRow_keep HL.out.2.2.2.1 hb1,below_chain HL.out.2.2.2.2.1 hb1⟩
    case measure => simp [intOf];omega
  ·have hke:k = n:=by omega
   subst hke
   have etk:l.take k = l:=by rw [List.take_of_length_le (by rw [HH.out.len];exact Nat.le_refl _)]
   rw [etk] at hown
   have HO:=Lib.hid hown
   clear hown etk
   go_wp2_with fail
   go_ret
   exact ⟨_,rfl,HO.out,hb⟩

theorem own_src {w:World} {base:Nat} {e:TypeId} {size:Nat} {v:Value} {n:Nat} {xs:List Value} (h:w.ownsRow base e size v n xs):∃ A c,v = .slice A n c ∧ (A = none → n = 0) ∧ ∀ p,A = some p → ∀ j u,xs[j]? = some u → w.cell? (p.add j) = some u:=by
 rcases h.2 with ⟨hv,h0⟩ | ⟨g,cap,cur,hv,_⟩
 ·subst h0;exact ⟨none,0,hv,fun _ => rfl,(fun p hp => by cases hp)⟩
 ·subst hv;exact ⟨_,_,rfl,(fun h => by cases h),(fun p hp j u hu => by cases hp;exact h.cells (g:=g) rfl j u hu)⟩
theorem askN_inS {w:World} {S:Nat → Prop}:∀ {cs:List Value} {x:Exp},XRep w S cs x → ∀ s ∈ askN x,inS s:=by
 intro cs x h
 suffices hN:∀ (N:Nat) (cs:List Value) (x:Exp),x.nodes ≤ N → XRep w S cs x → ∀ s ∈ askN x,inS s from hN x.nodes cs x (Nat.le_refl _) h
 intro N
 induction N with
 | zero =>
  intro cs x hN
  obtain ⟨op,v,nm,args⟩:=x
  simp [Exp.nodes] at hN
 | succ N ih =>
  intro cs x hN hx s hs
  obtain ⟨A,c,rfl,_,_,i3,_,_,hsl⟩:=hx.open_
  rw [askN_eq,List.mem_append] at hs
  rcases hs with hs | hs
  ·split at hs
   ·simp at hs;rw [hs];exact i3
   ·cases hs
  ·have hall:∀ (l:List Exp),s ∈ askNL l → ∃ a ∈ l,s ∈ askN a:=by
    intro l
    induction l with
    | nil => intro h;cases h
    | cons a l ihl =>
     intro h
     simp only [askNL,List.mem_append] at h
     rcases h with h | h
     ·exact ⟨a,List.mem_cons_self,h⟩
     ·obtain ⟨a',h1,h2⟩:=ihl h
      exact ⟨a',List.mem_cons_of_mem _ h1,h2⟩
   obtain ⟨a,ha,hsa⟩:=hall _ hs
   obtain ⟨i,hi,he⟩:=List.mem_iff_getElem.1 ha
   have hg:x.args[i]? = some a:=by rw [List.getElem?_eq_getElem hi,he]
   obtain ⟨b,o,v,cs',_,_,hv,hr,_⟩:=hsl.at_ hi
   rw [hg] at hv
   cases hv
   refine ih cs' a ?_ hr s hsa
   obtain ⟨op,v,nm,args⟩:=x
   have:=nodes_at args i a hg
   simp only [Exp.nodes] at hN
   omega
set_option maxRecDepth 100000 in
set_option maxHeartbeats 2000000 in
theorem ref_asked (N:Nat):∀ (x:Exp) (A:Option Addr) (c:Nat) (w:World),x.nodes ≤ N → (askN x).length ≤ 1048576 →
  XRep w (old w) [.int .i64 x.op,.int .i64 x.v.k,.int .i64 x.v.n,.string x.v.s,.string x.name,.slice A x.args.length c] x →
  Calls Tryz.prog 153 #[.agg #[.int .i64 x.op,.int .i64 x.v.k,.int .i64 x.v.n,.string x.v.s,.string x.name,.slice A x.args.length c]] w (OwnRow strCs 9 1 w (askN x)):=by
 induction N with
 | zero =>
  intro x A c w hN
  obtain ⟨op,v,nm,args⟩:=x
  simp [Exp.nodes] at hN
 | succ N ih =>
  intro x A c w hN hB hx
  have HI:=Lib.hid ih
  clear ih
  obtain ⟨A0,c0,e0,i1,i2,i3,i4,i5,hsl⟩:=hx.open_
  simp only [List.cons.injEq,Value.slice.injEq,and_true,true_and] at e0
  obtain ⟨rfl,rfl⟩:=e0
  have hch:∀ (i:Nat) (a:Exp),x.args[i]? = some a → a.nodes ≤ N:=by
   obtain ⟨op,v,nm,args⟩:=x
   intro i a h
   have:=nodes_at args i a h
   simp only [Exp.nodes] at hN
   omega
  obtain ⟨i0,hi,hz0,hz1,hz2⟩:=info_parts Tryz.infoStr'
  have HH:=Lib.hid (And.intro hsl hch)
  have hlen:x.args.length ≤ 1759218604416:=by unfold inB at i4;omega
  have hask:=askN_eq x
  obtain ⟨own,hown0⟩:∃ own,own = if x.op = 2 then [x.name] else []:=⟨_,rfl⟩
  rw [← hown0] at hask
  have hcut:∀ (k:Nat) (a:Exp),x.args[k]? = some a → (own ++ askNL (x.args.take k)).length + (askN a).length ≤ 1048576 ∧ askNL (x.args.take (k + 1)) = askNL (x.args.take k) ++ askN a:=by
   intro k a ha
   obtain ⟨hk,he⟩:=List.getElem?_eq_some_iff.1 ha
   have h1:askNL (x.args.take (k + 1)) = askNL (x.args.take k) ++ askN a:=by rw [List.take_add_one,ha];exact askNL_snoc _ _
   refine ⟨?_,h1⟩
   have h2:askN x = own ++ (askNL (x.args.take (k + 1)) ++ askNL (x.args.drop (k + 1))):=by rw [hask,← askNL_app,List.take_append_drop]
   have h3:=congrArg List.length h2
   rw [h1] at h3
   simp only [List.length_append] at h3 ⊢
   omega
  have HC:=Lib.hid (And.intro hcut hask)
  clear hsl hch hx hN i1 i2 i4 i5 hask hcut
  cases ho:(x.op == 2)
  ·have h0:own = []:=by rw [hown0,if_neg (by simpa using ho)]
   have H0:=Lib.hid h0
   clear hown0 h0
   go_enter Tryz.func153,Tryz.ntmps153
   go_wp2_with fail
   go_loopw [3,17] (fun v i wr => ∃ k:Nat,k ≤ x.args.length ∧ i = .int .i64 k ∧ wr.ownsRow (w.heap.size + 1) 9 1 v (own ++ askNL (x.args.take k)).length ((own ++ askNL (x.args.take k)).flatMap strCs) ∧ Below (w.heap.size + 1) (w.alloc (.cells #[.int .i64 x.op,.int .i64 x.v.k,.int .i64 x.v.n,.string x.v.s,.string x.name,.slice A x.args.length c] 26)) wr) (fun _ i _ => x.args.length - (intOf i).toNat)
   case atStart => exact ⟨0,by omega,rfl,by simpa [askNL,H0.out] using World.ownsRow_nil _ _ _ _,Below.refl _ _⟩
   case round =>
    obtain ⟨k,hk,rfl,hown,hb⟩:=hrel
    have hbw:Below w.heap.size w wr:=alloc_below hb
    have hsz:w.heap.size + 1 ≤ wr.heap.size:=by have:=hb.size;simpa using this
    by_cases hlt:k < x.args.length
    ·obtain ⟨b,o,a,X,C,hAe,hbl,hl,hxa,x0,x1,x2,x3,x4,x5⟩:=Exp_at (HH.out.1.nowN keeps_Exp hbw) hlt
     subst hAe
     have hbl':b < wr.heap.size:=hbl
     obtain ⟨hNa,hsn⟩:=HC.out.1 k a hl
     have hca:=fun w h => HI.out a X C w (HH.out.2 k a hl) (by have:=hNa;omega) h
     have HR:=Lib.hid (And.intro hxa (And.intro hl (And.intro hsn (And.intro hown hb))))
     obtain ⟨L,hL⟩:∃ L,own ++ askNL (x.args.take k) = L:=⟨_,rfl⟩
     rw [hL] at hNa
     have HR:=Lib.hid (And.intro HR.out.1 (And.intro HR.out.2.1 (And.intro HR.out.2.2.1 (And.intro (by rw [← hL];exact HR.out.2.2.2.1:wr.ownsRow (w.heap.size + 1) 9 1 _ L.length (L.flatMap strCs)) (And.intro hL HR.out.2.2.2.2)))))
     clear hL
     have hln:L.length ≤ 1048576:=by omega
     clear hxa hl hbl hsn hown
     go_wp2_with (first
      | (go_at_call 153;refine (hca _ (HR.out.1.keep (old_keep bel))).mono ?_;rintro e w2 ⟨v2,rfl,hown2,hb2⟩;obtain ⟨A2,c2,rfl,hn2,hc2⟩:=own_src hown2;have hB2:Below wr.heap.size wr w2:=((Below.refl wr.heap.size wr).alloc (Nat.le_refl _) _).trans (hb2.mono (by simp)))
      | (at_builtin;refine wpList_append_sl rfl _ _ 63 rfl (w.heap.size + 1) 9 i0 (.string ⟨#[]⟩) 1 16 Tryz.underlying63 hi hz0 hz1 hz2 rfl (by decide) _ L.length (L.flatMap strCs) rfl (ownsRow_keep HR.out.2.2.2.1 hB2) A2 (askN a).length c2 ((askN a).flatMap strCs) rfl (by rw [flat_len strCs 1 (fun _ => rfl)]) hc2 hn2 (oneStr _) (by unfold maxLen;omega) (by omega) (by have:=hB2.size;omega) ?_;intro v3 w3 hown3 hb3 hq3))
     have HO:=Lib.hid (And.intro hown3 (And.intro hb3 hB2))
     clear hown3 hb3 hown2 hB2
     go_roundw
     case rel =>
      refine ⟨k + 1,by omega,by go_num,?_,?_⟩
      ·rw [HR.out.2.2.1,← List.append_assoc,HR.out.2.2.2.2.1,List.length_append,List.flatMap_append]
       exact HO.out.1
      ·exact (HR.out.2.2.2.2.2.trans (HO.out.2.2.mono hsz)).trans HO.out.2.1
     case measure => simp [intOf];omega
    ·have hke:k = x.args.length:=by omega
     subst hke
     have etk:x.args.take x.args.length = x.args:=List.take_of_length_le (Nat.le_refl _)
     rw [etk,← HC.out.2] at hown
     have HO:=Lib.hid hown
     clear hown etk
     go_wp2_with fail
     go_ret
     exact ⟨_,rfl,ownsRow_base HO.out (by omega),hbw⟩
  ·have h0:own = [x.name]:=by rw [hown0,if_pos (by simpa using ho)]
   have H0:=Lib.hid h0
   clear hown0 h0
   go_enter Tryz.func153,Tryz.ntmps153
   go_wp2_with (at_builtin;refine wpList_append1 rfl _ _ 63 rfl (w.heap.size + 1) 9 i0 (.string ⟨#[]⟩) 1 16 Tryz.underlying63 hi hz0 hz1 hz2 rfl (by decide) (.slice none 0 0) 0 [] rfl (World.ownsRow_nil _ _ _ _) [.string x.name] 9 rfl (w.heap.size + 1) rfl (by simp) rfl (by intro u hu;simp at hu;subst hu;rfl) (by omega) (by unfold maxLen;omega) (by simp) ?_;intro v1 w1 hown1 hb1 hq1 hk1;have q5:w1.cell? ⟨w.heap.size,5,none⟩ = some (.slice A x.args.length c):=(hb1.cell (p:=⟨w.heap.size,5,none⟩) (by simp)).trans (by go_simp))
   go_loopw [3,17] (fun v i wr => ∃ k:Nat,k ≤ x.args.length ∧ i = .int .i64 k ∧ wr.ownsRow (w.heap.size + 1) 9 1 v (own ++ askNL (x.args.take k)).length ((own ++ askNL (x.args.take k)).flatMap strCs) ∧ Below (w.heap.size + 1) (w.alloc (.cells #[.int .i64 x.op,.int .i64 x.v.k,.int .i64 x.v.n,.string x.v.s,.string x.name,.slice A x.args.length c] 26)) wr) (fun _ i _ => x.args.length - (intOf i).toNat)
   case atStart => exact ⟨0,by omega,rfl,by simpa [askNL,H0.out] using hown1,hb1⟩
   case round =>
    obtain ⟨k,hk,rfl,hown,hb⟩:=hrel
    have hbw:Below w.heap.size w wr:=alloc_below hb
    have hsz:w.heap.size + 1 ≤ wr.heap.size:=by have:=hb.size;simpa using this
    by_cases hlt:k < x.args.length
    ·obtain ⟨b,o,a,X,C,hAe,hbl,hl,hxa,x0,x1,x2,x3,x4,x5⟩:=Exp_at (HH.out.1.nowN keeps_Exp hbw) hlt
     subst hAe
     have hbl':b < wr.heap.size:=hbl
     obtain ⟨hNa,hsn⟩:=HC.out.1 k a hl
     have hca:=fun w h => HI.out a X C w (HH.out.2 k a hl) (by have:=hNa;omega) h
     have HR:=Lib.hid (And.intro hxa (And.intro hl (And.intro hsn (And.intro hown hb))))
     obtain ⟨L,hL⟩:∃ L,own ++ askNL (x.args.take k) = L:=⟨_,rfl⟩
     rw [hL] at hNa
     have HR:=Lib.hid (And.intro HR.out.1 (And.intro HR.out.2.1 (And.intro HR.out.2.2.1 (And.intro (by rw [← hL];exact HR.out.2.2.2.1:wr.ownsRow (w.heap.size + 1) 9 1 _ L.length (L.flatMap strCs)) (And.intro hL HR.out.2.2.2.2)))))
     clear hL
     have hln:L.length ≤ 1048576:=by omega
     clear hxa hl hbl hsn hown
     go_wp2_with (first
      | (go_at_call 153;refine (hca _ (HR.out.1.keep (old_keep bel))).mono ?_;rintro e w2 ⟨v2,rfl,hown2,hb2⟩;obtain ⟨A2,c2,rfl,hn2,hc2⟩:=own_src hown2;have hB2:Below wr.heap.size wr w2:=((Below.refl wr.heap.size wr).alloc (Nat.le_refl _) _).trans (hb2.mono (by simp)))
      | (at_builtin;refine wpList_append_sl rfl _ _ 63 rfl (w.heap.size + 1) 9 i0 (.string ⟨#[]⟩) 1 16 Tryz.underlying63 hi hz0 hz1 hz2 rfl (by decide) _ L.length (L.flatMap strCs) rfl (ownsRow_keep HR.out.2.2.2.1 hB2) A2 (askN a).length c2 ((askN a).flatMap strCs) rfl (by rw [flat_len strCs 1 (fun _ => rfl)]) hc2 hn2 (oneStr _) (by unfold maxLen;omega) (by omega) (by have:=hB2.size;omega) ?_;intro v3 w3 hown3 hb3 hq3))
     have HO:=Lib.hid (And.intro hown3 (And.intro hb3 hB2))
     clear hown3 hb3 hown2 hB2
     go_roundw
     case rel =>
      refine ⟨k + 1,by omega,by go_num,?_,?_⟩
      ·rw [HR.out.2.2.1,← List.append_assoc,HR.out.2.2.2.2.1,List.length_append,List.flatMap_append]
       exact HO.out.1
      ·exact (HR.out.2.2.2.2.2.trans (HO.out.2.2.mono hsz)).trans HO.out.2.1
     case measure => simp [intOf];omega
    ·have hke:k = x.args.length:=by omega
     subst hke
     have etk:x.args.take x.args.length = x.args:=List.take_of_length_le (Nat.le_refl _)
     rw [etk,← HC.out.2] at hown
     have HO:=Lib.hid hown
     clear hown etk
     go_wp2_with fail
     go_ret
     exact ⟨_,rfl,ownsRow_base HO.out (by omega),hbw⟩

end Go.Proofs.YtldbpmlgbbomcaaGreatDoor
