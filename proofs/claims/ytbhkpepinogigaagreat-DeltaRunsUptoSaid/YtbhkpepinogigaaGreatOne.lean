/- Texts merged: Valu One. -/
import Derived.Test.YtbhkpepinogigaaGreatVals
import Derived.Test.YtbhkpepinogigaaGreatValdA
import Derived.Test.YtbhkpepinogigaaGreatValdD
import Derived.Test.YtbhkpepinogigaaGreatValdN
import Derived.Test.YtbhkpepinogigaaGreatValdM
import Derived.Test.YtbhkpepinogigaaGreatEvo
import Derived.Test.YtbhkpepinogigaaGreatPrt4
import Derived.Test.YtbhkpepinogigaaGreatAsk
/- The reference valued, ValueBy; and eval.Of. -/
namespace Go.Proofs.YtbhkpepinogigaaGreat
open Go.RowKit Go.Maps

theorem factV_hit {l:List Fct} {nm:ByteArray} {k:Nat} {y:Fct} (h0:(l.take k).any (sameName nm) = false) (h1:l[k]? = some y) (h2:sameName nm y = true):factV l nm = some y.has:=by
 unfold factV;rw [find_at0 h0 h1 h2];rfl
theorem factV_none {l:List Fct} {nm:ByteArray} (h0:l.any (sameName nm) = false):factV l nm = none:=by
 unfold factV;rw [find_none _ _ h0];rfl
section
variable (l:List Fct) (hl:factsOk l) (F:Option Addr) (nF cF N:Nat) (IH:ValN l F nF cF N)
set_option maxRecDepth 100000 in
set_option maxHeartbeats 8000000 in
theorem valued_ref (hnF:inL nF) (x:Exp) (A:Option Addr) (c:Nat) (w:World) (ho2:x.op = 2) (hF:Sl w (old w) 7 RFct F nF l) :
  Calls Tryz.prog 137 #[.agg (x.cs A c).toArray,.slice F nF cF] w (RetV w ((factV l x.name).getD (faultV 5))):=by
 have hob:(x.op == 1) = false:=by rw [ho2];rfl
 have hob2:(x.op == 2) = true:=by rw [ho2];rfl
 obtain ⟨out,hout⟩:∃ v,(factV l x.name).getD (faultV 5) = v:=⟨_,rfl⟩
 rw [hout]
 have HO:=Lib.hid hout
 have HF:=Lib.hid (And.intro hF hF.len)
 unfold inL at hnF
 clear ho2 hF hout
 go_enter Tryz.func137,Tryz.ntmps137
 go_wp2_with fail
 obtain ⟨W,hW⟩:∃ W,W = ((w.alloc (.cells #[.int .i64 x.op,.int .i64 x.v.k,.int .i64 x.v.n,.string x.v.s,.string x.name,.slice A x.args.length c] 97)).alloc (.cells #[.int .i64 0,.int .i64 0,.string ⟨#[]⟩] 73)):=⟨_,rfl⟩
 have hb0:Below w.heap.size w W:=by rw [hW];exact bel
 have d0:W.cell? ⟨w.heap.size,2,none⟩ = some (.int .i64 x.v.n):=by rw [hW];go_simp
 have d1:W.cell? ⟨w.heap.size,4,none⟩ = some (.string x.name):=by rw [hW];go_simp
 have r0:W.cell? ⟨w.heap.size + 1,0,none⟩ = some (.int .i64 0):=by rw [hW];go_simp
 have r1:W.cell? ⟨w.heap.size + 1,1,none⟩ = some (.int .i64 0):=by rw [hW];go_simp
 have r2:W.cell? ⟨w.heap.size + 1,2,none⟩ = some (.string ⟨#[]⟩):=by rw [hW];go_simp
 have q0:W.frozen? ⟨w.heap.size + 1,0,none⟩ = false:=by rw [hW];go_simp
 have q1:W.frozen? ⟨w.heap.size + 1,1,none⟩ = false:=by rw [hW];go_simp
 have q2:W.frozen? ⟨w.heap.size + 1,2,none⟩ = false:=by rw [hW];go_simp
 have hsz:w.heap.size + 2 ≤ W.heap.size:=by rw [hW];simp
 rw [← hW]
 clear hW
 have HB0:=Lib.hid hb0
 clear hb0
 go_loopw [31] (fun i wr => ∃ k:Nat,k ≤ nF ∧ i = .int .i64 k ∧ Hid ((l.take k).any (sameName x.name) = false) ∧ Below W.heap.size W wr) (fun i _ => nF - (intOf i).toNat)
 case atStart => exact ⟨0,by omega,rfl,Lib.hid (by simp),Below.refl _ _⟩
 case round =>
  obtain ⟨k,hk,rfl,hz,hbr⟩:=hrel
  have HBr:=Lib.hid (show Below w.heap.size w wr from below_step HB0.out hbr (by omega))
  have hw1:w.heap.size < W.heap.size:=by omega
  have hw2:w.heap.size + 1 < W.heap.size:=by omega
  obtain ⟨hcr,hfr⟩:=bcell hbr;(try simp only [bqh,bqc,bqf] at hcr hfr);have hzr:=hbr.size;(try simp at hzr);(try have hyr:=nl1 hzr);(try have hxr:=nl2 hyr);refine szz wr w ?_;intros;refine szz wr W ?_;intros
  by_cases hlt:k < nF
  ·obtain ⟨b,o,y,hFe,hbl,hy,hwf,x0,x1,x2,x3,x4,x5,x6⟩:=Fct_at (HF.out.1.now HBr.out) hlt
   subst hFe
   have hbl':b < wr.heap.size:=hbl
   have HL:=Lib.hid hy
   have hsn:sameName x.name y = (y.name.toList == x.name.toList):=rfl
   clear hy hwf hbl
   cases hp:(y.name.toList == x.name.toList)
   ·have HP:=Lib.hid (hsn.trans hp)
    clear hsn
    go_wp2_with fail
    go_roundw
    case rel => exact ⟨k + 1,by omega,by go_num,Lib.hid (any_next hz.out HL.out HP.out),bel⟩
    case measure => simp [intOf];omega
   ·have HD:=Lib.hid (show y.has = out by rw [← HO.out,factV_hit hz.out HL.out (hsn.trans hp)];rfl)
    have hBw:=HBr.out
    clear hsn
    go_wp2_with fail
    exact bodyPost_ret (v:=.agg #[.int .i64 y.has.k,.int .i64 y.has.n,.string y.has.s]) (by first | (simp [results,Tryz.results137,go_sem];done) | (simp [results,Tryz.results137,go_sem, *];done)) rfl ⟨by rw [HD.out],bel⟩
  ·have hke:k = nF:=by omega
   subst hke
   have HD:=Lib.hid (show faultV 5 = out by rw [← HO.out,factV_none (by have h:=hz.out;rwa [List.take_of_length_le (by rw [HF.out.2];exact Nat.le_refl _)] at h)];rfl)
   have hBw:=HBr.out
   go_wp2_with (go_at_call 183;refine (ref_no _ _).mono ?_;rintro e w6 ⟨rfl,hb6⟩;obtain ⟨hc6,hf6⟩:=bcell hb6;(try simp only [bqh,bqc,bqf] at hc6 hf6);have hz6:=hb6.size;(try simp at hz6);(try have hy6:=nl1 hz6);(try have hx6:=nl2 hy6);refine szz w6 w ?_;intros;refine szz w6 W ?_;intros;refine szz w6 wr ?_;intros;dsimp only)
   exact bodyPost_ret (v:=.agg #[.int .i64 5,.int .i64 5,.string ⟨#[]⟩]) (by first | (simp [results,Tryz.results137,go_sem];done) | (simp [results,Tryz.results137,go_sem, *];done)) rfl ⟨by rw [← HD.out];rfl,bel⟩
set_option maxRecDepth 100000 in
set_option maxHeartbeats 8000000 in
theorem valued_con (x:Exp) (A:Option Addr) (c:Nat) (w:World) (ho1:x.op = 1) :
  Calls Tryz.prog 137 #[.agg (x.cs A c).toArray,.slice F nF cF] w (RetV w x.v):=by
 have hob:(x.op == 1) = true:=by rw [ho1];rfl
 clear ho1
 go_enter Tryz.func137,Tryz.ntmps137
 go_wp2_with fail
 exact bodyPost_ret (v:=.agg #[.int .i64 x.v.k,.int .i64 x.v.n,.string x.v.s]) (by first | (simp [results,Tryz.results137,go_sem];done) | (simp [results,Tryz.results137,go_sem, *];done)) rfl ⟨rfl,bel⟩
include hl IH
theorem valued_step (hnF:inL nF):ValN l F nF cF (N + 1):=by
 intro x A c w hN hp hx hF
 obtain ⟨i1,i2,i3,i4,i5,hsl,hch⟩:=hx.kids
 obtain ⟨p1,p2,p3,p4⟩:=prt_ok hp
 have hkid:∀ a ∈ x.args,a.nodes ≤ N ∧ prtN a = 0:=by
  intro a ha
  obtain ⟨i,hi⟩:=List.mem_iff_getElem?.1 ha
  exact ⟨by have:=hch i a hi;omega,p4 a ha⟩
 have hok:∀ a ∈ x.args,valCheck (evX l a) = 0:=fun a ha => evX_ok hl a.nodes a (Nat.le_refl _) (hkid a ha).2
 by_cases ho1:x.op = 1
 ·rw [evX_const l ho1];exact valued_con F nF cF x A c w ho1
 by_cases ho2:x.op = 2
 ·rw [evX_ref l ho2];exact valued_ref l F nF cF hnF x A c w ho2 hF
 rw [evX_app l ho1 ho2]
 rcases (by omega:x.op = 15 ∨ x.op = 16 ∨ x.op = 17 ∨ (x.op = 3 ∨ x.op = 4 ∨ x.op = 18) ∨ (x.op = 5 ∨ x.op = 6 ∨ x.op = 7 ∨ x.op = 8 ∨ x.op = 9 ∨ x.op = 10 ∨ x.op = 11 ∨ x.op = 12 ∨ x.op = 13 ∨ x.op = 14)) with ho | ho | ho | ho | ho
 ·rw [ho];exact valued_15 l hl F nF cF N IH x A c w ho p3 hkid hx hF
 ·rw [ho];exact valued_16 l hl F nF cF N IH x A c w ho p3 hkid hx hF
 ·rw [ho];exact valued_17 l hl F nF cF N IH x A c w ho p3 hkid hx hF
 ·rw [opV_rest (by omega)]
  have hn:x.args.length = 1:=by
   rcases ho with h | h | h <;> (rw [h] at p3;have p3:(x.args.length:Int) = 1:=p3;omega)
  obtain ⟨a0,ha⟩:∃ a0,x.args = [a0]:=by
   match x.args,hn with
   | [a0],_ => exact ⟨a0,rfl⟩
  have h0:x.args[0]? = some a0:=by rw [ha];rfl
  have m0:a0 ∈ x.args:=by rw [ha];simp
  rw [show x.args.map (evX l) = [evX l a0] by rw [ha];rfl]
  rcases ho with h | h | h
  ·rw [h];exact valued_3 l F nF cF N IH x a0 _ h0 A c w h hn rfl (hkid a0 m0) (hok a0 m0) hx hF
  ·rw [h];exact valued_4 l F nF cF N IH x a0 _ h0 A c w h hn rfl (hkid a0 m0) (hok a0 m0) hx hF
  ·rw [h];exact valued_18 l F nF cF N IH x a0 _ h0 A c w h hn rfl (hkid a0 m0) (hok a0 m0) hx hF
 ·rw [opV_rest (by omega)]
  have hn:x.args.length = 2:=by
   rcases ho with h | h | h | h | h | h | h | h | h | h <;> (rw [h] at p3;have p3:(x.args.length:Int) = 2:=p3;omega)
  obtain ⟨a0,a1,ha⟩:∃ a0 a1,x.args = [a0,a1]:=by
   match x.args,hn with
   | [a0,a1],_ => exact ⟨a0,a1,rfl⟩
  have h0:x.args[0]? = some a0:=by rw [ha];rfl
  have h1:x.args[1]? = some a1:=by rw [ha];rfl
  have m0:a0 ∈ x.args:=by rw [ha];simp
  have m1:a1 ∈ x.args:=by rw [ha];simp
  rw [show x.args.map (evX l) = [evX l a0,evX l a1] by rw [ha];rfl]
  rcases ho with h | h | h | h | h | h | h | h | h | h
  ·rw [h];exact valued_5 l F nF cF N IH x a0 _ h0 a1 _ h1 A c w h hn rfl (hkid a0 m0) (hok a0 m0) rfl (hkid a1 m1) (hok a1 m1) hx hF
  ·rw [h];exact valued_6 l F nF cF N IH x a0 _ h0 a1 _ h1 A c w h hn rfl (hkid a0 m0) (hok a0 m0) rfl (hkid a1 m1) (hok a1 m1) hx hF
  ·rw [h];exact valued_7 l F nF cF N IH x a0 _ h0 a1 _ h1 A c w h hn rfl (hkid a0 m0) (hok a0 m0) rfl (hkid a1 m1) (hok a1 m1) hx hF
  ·rw [h];exact valued_8 l F nF cF N IH x a0 _ h0 a1 _ h1 A c w h hn rfl (hkid a0 m0) (hok a0 m0) rfl (hkid a1 m1) (hok a1 m1) hx hF
  ·rw [h];exact valued_9 l F nF cF N IH x a0 _ h0 a1 _ h1 A c w h hn rfl (hkid a0 m0) (hok a0 m0) rfl (hkid a1 m1) (hok a1 m1) hx hF
  ·rw [h];exact valued_10 l F nF cF N IH x a0 _ h0 a1 _ h1 A c w h hn rfl (hkid a0 m0) (hok a0 m0) rfl (hkid a1 m1) (hok a1 m1) hx hF
  ·rw [h];exact valued_11 l F nF cF N IH x a0 _ h0 a1 _ h1 A c w h hn rfl (hkid a0 m0) (hok a0 m0) rfl (hkid a1 m1) (hok a1 m1) hx hF
  ·rw [h];exact valued_12 l F nF cF N IH x a0 _ h0 a1 _ h1 A c w h hn rfl (hkid a0 m0) (hok a0 m0) rfl (hkid a1 m1) (hok a1 m1) hx hF
  ·rw [h];exact valued_13 l F nF cF N IH x a0 _ h0 a1 _ h1 A c w h hn rfl (hkid a0 m0) (hok a0 m0) rfl (hkid a1 m1) (hok a1 m1) hx hF
  ·rw [h];exact valued_14 l F nF cF N IH x a0 _ h0 a1 _ h1 A c w h hn rfl (hkid a0 m0) (hok a0 m0) rfl (hkid a1 m1) (hok a1 m1) hx hF
end
theorem valued_N (l:List Fct) (hl:factsOk l) (F:Option Addr) (nF cF:Nat) (hnF:inL nF):∀ N,ValN l F nF cF N
 | 0 => by
  intro x A c w hN
  obtain ⟨op,v,nm,args⟩:=x
  simp [Exp.nodes] at hN
 | N + 1 => valued_step l hl F nF cF N (valued_N l hl F nF cF hnF N) hnF
end Go.Proofs.YtbhkpepinogigaaGreat
/- Texts merged: EvB One. -/
/- The reference ValueBy. -/
namespace Go.Proofs.YtbhkpepinogigaaGreat
open Go.RowKit Go.Maps

set_option maxRecDepth 100000 in
set_option maxHeartbeats 8000000 in
theorem ref_ValueBy (l:List Fct) (L:Option Addr) (n d:Nat) (x:Exp) (A:Option Addr) (c:Nat) (w:World) (hn:inL n) (hx:XRep w (old w) (x.cs A c) x) (hl:Sl w (old w) 7 RFct L n l) :
  Calls Tryz.prog 77 #[.agg (x.cs A c).toArray,.slice L n d] w (RetVE w (evalRes l x)):=by
 have hck:=fun w h => ref_ExprFault x A c w h
 have hn':=hn
 unfold inL at hn
 have HH:=Lib.hid (And.intro hx (And.intro hl hl.len))
 clear hx hl
 by_cases he:exprErr x = 0
 ·have HP:=Lib.hid (And.intro he (prt_of_exprErr he))
  obtain ⟨res,hres⟩:∃ r,evalRes l x = r:=⟨_,rfl⟩
  rw [hres]
  have HR:=Lib.hid hres
  have HN:=Lib.hid hn'
  simp only [he] at hck
  clear he hres hn'
  go_enter Tryz.func77,Tryz.ntmps77
  go_wp2_with (go_at_call 136;refine (hck _ (HH.out.1.keep (old_keep bel))).mono ?_;rintro e w1 ⟨rfl,hb1⟩;obtain ⟨hc1,hf1⟩:=bcell hb1;(try simp only [bqh,bqc,bqf] at hc1 hf1);have hz1:=hb1.size;(try simp at hz1);(try have hy1:=nl1 hz1);(try have hx1:=nl2 hy1);refine szz w1 w ?_;intros)
  have HB1:=Lib.hid (show Below w.heap.size w w1 from bel)
  have d0:w1.cell? ⟨w.heap.size,0,none⟩ = some (.int .i64 x.op):=by go_simp
  have d1:w1.cell? ⟨w.heap.size,1,none⟩ = some (.int .i64 x.v.k):=by go_simp
  have d2:w1.cell? ⟨w.heap.size,2,none⟩ = some (.int .i64 x.v.n):=by go_simp
  have d3:w1.cell? ⟨w.heap.size,3,none⟩ = some (.string x.v.s):=by go_simp
  have d4:w1.cell? ⟨w.heap.size,4,none⟩ = some (.string x.name):=by go_simp
  have d5:w1.cell? ⟨w.heap.size,5,none⟩ = some (.slice A x.args.length c):=by go_simp
  have r0:w1.cell? ⟨w.heap.size + 1,0,none⟩ = some (.int .i64 0):=by go_simp
  have r1:w1.cell? ⟨w.heap.size + 1,1,none⟩ = some (.int .i64 0):=by go_simp
  have r2:w1.cell? ⟨w.heap.size + 1,2,none⟩ = some (.string ⟨#[]⟩):=by go_simp
  have q0:w1.frozen? ⟨w.heap.size + 1,0,none⟩ = false:=by go_simp
  have q1:w1.frozen? ⟨w.heap.size + 1,1,none⟩ = false:=by go_simp
  have q2:w1.frozen? ⟨w.heap.size + 1,2,none⟩ = false:=by go_simp
  have hs1:w.heap.size < w1.heap.size:=by omega
  have hs2:w.heap.size + 1 < w1.heap.size:=by omega
  clear hc1 hf1 hb1
  go_loopw [18] (fun i wr => ∃ k:Nat,k ≤ n ∧ i = .int .i64 k ∧ Hid (firstErr (hasErr l) k = 0) ∧ Below w1.heap.size w1 wr) (fun i _ => n - (intOf i).toNat)
  case atStart => exact ⟨0,by omega,rfl,Lib.hid rfl,Below.refl _ _⟩
  case round =>
   obtain ⟨k,hk,rfl,hz,hbr⟩:=hrel
   have HBr:=Lib.hid (show Below w.heap.size w wr from below_step HB1.out hbr (by omega))
   obtain ⟨hcr,hfr⟩:=bcell hbr;(try simp only [bqh,bqc,bqf] at hcr hfr);have hzr:=hbr.size;(try simp at hzr);(try have hyr:=nl1 hzr);(try have hxr:=nl2 hyr);refine szz wr w ?_;intros;refine szz wr w1 ?_;intros
   have hBw:=HBr.out
   by_cases hlt:k < n
   ·obtain ⟨b,o,y,rfl,hbl,hy,hwf,x0,x1,x2,x3,x4,x5,x6⟩:=Fct_at (HH.out.2.1.now HBr.out) hlt
    have hbl':b < wr.heap.size:=hbl
    have hch:=fun w => ref_ValueFault y.has.k y.has.n y.has.s w (inS_max hwf.2.2.2.2)
    rw [show (⟨y.has.k,y.has.n,y.has.s⟩:Val) = y.has from rfl] at hch
    have HL:=Lib.hid hy
    clear hy hwf hbl
    by_cases hv:valCheck y.has = 0
    ·have HV:=Lib.hid hv
     rw [hv] at hch
     clear hv
     go_wp2_with (go_at_call 71;refine (hch _).mono ?_;rintro e w2 ⟨rfl,hb2⟩;obtain ⟨hc2,hf2⟩:=bcell hb2;(try simp only [bqh,bqc,bqf] at hc2 hf2);have hz2:=hb2.size;(try simp at hz2);(try have hy2:=nl1 hz2);(try have hx2:=nl2 hy2);refine szz w2 w ?_;intros;refine szz w2 wr ?_;intros)
     go_roundw
     case rel => exact ⟨k + 1,by omega,by go_num,Lib.hid (firstErr_next hz.out ((hasErr_at HL.out).trans HV.out)),below_step hbr (show Below wr.heap.size wr _ from bel) (by omega)⟩
     case measure => simp [intOf];omega
    ·have HE:=Lib.hid (show (noVal,valCheck y.has) = res by rw [← HR.out];exact (evalRes_fct HP.out.1 (factsErr_hit hz.out HL.out hv) hv).symm)
     generalize valCheck y.has = ve at hch hv HE
     have hv':(ve != 0) = true:=by simpa using hv
     clear hv
     go_wp2_with (go_at_call 71;refine (hch _).mono ?_;rintro e w2 ⟨rfl,hb2⟩;obtain ⟨hc2,hf2⟩:=bcell hb2;(try simp only [bqh,bqc,bqf] at hc2 hf2);have hz2:=hb2.size;(try simp at hz2);(try have hy2:=nl1 hz2);(try have hx2:=nl2 hy2);refine szz w2 w ?_;intros;refine szz w2 wr ?_;intros)
     exact bodyPost_ret (v:=.tuple #[.agg #[.int .i64 0,.int .i64 0,.string ⟨#[]⟩],.int .i64 ve]) (by first | (simp [results,Tryz.results77,go_sem];done) | (simp [results,Tryz.results77,go_sem, *];done)) rfl ⟨by rw [← HE.out];rfl,bel⟩
   ·have hke:k = n:=by omega
    have hfe:factsErr l = 0:=by unfold factsErr;rw [HH.out.2.2,← hke];exact hz.out
    have hvl:=fun w h h' => valued_N l (factsErr_ok hfe) L n d HN.out x.nodes x A c w (Nat.le_refl _) HP.out.2 h h'
    have HE:=Lib.hid (show (evX l x,0) = res by rw [← HR.out];exact (evalRes_ok HP.out.1 hfe).symm)
    generalize evX l x = u at hvl HE
    clear hfe hz
    subst hke
    go_wp2_with (go_at_call 137;refine (hvl _ (HH.out.1.keep (old_keep bel)) (HH.out.2.1.now bel)).mono ?_;rintro e w3 ⟨rfl,hb3⟩;obtain ⟨hc3,hf3⟩:=bcell hb3;(try simp only [bqh,bqc,bqf] at hc3 hf3);have hz3:=hb3.size;(try simp at hz3);(try have hy3:=nl1 hz3);(try have hx3:=nl2 hy3);refine szz w3 w ?_;intros;refine szz w3 wr ?_;intros;dsimp only)
    exact bodyPost_ret (v:=.tuple #[.agg #[.int .i64 u.k,.int .i64 u.n,.string u.s],.int .i64 0]) (by first | (simp [results,Tryz.results77,go_sem];done) | (simp [results,Tryz.results77,go_sem, *];done)) rfl ⟨by rw [← HE.out],bel⟩
 ·obtain ⟨ee,hee⟩:∃ e,exprErr x = e:=⟨_,rfl⟩
  rw [evalRes_bad hee (by rw [← hee];exact he)]
  have heb:(ee != 0) = true:=by rw [← hee];simpa using he
  simp only [hee] at hck
  clear he hee
  go_enter Tryz.func77,Tryz.ntmps77
  go_wp2_with (go_at_call 136;refine (hck _ (HH.out.1.keep (old_keep bel))).mono ?_;rintro e w1 ⟨rfl,hb1⟩;obtain ⟨hc1,hf1⟩:=bcell hb1;(try simp only [bqh,bqc,bqf] at hc1 hf1);have hz1:=hb1.size;(try simp at hz1);(try have hy1:=nl1 hz1);(try have hx1:=nl2 hy1);refine szz w1 w ?_;intros)
  exact bodyPost_ret (v:=.tuple #[.agg #[.int .i64 0,.int .i64 0,.string ⟨#[]⟩],.int .i64 ee]) (by first | (simp [results,Tryz.results77,go_sem];done) | (simp [results,Tryz.results77,go_sem, *];done)) rfl ⟨rfl,bel⟩
end Go.Proofs.YtbhkpepinogigaaGreat
/- whole.One and the reference OneOf. -/
namespace Go.Proofs.YtbhkpepinogigaaGreat
open Go.RowKit Go.Maps

def inV (f:Fld) (l:List Fct):Val:=(factV l f.name).getD ⟨0 + f.type,0,⟨#[]⟩⟩
def oneV (f:Fld) (ins orc kn:List Fct):Val:=if f.kind = 1 then inV f ins else if f.kind = 3 then askV orc f.name (evalRes kn f.source).1 else (evalRes kn f.source).1
theorem evalRes_size (l:List Fct) (x:Exp):(evalRes l x).1.s.size ≤ maxLen:=by
 unfold evalRes
 split
 ·exact Nat.zero_le _
 ·rename_i h
  split
  ·exact Nat.zero_le _
  ·rename_i h1
   have he:exprErr x = 0:=by simpa using h
   have hf:factsErr l = 0:=by simpa using h1
   have:=val_size (evX_ok (factsErr_ok hf) x.nodes x (Nat.le_refl _) (prt_of_exprErr he))
   show (evX l x).s.size ≤ maxLen
   unfold maxLen;omega
abbrev Fld.cz (f:Fld) (X:Option Addr) (C:Nat):List Value:=[.string f.name,.int .i64 f.kind,.int .i64 f.type,.int .i64 f.source.op,.int .i64 f.source.v.k,.int .i64 f.source.v.n,.string f.source.v.s,.string f.source.name,.slice X f.source.args.length C]
theorem factV_hit' {l:List Fct} {nm:ByteArray} {k:Nat} {y:Fct} (h0:(l.take k).any (sameName nm) = false) (h1:l[k]? = some y) (h2:sameName nm y = true):factV l nm = some y.has:=by
 unfold factV;rw [find_at0 h0 h1 h2];rfl
theorem factV_none' {l:List Fct} {nm:ByteArray} (h0:l.any (sameName nm) = false):factV l nm = none:=by
 unfold factV;rw [find_none _ _ h0];rfl
def inD (f:Fld) (l:List Fct) (k:Nat):Val:=inV f (l.drop k)
theorem inD_hit {f:Fld} {l:List Fct} {k:Nat} {y:Fct} (h:l[k]? = some y) (hx:sameName f.name y = true):inD f l k = y.has:=by
 unfold inD inV factV;rw [drop_at h,List.find?_cons_of_pos hx];rfl
theorem inD_miss {f:Fld} {l:List Fct} {k:Nat} {y:Fct} (h:l[k]? = some y) (hx:sameName f.name y = false):inD f l k = inD f l (k + 1):=by
 unfold inD inV factV;rw [drop_at h,List.find?_cons_of_neg (by simp [hx])]
set_option maxRecDepth 100000 in
set_option maxHeartbeats 8000000 in
theorem whole_One (f:Fld) (X:Option Addr) (C:Nat) (A1:Option Addr) (n1 c1:Nat) (l1:List Fct) (A2:Option Addr) (n2 c2:Nat) (l2:List Fct) (A3:Option Addr) (n3 c3:Nat) (l3:List Fct) (w:World) (hn1:inL n1) (hn2:inL n2) (hn3:inL n3)
  (hf:RFld w (old w) (f.cz X C) f) (h1:Sl w (old w) 7 RFct A1 n1 l1) (h2:Sl w (old w) 7 RFct A2 n2 l2) (h3:Sl w (old w) 7 RFct A3 n3 l3) :
  Calls Tryz.prog 81 #[.agg (f.cz X C).toArray,.slice A1 n1 c1,.slice A2 n2 c2,.slice A3 n3 c3] w (RetV w (oneV f l1 l2 l3)):=by
 obtain ⟨i1,i2,i3,xs,hxe,hx⟩:=hf
 injection hxe with _ hxe
 injection hxe with _ hxe
 injection hxe with _ hxe
 subst hxe
 by_cases hk:f.kind = 1
 ·rw [show oneV f l1 l2 l3 = inV f l1 by unfold oneV;rw [if_pos hk]]
  have hkb:(f.kind == 1) = true:=by rw [hk];rfl
  obtain ⟨out,hout⟩:∃ v,inV f l1 = v:=⟨_,rfl⟩
  rw [hout]
  have HO:=Lib.hid hout
  have HF:=Lib.hid (And.intro h1 h1.len)
  unfold inL at hn1
  clear hk hx h1 h2 h3 i1 i2 i3 hout hn2 hn3
  go_enter Tryz.func81,Tryz.ntmps81
  go_wp2_with fail
  obtain ⟨W,hW⟩:∃ W,W = ((w.alloc (.cells #[.string f.name,.int .i64 f.kind,.int .i64 f.type,.int .i64 f.source.op,.int .i64 f.source.v.k,.int .i64 f.source.v.n,.string f.source.v.s,.string f.source.name,.slice X f.source.args.length C] 99)).alloc (.cells #[.int .i64 0,.int .i64 0,.string ⟨#[]⟩] 73)):=⟨_,rfl⟩
  have hb0:Below w.heap.size w W:=by rw [hW];exact bel
  have d0:W.cell? ⟨w.heap.size,0,none⟩ = some (.string f.name):=by rw [hW];go_simp
  have d1:W.cell? ⟨w.heap.size,2,none⟩ = some (.int .i64 f.type):=by rw [hW];go_simp
  have r0:W.cell? ⟨w.heap.size + 1,0,none⟩ = some (.int .i64 0):=by rw [hW];go_simp
  have r1:W.cell? ⟨w.heap.size + 1,1,none⟩ = some (.int .i64 0):=by rw [hW];go_simp
  have r2:W.cell? ⟨w.heap.size + 1,2,none⟩ = some (.string ⟨#[]⟩):=by rw [hW];go_simp
  have q0:W.frozen? ⟨w.heap.size + 1,0,none⟩ = false:=by rw [hW];go_simp
  have q1:W.frozen? ⟨w.heap.size + 1,1,none⟩ = false:=by rw [hW];go_simp
  have q2:W.frozen? ⟨w.heap.size + 1,2,none⟩ = false:=by rw [hW];go_simp
  have hsz:w.heap.size + 2 ≤ W.heap.size:=by rw [hW];simp
  rw [← hW]
  clear hW
  have HB0:=Lib.hid hb0
  clear hb0
  go_loopw [18] (fun i wr => ∃ k:Nat,k ≤ n1 ∧ i = .int .i64 k ∧ Hid ((l1.take k).any (sameName f.name) = false) ∧ Below W.heap.size W wr) (fun i _ => n1 - (intOf i).toNat)
  case atStart => exact ⟨0,by omega,rfl,Lib.hid (by simp),Below.refl _ _⟩
  case round =>
   obtain ⟨k,hk,rfl,hz,hbr⟩:=hrel
   have HBr:=Lib.hid (show Below w.heap.size w wr from below_step HB0.out hbr (by omega))
   have hw1:w.heap.size < W.heap.size:=by omega
   have hw2:w.heap.size + 1 < W.heap.size:=by omega
   obtain ⟨hcr,hfr⟩:=bcell hbr;(try simp only [bqh,bqc,bqf] at hcr hfr);have hzr:=hbr.size;(try simp at hzr);(try have hyr:=nl1 hzr);(try have hxr:=nl2 hyr);refine szz wr w ?_;intros;refine szz wr W ?_;intros
   by_cases hlt:k < n1
   ·obtain ⟨b,o,y,hFe,hbl,hy,hwf,x0,x1,x2,x3,x4,x5,x6⟩:=Fct_at (HF.out.1.now HBr.out) hlt
    subst hFe
    have hbl':b < wr.heap.size:=hbl
    have HL:=Lib.hid hy
    have hsn:sameName f.name y = (y.name.toList == f.name.toList):=rfl
    clear hy hwf hbl
    cases hp:(y.name.toList == f.name.toList)
    ·have HP:=Lib.hid (hsn.trans hp)
     clear hsn
     go_wp2_with fail
     go_roundw
     case rel => exact ⟨k + 1,by omega,by go_num,Lib.hid (any_next hz.out HL.out HP.out),bel⟩
     case measure => simp [intOf];omega
    ·have HD:=Lib.hid (show y.has = out by rw [← HO.out];unfold inV;rw [factV_hit' hz.out HL.out (hsn.trans hp)];rfl)
     have hBw:=HBr.out
     clear hsn
     go_wp2_with fail
     exact bodyPost_ret (v:=.agg #[.int .i64 y.has.k,.int .i64 y.has.n,.string y.has.s]) (by first | (simp [results,Tryz.results81,go_sem];done) | (simp [results,Tryz.results81,go_sem, *];done)) rfl ⟨by rw [HD.out],bel⟩
   ·have hke:k = n1:=by omega
    subst hke
    have HD:=Lib.hid (show (⟨0 + f.type,0,⟨#[]⟩⟩:Val) = out by rw [← HO.out];unfold inV;rw [factV_none' (by have h:=hz.out;rwa [List.take_of_length_le (by rw [HF.out.2];exact Nat.le_refl _)] at h)];rfl)
    have hBw:=HBr.out
    go_wp2_with fail
    exact bodyPost_ret (v:=.agg #[.int .i64 f.type,.int .i64 0,.string ⟨#[]⟩]) (by first | (simp [results,Tryz.results81,go_sem];done) | (simp [results,Tryz.results81,go_sem, *];done)) rfl ⟨by rw [← HD.out];simp,bel⟩
 ·have hkb:(f.kind == 1) = false:=by simpa using hk
  have ho:=fun w h h' => eval_Of l3 A3 n3 c3 f.source X C w hn3 h h'
  have hsz:=evalRes_size l3 f.source
  have HH:=Lib.hid (And.intro hx (And.intro h2 h3))
  rw [show oneV f l1 l2 l3 = if f.kind = 3 then askV l2 f.name (evalRes l3 f.source).1 else (evalRes l3 f.source).1 by unfold oneV;rw [if_neg hk]]
  generalize evalRes l3 f.source = r at ho hsz
  obtain ⟨v,e0⟩:=r
  dsimp only at hsz
  by_cases hk3:f.kind = 3
  ·have hk3b:(f.kind == 3) = true:=by rw [hk3];rfl
   rw [if_pos hk3]
   have ha:=fun w h => whole_Asked A2 n2 c2 l2 f.name v w hn2 hsz h
   generalize askV l2 f.name v = u at ha
   clear hk hk3 hx h1 h2 h3 i1 i2 i3 hsz
   go_enter Tryz.func81,Tryz.ntmps81
   go_wp2_with (first
    | (go_at_call 135;refine (ho _ (HH.out.1.keep (old_keep bel)) (HH.out.2.2.now bel)).mono ?_;rintro e w1 ⟨rfl,hb1⟩;obtain ⟨hc1,hf1⟩:=bcell hb1;(try simp only [bqh,bqc,bqf] at hc1 hf1);have hz1:=hb1.size;(try simp at hz1);(try have hy1:=nl1 hz1);(try have hx1:=nl2 hy1);refine szz w1 w ?_;intros;dsimp only)
    | (go_at_call 142;refine (ha _ (HH.out.2.1.now bel)).mono ?_;rintro e w2 ⟨rfl,hb2⟩;obtain ⟨hc2,hf2⟩:=bcell hb2;(try simp only [bqh,bqc,bqf] at hc2 hf2);have hz2:=hb2.size;(try simp at hz2);(try have hy2:=nl1 hz2);(try have hx2:=nl2 hy2);refine szz w2 w ?_;intros;refine szz w2 w1 ?_;intros;dsimp only))
   exact bodyPost_ret (v:=.agg #[.int .i64 u.k,.int .i64 u.n,.string u.s]) (by first | (simp [results,Tryz.results81,go_sem];done) | (simp [results,Tryz.results81,go_sem, *];done)) rfl ⟨rfl,bel⟩
  ·have hk3b:(f.kind == 3) = false:=by simpa using hk3
   rw [if_neg hk3]
   clear hk hk3 hx h1 h2 h3 i1 i2 i3 hsz
   go_enter Tryz.func81,Tryz.ntmps81
   go_wp2_with (go_at_call 135;refine (ho _ (HH.out.1.keep (old_keep bel)) (HH.out.2.2.now bel)).mono ?_;rintro e w1 ⟨rfl,hb1⟩;obtain ⟨hc1,hf1⟩:=bcell hb1;(try simp only [bqh,bqc,bqf] at hc1 hf1);have hz1:=hb1.size;(try simp at hz1);(try have hy1:=nl1 hz1);(try have hx1:=nl2 hy1);refine szz w1 w ?_;intros;dsimp only)
   exact bodyPost_ret (v:=.agg #[.int .i64 v.k,.int .i64 v.n,.string v.s]) (by first | (simp [results,Tryz.results81,go_sem];done) | (simp [results,Tryz.results81,go_sem, *];done)) rfl ⟨rfl,bel⟩
set_option maxRecDepth 100000 in
set_option maxHeartbeats 8000000 in
theorem ref_OneOf (f:Fld) (X:Option Addr) (C:Nat) (A1:Option Addr) (n1 c1:Nat) (l1:List Fct) (A2:Option Addr) (n2 c2:Nat) (l2:List Fct) (A3:Option Addr) (n3 c3:Nat) (l3:List Fct) (w:World) (hn1:inL n1) (hn2:inL n2) (hn3:inL n3)
  (hf:RFld w (old w) (f.cz X C) f) (h1:Sl w (old w) 7 RFct A1 n1 l1) (h2:Sl w (old w) 7 RFct A2 n2 l2) (h3:Sl w (old w) 7 RFct A3 n3 l3) :
  Calls Tryz.prog 84 #[.agg (f.cz X C).toArray,.slice A1 n1 c1,.slice A2 n2 c2,.slice A3 n3 c3] w (RetV w (oneV f l1 l2 l3)):=by
 obtain ⟨i1,i2,i3,xs,hxe,hx⟩:=hf
 injection hxe with _ hxe
 injection hxe with _ hxe
 injection hxe with _ hxe
 subst hxe
 by_cases hk:f.kind = 1
 ·rw [show oneV f l1 l2 l3 = inV f l1 by unfold oneV;rw [if_pos hk]]
  have hkb:(f.kind == 1) = true:=by rw [hk];rfl
  obtain ⟨out,hout⟩:∃ v,inV f l1 = v:=⟨_,rfl⟩
  rw [hout]
  have HO:=Lib.hid hout
  have HF:=Lib.hid (And.intro h1 h1.len)
  unfold inL at hn1
  clear hk hx h1 h2 h3 i1 i2 i3 hout hn2 hn3
  go_enter Tryz.func84,Tryz.ntmps84
  go_wp2_with fail
  obtain ⟨W,hW⟩:∃ W,W = ((w.alloc (.cells #[.string f.name,.int .i64 f.kind,.int .i64 f.type,.int .i64 f.source.op,.int .i64 f.source.v.k,.int .i64 f.source.v.n,.string f.source.v.s,.string f.source.name,.slice X f.source.args.length C] 99)).alloc (.cells #[.int .i64 0,.int .i64 0,.string ⟨#[]⟩] 73)):=⟨_,rfl⟩
  have hb0:Below w.heap.size w W:=by rw [hW];exact bel
  have d0:W.cell? ⟨w.heap.size,0,none⟩ = some (.string f.name):=by rw [hW];go_simp
  have d1:W.cell? ⟨w.heap.size,2,none⟩ = some (.int .i64 f.type):=by rw [hW];go_simp
  have r0:W.cell? ⟨w.heap.size + 1,0,none⟩ = some (.int .i64 0):=by rw [hW];go_simp
  have r1:W.cell? ⟨w.heap.size + 1,1,none⟩ = some (.int .i64 0):=by rw [hW];go_simp
  have r2:W.cell? ⟨w.heap.size + 1,2,none⟩ = some (.string ⟨#[]⟩):=by rw [hW];go_simp
  have q0:W.frozen? ⟨w.heap.size + 1,0,none⟩ = false:=by rw [hW];go_simp
  have q1:W.frozen? ⟨w.heap.size + 1,1,none⟩ = false:=by rw [hW];go_simp
  have q2:W.frozen? ⟨w.heap.size + 1,2,none⟩ = false:=by rw [hW];go_simp
  have hsz:W.heap.size = w.heap.size + 2:=by rw [hW];simp
  have hsz1:w.heap.size + 2 = W.heap.size:=hsz.symm
  have HZ:=Lib.hid hsz
  rw [← hW]
  clear hW hsz
  simp only [hsz1]
  have HB0:=Lib.hid hb0
  clear hb0 hsz1
  have hw1:w.heap.size < W.heap.size:=by have:=HZ.out;omega
  have hw2:w.heap.size + 1 < W.heap.size:=by have:=HZ.out;omega
  go_loopw [10] (fun i wr => ∃ (k:Nat) (v:Val),k ≤ n1 ∧ i = .int .i64 ((k:Int) - 1) ∧ Hid (inD f l1 k = v) ∧ wr.cell? ⟨W.heap.size,0,none⟩ = some (.int .i64 v.k) ∧ wr.cell? ⟨W.heap.size,1,none⟩ = some (.int .i64 v.n) ∧ wr.cell? ⟨W.heap.size,2,none⟩ = some (.string v.s) ∧ (wr.frozen? ⟨W.heap.size,0,none⟩ = false ∧ wr.frozen? ⟨W.heap.size,1,none⟩ = false ∧ wr.frozen? ⟨W.heap.size,2,none⟩ = false) ∧ Below W.heap.size W wr ∧ W.heap.size < wr.heap.size) (fun i _ => (intOf i + 1).toNat)
  case atStart => exact ⟨n1,⟨0 + f.type,0,⟨#[]⟩⟩,Nat.le_refl _,rfl,Lib.hid (by unfold inD inV factV;rw [List.drop_of_length_le (by rw [HF.out.2];exact Nat.le_refl _)];rfl),by go_simp,by go_simp,by go_simp,by go_simp,bel,by simp⟩
  case round =>
   obtain ⟨k,v,hk',hi,hz,v0,v1,v2,⟨u0,u1,u2⟩,hbr,hsz⟩:=hrel
   have HBr:=Lib.hid (show Below w.heap.size w wr from below_step HB0.out hbr (by omega))
   obtain ⟨hcr,hfr⟩:=bcell hbr;(try simp only [bqh,bqc,bqf] at hcr hfr);have hzr:=hbr.size;(try simp at hzr);(try have hyr:=nl1 hzr);(try have hxr:=nl2 hyr);refine szz wr w ?_;intros;refine szz wr W ?_;intros
   rcases k with _ | m
   ·have hi':=hi.trans (congrArg (Value.int .i64) (by omega:((0:Nat):Int) - 1 = -1))
    clear hi
    subst hi'
    have HE:=Lib.hid (show v = out by rw [← hz.out,← HO.out];rfl)
    have hBw:=HBr.out
    go_wp2_with fail
    exact bodyPost_ret (v:=.agg #[.int .i64 v.k,.int .i64 v.n,.string v.s]) (by first | (simp [results,Tryz.results84,go_sem];done) | (simp [results,Tryz.results84,go_sem, *];done)) rfl ⟨by rw [HE.out],bel⟩
   ·have hi':=hi.trans (congrArg (Value.int .i64) (by omega:((m + 1:Nat):Int) - 1 = (m:Int)))
    clear hi
    subst hi'
    obtain ⟨b,o,y,hFe,hbl,hl,hwf,x0,x1,x2,x3,x4,x5,x6⟩:=Fct_at (HF.out.1.now HBr.out) (show m < n1 by omega)
    subst hFe
    have hbl':b < wr.heap.size:=hbl
    have HL:=Lib.hid hl
    have hsn:sameName f.name y = (y.name.toList == f.name.toList):=rfl
    clear hl hwf hbl
    cases hp:(y.name.toList == f.name.toList)
    ·have HP:=Lib.hid (show inD f l1 m = v by rw [inD_miss HL.out (hsn.trans hp)];exact hz.out)
     clear hsn
     go_wp2_with fail
     go_quiet (fail)
     go_wp2_with fail
     go_roundw
     case rel => exact ⟨m,v,by omega,by go_num,HP,by go_simp,by go_simp,by go_simp,by go_simp,bel,by simp;omega⟩
     case measure => simp [intOf]
    ·have HP:=Lib.hid (show inD f l1 m = y.has from inD_hit HL.out (hsn.trans hp))
     clear hsn
     go_wp2_with fail
     go_quiet (fail)
     go_wp2_with fail
     go_roundw
     case rel => exact ⟨m,y.has,by omega,by go_num,HP,by go_simp,by go_simp,by go_simp,by go_simp,bel,by simp;omega⟩
     case measure => simp [intOf]
 ·have hkb:(f.kind == 1) = false:=by simpa using hk
  have ho:=fun w h h' => ref_ValueBy l3 A3 n3 c3 f.source X C w hn3 h h'
  have hsz:=evalRes_size l3 f.source
  have HH:=Lib.hid (And.intro hx (And.intro h2 h3))
  rw [show oneV f l1 l2 l3 = if f.kind = 3 then askV l2 f.name (evalRes l3 f.source).1 else (evalRes l3 f.source).1 by unfold oneV;rw [if_neg hk]]
  generalize evalRes l3 f.source = r at ho hsz
  obtain ⟨v,e0⟩:=r
  dsimp only at hsz
  by_cases hk3:f.kind = 3
  ·have hk3b:(f.kind == 3) = true:=by rw [hk3];rfl
   rw [if_pos hk3]
   have ha:=fun w h => ref_AskedOf A2 n2 c2 l2 f.name v w hn2 hsz h
   generalize askV l2 f.name v = u at ha
   clear hk hk3 hx h1 h2 h3 i1 i2 i3 hsz
   go_enter Tryz.func84,Tryz.ntmps84
   go_wp2_with (first
    | (go_at_call 77;refine (ho _ (HH.out.1.keep (old_keep bel)) (HH.out.2.2.now bel)).mono ?_;rintro e w1 ⟨rfl,hb1⟩;obtain ⟨hc1,hf1⟩:=bcell hb1;(try simp only [bqh,bqc,bqf] at hc1 hf1);have hz1:=hb1.size;(try simp at hz1);(try have hy1:=nl1 hz1);(try have hx1:=nl2 hy1);refine szz w1 w ?_;intros;dsimp only)
    | (go_at_call 145;refine (ha _ (HH.out.2.1.now bel)).mono ?_;rintro e w2 ⟨rfl,hb2⟩;obtain ⟨hc2,hf2⟩:=bcell hb2;(try simp only [bqh,bqc,bqf] at hc2 hf2);have hz2:=hb2.size;(try simp at hz2);(try have hy2:=nl1 hz2);(try have hx2:=nl2 hy2);refine szz w2 w ?_;intros;refine szz w2 w1 ?_;intros;dsimp only))
   exact bodyPost_ret (v:=.agg #[.int .i64 u.k,.int .i64 u.n,.string u.s]) (by first | (simp [results,Tryz.results84,go_sem];done) | (simp [results,Tryz.results84,go_sem, *];done)) rfl ⟨rfl,bel⟩
  ·have hk3b:(f.kind == 3) = false:=by simpa using hk3
   rw [if_neg hk3]
   clear hk hk3 hx h1 h2 h3 i1 i2 i3 hsz
   go_enter Tryz.func84,Tryz.ntmps84
   go_wp2_with (go_at_call 77;refine (ho _ (HH.out.1.keep (old_keep bel)) (HH.out.2.2.now bel)).mono ?_;rintro e w1 ⟨rfl,hb1⟩;obtain ⟨hc1,hf1⟩:=bcell hb1;(try simp only [bqh,bqc,bqf] at hc1 hf1);have hz1:=hb1.size;(try simp at hz1);(try have hy1:=nl1 hz1);(try have hx1:=nl2 hy1);refine szz w1 w ?_;intros;dsimp only)
   exact bodyPost_ret (v:=.agg #[.int .i64 v.k,.int .i64 v.n,.string v.s]) (by first | (simp [results,Tryz.results84,go_sem];done) | (simp [results,Tryz.results84,go_sem, *];done)) rfl ⟨rfl,bel⟩
end Go.Proofs.YtbhkpepinogigaaGreat
