/- The law DeltaRuns returns true for every input of bulk at most 1048576: delta.Run agrees with the reference. -/
import Derived.Test.YtbhkpepinogigaaGreatFrm
import Derived.Test.YtbhkpepinogigaaGreatDlt3
import Derived.Test.YtbhkpepinogigaaGreatSamf
namespace Go.Proofs.YtbhkpepinogigaaGreat
open Go.ChangeShapes Go.WideShapes Go.ChangeAt Go.RowKit

theorem deltaR_len {F:List Fld} {P:List Pag} {ins orc:List Fct} {V:List Val} {nm:ByteArray}:(deltaR F P ins orc V nm).1.length ≤ 14 ∧ (deltaR F P ins orc V nm).2.1.length ≤ 14:=by
 by_cases he:toldErr F P ins orc = 0
 ·cases ha:F.any (hasName nm)
  ·rw [deltaR_none he ha];exact ⟨Nat.zero_le _,Nat.zero_le _⟩
  ·by_cases hl:V.length = F.length
   ·by_cases hv:valsErr V = 0
    ·have h14:=(fieldsErr_all (rankR_zero (toldErr_ok he).1).1).1
     rw [deltaR_ok he ha hl hv]
     dsimp only
     exact ⟨by rw [dTo_len hl];exact h14,Nat.le_trans (dTo_seen _).1 h14⟩
    ·rw [deltaR_vals he ha hl hv];exact ⟨Nat.zero_le _,Nat.zero_le _⟩
   ·rw [deltaR_size he ha hl];exact ⟨Nat.zero_le _,Nat.zero_le _⟩
 ·rw [deltaR_told he];exact ⟨Nat.zero_le _,Nat.zero_le _⟩
set_option maxRecDepth 100000 in
set_option maxHeartbeats 4000000 in
theorem law_DeltaRuns (w:World) (cs:List Value) (f:Frm) (hf:RFrm w (old w) cs f) (A1:Option Addr) (n1 c1:Nat) (ins:List Fct) (hn1:inB 80 n1) (hc1:n1 ≤ c1) (hs1:Sl w (old w) 7 RFct A1 n1 ins)
  (A2:Option Addr) (n2 c2:Nat) (orc:List Fct) (hn2:inB 80 n2) (hc2:n2 ≤ c2) (hs2:Sl w (old w) 7 RFct A2 n2 orc) (Vb:Option Addr) (nv cv:Nat) (V:List Val) (hnv:inB 32 nv) (hcv:nv ≤ cv) (hV:Sl w (old w) 3 RVal Vb nv V)
  (nm:ByteArray) (_:inS nm) (hb:f.bulk ≤ 1048576)
  (_:(ins.map fun v:Fct => v.name.size + v.key.s.size + v.has.s.size + 1).sum + 1 ≤ 1048576) (_:(orc.map fun v:Fct => v.name.size + v.key.s.size + v.has.s.size + 1).sum + 1 ≤ 1048576) (_:(V.map fun v:Val => v.s.size + 1).sum + 1 ≤ 1048576) (_:nm.size + 1 ≤ 1048576) :
  Calls Tryz.prog 8 #[.agg cs.toArray,.slice A1 n1 c1,.slice A2 n2 c2,.slice Vb nv cv,.string nm] w fun e w' => e = .returned (.bool true) ∧ Below w.heap.size w w':=by
 obtain ⟨A,n,c,A3,n3,c3,rfl,hX,hO⟩:=hf.parts hb
 have hY:RIO w A1 n1 c1 ins A2 n2 c2 orc:=⟨hn1,hc1,hn2,hc2,hs1,hs2⟩
 have h1:=fun w h h' h'' => delta_Run A n c f.fields A3 n3 c3 f.pages A1 n1 c1 ins A2 n2 c2 orc Vb nv cv V nm w h hO h' hnv hcv h''
 have h2:=fun w h h' h'' => ref_DeltaOf A n c f.fields A3 n3 c3 f.pages A1 n1 c1 ins A2 n2 c2 orc Vb nv cv V nm w h hO h' hnv hcv h''
 have hll:=deltaR_len (F:=f.fields) (P:=f.pages) (ins:=ins) (orc:=orc) (V:=V) (nm:=nm)
 have HX:=Lib.hid (And.intro hX (And.intro hY hV))
 clear hX hO hY hV hn1 hc1 hs1 hn2 hc2 hs2 hb hnv hcv
 generalize deltaR f.fields f.pages ins orc V nm = r at *
 obtain ⟨l,m,er⟩:=r
 dsimp only at hll
 obtain ⟨hl1,hl2⟩:=hll
 go_enter Tryz.func8,Tryz.ntmps8
 go_wp2_with fail
 refine (h1 _ (HX.out.1.now bel) (HX.out.2.1.now bel) (HX.out.2.2.now bel)).mono ?_;rintro e w1 ⟨B1,d1,B2,d2,rfl,_,_,hq1,hq2,hb1⟩;dsimp only at *;obtain ⟨hc1,hf1⟩:=bcell hb1;(try simp only [bqh,bqc,bqf] at hc1 hf1);have hz1:=hb1.size;(try simp at hz1);(try have hy1:=nl1 hz1);(try have hx1:=nl2 hy1);refine szz w1 w ?_;intros
 have HS1:=Lib.hid (And.intro hq1 hq2)
 clear hq1 hq2
 go_wp2_with fail
 refine (h2 _ (HX.out.1.now bel) (HX.out.2.1.now bel) (HX.out.2.2.now bel)).mono ?_;rintro e w2 ⟨B3,d3,B4,d4,rfl,_,_,hq3,hq4,hb2⟩;dsimp only at *;obtain ⟨hc2,hf2⟩:=bcell hb2;(try simp only [bqh,bqc,bqf] at hc2 hf2);have hz2:=hb2.size;(try simp at hz2);(try have hy2:=nl1 hz2);(try have hx2:=nl2 hy2);refine szz w2 w ?_;intros;refine szz w2 w1 ?_;intros
 have HS2:=Lib.hid (And.intro hq3 hq4)
 clear hq3 hq4
 have hil:inL l.length:=by unfold inL;omega
 go_wp2_with fail
 refine (same_Values B1 _ d1 l B3 _ d3 l _ hil hil (HS1.out.1.now bel) (HS2.out.1.now bel)).mono ?_;rintro e w3 ⟨rfl,hb3⟩
 rw [decide_eq_true rfl]
 obtain ⟨hc3,hf3⟩:=bcell hb3;(try simp only [bqh,bqc,bqf] at hc3 hf3);have hz3:=hb3.size;(try simp at hz3);(try have hy3:=nl1 hz3);(try have hx3:=nl2 hy3);refine szz w3 w ?_;intros;refine szz w3 w1 ?_;intros;refine szz w3 w2 ?_;intros
 have hk1:Below w1.heap.size w1 w3:=bel
 have hk2:Below w2.heap.size w2 w3:=bel
 have HT:=Lib.hid (And.intro (HS1.out.2.keep (w':=w3) (R':=fun cs s => cs = [Value.string s]) (fun b hq => hk1.block b hq) (fun _ _ h => h.1)) (HS2.out.2.keep (w':=w3) (R':=fun cs s => cs = [Value.string s]) (fun b hq => hk2.block b hq) (fun _ _ h => h.1)))
 go_wp2_with (go_at_call 23;refine (same_Texts B2 B4 _ d2 _ d4 m _ _ _ (by omega) HT.out.1 HT.out.2).mono ?_;rintro e w4 ⟨rfl,k4,rfl⟩)
 go_ret
 exact ⟨rfl,bel⟩
set_option maxRecDepth 100000 in
theorem DeltaRunsUpto_lifted (os:Os) (started:os.Started) (H:Type) (enc:TypeId × Value → H) (FS:Stop.Interp) :
  ReturnsInHanded {} Tryz.checked os 8 .any ((Rows.OpenSpec.upto Rows.deltaRunsSpec).pre6 enc Tryz.checked.prog Tryz.f8 Rows.deltaRunsUptoRow.domain false) (((Rows.OpenSpec.upto Rows.deltaRunsSpec).at FS).post enc Tryz.checked.prog Tryz.f8 false true false false):=by
 refine law_lifted_upto (s:=Rows.deltaRunsSpec) (FS:=FS) started (by kernel_rfl) Tryz.func8 (by rw [Tryz.params8];exact of_decide_eq_true (by kernel_rfl)) rfl rfl
  (fun ds hl => by rw [show Tryz.f8.params.size = 5 from rfl] at hl;match ds,hl with | [d0,d1,d2,d3,d4],_ => rfl)
  (OpenSpec.witness (enc:=enc) (C:=Tryz.checked) (s:=Rows.OpenSpec.upto Rows.deltaRunsSpec) (k:=Rows.uptoSmall) rfl false ⟨#[],#[.agg #[.slice none 0 0,.slice none 0 0],.slice none 0 0,.slice none 0 0,.slice none 0 0,.string ByteArray.empty],[]⟩ 8 (by kernel_rfl) (by kernel_rfl) (by kernel_rfl) (x:=([.agg [.nil,.nil],.nil,.nil,.nil,.lit (.string [])],[],[])) (by kernel_rfl) rfl (by kernel_rfl)) ?_
 intro W b args ds p hA hval hsz hbulk
 rw [Tryz.params8] at hA hval hsz
 obtain ⟨v0,vs0,d0,ds0,p0,q0,hargs,rfl,rfl,h0,r0⟩:=trodAll_cons hA
 obtain ⟨v1,vs1,d1,ds1,p1,q1,rfl,rfl,rfl,h1,r1⟩:=trodAll_cons r0
 obtain ⟨v2,vs2,d2,ds2,p2,q2,rfl,rfl,rfl,h2,r2⟩:=trodAll_cons r1
 obtain ⟨v3,vs3,d3,ds3,p3,q3,rfl,rfl,rfl,h3,r3⟩:=trodAll_cons r2
 obtain ⟨v4,vs4,d4,ds4,p4,q4,rfl,rfl,rfl,h4,r4⟩:=trodAll_cons r3
 obtain ⟨rfl,rfl,rfl⟩:=trodAll_nil r4
 have hargs':args = #[v0,v1,v2,v3,v4]:=by apply Array.toList_inj.1;simpa using hargs
 subst hargs'
 have w0:=weightsEach_at _ _ hsz 0 _ _ rfl rfl
 obtain ⟨cs0,a0,rfl,s0,m0⟩:=arg_struct dec_Frm Tryz.underlying32 (hval 0 32 _ rfl rfl) h0 w0
 have w1:=weightsEach_at _ _ hsz 1 _ _ rfl rfl
 obtain ⟨A1,n1,c1,l1,rfl,i1,k1,s1,m1⟩:=arg_sl dec_Fcts Tryz.underlying42 (hval 1 42 _ rfl rfl) h1 w1
 have w2:=weightsEach_at _ _ hsz 2 _ _ rfl rfl
 obtain ⟨A2,n2,c2,l2,rfl,i2,k2,s2,m2⟩:=arg_sl dec_Fcts Tryz.underlying42 (hval 2 42 _ rfl rfl) h2 w2
 have w3:=weightsEach_at _ _ hsz 3 _ _ rfl rfl
 obtain ⟨A3,n3,c3,l3,rfl,i3,k3,s3,m3⟩:=arg_sl dec_Vals Tryz.underlying33 (hval 3 33 _ rfl rfl) h3 w3
 have w4:=weightsEach_at _ _ hsz 4 _ _ rfl rfl
 obtain ⟨a4,rfl,i4,m4⟩:=arg_str Tryz.underlying9 (hval 4 9 _ rfl rfl) h4 w4
 simp only [Rows.uptoBulkAll] at hbulk
 exact law_DeltaRuns W cs0 a0 s0 A1 n1 c1 l1 i1 k1 s1 A2 n2 c2 l2 i2 k2 s2 A3 n3 c3 l3 i3 k3 s3 a4 i4 (Nat.le_trans m0 (by omega)) (Nat.le_trans m1 (by omega)) (Nat.le_trans m2 (by omega)) (Nat.le_trans m3 (by omega)) (Nat.le_trans m4 (by omega))
theorem DeltaRunsUpto_holds:Rows.DeltaRunsUptoSaid :=
 OpenClaim.holds_of_cond 8 Tryz.f8 rfl rfl rfl rfl rfl rfl rfl ⟨rfl,rfl,rfl,rfl,rfl⟩ rfl rfl rfl rfl rfl (by kernel_rfl) Tryz.func8 (by kernel_rfl)
  (of_decide_eq_true (by kernel_rfl)) (by unfold Func.isWrapper;rw [if_neg (of_decide_eq_false (by kernel_rfl))];exact ⟨rfl,rfl⟩)
  (fun os started H enc _ FS => DeltaRunsUpto_lifted os started H enc FS)
end Go.Proofs.YtbhkpepinogigaaGreat
