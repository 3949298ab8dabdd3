/- Texts merged (mergeh.py): Rig FCk. -/
import Derived.Test.YtldhlpjjcnlbcaaGreatPrt3
import Derived.Test.YtldhlpjjcnlbcaaGreatPrt4
import Derived.Test.YtldhlpjjcnlbcaaGreatTypes
import Derived.Test.YtldhlpjjcnlbcaaGreatTy2
/- One field by itself: field.none and bare, field.Right and FieldFault. -/
set_option maxRecDepth 100000
set_option maxHeartbeats 8000000
namespace Go.Proofs.YtldhlpjjcnlbcaaGreat
open Go.RowKit
def bareB (op:Int)(v:Val)(name:ByteArray)(n:Nat):Bool:=op==0&&(name.toList.isEmpty&&(valEq v ⟨0,0,⟨#[]⟩⟩&&(n:Int)==0))
theorem zcq (op:Int)(v:Val)(name:ByteArray)(n:Nat) :
  ((op==0)=false/\bareB op v name n=false)\/((op==0)=true/\name.toList.isEmpty=false/\bareB op v name n=false) \/
  ((op==0)=true/\name.toList.isEmpty=true/\valEq v ⟨0,0,⟨#[]⟩⟩=false/\bareB op v name n=false) \/
  ((op==0)=true/\name.toList.isEmpty=true/\valEq v ⟨0,0,⟨#[]⟩⟩=true/\((n:Int)==0)=false/\bareB op v name n=false) \/
  ((op==0)=true/\name.toList.isEmpty=true/\valEq v ⟨0,0,⟨#[]⟩⟩=true/\((n:Int)==0)=true/\bareB op v name n=true):=by
 unfold bareB
 cases (op==0)<;>cases name.toList.isEmpty<;>cases valEq v ⟨0,0,⟨#[]⟩⟩<;>cases ((n:Int)==0)<;>simp
theorem field_none (op vk vn:Int)(vs name:ByteArray)(A:Option Addr)(n c:Nat)(w:World)(hn0:inL n) :
  Calls Tryz.prog 173 #[.agg #[.int .i64 op,.int .i64 vk,.int .i64 vn,.string vs,.string name,.slice A n c]] w (RetB w (bareB op ⟨vk,vn,vs⟩ name n)):=by
 have hn:n<=140737488351232:=hn0
 have hne:=fun w=>z1j w vk vn 0 0 vs ⟨#[]⟩
 rcases zcq op ⟨vk,vn,vs⟩ name n with ⟨z1,e⟩ | ⟨z1,z2,e⟩ | ⟨z1,z2,z3,e⟩ | ⟨z1,z2,z3,z4,e⟩ | ⟨z1,z2,z3,z4,e⟩
 all_goals
  rw[e]
  clear e
  try simp only[z3] at hne
  go_enter Tryz.func173,Tryz.ntmps173
  go_wp2_with fail
  go_ret
  exact⟨rfl,bel⟩
theorem ref_bare (op vk vn:Int)(vs name:ByteArray)(A:Option Addr)(n c:Nat)(w:World)(hn0:inL n) :
  Calls Tryz.prog 107 #[.agg #[.int .i64 op,.int .i64 vk,.int .i64 vn,.string vs,.string name,.slice A n c]] w (RetB w (bareB op ⟨vk,vn,vs⟩ name n)):=by
 have hn:n<=140737488351232:=hn0
 have hne:=fun w=>z1j w vk vn 0 0 vs ⟨#[]⟩
 rcases zcq op ⟨vk,vn,vs⟩ name n with ⟨z1,e⟩ | ⟨z1,z2,e⟩ | ⟨z1,z2,z3,e⟩ | ⟨z1,z2,z3,z4,e⟩ | ⟨z1,z2,z3,z4,e⟩
 all_goals
  rw[e]
  clear e
  try simp only[z3] at hne
  go_enter Tryz.func107,Tryz.ntmps107
  go_wp2_with fail
  go_ret
  exact⟨rfl,bel⟩
def fieldErr (f:Fld):Int:=if nameCheck f.name≠0 then nameCheck f.name else if f.kind<1\/3<f.kind\/f.type<1\/3<f.type then 2
 else if f.kind=1 then (if bareB f.source.op f.source.v f.source.name f.source.args.length then 0 else 3) else exprErr f.source
theorem z6t (f:Fld):((nameCheck f.name != 0)=true/\fieldErr f=nameCheck f.name)\/(nameCheck f.name=0/\f.kind<1/\fieldErr f=2)\/(nameCheck f.name=0/\¬ f.kind<1/\3<f.kind/\fieldErr f=2) \/
  (nameCheck f.name=0/\¬ f.kind<1/\¬ 3<f.kind/\f.type<1/\fieldErr f=2)\/(nameCheck f.name=0/\¬ f.kind<1/\¬ 3<f.kind/\¬ f.type<1/\3<f.type/\fieldErr f=2) \/
  (nameCheck f.name=0/\¬ f.kind<1/\¬ 3<f.kind/\¬ f.type<1/\¬ 3<f.type/\((f.kind==1)=true/\¬ 1<f.kind)/\bareB f.source.op f.source.v f.source.name f.source.args.length=true/\fieldErr f=0) \/
  (nameCheck f.name=0/\¬ f.kind<1/\¬ 3<f.kind/\¬ f.type<1/\¬ 3<f.type/\((f.kind==1)=true/\¬ 1<f.kind)/\bareB f.source.op f.source.v f.source.name f.source.args.length=false/\fieldErr f=3) \/
  (nameCheck f.name=0/\¬ f.kind<1/\¬ 3<f.kind/\¬ f.type<1/\¬ 3<f.type/\((f.kind==1)=false/\1<f.kind)/\True/\fieldErr f=exprErr f.source):=by
 unfold fieldErr
 by_cases h0:nameCheck f.name=0
 ·rw[if_neg (by simpa using h0)]
  by_cases h1:f.kind<1
  ·rw[if_pos (.inl h1)];simp[h0,h1]
  by_cases h2:3<f.kind
  ·rw[if_pos (.inr (.inl h2))];simp[h0,h1,h2]
  by_cases h3:f.type<1
  ·rw[if_pos (.inr (.inr (.inl h3)))];simp[h0,h1,h2,h3]
  by_cases h4:3<f.type
  ·rw[if_pos (.inr (.inr (.inr h4)))];simp[h0,h1,h2,h3,h4]
  rw[if_neg (by omega)]
  by_cases h5:f.kind=1
  ·rw[if_pos h5]
   cases bareB f.source.op f.source.v f.source.name f.source.args.length<;>simp[h0,h3,h4,h5]
  rw[if_neg h5]
  have:1<f.kind:=by omega
  simp[h0,h1,h2,h3,h4,h5,this]
 rw[if_pos h0];simp[h0]
theorem RFld.parts {w:World}{S:Nat -> Prop}{f:Fld}{X:Option Addr}{C:Nat}
  (h:RFld w S [.string f.name,.int .i64 f.kind,.int .i64 f.type,.int .i64 f.source.op,.int .i64 f.source.v.k,.int .i64 f.source.v.n,.string f.source.v.s,.string f.source.name,.slice X f.source.args.length C] f) :
  inS f.name/\inI f.kind/\inI f.type/\XRep w S [.int .i64 f.source.op,.int .i64 f.source.v.k,.int .i64 f.source.v.n,.string f.source.v.s,.string f.source.name,.slice X f.source.args.length C] f.source:=by
 obtain⟨h1,h2,h3,xs,e,hx⟩:=h
 simp only[List.cons.injEq,true_and] at e
 rw[<-e] at hx
 exact⟨h1,h2,h3,hx⟩
theorem field_Right (f:Fld)(X:Option Addr)(C:Nat)(w:World)(hf:RFld w (old w) [.string f.name,.int .i64 f.kind,.int .i64 f.type,.int .i64 f.source.op,.int .i64 f.source.v.k,.int .i64 f.source.v.n,.string f.source.v.s,.string f.source.name,.slice X f.source.args.length C] f) :
  Calls Tryz.prog 131 #[.agg #[.string f.name,.int .i64 f.kind,.int .i64 f.type,.int .i64 f.source.op,.int .i64 f.source.v.k,.int .i64 f.source.v.n,.string f.source.v.s,.string f.source.name,.slice X f.source.args.length C]] w (RetI w (fieldErr f)):=by
 obtain⟨r1,r2,r3,r4⟩:=hf.parts
 have hlx:=fun w=>zdu f.name w (z0s r1)
 have hal:=r4.kids.2.2.2.1.l (by decide)
 have hbr:=fun w=>field_none f.source.op f.source.v.k f.source.v.n f.source.v.s f.source.name X f.source.args.length C w hal
 rw[show (⟨f.source.v.k,f.source.v.n,f.source.v.s⟩:Val)=f.source.v from rfl] at hbr
 have hck:=fun w h=>z46 f.source X C w h
 have HX:=zh r4
 clear hf r1 r2 r3 r4 hal
 rcases z6t f with ⟨z,e⟩ | ⟨z,z1,e⟩ | ⟨z,z1,z2,e⟩ | ⟨z,z1,z2,z3,e⟩ | ⟨z,z1,z2,z3,z4,e⟩ | ⟨z,z1,z2,z3,z4,⟨z5,z6⟩,z7,e⟩ | ⟨z,z1,z2,z3,z4,⟨z5,z6⟩,z7,e⟩ | ⟨z,z1,z2,z3,z4,⟨z5,z6⟩,z7,e⟩
 all_goals
  rw[e]
  clear e
  try (simp only[z] at hlx;clear z)
  try simp only[z7] at hbr
  try generalize nameCheck f.name=nc at hlx z ⊢
  try generalize exprErr f.source=ec at hck ⊢
  try clear z7
 all_goals
  go_enter Tryz.func131,Tryz.ntmps131
  go_wp2_with (first | (go_at_call 95;refine (hlx _).mono ?_;rintro e w1 ⟨rfl,rfl⟩) | (go_at_call 173;refine (hbr _).mono ?_;rintro e w2 ⟨rfl,hb2⟩) | (go_at_call 118;refine (hck _ (HX.out.keep (z05 bel))).mono ?_;rintro e w2 ⟨rfl,hb2⟩))
  go_ret
  exact⟨rfl,bel⟩
theorem zch (f:Fld)(X:Option Addr)(C:Nat)(w:World)(hf:RFld w (old w) [.string f.name,.int .i64 f.kind,.int .i64 f.type,.int .i64 f.source.op,.int .i64 f.source.v.k,.int .i64 f.source.v.n,.string f.source.v.s,.string f.source.name,.slice X f.source.args.length C] f) :
  Calls Tryz.prog 147 #[.agg #[.string f.name,.int .i64 f.kind,.int .i64 f.type,.int .i64 f.source.op,.int .i64 f.source.v.k,.int .i64 f.source.v.n,.string f.source.v.s,.string f.source.name,.slice X f.source.args.length C]] w (RetI w (fieldErr f)):=by
 obtain⟨r1,r2,r3,r4⟩:=hf.parts
 have hlx:=fun w=>z8f f.name w (z0s r1)
 have hal:=r4.kids.2.2.2.1.l (by decide)
 have hbr:=fun w=>ref_bare f.source.op f.source.v.k f.source.v.n f.source.v.s f.source.name X f.source.args.length C w hal
 rw[show (⟨f.source.v.k,f.source.v.n,f.source.v.s⟩:Val)=f.source.v from rfl] at hbr
 have hck:=fun w h=>z33 f.source X C w h
 have HX:=zh r4
 clear hf r1 r2 r3 r4 hal
 rcases z6t f with ⟨z,e⟩ | ⟨z,z1,e⟩ | ⟨z,z1,z2,e⟩ | ⟨z,z1,z2,z3,e⟩ | ⟨z,z1,z2,z3,z4,e⟩ | ⟨z,z1,z2,z3,z4,⟨z5,z6⟩,z7,e⟩ | ⟨z,z1,z2,z3,z4,⟨z5,z6⟩,z7,e⟩ | ⟨z,z1,z2,z3,z4,⟨z5,z6⟩,z7,e⟩
 all_goals
  rw[e]
  clear e
  try (simp only[z] at hlx;clear z)
  try simp only[z7] at hbr
  try generalize nameCheck f.name=nc at hlx z ⊢
  try generalize exprErr f.source=ec at hck ⊢
  try clear z7
 all_goals
  go_enter Tryz.func147,Tryz.ntmps147
  go_wp2_with (first | (go_at_call 105;refine (hlx _).mono ?_;rintro e w1 ⟨rfl,hb1⟩;refine zb hb1 ?_;rintro ⟨hc1,hf1⟩ hz1 hy1 hx1;refine szz w1 w ?_;intros;) | (go_at_call 107;refine (hbr _).mono ?_;rintro e w2 ⟨rfl,hb2⟩) | (go_at_call 126;refine (hck _ (HX.out.keep (z05 bel))).mono ?_;rintro e w2 ⟨rfl,hb2⟩))
  go_ret
  exact⟨rfl,bel⟩
open Go.RowKit
def fe1 (l:List Fld)(k:Nat):Int:=match l[k]? with
 | some f=>if fieldErr f≠0 then fieldErr f else if (l.take k).any (z0a f.name) then 6 else 0
 | none=>0
def tyErr (l:List Fld)(f:Fld):Int:=if f.kind=2 then fitErr l f.source f.type else if f.kind=3 then (tyRes l f.source).2 else 0
def fe2 (l:List Fld)(k:Nat):Int:=match l[k]? with
 | some f=>tyErr l f
 | none=>0
def fieldsErr (l:List Fld):Int:=if 14<l.length then 1 else if z0g (fe1 l) l.length≠0 then z0g (fe1 l) l.length else z0g (fe2 l) l.length
theorem z9r {l:List Fld}{k:Nat}(h0:¬ 14<l.length)(h:z0g (fe1 l) k=0)(hk:fe1 l k≠0)(hl:k<l.length):fieldsErr l=fe1 l k:=by
 unfold fieldsErr
 rw[if_neg h0,z0j h hk _ hl,if_pos hk]
theorem fieldsErr_2 {l:List Fld}{k:Nat}(h0:¬ 14<l.length)(h1:z0g (fe1 l) l.length=0)(h:z0g (fe2 l) k=0)(hk:fe2 l k≠0)(hl:k<l.length):fieldsErr l=fe2 l k:=by
 unfold fieldsErr
 rw[if_neg h0,if_neg (by simpa using h1),z0j h hk _ hl]
theorem fieldsErr_3 {l:List Fld}(h0:¬ 14<l.length)(h1:z0g (fe1 l) l.length=0)(h:z0g (fe2 l) l.length=0):fieldsErr l=0:=by
 unfold fieldsErr
 rw[if_neg h0,if_neg (by simpa using h1),h]
theorem fieldErr_kind {f:Fld}(h:fieldErr f=0):1<=f.kind/\f.kind<=3:=by
 rcases z6t f with ⟨z,e⟩ | ⟨z,z1,e⟩ | ⟨z,z1,z2,e⟩ | ⟨z,z1,z2,z3,e⟩ | ⟨z,z1,z2,z3,z4,e⟩ | ⟨z,z1,z2,z3,z4,⟨z5,z6⟩,z7,e⟩ | ⟨z,z1,z2,z3,z4,⟨z5,z6⟩,z7,e⟩ | ⟨z,z1,z2,z3,z4,⟨z5,z6⟩,z7,e⟩
 ·rw[h] at e;simp[<-e] at z
 all_goals first | (rw[h] at e;cases e;done) | omega
theorem fe1_kind {l:List Fld}{k:Nat}{f:Fld}(h:fe1 l k=0)(hf:l[k]?=some f):1<=f.kind/\f.kind<=3:=by
 unfold fe1 at h
 rw[hf] at h
 have h':(if fieldErr f≠0 then fieldErr f else if (l.take k).any (z0a f.name)=true then 6 else 0)=0:=h
 by_cases h0:fieldErr f=0
 ·exact fieldErr_kind h0
 rw[if_pos h0] at h';exact absurd h' h0
theorem fe1_some {l:List Fld}{k:Nat}{f:Fld}(hf:l[k]?=some f):(fieldErr f≠0/\fe1 l k=fieldErr f)\/(fieldErr f=0/\(l.take k).any (z0a f.name)=true/\fe1 l k=6)\/(fieldErr f=0/\(l.take k).any (z0a f.name)=false/\fe1 l k=0):=by
 have e:fe1 l k=if fieldErr f≠0 then fieldErr f else if (l.take k).any (z0a f.name)=true then 6 else 0:=by unfold fe1;rw[hf]
 rw[e]
 by_cases h:fieldErr f=0
 ·rw[if_neg (by simpa using h)]
  cases h2:(l.take k).any (z0a f.name)
  ·exact .inr (.inr ⟨h,rfl,rfl⟩)
  exact .inr (.inl ⟨h,rfl,rfl⟩)
 rw[if_pos h];exact .inl ⟨h,rfl⟩
theorem fe2_some {l:List Fld}{k:Nat}{f:Fld}(hf:l[k]?=some f):fe2 l k=tyErr l f:=by
 unfold fe2;rw[hf]
theorem field_typed (l:List Fld)(L:Option Addr)(n d:Nat)(f:Fld)(X:Option Addr)(C:Nat)(w:World)(hn:inB 112 n)
  (hf:RFld w (old w) [.string f.name,.int .i64 f.kind,.int .i64 f.type,.int .i64 f.source.op,.int .i64 f.source.v.k,.int .i64 f.source.v.n,.string f.source.v.s,.string f.source.name,.slice X f.source.args.length C] f)(hl:Sl w (old w) 9 (RFld w (old w)) L n l) :
  Calls Tryz.prog 132 #[.agg #[.string f.name,.int .i64 f.kind,.int .i64 f.type,.int .i64 f.source.op,.int .i64 f.source.v.k,.int .i64 f.source.v.n,.string f.source.v.s,.string f.source.name,.slice X f.source.args.length C],.slice L n d] w (RetI w (tyErr l f)):=by
 obtain⟨r1,r2,r3,r4⟩:=hf.parts
 have hof:=fun w h h'=>zeq l L n d f.source X C w hn h h'
 have hft:=fun w h h'=>zdf l L n d f.source X C f.type w hn h h'
 have HX:=zh (ai r4 hl)
 clear hf hl r1 r2 r3 r4
 unfold tyErr
 by_cases h2:f.kind=2
 ·rw[if_pos h2]
  generalize fitErr l f.source f.type=ex at hft ⊢
  clear hof
  go_enter Tryz.func132,Tryz.ntmps132
  go_wp2_with (go_at_call 99;refine (hft _ (HX.out.1.keep (z05 bel)) (HX.out.2.nowN z02 bel)).mono ?_;rintro e w1 ⟨rfl,hb1⟩;refine zb hb1 ?_;rintro ⟨hc1,hf1⟩ hz1 hy1 hx1;refine szz w1 w ?_;intros)
  go_ret
  exact⟨rfl,bel⟩
 rw[if_neg h2]
 have h2':(f.kind==2)=false:=by simpa using h2
 by_cases h3:f.kind=3
 ·rw[if_pos h3]
  generalize tyRes l f.source=r at hof ⊢
  obtain⟨t,e⟩:=r
  clear hft h2
  go_enter Tryz.func132,Tryz.ntmps132
  go_wp2_with (go_at_call 146;refine (hof _ (HX.out.1.keep (z05 bel)) (HX.out.2.nowN z02 bel)).mono ?_;rintro e w1 ⟨rfl,hb1⟩;refine zb hb1 ?_;rintro ⟨hc1,hf1⟩ hz1 hy1 hx1;refine szz w1 w ?_;intros;dsimp only)
  go_ret
  exact⟨rfl,bel⟩
 rw[if_neg h3]
 have h3':(f.kind==3)=false:=by simpa using h3
 clear hft hof h2 h3
 go_enter Tryz.func132,Tryz.ntmps132
 go_wp2_with fail
 go_ret
 exact⟨rfl,bel⟩
theorem field_Check (l:List Fld)(L:Option Addr)(n d:Nat)(w:World)(hn:inB 112 n)(hnd:n<=d)(hl:Sl w (old w) 9 (RFld w (old w)) L n l) :
  Calls Tryz.prog 89 #[.slice L n d] w (RetI w (fieldsErr l)):=by
 have hll:=hl.len
 have HH:=zh (ai hl hn)
 have hn':n<=140737488351232:=hn.l (by decide)
 clear hl hn
 by_cases h14:14<n
 ·have hr:fieldsErr l=1:=by unfold fieldsErr;rw[if_pos (by omega)]
  rw[hr]
  have h14':(14:Int)<n:=by omega
  clear hr hll
  go_enter Tryz.func89,Tryz.ntmps89
  go_wp2_with fail
  go_ret
  exact⟨rfl,bel⟩
 have HL:=zh (ai hll (show ¬ 14<l.length by omega))
 have h14':¬ (14:Int)<n:=by omega
 clear hll
 go_enter Tryz.func89,Tryz.ntmps89
 go_wp2_with fail
 go_loopw [16] (fun i wr=>∃ k:Nat,k<=n/\i=.int .i64 k/\Hid (z0g (fe1 l) k=0)/\Below w.heap.size w wr) (fun i _=>n-(intOf i).toNat)
 case atStart=>exact⟨0,by omega,rfl,zh rfl,Below.refl _ _⟩
 case round =>
  obtain⟨k,hk,rfl,hz,hbr⟩:=hrel
  by_cases hlt:k<n
  ·obtain⟨b,o,f,X,C,hAe,hbl,hl,hrep,x0,x1,x2,x3,x4,x5,x6,x7,x8⟩:=z25 (HH.out.1.nowN z02 hbr) hlt
   subst hAe
   have hbl':b<wr.heap.size:=hbl
   have hri:=fun w h=>field_Right f X C w h
   have hfi:=fun w h=>z39 (some ⟨b,o,none⟩) k d (l.take k) f.name w (by unfold inL;omega) h
   have HO:=zh (ai hrep hl)
   have HT:=zh ((HH.out.1.nowN z02 hbr).take' (Nat.le_of_lt hlt))
   have hkd:k<=d:=by omega
   have hkn:k<=n:=hk
   clear hrep hbl
   rcases fe1_some hl with ⟨q1,qe⟩ | ⟨q1,q2,qe⟩ | ⟨q1,q2,qe⟩
   ·have HR:=zh ((z9r HL.out.2 hz.out (by rw[qe];exact q1) (by rw[HL.out.1];exact hlt)).trans qe)
    have q1':(fieldErr f != 0)=true:=by simpa using q1
    clear q1 qe hl hfi
    generalize fieldErr f=ex at hri q1' HR
    go_wp2_with (go_at_call 131;refine (hri _ (RFld.keep HO.out.1 (z05 bel))).mono ?_;rintro e w1 ⟨rfl,hb1⟩;refine zb hb1 ?_;rintro ⟨hc1,hf1⟩ hz1 hy1 hx1;refine szz w1 w ?_;intros;refine szz w1 wr ?_;intros)
    go_ret
    rw[HR.out]
    exact⟨rfl,bel⟩
   ·have HR:=zh ((z9r HL.out.2 hz.out (by rw[qe];decide) (by rw[HL.out.1];exact hlt)).trans qe)
    simp only[q1] at hri
    simp only[z1w,q2,if_true] at hfi
    clear q1 qe hl q2
    go_wp2_with (go_at_call 131;refine (hri _ (RFld.keep HO.out.1 (z05 bel))).mono ?_;rintro e w1 ⟨rfl,hb1⟩;refine zb hb1 ?_;rintro ⟨hc1,hf1⟩ hz1 hy1 hx1;refine szz w1 w ?_;intros;refine szz w1 wr ?_;intros)
    have hB1:Below wr.heap.size wr w1:=bel
    have hB1d:Below wr.heap.size wr w1.drew:=bel
    have nn1:wr.heap.size<w1.heap.size:=by have:=hb1.size;simp at this;omega
    go_region_law (go_simp;go_at_call 51;refine (hfi _ (HT.out.nowN z02 hB1d)).mono ?_;rintro e w2 ⟨rfl,hb2⟩;dsimp only)
    all_goals
     have hB2:Below w.heap.size w w2:=z01 (z01 hbr hB1d hbr.size) hb2 (Nat.le_trans hbr.size hB1.size)
     go_wp2_with fail
     go_ret
     rw[HR.out]
     exact⟨rfl,hB2⟩
   have HZ:=zh (z0i hz.out qe)
   simp only[q1] at hri
   simp only[z1w,q2,Bool.false_eq_true,if_false] at hfi
   clear q1 qe hl q2
   go_wp2_with (go_at_call 131;refine (hri _ (RFld.keep HO.out.1 (z05 bel))).mono ?_;rintro e w1 ⟨rfl,hb1⟩;refine zb hb1 ?_;rintro ⟨hc1,hf1⟩ hz1 hy1 hx1;refine szz w1 w ?_;intros;refine szz w1 wr ?_;intros)
   have hB1:Below wr.heap.size wr w1:=bel
   have hB1d:Below wr.heap.size wr w1.drew:=bel
   have nn1:wr.heap.size<w1.heap.size:=by have:=hb1.size;simp at this;omega
   go_region_law (go_simp;go_at_call 51;refine (hfi _ (HT.out.nowN z02 hB1d)).mono ?_;rintro e w2 ⟨rfl,hb2⟩;dsimp only)
   all_goals
    have hB2:Below w.heap.size w w2:=z01 (z01 hbr hB1d hbr.size) hb2 (Nat.le_trans hbr.size hB1.size)
    go_wp2_with fail
    go_roundw
    case rel=>exact⟨k+1,by omega,by go_num,HZ,hB2⟩
    case measure=>simp[intOf];omega
  have hkn:k=n:=by omega
  subst hkn
  have HZ1:=zh (show z0g (fe1 l) l.length=0 by rw[HL.out.1];exact hz.out)
  clear hz
  go_wp2_with fail
  generalize hwq:wr=wq at *
  clear hwq
  go_loopw [40] (fun i wr=>∃ j:Nat,j<=k/\i=.int .i64 j/\Hid (z0g (fe2 l) j=0)/\Below w.heap.size w wr) (fun i _=>k-(intOf i).toNat)
  case atStart=>exact⟨0,by omega,rfl,zh rfl,hbr⟩
  case round =>
   obtain⟨j,hj,rfl,hz,hbr⟩:=hrel
   by_cases hlt:j<k
   ·obtain⟨b,o,f,X,C,hAe,hbl,hl,hrep,x0,x1,x2,x3,x4,x5,x6,x7,x8⟩:=z25 (HH.out.1.nowN z02 hbr) hlt
    subst hAe
    have hbl':b<wr.heap.size:=hbl
    have hti:=fun w h h'=>field_typed l (some ⟨b,o,none⟩) k d f X C w HH.out.2 h h'
    have HO:=zh (ai hrep hl)
    have HS:=zh (HH.out.1.nowN z02 hbr)
    clear hrep hbl
    have he2:=fe2_some hl
    by_cases hq:tyErr l f=0
    ·have HZ:=zh (z0i hz.out (he2.trans hq))
     simp only[hq] at hti
     clear hq he2 hl
     go_wp2_with (go_at_call 132;refine (hti _ (RFld.keep HO.out.1 (z05 bel)) (HS.out.nowN z02 bel)).mono ?_;rintro e w1 ⟨rfl,hb1⟩)
     go_roundw
     case rel=>exact⟨j+1,by omega,by go_num,HZ,bel⟩
     case measure=>simp[intOf];omega
    have HR:=zh ((fieldsErr_2 HL.out.2 HZ1.out hz.out (by rw[he2];exact hq) (by rw[HL.out.1];exact hlt)).trans he2)
    have hq':(tyErr l f != 0)=true:=by simpa using hq
    clear hq he2 hl
    generalize tyErr l f=ex at hti hq' HR
    go_wp2_with (go_at_call 132;refine (hti _ (RFld.keep HO.out.1 (z05 bel)) (HS.out.nowN z02 bel)).mono ?_;rintro e w1 ⟨rfl,hb1⟩)
    go_ret
    rw[HR.out]
    exact⟨rfl,bel⟩
   have hjk:j=k:=by omega
   subst hjk
   have HR:=zh (fieldsErr_3 HL.out.2 HZ1.out (by rw[HL.out.1];exact hz.out))
   go_wp2_with fail
   go_ret
   rw[HR.out]
   exact⟨rfl,hbr⟩
theorem z74 {α:Type}(p:α->Bool):∀ (l:List α)(k:Nat),firstAt p l<k\/(l.take k).any p=false
 | [],k=>.inr (by simp)
 | a::l,0=>.inr (by simp)
 | a::l,k+1=>by
  unfold firstAt
  cases hp:p a
  ·rcases z74 p l k with h | h
   ·left;simp;omega
   right;simp only[List.take_succ_cons,List.any_cons,hp,h];rfl
  left;simp
theorem z9t {α:Type}(p:α->Bool):∀ (l:List α)(k:Nat),(l.take k).any p=false->k<=l.length->k<=firstAt p l
 | [],k,_,h=>by simp at h;omega
 | a::l,0,_,_=>Nat.zero_le _
 | a::l,k+1,h,hl=>by
  simp only[List.take_succ_cons,List.any_cons,Bool.or_eq_false_iff] at h
  unfold firstAt
  rw[h.1]
  have:=z9t p l k h.2 (by simpa using hl)
  simp
  omega
theorem zba (l:List Fld)(L:Option Addr)(n d:Nat)(w:World)(hn:inB 112 n)(hl:Sl w (old w) 9 (RFld w (old w)) L n l) :
  Calls Tryz.prog 102 #[.slice L n d] w (RetI w (fieldsErr l)):=by
 have hll:=hl.len
 have HH:=zh (ai hl hn)
 have hn':n<=140737488351232:=hn.l (by decide)
 clear hl hn
 by_cases h14:14<n
 ·have hr:fieldsErr l=1:=by unfold fieldsErr;rw[if_pos (by omega)]
  rw[hr]
  have h14':(14:Int)<n:=by omega
  clear hr hll
  go_enter Tryz.func102,Tryz.ntmps102
  go_wp2_with fail
  go_ret
  exact⟨rfl,bel⟩
 have HL:=zh (ai hll (show ¬ 14<l.length by omega))
 have h14':¬ (14:Int)<n:=by omega
 clear hll
 go_enter Tryz.func102,Tryz.ntmps102
 go_wp2_with fail
 go_loopw [15] (fun i wr=>∃ k:Nat,k<=n/\i=.int .i64 k/\Hid (z0g (fe1 l) k=0)/\Below w.heap.size w wr) (fun i _=>n-(intOf i).toNat)
 case atStart=>exact⟨0,by omega,rfl,zh rfl,Below.refl _ _⟩
 case round =>
  obtain⟨k,hk,rfl,hz,hbr⟩:=hrel
  by_cases hlt:k<n
  ·obtain⟨b,o,f,X,C,hAe,hbl,hl,hrep,x0,x1,x2,x3,x4,x5,x6,x7,x8⟩:=z25 (HH.out.1.nowN z02 hbr) hlt
   subst hAe
   have hbl':b<wr.heap.size:=hbl
   have hri:=fun w h=>zch f X C w h
   have hfi:=fun w h=>z2n (some ⟨b,o,none⟩) n d l f.name w hn' h
   have HO:=zh (ai hrep hl)
   have HT:=zh (HH.out.1.nowN z02 hbr)
   have ht1:=z74 (z0a f.name) l k
   have ht2:=z9t (z0a f.name) l k
   clear hrep hbl
   rcases fe1_some hl with ⟨q1,qe⟩ | ⟨q1,q2,qe⟩ | ⟨q1,q2,qe⟩
   ·have HR:=zh ((z9r HL.out.2 hz.out (by rw[qe];exact q1) (by rw[HL.out.1];exact hlt)).trans qe)
    have q1':(fieldErr f != 0)=true:=by simpa using q1
    clear q1 qe hl hfi ht1 ht2
    generalize fieldErr f=ex at hri q1' HR
    go_wp2_with (go_at_call 147;refine (hri _ (RFld.keep HO.out.1 (z05 bel))).mono ?_;rintro e w1 ⟨rfl,hb1⟩;refine zb hb1 ?_;rintro ⟨hc1,hf1⟩ hz1 hy1 hx1;refine szz w1 w ?_;intros;refine szz w1 wr ?_;intros)
    go_ret
    rw[HR.out]
    exact⟨rfl,bel⟩
   ·have HR:=zh ((z9r HL.out.2 hz.out (by rw[qe];decide) (by rw[HL.out.1];exact hlt)).trans qe)
    simp only[q1] at hri
    have hlt':(firstAt (z0a f.name) l:Int)<(k:Int):=by rcases ht1 with h | h;omega;rw[q2] at h;cases h
    generalize firstAt (z0a f.name) l=fa at hfi hlt'
    clear q1 qe hl q2 ht1 ht2
    have nn0:wr.heap.size<wr.heap.size+1:=by omega
    go_wp2_with (first | (go_at_call 147;refine (hri _ (RFld.keep HO.out.1 (z05 bel))).mono ?_;rintro e w1 ⟨rfl,hb1⟩;refine zb hb1 ?_;rintro ⟨hc1,hf1⟩ hz1 hy1 hx1;refine szz w1 w ?_;intros;refine szz w1 wr ?_;intros) | (go_at_call 53;refine (hfi _ (HT.out.nowN z02 bel)).mono ?_;rintro e w2 ⟨rfl,hb2⟩;refine zb hb2 ?_;rintro ⟨hc2,hf2⟩ hz2 hy2 hx2;refine szz w2 w ?_;intros;refine szz w2 wr ?_;intros;refine szz w2 w1 ?_;intros))
    go_ret
    rw[HR.out]
    exact⟨rfl,bel⟩
   have HZ:=zh (z0i hz.out qe)
   simp only[q1] at hri
   have hlt':¬ (firstAt (z0a f.name) l:Int)<(k:Int):=by have:=ht2 q2 (by rw[HL.out.1];omega);omega
   generalize firstAt (z0a f.name) l=fa at hfi hlt'
   clear q1 qe hl q2 ht1 ht2
   go_wp2_with (first | (go_at_call 147;refine (hri _ (RFld.keep HO.out.1 (z05 bel))).mono ?_;rintro e w1 ⟨rfl,hb1⟩;refine zb hb1 ?_;rintro ⟨hc1,hf1⟩ hz1 hy1 hx1;refine szz w1 w ?_;intros;refine szz w1 wr ?_;intros) | (go_at_call 53;refine (hfi _ (HT.out.nowN z02 bel)).mono ?_;rintro e w2 ⟨rfl,hb2⟩;refine zb hb2 ?_;rintro ⟨hc2,hf2⟩ hz2 hy2 hx2;refine szz w2 w ?_;intros;refine szz w2 wr ?_;intros;refine szz w2 w1 ?_;intros))
   go_roundw
   case rel=>exact⟨k+1,by omega,by go_num,HZ,bel⟩
   case measure=>simp[intOf];omega
  have hkn:k=n:=by omega
  subst hkn
  have HZ1:=zh (show z0g (fe1 l) l.length=0 by rw[HL.out.1];exact hz.out)
  clear hz
  go_wp2_with fail
  generalize hwq:wr=wq at *
  clear hwq
  go_loopw [34] (fun i wr=>∃ j:Nat,j<=k/\i=.int .i64 j/\Hid (z0g (fe2 l) j=0)/\Below w.heap.size w wr) (fun i _=>k-(intOf i).toNat)
  case atStart=>exact⟨0,by omega,rfl,zh rfl,hbr⟩
  case round =>
   obtain⟨j,hj,rfl,hz,hbr⟩:=hrel
   by_cases hlt:j<k
   ·obtain⟨b,o,f,X,C,hAe,hbl,hl,hrep,x0,x1,x2,x3,x4,x5,x6,x7,x8⟩:=z25 (HH.out.1.nowN z02 hbr) hlt
    subst hAe
    have hbl':b<wr.heap.size:=hbl
    have hti:=fun w h h'=>zbv l (some ⟨b,o,none⟩) k d f.source X C w HH.out.2 h h'
    have HO:=zh (ai hrep.parts.2.2.2 hl)
    have HS:=zh (HH.out.1.nowN z02 hbr)
    have hkd:=fe1_kind (z1n HZ1.out j (by rw[HL.out.1];exact hlt)) hl
    clear hrep hbl
    have he2:=fe2_some hl
    have hzz:=fun h=>z0i hz.out (he2.trans h)
    have hrr:=fun h=>(fieldsErr_2 HL.out.2 HZ1.out hz.out (k:=j) (by rw[he2];exact h) (by rw[HL.out.1];exact hlt)).trans he2
    rcases (by omega:f.kind=1\/f.kind=2\/f.kind=3) with hk1 | hk1 | hk1
    ·have ht:tyErr l f=0:=by unfold tyErr;rw[if_neg (by omega),if_neg (by omega)]
     have HZ:=zh (hzz ht)
     clear hti hl he2 hzz hrr ht hkd
     go_wp2_with fail
     go_roundw
     case rel=>exact⟨j+1,by omega,by go_num,HZ,bel⟩
     case measure=>simp[intOf];omega
    ·have ht:tyErr l f=fitErr l f.source f.type:=by unfold tyErr;rw[if_pos hk1]
     obtain⟨⟨t,e⟩,hr⟩:∃ r,tyRes l f.source=r:=⟨_,rfl⟩
     rw[hr] at hti
     have hc:=zay l f.source f.type t e hr
     rw[<-ht] at hc
     clear hr hl he2 hkd ht
     rcases hc with ⟨z1,z2,ze⟩ | ⟨rfl,z2,ze⟩ | ⟨rfl,z2,ze⟩
     ·have HR:=zh ((hrr (by rw[ze];simpa using z1)).trans ze)
      clear hrr hzz ze
      go_wp2_with (go_at_call 148;refine (hti _ (HO.out.1.keep (z05 bel)) (HS.out.nowN z02 bel)).mono ?_;rintro e w1 ⟨rfl,hb1⟩;refine zb hb1 ?_;rintro ⟨hc1,hf1⟩ hz1 hy1 hx1;refine szz w1 w ?_;intros;refine szz w1 wr ?_;intros;dsimp only)
      go_ret
      rw[HR.out]
      exact⟨rfl,bel⟩
     ·have HR:=zh ((hrr (by rw[ze];decide)).trans ze)
      clear hrr hzz ze
      go_wp2_with (go_at_call 148;refine (hti _ (HO.out.1.keep (z05 bel)) (HS.out.nowN z02 bel)).mono ?_;rintro e w1 ⟨rfl,hb1⟩;refine zb hb1 ?_;rintro ⟨hc1,hf1⟩ hz1 hy1 hx1;refine szz w1 w ?_;intros;refine szz w1 wr ?_;intros;dsimp only)
      go_ret
      rw[HR.out]
      exact⟨rfl,bel⟩
     have HZ:=zh (hzz ze)
     clear hrr hzz ze
     go_wp2_with (go_at_call 148;refine (hti _ (HO.out.1.keep (z05 bel)) (HS.out.nowN z02 bel)).mono ?_;rintro e w1 ⟨rfl,hb1⟩;refine zb hb1 ?_;rintro ⟨hc1,hf1⟩ hz1 hy1 hx1;refine szz w1 w ?_;intros;refine szz w1 wr ?_;intros;dsimp only)
     go_roundw
     case rel=>exact⟨j+1,by omega,by go_num,HZ,bel⟩
     case measure=>simp[intOf];omega
    obtain⟨⟨t,e⟩,hr⟩:∃ r,tyRes l f.source=r:=⟨_,rfl⟩
    have ht:tyErr l f=e:=by unfold tyErr;rw[if_neg (by omega),if_pos hk1,hr]
    rw[hr] at hti
    clear hr hl he2 hkd
    by_cases h0:e=0
    ·have HZ:=zh (hzz (ht.trans h0))
     subst h0
     clear hrr hzz ht
     go_wp2_with (go_at_call 148;refine (hti _ (HO.out.1.keep (z05 bel)) (HS.out.nowN z02 bel)).mono ?_;rintro e w1 ⟨rfl,hb1⟩;refine zb hb1 ?_;rintro ⟨hc1,hf1⟩ hz1 hy1 hx1;refine szz w1 w ?_;intros;refine szz w1 wr ?_;intros;dsimp only)
     go_roundw
     case rel=>exact⟨j+1,by omega,by go_num,HZ,bel⟩
     case measure=>simp[intOf];omega
    have HR:=zh ((hrr (by rw[ht];exact h0)).trans ht)
    have z1:(e != 0)=true:=by simpa using h0
    have z2:(e==0)=false:=by simpa using h0
    clear hrr hzz ht h0
    go_wp2_with (go_at_call 148;refine (hti _ (HO.out.1.keep (z05 bel)) (HS.out.nowN z02 bel)).mono ?_;rintro e w1 ⟨rfl,hb1⟩;refine zb hb1 ?_;rintro ⟨hc1,hf1⟩ hz1 hy1 hx1;refine szz w1 w ?_;intros;refine szz w1 wr ?_;intros;dsimp only)
    go_ret
    rw[HR.out]
    exact⟨rfl,bel⟩
   have hjk:j=k:=by omega
   subst hjk
   have HR:=zh (fieldsErr_3 HL.out.2 HZ1.out (by rw[HL.out.1];exact hz.out))
   go_wp2_with fail
   go_ret
   rw[HR.out]
   exact⟨rfl,hbr⟩
end Go.Proofs.YtldhlpjjcnlbcaaGreat
