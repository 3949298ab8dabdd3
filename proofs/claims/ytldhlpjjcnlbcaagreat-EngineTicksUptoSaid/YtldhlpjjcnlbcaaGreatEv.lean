/- Texts merged (mergeh.py): Ev. -/
import Derived.Test.YtldhlpjjcnlbcaaGreatTypes
import Derived.Test.YtldhlpjjcnlbcaaGreatLexName
import Derived.Deep.DeepCutAuto
import Derived.Test.YtldhlpjjcnlbcaaGreatPrt4
import Derived.Test.YtldhlpjjcnlbcaaGreatAsk
import Derived.Test.YtldhlpjjcnlbcaaGreatNum
/- Texts merged: Cmp ValCmp Ev. -/
set_option maxRecDepth 100000
set_option maxHeartbeats 8000000
/- cmp.Compare and cmp.Or of Go's library, at int and string. -/
namespace Go.Proofs.YtldhlpjjcnlbcaaGreat
open Go.RowKit
def cmpZ (a b:Int):Int:=if a<b then -1 else if b<a then 1 else 0
theorem cmp_isNaN_int (a:Int)(w:World):Calls Tryz.prog 156 #[.int .i64 a] w fun e w'=>e=.returned (.bool false)/\w=w':=by
 go_enter Tryz.func156,Tryz.ntmps156
 go_wp2
 go_ret
 exact⟨rfl,rfl⟩
theorem cmp_isNaN_str (a:ByteArray)(w:World):Calls Tryz.prog 218 #[.string a] w fun e w'=>e=.returned (.bool false)/\w=w':=by
 go_enter Tryz.func218,Tryz.ntmps218
 go_wp2
 go_ret
 exact⟨rfl,rfl⟩
theorem zat (a b:Int)(w:World):Calls Tryz.prog 117 #[.int .i64 a,.int .i64 b] w fun e w'=>e=.returned (.int .i64 (cmpZ a b))/\w=w':=by
 go_enter Tryz.func117,Tryz.ntmps117
 go_wp2_with (go_at_call 156;refine (cmp_isNaN_int _ _).mono ?_;rintro e w' ⟨rfl,rfl⟩)
 all_goals
  go_ret
  exact⟨z0n (by simp[cmpZ];try omega),rfl⟩
def cmpS (a b:ByteArray):Int:=if Op.bytesLess a.toList b.toList=true then -1 else if a.toList=b.toList then 0 else 1
theorem cmp_Compare_str (a b:ByteArray)(w:World):Calls Tryz.prog 205 #[.string a,.string b] w fun e w'=>e=.returned (.int .i64 (cmpS a b))/\w=w':=by
 go_enter Tryz.func205,Tryz.ntmps205
 go_wp2_with (go_at_call 218;refine (cmp_isNaN_str _ _).mono ?_;rintro e w' ⟨rfl,rfl⟩)
 all_goals
  go_ret
  exact⟨z0n (by simp_all [cmpS]),rfl⟩
def or2 (x y:Int):Int:=if x=0 then y else x
theorem cmp_Or2 (g:Nat)(x y:Int)(w:World)(h0:w.cell? ⟨g,0,none⟩=some (.int .i64 x))(h1:w.cell? ⟨g,1,none⟩=some (.int .i64 y)) :
  Calls Tryz.prog 204 #[.slice (some ⟨g,0,none⟩) 2 2] w fun e w'=>e=.returned (.int .i64 (or2 x y))/\w=w':=by
 go_enter Tryz.func204,Tryz.ntmps204
 go_wp2
 go_loop [8] (fun i=>∃ k:Nat,k<=2/\i=.int .i64 k/\(1<=k->x=0)/\(2<=k->y=0)) (fun i=>2-(intOf i).toNat)
 case atStart=>exact⟨0,by omega,rfl,fun h=>absurd h (by omega),fun h=>absurd h (by omega)⟩
 case round =>
  obtain⟨k,hk,rfl,q1,q2⟩:=hrel
  rcases (by omega:k=0\/k=1\/k=2) with rfl | rfl | rfl
  ·clear q1 q2
   by_cases hx:x=0
   ·subst hx
    go_wp2
    go_round
    case rel=>exact⟨1,by omega,rfl,fun _=>(by simp),fun h=>absurd h (by omega)⟩
    case measure=>simp[intOf]
   have hx':(x != 0)=true:=by simpa using hx
   go_wp2
   go_ret
   exact⟨z0n (by simp[or2,hx]),rfl⟩
  ·have hx:=q1 (by omega)
   clear q1 q2
   subst hx
   by_cases hy:y=0
   ·subst hy
    go_wp2
    go_round
    case rel=>exact⟨2,by omega,rfl,fun _=>(by simp),fun _=>(by simp)⟩
    case measure=>simp[intOf]
   have hy':(y != 0)=true:=by simpa using hy
   go_wp2
   go_ret
   exact⟨z0n (by simp[or2]),rfl⟩
  have hx:=q1 (by omega)
  have hy:=q2 (by omega)
  clear q1 q2
  subst hx;subst hy
  go_wp2
  go_ret
  exact⟨z0n (by simp[or2]),rfl⟩
end Go.Proofs.YtldhlpjjcnlbcaaGreat
/- value.Compare and the reference ValueOrder. -/
namespace Go.Proofs.YtldhlpjjcnlbcaaGreat
open Go.RowKit
def z2p (a b:Val):Int×Int:=if z0b a=true/\z0b b=true/\a.k=b.k then (or2 (cmpZ a.n b.n) (cmpS a.s b.s),0) else (0,9)
theorem z8o {s:ByteArray}(h:z1c s=0):s.toList=[]:=by
 unfold z1c at h
 by_cases h':s.toList.isEmpty=true
 ·simpa using h'
 rw[if_neg h'] at h;cases h
theorem known_one {a b:Val}(ha:z0b a=true)(hb:z0b b=true)(hk:a.k=b.k):a.n=b.n\/a.s.toList=b.s.toList:=by
 obtain⟨a1,a2,a3⟩:=(z5v a).1 ha
 obtain⟨b1,b2,b3⟩:=(z5v b).1 hb
 obtain⟨ak,an,sa⟩:=a
 obtain⟨bk,bn,sb⟩:=b
 simp only at *
 subst hk
 unfold valCheck at a3 b3
 simp only at a3 b3
 rcases (by omega:ak=1\/ak=2\/ak=3) with rfl | rfl | rfl
 ·right
  simp at a3 b3
  have e1:z1c sa=0:=by (repeat' split at a3)<;>simp_all
  have e2:z1c sb=0:=by (repeat' split at b3)<;>simp_all
  rw[z8o e1,z8o e2]
 ·right
  simp at a3 b3
  have e1:z1c sa=0:=by (repeat' split at a3)<;>simp_all
  have e2:z1c sb=0:=by (repeat' split at b3)<;>simp_all
  rw[z8o e1,z8o e2]
 left
 simp at a3 b3
 have e1:an=0:=by (repeat' split at a3)<;>simp_all
 have e2:bn=0:=by (repeat' split at b3)<;>simp_all
 rw[e1,e2]
def RetII (w:World)(x:Int×Int)(e:Ending)(w':World):Prop:=e=.returned (.tuple #[.int .i64 x.1,.int .i64 x.2])/\Below w.heap.size w w'
theorem zco (ak an:Int)(sa:ByteArray)(bk bn:Int)(sb:ByteArray) :
  let r:=z2p ⟨ak,an,sa⟩ ⟨bk,bn,sb⟩
  (z0b ⟨ak,an,sa⟩=false/\r=(0,9))\/(z0b ⟨ak,an,sa⟩=true/\z0b ⟨bk,bn,sb⟩=false/\r=(0,9))\/(z0b ⟨ak,an,sa⟩=true/\z0b ⟨bk,bn,sb⟩=true/\(ak != bk)=true/\r=(0,9)) \/
  (z0b ⟨ak,an,sa⟩=true/\z0b ⟨bk,bn,sb⟩=true/\ak=bk/\r=(or2 (cmpZ an bn) (cmpS sa sb),0)):=by
 intro r
 have hr:r=z2p ⟨ak,an,sa⟩ ⟨bk,bn,sb⟩:=rfl
 clear_value r
 unfold z2p at hr
 by_cases h:ak=bk<;>cases h1:z0b ⟨ak,an,sa⟩<;>cases h2:z0b ⟨bk,bn,sb⟩<;>simp_all
theorem zeu (ak an:Int)(sa:ByteArray)(bk bn:Int)(sb:ByteArray)(w:World)(s1:sa.size<=maxLen)(s2:sb.size<=maxLen) :
  Calls Tryz.prog 184 #[.agg #[.int .i64 ak,.int .i64 an,.string sa],.agg #[.int .i64 bk,.int .i64 bn,.string sb]] w (RetII w (z2p ⟨ak,an,sa⟩ ⟨bk,bn,sb⟩)):=by
 rcases zco ak an sa bk bn sb with ⟨h1,e⟩ | ⟨h1,h2,e⟩ | ⟨h1,h2,h3,e⟩ | ⟨h1,h2,rfl,e⟩
 ·rw[e];clear e
  go_enter Tryz.func184,Tryz.ntmps184
  go_wp2_with (go_at_call 83;refine (z0q _ _ _ _ s1).mono ?_;rintro e w1 ⟨rfl,hb1⟩;refine zb hb1 ?_;rintro ⟨hc1,hf1⟩ hz1 hy1 hx1;refine szz w1 w ?_;intros)
  go_ret2
  exact⟨rfl,bel⟩
 ·rw[e];clear e
  go_enter Tryz.func184,Tryz.ntmps184
  go_wp2_with fail
  refine (z0q _ _ _ _ s1).mono ?_;rintro e w1 ⟨rfl,hb1⟩;refine zb hb1 ?_;rintro ⟨hc1,hf1⟩ hz1 hy1 hx1;refine szz w1 w ?_;intros
  go_wp2_with (go_at_call 83;refine (z0q _ _ _ _ s2).mono ?_;rintro e w2 ⟨rfl,hb2⟩;refine zb hb2 ?_;rintro ⟨hc2,hf2⟩ hz2 hy2 hx2;refine szz w2 w ?_;intros;refine szz w2 w1 ?_;intros)
  go_ret2
  exact⟨rfl,bel⟩
 ·rw[e];clear e
  go_enter Tryz.func184,Tryz.ntmps184
  go_wp2_with fail
  refine (z0q _ _ _ _ s1).mono ?_;rintro e w1 ⟨rfl,hb1⟩;refine zb hb1 ?_;rintro ⟨hc1,hf1⟩ hz1 hy1 hx1;refine szz w1 w ?_;intros
  go_wp2_with (go_at_call 83;refine (z0q _ _ _ _ s2).mono ?_;rintro e w2 ⟨rfl,hb2⟩;refine zb hb2 ?_;rintro ⟨hc2,hf2⟩ hz2 hy2 hx2;refine szz w2 w ?_;intros;refine szz w2 w1 ?_;intros)
  go_ret2
  exact⟨rfl,bel⟩
 rw[e];clear e
 go_enter Tryz.func184,Tryz.ntmps184
 go_wp2_with fail
 refine (z0q _ _ _ _ s1).mono ?_;rintro e w1 ⟨rfl,hb1⟩;refine zb hb1 ?_;rintro ⟨hc1,hf1⟩ hz1 hy1 hx1;refine szz w1 w ?_;intros
 go_upto_region 3 with (go_at_call 83;refine (z0q _ _ _ _ s2).mono ?_;rintro e w2 ⟨rfl,hb2⟩;refine zb hb2 ?_;rintro ⟨hc2,hf2⟩ hz2 hy2 hx2;refine szz w2 w ?_;intros;refine szz w2 w1 ?_;intros)
 go_cut [4,5] (fun s4 s5 wx=>s4=.int .i64 (or2 (cmpZ an bn) (cmpS sa sb))/\s5=.int .i64 0/\Below w.heap.size w wx)
 case first =>
  refine z0k ?_;intro W0 hW0
  have hS0:W0.cell? ⟨w.heap.size,1,none⟩=some (.int .i64 an)/\W0.cell? ⟨w.heap.size,2,none⟩=some (.string sa)/\W0.cell? ⟨w.heap.size+1,1,none⟩=some (.int .i64 bn)/\W0.cell? ⟨w.heap.size+1,2,none⟩=some (.string sb)/\Below W0.heap.size W0 W0/\W0.heap.size<=W0.heap.size:=⟨by rw[hW0];go_simp,by rw[hW0];go_simp,by rw[hW0];go_simp,by rw[hW0];go_simp,Below.refl _ _,nr _⟩
  have HW0:=zh hW0;clear hW0
  go_region_held3 (fun w'=>w'.cell? ⟨w.heap.size,1,none⟩=some (.int .i64 an)/\w'.cell? ⟨w.heap.size,2,none⟩=some (.string sa)/\w'.cell? ⟨w.heap.size+1,1,none⟩=some (.int .i64 bn)/\w'.cell? ⟨w.heap.size+1,2,none⟩=some (.string sb)/\Below W0.heap.size W0 w'/\W0.heap.size<=w'.heap.size) (first | exact held4d (by assumption) | exact held4 (by assumption) (by assumption) | assumption | exact held4o hS0 bel) (first | (go_at_call 117;refine (zat _ _ _).mono ?_;rintro e w' ⟨rfl,rfl⟩) | (go_at_call 205;refine (cmp_Compare_str _ _ _).mono ?_;rintro e w' ⟨rfl,rfl⟩) | (go_at_call 204;refine (cmp_Or2 _ (cmpZ an bn) (cmpS sa sb) _ ?h0 ?h1).mono ?_;(case h0=>go_simp);(case h1=>go_simp);rintro e w' ⟨rfl,rfl⟩))
  all_goals
   obtain⟨_,_,_,_,hb9,_⟩:=held4i (by assumption)
   clear hS0
  all_goals
   go_wp2_with fail
   go_meet
   refine⟨rfl,rfl,?_⟩
   have hW0:=HW0.out
   subst hW0
   exact bel
 case rest =>
  obtain⟨rfl,rfl,hb3⟩:=hcut
  go_wp2_with fail
  go_ret2
  exact⟨rfl,bel⟩
theorem less_cases (an bn:Int)(sa sb:ByteArray)(h:an=bn\/sa.toList=sb.toList) :
  let x:=or2 (cmpZ an bn) (cmpS sa sb)
  (an<bn/\x=-1)\/(bn<=an/\Op.bytesLess sa.toList sb.toList=true/\x=-1)\/(bn<an/\Op.bytesLess sa.toList sb.toList=false/\x=1) \/
  (an=bn/\Op.bytesLess sa.toList sb.toList=false/\(!sa.toList==sb.toList)=true/\x=1)\/(an=bn/\Op.bytesLess sa.toList sb.toList=false/\(!sa.toList==sb.toList)=false/\x=0):=by
 intro x
 have hx:x=or2 (cmpZ an bn) (cmpS sa sb):=rfl
 clear_value x
 have hself:∀ l:List UInt8,Op.bytesLess l l=false:=by
  intro l
  induction l with
  | nil=>rfl
  | cons a l ih=>simp[Op.bytesLess,ih]
 unfold or2 cmpZ cmpS at hx
 rcases Int.lt_trichotomy an bn with h1 | h1 | h1
 ·left;refine⟨h1,?_⟩;rw[hx,if_pos h1];rfl
 ·subst h1
  rw[if_neg (Int.lt_irrefl _),if_neg (Int.lt_irrefl _),if_pos rfl] at hx
  cases h2:Op.bytesLess sa.toList sb.toList
  ·rw[h2,if_neg (by simp)] at hx
   by_cases h3:sa.toList=sb.toList
   ·rw[if_pos h3] at hx
    exact .inr (.inr (.inr (.inr ⟨rfl,rfl,by simp[h3],hx⟩)))
   rw[if_neg h3] at hx
   exact .inr (.inr (.inr (.inl ⟨rfl,rfl,by simp[h3],hx⟩)))
  rw[h2,if_pos rfl] at hx
  exact .inr (.inl ⟨Int.le_refl _,rfl,hx⟩)
 have h3:sa.toList=sb.toList:=by rcases h with h | h;omega;exact h
 rw[if_neg (show ¬ an<bn by omega),if_pos h1,if_neg (show ¬ (1:Int)=0 by decide)] at hx
 exact .inr (.inr (.inl ⟨h1,by rw[h3];exact hself _,hx⟩))
theorem zck (ak an:Int)(sa:ByteArray)(bk bn:Int)(sb:ByteArray)(w:World)(s1:sa.size<=maxLen)(s2:sb.size<=maxLen) :
  Calls Tryz.prog 168 #[.agg #[.int .i64 ak,.int .i64 an,.string sa],.agg #[.int .i64 bk,.int .i64 bn,.string sb]] w (RetII w (z2p ⟨ak,an,sa⟩ ⟨bk,bn,sb⟩)):=by
 by_cases hk:ak=bk
 ·subst hk
  rcases zco ak an sa ak bn sb with ⟨h1,e⟩ | ⟨h1,h2,e⟩ | ⟨h1,h2,h3,e⟩ | ⟨h1,h2,_,e⟩
  ·rw[e];clear e
   go_enter Tryz.func168,Tryz.ntmps168
   go_wp2_with (go_at_call 74;refine (z1d _ _ _ _ s1).mono ?_;rintro e w1 ⟨rfl,hb1⟩;refine zb hb1 ?_;rintro ⟨hc1,hf1⟩ hz1 hy1 hx1;refine szz w1 w ?_;intros)
   go_ret2
   exact⟨rfl,bel⟩
  ·rw[e];clear e
   go_enter Tryz.func168,Tryz.ntmps168
   go_wp2_with fail
   refine (z1d _ _ _ _ s1).mono ?_;rintro e w1 ⟨rfl,hb1⟩;refine zb hb1 ?_;rintro ⟨hc1,hf1⟩ hz1 hy1 hx1;refine szz w1 w ?_;intros
   go_wp2_with (go_at_call 74;refine (z1d _ _ _ _ s2).mono ?_;rintro e w2 ⟨rfl,hb2⟩;refine zb hb2 ?_;rintro ⟨hc2,hf2⟩ hz2 hy2 hx2;refine szz w2 w ?_;intros;refine szz w2 w1 ?_;intros)
   go_ret2
   exact⟨rfl,bel⟩
  ·simp at h3
  have hl:=less_cases an bn sa sb (known_one h1 h2 rfl)
  rw[e];clear e
  rcases hl with ⟨q1,e⟩ | ⟨q1,q2,e⟩ | ⟨q1,q2,e⟩ | ⟨rfl,q2,q3,e⟩ | ⟨rfl,q2,q3,e⟩
  all_goals
   rw[e];clear e
   go_enter Tryz.func168,Tryz.ntmps168
   go_wp2_with fail
   refine (z1d _ _ _ _ s1).mono ?_;rintro e w1 ⟨rfl,hb1⟩;refine zb hb1 ?_;rintro ⟨hc1,hf1⟩ hz1 hy1 hx1;refine szz w1 w ?_;intros
   go_wp2_with (go_at_call 74;refine (z1d _ _ _ _ s2).mono ?_;rintro e w2 ⟨rfl,hb2⟩;refine zb hb2 ?_;rintro ⟨hc2,hf2⟩ hz2 hy2 hx2;refine szz w2 w ?_;intros;refine szz w2 w1 ?_;intros)
   go_ret2
   exact⟨rfl,bel⟩
 have e:z2p ⟨ak,an,sa⟩ ⟨bk,bn,sb⟩=(0,9):=by unfold z2p;rw[if_neg (fun h=>hk h.2.2)]
 have hk':(ak != bk)=true:=by simpa using hk
 rw[e];clear e hk
 go_enter Tryz.func168,Tryz.ntmps168
 go_wp2_with fail
 go_ret2
 exact⟨rfl,bel⟩
end Go.Proofs.YtldhlpjjcnlbcaaGreat
/- What a formula is worth: the plain function. -/
namespace Go.Proofs.YtldhlpjjcnlbcaaGreat
open Go.RowKit
def noS:ByteArray:=⟨#[]⟩
def z1m (e:Int):Val:=⟨5,e,⟨#[]⟩⟩
def z6g (b:Bool):Val:=⟨2,bif b then 1 else 0,⟨#[]⟩⟩
def factV (l:List Fct)(nm:ByteArray):Option Val:=(l.find? (z0y nm)).map (·.has)
def zb7 (op a b:Int):Int×Int:=if op=5 then z76 a b else if op=6 then z4c a b else if op=7 then z51 a b else if op=8 then z8q a b else z7m a b
def cmpTruth (op c:Int):Bool:=if op=11 then decide (c<0) else if op=12 then decide (c<=0) else if op=13 then c==0 else c != 0
def numV (r:Int×Int):Val:=if r.2=0 then ⟨1,r.1,⟨#[]⟩⟩ else z1m r.2
def cmpV (op:Int)(r:Int×Int):Val:=if r.2=0 then z6g (cmpTruth op r.1) else z1m r.2
def vAt (vs:List Val)(i:Nat):Val:=vs[i]?.getD noVal
def joinV (a b:ByteArray):Val:=if a.size+b.size<=40 then ⟨3,0,a++b⟩ else z1m 1
def appV (op:Int)(vs:List Val):Val :=
 if 11<=op/\op<=14 then cmpV op (z2p (vAt vs 0) (vAt vs 1))
 else if op=4 then (if (vAt vs 0).k=2 then z6g ((vAt vs 0).n==0) else z1m 9)
 else if op=10 then (if (vAt vs 0).k=3/\(vAt vs 1).k=3 then joinV (vAt vs 0).s (vAt vs 1).s else z1m 9)
 else if op=18 then (if (vAt vs 0).k=3 then ⟨1,(vAt vs 0).s.size,⟨#[]⟩⟩ else z1m 9)
 else if op=3 then (if (vAt vs 0).k=1 then ⟨1,-(vAt vs 0).n,⟨#[]⟩⟩ else z1m 9)
 else (if (vAt vs 0).k=1/\(vAt vs 1).k=1 then numV (zb7 op (vAt vs 0).n (vAt vs 1).n) else z1m 9)
def boolV (v:Val):Val:=if v.k=1\/v.k=3 then z1m 9 else v
def lackV (vs:List Val):Option Val:=match vs.find? (fun v=>v.k==5) with
 | some v=>some v
 | none=>vs.find? (fun v=>v.k==4)
def isChoice (op:Int):Prop:=op=15\/op=16\/op=17
def opV (op:Int)(vs:List Val):Val :=
 if op=15\/op=16 then (if (vAt vs 0).k=2 then (if ((vAt vs 0).n==1)=(op==16) then vAt vs 0 else boolV (vAt vs 1)) else boolV (vAt vs 0))
 else if op=17 then (if (vAt vs 0).k=2 then (if (vAt vs 0).n=1 then vAt vs 1 else vAt vs 2) else boolV (vAt vs 0))
 else (lackV vs).getD (appV op vs)
mutual
def evX (l:List Fct):Exp->Val
 | .mk op v name args=>if op=1 then v else if op=2 then (factV l name).getD (z1m 5) else opV op (evL l args)
def evL (l:List Fct):List Exp->List Val
 | []=>[]
 | a::r=>evX l a::evL l r
end
theorem evL_map (l:List Fct):∀ xs,evL l xs=xs.map (evX l)
 | []=>by simp[evL]
 | a::r=>by simp[evL,evL_map l r]
theorem evX_const (l:List Fct){x:Exp}(h:x.op=1):evX l x=x.v:=by
 obtain⟨op,v,nm,args⟩:=x
 have h':op=1:=h
 simp[evX,h',Exp.v]
theorem evX_ref (l:List Fct){x:Exp}(h:x.op=2):evX l x=(factV l x.name).getD (z1m 5):=by
 obtain⟨op,v,nm,args⟩:=x
 have h':op=2:=h
 simp[evX,h',Exp.name]
theorem evX_app (l:List Fct){x:Exp}(h1:x.op≠1)(h2:x.op≠2):evX l x=opV x.op (x.args.map (evX l)):=by
 obtain⟨op,v,nm,args⟩:=x
 have h1':op≠1:=h1
 have h2':op≠2:=h2
 simp only[evX,h1',h2',if_false,evL_map]
 rfl
theorem zag (l:List Fct){x a:Exp}{k:Nat}(h:x.args[k]?=some a):vAt (x.args.map (evX l)) k=evX l a:=by
 unfold vAt;rw[List.getElem?_map,h];rfl
def z8y (l:List Fct):Prop:=∀ f∈l,valCheck f.has=0
theorem z3y:z1c ⟨#[]⟩=0:=by
 unfold z1c
 rw[if_pos (by rw[ByteArray.toList_eq];rfl)]
theorem z28 {e:Int}(h1:1<=e)(h2:e<=15):valCheck (z1m e)=0:=by
 have e0:(z1m e).k=5:=rfl
 have e1:(z1m e).n=e:=rfl
 have e2:(z1m e).s=⟨#[]⟩:=rfl
 unfold valCheck
 rw[e0,e1,e2,if_neg (by decide),if_neg (by decide),if_neg (by decide),if_neg (by decide),if_pos rfl,if_neg (by omega)]
 exact z3y
theorem zcn (b:Bool):valCheck (z6g b)=0:=by
 have e0:(z6g b).k=2:=rfl
 have e2:(z6g b).s=⟨#[]⟩:=rfl
 unfold valCheck
 rw[e0,e2,if_neg (by decide),if_pos rfl,if_pos (by cases b;exact .inl rfl;exact .inr rfl)]
 exact z3y
theorem zab {v:Val}(h:valCheck v=0):valCheck (boolV v)=0:=by
 unfold boolV;split
 ·exact z28 (by decide) (by decide)
 exact h
theorem zh9 {s:ByteArray}(h:z1c s=0):s=⟨#[]⟩:=by
 unfold z1c at h
 split at h
 ·rename_i h1
  have h2:s.toList=[]:=by simpa using h1
  rw[ByteArray.toList_eq] at h2
  obtain⟨d⟩:=s
  simp at h2
  rw[h2]
 cases h
theorem zfp {v:Val}(h:valCheck v=0)(hk:v.k=1):z0o v.n=0/\v.s=⟨#[]⟩:=by
 unfold valCheck at h
 rw[if_pos hk] at h
 split at h
 ·exact⟨by assumption,zh9 h⟩
 cases h
theorem zes {v:Val}(h:valCheck v=0)(hk:v.k=2):(v.n=0\/v.n=1)/\v.s=⟨#[]⟩:=by
 unfold valCheck at h
 rw[if_neg (by omega),if_pos hk] at h
 split at h
 ·exact⟨by assumption,zh9 h⟩
 cases h
theorem zc1 {v:Val}(h:valCheck v=0)(hk:v.k=3):v.n=0/\v.s.size<=40/\v.s.data.toList.all z77=true:=by
 unfold valCheck at h
 rw[if_neg (by omega),if_neg (by omega),if_pos hk] at h
 split at h
 ·rename_i h0
  unfold z38 at h
  split at h
  ·cases h
  split at h
  ·exact⟨h0,by omega,by assumption⟩
  cases h
 cases h
theorem zet {v:Val}(h:valCheck v=0)(hk:v.k=4):v=⟨4,0,⟨#[]⟩⟩:=by
 unfold valCheck at h
 rw[if_neg (by omega),if_neg (by omega),if_neg (by omega),if_pos hk] at h
 split at h
 ·rename_i h0
  obtain⟨k,n,s⟩:=v
  simp only at hk h0 h
  rw[hk,h0,zh9 h]
 cases h
theorem z6d {v:Val}(h:valCheck v=0):v.s.size<=40:=by
 rcases (by have:=z35 h;omega:v.k=1\/v.k=2\/v.k=3\/v.k=4\/v.k=5) with hk | hk | hk | hk | hk
 ·rw[(zfp h hk).2];decide
 ·rw[(zes h hk).2];decide
 ·exact (zc1 h hk).2.1
 ·rw[zet h hk];decide
 unfold valCheck at h
 rw[if_neg (by omega),if_neg (by omega),if_neg (by omega),if_neg (by omega),if_pos hk] at h
 split at h
 ·cases h
 rw[zh9 h];decide
theorem zb8 (n:Int):(z2m n).2=0/\z0o (z2m n).1=0\/(z2m n).2=7:=by
 unfold z2m;split
 ·exact .inl ⟨rfl,by assumption⟩
 exact .inr rfl
theorem z8b {a b:Int}{r:Int×Int}(h:r.2=0/\z0o r.1=0\/r.2=7):(z0x a b r).2=0/\z0o (z0x a b r).1=0\/(z0x a b r).2=7\/(z0x a b r).2=8:=by
 unfold z0x;split
 ·rcases h with h | h
  ·exact .inl h
  exact .inr (.inl h)
 exact .inr (.inl rfl)
theorem numApp_ok (op a b:Int):(zb7 op a b).2=0/\z0o (zb7 op a b).1=0\/(zb7 op a b).2=7\/(zb7 op a b).2=8:=by
 unfold zb7
 split
 ·exact z8b (zb8 _)
 split
 ·unfold z4c;split
  ·exact .inr (.inr rfl)
  exact z8b (zb8 _)
 split
 ·unfold z51;split
  ·exact .inr (.inr rfl)
  exact z8b (zb8 _)
 split
 ·exact z8b (zb8 _)
 exact z8b (zb8 _)
theorem zac {n:Int}(h:z0o n=0):valCheck ⟨1,n,⟨#[]⟩⟩=0:=by
 unfold valCheck
 rw[if_pos rfl,if_pos h]
 exact z3y
theorem numV_ok {r:Int×Int}(h:r.2=0/\z0o r.1=0\/r.2=7\/r.2=8):valCheck (numV r)=0:=by
 unfold numV
 rcases h with ⟨h,h1⟩ | h | h
 ·rw[if_pos h];exact zac h1
 ·rw[if_neg (by omega),h];exact z28 (by decide) (by decide)
 rw[if_neg (by omega),h];exact z28 (by decide) (by decide)
theorem valOrder_or (a b:Val):(z2p a b).2=0\/(z2p a b).2=9:=by
 unfold z2p;split
 ·exact .inl rfl
 exact .inr rfl
theorem cmpV_ok (op:Int)(a b:Val):valCheck (cmpV op (z2p a b))=0:=by
 unfold cmpV
 rcases valOrder_or a b with h | h
 ·rw[if_pos h];exact zcn _
 rw[if_neg (by omega),h];exact z28 (by decide) (by decide)
theorem joinV_ok {a b:ByteArray}(ha:a.data.toList.all z77=true)(hb:b.data.toList.all z77=true):valCheck (joinV a b)=0:=by
 unfold joinV
 split
 ·rename_i h
  unfold valCheck
  show (if (3:Int)=1 then _ else if (3:Int)=2 then _ else if (3:Int)=3 then (if (0:Int)=0 then z38 (a++b) else 4) else _)=(0:Int)
  rw[if_neg (by decide),if_neg (by decide),if_pos rfl,if_pos rfl]
  unfold z38
  rw[if_neg (by show ¬ 40<(a++b).size;rw[ByteArray.size_append];omega),if_pos]
  show ((a++b).data.toList.all z77)=true
  rw[ByteArray.data_append,Array.toList_append,List.all_append,ha,hb];rfl
 exact z28 (by decide) (by decide)
theorem appV_ok {op:Int}{vs:List Val}(h0:valCheck (vAt vs 0)=0)(h1:(vAt vs 1).k=3->valCheck (vAt vs 1)=0):valCheck (appV op vs)=0:=by
 unfold appV
 split
 ·exact cmpV_ok _ _ _
 split
 ·split
  ·exact zcn _
  exact z28 (by decide) (by decide)
 split
 ·split
  ·rename_i h
   exact joinV_ok (zc1 h0 h.1).2.2 (zc1 (h1 h.2) h.2).2.2
  exact z28 (by decide) (by decide)
 split
 ·split
  ·rename_i h
   have:=(zc1 h0 h).2.1
   exact zac (z9w (by omega) (by omega))
  exact z28 (by decide) (by decide)
 split
 ·split
  ·rename_i h
   have:=z11 (zfp h0 h).1
   exact zac (z9w (by omega) (by omega))
  exact z28 (by decide) (by decide)
 split
 ·exact numV_ok (numApp_ok _ _ _)
 exact z28 (by decide) (by decide)
theorem lackV_mem {vs:List Val}{v:Val}(h:lackV vs=some v):v∈vs:=by
 unfold lackV at h
 split at h
 ·rename_i u hu
  cases h;exact List.mem_of_find?_eq_some hu
 exact List.mem_of_find?_eq_some h
theorem opV_ok {op:Int}{vs:List Val}(hne:(vs.length:Int)=argsN op)(h3:3<=op)(h:∀ v∈vs,valCheck v=0):valCheck (opV op vs)=0:=by
 have hat:∀ i,i<vs.length->valCheck (vAt vs i)=0:=fun i hi=>by
  unfold vAt;rw[gq hi];exact h _ (List.getElem_mem hi)
 have h0:0<vs.length:=by
  have:(0:Int)<argsN op:=by
   unfold argsN;repeat' split
   all_goals omega
  omega
 unfold opV
 split
 ·rename_i ho
  have h1:1<vs.length:=by
   have:argsN op=2:=by rcases ho with rfl | rfl<;>rfl
   omega
  split
  ·split
   ·exact hat 0 h0
   exact zab (hat 1 h1)
  exact zab (hat 0 h0)
 split
 ·rename_i ho
  have h1:vs.length=3:=by
   have:argsN op=3:=by subst ho;rfl
   omega
  split
  ·split
   ·exact hat 1 (by omega)
   exact hat 2 (by omega)
  exact zab (hat 0 h0)
 cases hl:lackV vs with
 | some v=>exact h v (lackV_mem hl)
 | none =>
  refine appV_ok (hat 0 h0) (fun hk=>?_)
  by_cases h1:1<vs.length
  ·exact hat 1 h1
  exfalso
  unfold vAt at hk
  rw[List.getElem?_eq_none (by omega)] at hk
  exact absurd hk (by decide)
theorem factV_ok {l:List Fct}(hl:z8y l){nm:ByteArray}{v:Val}(h:factV l nm=some v):valCheck v=0:=by
 unfold factV at h
 cases hf:l.find? (z0y nm) with
 | none=>rw[hf] at h;cases h
 | some f=>rw[hf] at h;cases h;exact hl f (List.mem_of_find?_eq_some hf)
theorem part_v {x:Exp}(h:prtN x=0)(ho:x.op=1):z0b x.v=true:=by
 rw[zd9] at h
 by_cases hp:partErr x.op x.v x.name x.args.length=0
 ·unfold partErr at hp
  rw[if_neg (by omega)] at hp
  have hk:z2d x.op x.v x.name x.args.length=true:=by
   cases hq:z2d x.op x.v x.name x.args.length
   ·rw[hq] at hp;simp at hp
   rfl
  unfold z2d at hk
  rw[if_pos ho] at hk
  simp only[Bool.and_eq_true] at hk
  exact hk.2.2.1
 rw[if_neg hp] at h;exact absurd h hp
theorem z5a {l:List Fct}(hl:z8y l)(N:Nat):∀ x:Exp,x.nodes<=N->prtN x=0->valCheck (evX l x)=0:=by
 induction N with
 | zero =>
  intro x hN
  obtain⟨op,v,nm,args⟩:=x
  simp[Exp.nodes] at hN
 | succ N ih =>
  intro x hN hp
  obtain⟨p1,p2,p3,p4⟩:=z7n hp
  by_cases h1:x.op=1
  ·rw[evX_const l h1]
   exact ((z23 _).1 (part_v hp h1)).1
  by_cases h2:x.op=2
  ·rw[evX_ref l h2]
   cases hf:factV l x.name with
   | none=>exact z28 (by decide) (by decide)
   | some v=>exact factV_ok hl hf
  rw[evX_app l h1 h2]
  refine opV_ok (by rw[List.length_map];exact p3) (by omega) fun v hv=>?_
  obtain⟨a,ha,rfl⟩:=List.mem_map.1 hv
  refine ih a ?_ (p4 a ha)
  obtain⟨i,hi⟩:=List.mem_iff_getElem?.1 ha
  obtain⟨op,v,nm,args⟩:=x
  have:=z4g args i a hi
  simp only[Exp.nodes] at hN
  omega
end Go.Proofs.YtldhlpjjcnlbcaaGreat
