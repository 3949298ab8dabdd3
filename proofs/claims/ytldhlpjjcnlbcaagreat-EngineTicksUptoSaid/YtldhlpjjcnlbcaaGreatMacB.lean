/- Texts merged (mergeh.py): EvF MacA MacB. -/
import Derived.Test.YtldhlpjjcnlbcaaGreatEv
import Derived.Test.YtldhlpjjcnlbcaaGreatAsk
import Derived.Test.YtldhlpjjcnlbcaaGreatTypes
import Derived.Test.YtldhlpjjcnlbcaaGreatBkw
/- What fields are, by their names, as a map: eval.facts; and the small functions of eval. -/
set_option maxRecDepth 100000
set_option maxHeartbeats 8000000
namespace Go.Proofs.YtldhlpjjcnlbcaaGreat
open Go.RowKit Go.Maps
abbrev Val.ag (v:Val):Value:=.agg #[.int .i64 v.k,.int .i64 v.n,.string v.s]
abbrev keyL (s:ByteArray):Lit:=.string s.data.toList
def za9 (f:Lit->Option Value)(x:Fct):Lit->Option Value:=if (f (keyL x.name)).isSome then f else putAt f (keyL x.name) x.has.ag
def z7d (l:List Fct):Lit->Option Value:=l.foldl za9 (fun _=>none)
theorem zfw {l:List Fct}{k:Nat}{x:Fct}(h:l[k]?=some x):z7d (l.take (k+1))=za9 (z7d (l.take k)) x:=by
 unfold z7d;rw[List.take_add_one,h,List.foldl_append];rfl
theorem zgn {f:Lit->Option Value}{x:Fct}(h:f (keyL x.name)=none):za9 f x=putAt f (keyL x.name) x.has.ag:=by unfold za9;rw[h];rfl
theorem zgo {f:Lit->Option Value}{x:Fct}{v:Value}(h:f (keyL x.name)=some v):za9 f x=f:=by unfold za9;rw[h];rfl
theorem zfv (nm:ByteArray):∀ (l:List Fct)(f:Lit->Option Value),(l.foldl za9 f) (keyL nm)=match f (keyL nm) with | some v=>some v | none=>(factV l nm).map Val.ag
 | [],f=>by
  show f (keyL nm)=_
  cases f (keyL nm)<;>rfl
 | a::r,f=>by
  rw[List.foldl_cons,zfv nm r]
  cases hs:z0y nm a
  ·have hne:keyL nm≠keyL a.name:=by
    unfold z0y at hs
    rw[ByteArray.toList_eq,ByteArray.toList_eq] at hs
    intro e
    injection e with e
    simp[e] at hs
   have e1:za9 f a (keyL nm)=f (keyL nm):=by
    unfold za9;split
    ·rfl
    exact z3j hne
   have e2:factV (a::r) nm=factV r nm:=by unfold factV;rw[List.find?_cons_of_neg (by simp[hs])]
   rw[e1,e2]
  have he:keyL nm=keyL a.name:=by
   unfold z0y at hs
   rw[ByteArray.toList_eq,ByteArray.toList_eq] at hs
   show Lit.string _=Lit.string _
   rw[show nm.data.toList=a.name.data.toList from (by simpa using hs:_=_).symm]
  have e2:factV (a::r) nm=some a.has:=by unfold factV;rw[List.find?_cons_of_pos (by simp[hs])];rfl
  rw[e2,he]
  cases hf:f (keyL a.name) with
  | some v=>rw[zgo hf,hf]
  | none=>rw[zgn hf,z4q (by simp[WideAt.IsKeyLit])];rfl
theorem zf3 (nm:ByteArray)(l:List Fct):z7d l (keyL nm)=(factV l nm).map Val.ag:=zfv nm l _
def hasErr (l:List Fct)(i:Nat):Int:=match l[i]? with
 | some x=>valCheck x.has
 | none=>0
def z1q (l:List Fct):Int:=z0g (hasErr l) l.length
theorem z88 {l:List Fct}{k:Nat}{x:Fct}(h:l[k]?=some x):hasErr l k=valCheck x.has:=by unfold hasErr;rw[h]
theorem zfx {l:List Fct}{k:Nat}{x:Fct}(h:z0g (hasErr l) k=0)(hx:l[k]?=some x)(he:valCheck x.has≠0):z1q l=valCheck x.has:=by
 unfold z1q
 rw[z0j h (by rw[z88 hx];exact he) _ (List.getElem?_eq_some_iff.1 hx).1,z88 hx]
theorem z4x {l:List Fct}(h:z1q l=0):z8y l:=by
 intro f hf
 obtain⟨i,hi⟩:=List.mem_iff_getElem?.1 hf
 rw[<-z88 hi]
 exact z1n h i (List.getElem?_eq_some_iff.1 hi).1
section
variable {P:Program} (w:World) {ops:Array Oper} {rest:List Oper} {o:Oper} {a:Act} {Q:Exit -> Act -> World -> Prop}
theorem z1a (hg:o.guard=none)(m x v:Operand)(t:TypeId)(hop:o.op=Op.insert t m x v)(k e:TypeId)(K:Keyed P k)(ht:P.underlying t=some (.map k e))
  (b n:Nat)(f:Lit->Option Value)(hm:a.eval m=.map (some b))(hown:MapIs w P k b n f)(hn:n<maxLen)(key val:Value)(kl:Lit)(hx:a.eval x=key)(hv:a.eval v=val)(hkey:keyOf P k key=some kl)
  (hK:∀ w',MapIs w' P k b (n+1) (putAt f kl val)->w.grownBy w' (some b)->wpList P ops Q rest (a.put o.dst undef) w'):wpList P ops Q (o::rest) a w :=
 wpList_plain hg fun _ hK'=>z2h m x v t hop k e K ht b n f hm hown hn key val kl hx hv hkey fun w' h1 h2=>hK' _ _ (hK w' h1 h2)
end
theorem Tryz.zeroVal (w:World):(zeroValue 44).run Tryz.prog w=.ok (.agg #[.int .i64 0,.int .i64 0,.string ⟨#[]⟩]) w:=by kernel_rfl
theorem Tryz.keyStr' (s:ByteArray)(h:inS s):keyOf Tryz.prog 9 (.string s)=some (keyL s):=Tryz.keyStr s h
theorem z48 {v:Val}(h:valCheck v=0):v.wf:=by
 have hs:=z6d h
 have hb:∀ n:Int,-1099511627776<=n->n<=1099511627776->inI n:=by
  intro n h1 h2
  unfold inI
  rw[Lit.wf]
  have e:IntKind.i64.min=-9223372036854775808:=by decide
  have e':IntKind.i64.max=9223372036854775807:=by decide
  simp only[e,e',Bool.and_eq_true,decide_eq_true_eq]
  omega
 have hk:=z35 h
 refine⟨hb _ (by omega) (by omega),?_,by unfold inS;omega⟩
 rcases (by omega:v.k=1\/v.k=2\/v.k=3\/v.k=4\/v.k=5) with e | e | e | e | e
 ·have:=z11 (zfp h e).1;exact hb _ (by omega) (by omega)
 ·have:=(zes h e).1;exact hb _ (by omega) (by omega)
 ·have:=(zc1 h e).1;exact hb _ (by omega) (by omega)
 ·rw[zet h e];exact hb _ (by decide) (by decide)
 unfold valCheck at h
 rw[if_neg (by omega),if_neg (by omega),if_neg (by omega),if_neg (by omega),if_pos e] at h
 split at h
 ·cases h
 exact hb _ (by omega) (by omega)
def RetF (w:World)(l:List Fct)(n:Nat)(e:Ending)(w':World):Prop :=
 (if z1q l=0 then e=.returned (.tuple #[.map (some w.heap.size),.int .i64 0])/\MapIs w' Tryz.prog 9 w.heap.size n (z7d l) else e=.returned (.tuple #[.map none,.int .i64 (z1q l)]))/\Below w.heap.size w w'
theorem eval_facts (A:Option Addr)(n c:Nat)(l:List Fct)(w:World)(hn:inL n)(h:Sl w (old w) 7 RFct A n l):Calls Tryz.prog 119 #[.slice A n c] w (RetF w l n):=by
 unfold inL at hn
 have hmm:=@run_makeMap Tryz.prog
 have HH:=zh (ai h h.len)
 clear h
 go_enter Tryz.func119,Tryz.ntmps119
 go_wp2_with fail
 have HW0:=zh (Below.refl w.heap.size w)
 go_loopw [13] (fun i wr=>∃ k:Nat,k<=n/\i=.int .i64 k/\Hid (z0g (hasErr l) k=0)/\Hid (MapIs wr Tryz.prog 9 w.heap.size k (z7d (l.take k)))/\Below w.heap.size w wr/\w.heap.size<wr.heap.size) (fun i _=>n-(intOf i).toNat)
 case atStart=>exact⟨0,by omega,rfl,zh rfl,zh (MapIs.made _ _ _),bel,by simp⟩
 case round =>
  obtain⟨k,hk,rfl,hz,hm,hbr,hsz⟩:=hrel
  by_cases hlt:k<n
  ·obtain⟨b,o,x,rfl,hbl,hl,hwf,x0,x1,x2,x3,x4,x5,x6⟩:=z7i (HH.out.1.now hbr) hlt
   have hbl':b<wr.heap.size:=hbl
   have hks:=Tryz.keyStr' x.name hwf.1
   have hch:=fun w=>z31 x.has.k x.has.n x.has.s w (z0s hwf.2.2.2.2)
   rw[show (⟨x.has.k,x.has.n,x.has.s⟩:Val)=x.has from rfl] at hch
   have HL:=zh (ai hl hks)
   clear hl hwf hbl hks
   by_cases hv:valCheck x.has=0
   ·have HV:=zh hv
    rw[hv] at hch
    have hlk:w.heap.size<wr.heap.size:=hsz
    clear hv
    cases hg0:factV (l.take k) x.name with
    | some u =>
     have hg:z7d (l.take k) (keyL x.name)=some u.ag:=by rw[zf3,hg0];rfl
     have HG:=zh hg
     have hnx:=(zfw HL.out.1).trans (zgo hg)
     have HN:=zh hnx
     clear hg hnx hg0
     go_wp2_with (first
      | (go_at_call 130;refine (hch _).mono ?_;rintro e w1 ⟨rfl,hb1⟩;refine zb hb1 ?_;rintro ⟨hc1,hf1⟩ hz1 hy1 hx1;refine szz w1 wr ?_;intros)
      | (at_lookup;refine z0u _ rfl _ _ 148 rfl 9 44 (Maps.string_keyed Tryz.underlying9) Tryz.underlying148 (Tryz.zeroVal _) w.heap.size k _ rfl (hm.out.below (show Below wr.heap.size wr _ from bel) hlk) _ _ rfl HL.out.2 ?_;rw[HG.out];simp only[Option.getD_some,Option.isSome_some]))
     go_roundw
     case rel=>exact⟨k+1,by omega,by go_num,zh (z0i hz.out ((z88 HL.out.1).trans HV.out)),zh (HN.out▸(hm.out.below (show Below wr.heap.size wr _ from bel) hlk).mono (Nat.le_succ _)),z01 hbr (show Below wr.heap.size wr _ from bel) (by omega),by have:=hb1.size;simp at this ⊢;omega⟩
     case measure=>simp[intOf];omega
    | none =>
     have hg:z7d (l.take k) (keyL x.name)=none:=by rw[zf3,hg0];rfl
     have HG:=zh hg
     have hnx:=(zfw HL.out.1).trans (zgn hg)
     have HN:=zh hnx
     clear hg hnx hg0
     go_wp2_with (first
      | (go_at_call 130;refine (hch _).mono ?_;rintro e w1 ⟨rfl,hb1⟩;refine zb hb1 ?_;rintro ⟨hc1,hf1⟩ hz1 hy1 hx1;refine szz w1 wr ?_;intros)
      | (at_lookup;refine z0u _ rfl _ _ 148 rfl 9 44 (Maps.string_keyed Tryz.underlying9) Tryz.underlying148 (Tryz.zeroVal _) w.heap.size k _ rfl (hm.out.below (show Below wr.heap.size wr _ from bel) hlk) _ _ rfl HL.out.2 ?_;rw[HG.out];simp only[Option.getD_none,Option.isSome_none])
      | (at_mapUpdate;refine z4m _ rfl _ _ _ 148 rfl 9 44 (Maps.string_keyed Tryz.underlying9) Tryz.underlying148 w.heap.size k _ rfl (hm.out.below (show Below wr.heap.size wr _ from bel) hlk) (by unfold maxLen;omega) _ _ _ rfl rfl HL.out.2 ?_;intro w5 hm5 hg5))
     go_roundw
     case rel=>exact⟨k+1,by omega,by go_num,zh (z0i hz.out ((z88 HL.out.1).trans HV.out)),zh (HN.out▸hm5),(z01 hbr (show Below wr.heap.size wr _ from bel) (by omega)).grown hg5 (by have:=hb1.size;simp at this ⊢;omega) (fun j e=>by cases e;exact nr _),by have:=hb1.size;have:=hg5.size;simp at *;omega⟩
     case measure=>simp[intOf];omega
   have HR:=zh (zfx hz.out HL.out.1 hv)
   generalize valCheck x.has=ve at hch hv HR
   have hv':(ve != 0)=true:=by simpa using hv
   have HF:=zh (show z1q l≠0 by rw[HR.out];exact hv)
   clear hv
   go_wp2_with (go_at_call 130;refine (hch _).mono ?_;rintro e w1 ⟨rfl,hb1⟩;refine zb hb1 ?_;rintro ⟨hc1,hf1⟩ hz1 hy1 hx1;refine szz w1 wr ?_;intros)
   go_ret2
   unfold RetF
   rw[if_neg HF.out,HR.out]
   exact⟨rfl,z01 hbr (show Below wr.heap.size wr _ from bel) (by omega)⟩
  have hke:k=n:=by omega
  subst hke
  have HE:=zh (show z1q l=0 by unfold z1q;rw[HH.out.2];exact hz.out)
  have HM:=hm.out
  rw[List.take_of_length_le (by rw[HH.out.2];exact nr _)] at HM
  have HM2:=zh HM
  clear HM
  go_wp2_with fail
  go_ret2
  unfold RetF
  rw[if_pos HE.out]
  exact⟨⟨rfl,HM2.out⟩,hbr⟩
theorem z45 (e:Int)(w:World):Calls Tryz.prog 159 #[.int .i64 e] w (RetV w (z1m e)):=by
 go_enter Tryz.func159,Tryz.ntmps159
 go_wp2_with fail
 exact bpr Tryz.results159 (.agg #[.int .i64 5,.int .i64 e,.string ⟨#[]⟩]) ⟨rfl,bel⟩
theorem zbm (b:Bool)(w:World):Calls Tryz.prog 185 #[.bool b] w (RetV w (z6g b)):=by
 cases b
 ·go_enter Tryz.func185,Tryz.ntmps185
  go_wp2_with fail
  exact bpr Tryz.results185 (.agg #[.int .i64 2,.int .i64 0,.string ⟨#[]⟩]) ⟨rfl,bel⟩
 go_enter Tryz.func185,Tryz.ntmps185
 go_wp2_with fail
 exact bpr Tryz.results185 (.agg #[.int .i64 2,.int .i64 1,.string ⟨#[]⟩]) ⟨rfl,bel⟩
def RetTB (w:World)(b:Bool)(e:Ending)(w':World):Prop:=e=.returned (.bool b)/\Below w.heap.size w w'
theorem z97 (A:Option Addr)(n c:Nat)(l:List Val)(S:Nat -> Prop)(t:Int)(w:World)(hn:inL n)(h:Sl w S 3 RVal A n l)(hS:∀ b,S b->b<w.heap.size):Calls Tryz.prog 186 #[.slice A n c,.int .i64 t] w (RetTB w (l.all fun v=>v.k==t)):=by
 unfold inL at hn
 have HH:=zh (ai (h.mono hS) h.len)
 clear h
 obtain⟨r,hr⟩:∃ r,(l.all fun v=>v.k==t)=r:=⟨_,rfl⟩
 have HR:=zh hr
 rw[hr]
 clear hr
 go_enter Tryz.func186,Tryz.ntmps186
 go_wp2_with fail
 go_loopw [9] (fun i wr=>∃ k:Nat,k<=n/\i=.int .i64 k/\Hid ((l.take k).all (fun v=>v.k==t)=true)/\Below w.heap.size w wr) (fun i _=>n-(intOf i).toNat)
 case atStart=>exact⟨0,by omega,rfl,zh (by simp),Below.refl _ _⟩
 case round =>
  obtain⟨k,hk,rfl,hz,hbr⟩:=hrel
  by_cases hlt:k<n
  ·obtain⟨b,o,v,rfl,hbl,hl,hwf,x0,x1,x2⟩:=z2t (HH.out.1.now hbr) hlt
   have hbl':b<wr.heap.size:=hbl
   have HL:=zh hl
   clear hl hwf hbl
   cases hp:(v.k==t)
   ·have hp':(v.k != t)=true:=by simp only[bne,hp,Bool.not_false]
    have HP:=zh (show r=false by
     rw[<-HR.out,List.all_eq_false]
     exact⟨v,List.mem_of_getElem? HL.out,by rw[hp];decide⟩)
    clear hp
    go_wp2_with fail
    go_ret
    exact⟨by rw[HP.out];rfl,bel⟩
   have hp':(v.k != t)=false:=by simp only[bne,hp,Bool.not_true]
   have HP:=zh hp
   clear hp
   go_wp2_with fail
   go_roundw
   case rel=>exact⟨k+1,by omega,by go_num,zh (by rw[List.take_add_one,HL.out,List.all_append,hz.out];simp[HP.out]),bel⟩
   case measure=>simp[intOf];omega
  have hke:k=n:=by omega
  subst hke
  have HE:=zh (show r=true by rw[<-HR.out];have:=hz.out;rwa [List.take_of_length_le (by rw[HH.out.2];exact nr _)] at this)
  go_wp2_with fail
  go_ret
  exact⟨by rw[HE.out];rfl,hbr⟩
open Go.RowKit Go.Maps
@[simp] theorem truthV_k (b:Bool):(z6g b).k=2:=rfl
@[simp] theorem truthV_n1:(z6g true).n=1:=rfl
@[simp] theorem truthV_n0:(z6g false).n=0:=rfl
@[simp] theorem truthV_s (b:Bool):(z6g b).s=⟨#[]⟩:=rfl
@[simp] theorem faultV_k (e:Int):(z1m e).k=5:=rfl
@[simp] theorem faultV_n (e:Int):(z1m e).n=e:=rfl
@[simp] theorem faultV_s (e:Int):(z1m e).s=⟨#[]⟩:=rfl
theorem one_at {w:World}{A:Option Addr}{a:Val}(h:Sl w (old w) 3 RVal A 1 [a]) :
  ∃ b o,A=some ⟨b,o,none⟩/\b<w.heap.size/\w.cell? ⟨b,o,none⟩=some (.int .i64 a.k)/\w.cell? ⟨b,o+1,none⟩=some (.int .i64 a.n)/\w.cell? ⟨b,o+2,none⟩=some (.string a.s):=by
 obtain⟨b,o,v,rfl,hb,hl,_,x0,x1,x2⟩:=z2t h (k:=0) (by omega)
 cases hl
 simp only[Nat.zero_mul,Nat.add_zero] at x0 x1 x2
 exact⟨b,o,rfl,hb,x0,x1,x2⟩
theorem two_at {w:World}{A:Option Addr}{a a':Val}(h:Sl w (old w) 3 RVal A 2 [a,a']) :
  ∃ b o,A=some ⟨b,o,none⟩/\b<w.heap.size/\(w.cell? ⟨b,o,none⟩=some (.int .i64 a.k)/\w.cell? ⟨b,o+1,none⟩=some (.int .i64 a.n)/\w.cell? ⟨b,o+2,none⟩=some (.string a.s)) /\
   (w.cell? ⟨b,o+3,none⟩=some (.int .i64 a'.k)/\w.cell? ⟨b,o+4,none⟩=some (.int .i64 a'.n)/\w.cell? ⟨b,o+5,none⟩=some (.string a'.s)):=by
 obtain⟨b,o,v,e,hb,hl,_,x0,x1,x2⟩:=z2t h (k:=0) (by omega)
 obtain⟨b',o',v',e',_,hl',_,y0,y1,y2⟩:=z2t h (k:=1) (by omega)
 rw[e] at e'
 cases e'
 cases hl
 cases hl'
 simp only[Nat.zero_mul,Nat.add_zero,Nat.one_mul] at x0 x1 x2 y0 y1 y2
 exact⟨b,o,e,hb,⟨x0,x1,x2⟩,y0,y1,y2⟩
theorem zer (a b:Val):∃ c,z2p a b=(c,0)\/z2p a b=(c,9):=by
 rcases valOrder_or a b with h | h
 ·exact⟨(z2p a b).1,.inl (Prod.ext rfl h)⟩
 exact⟨(z2p a b).1,.inr (Prod.ext rfl h)⟩
theorem apply_cmp (A:Option Addr)(c:Nat)(a a':Val)(op:Int)(w:World)(h:Sl w (old w) 3 RVal A 2 [a,a'])(ho:op=11\/op=12\/op=13\/op=14)(ha:a.s.size<=maxLen)(ha':a'.s.size<=maxLen) :
  Calls Tryz.prog 163 #[.int .i64 op,.slice A 2 c] w (RetV w (cmpV op (z2p a a'))):=by
 have hc:=fun w=>zeu a.k a.n a.s a'.k a'.n a'.s w ha ha'
 rw[show (⟨a.k,a.n,a.s⟩:Val)=a from rfl,show (⟨a'.k,a'.n,a'.s⟩:Val)=a' from rfl] at hc
 obtain⟨b,o,rfl,hbl,⟨x0,x1,x2⟩,y0,y1,y2⟩:=two_at h
 obtain⟨r,hr | hr⟩:=zer a a'
 ·rw[hr] at hc ⊢
  unfold cmpV
  rw[if_pos rfl]
  clear hr h
  obtain⟨t,ht⟩:∃ t,cmpTruth op r=t:=⟨_,rfl⟩
  show Calls Tryz.prog 163 #[.int .i64 op,.slice _ 2 c] w (RetV w (z6g (cmpTruth op r)))
  rw[ht]
  have hc0:cmpTruth op r=t:=ht
  unfold cmpTruth at ht
  rcases ho with rfl | rfl | rfl | rfl
  all_goals
   simp only[reduceIte,Int.reduceEq] at ht
   cases t
   ·have ht':=ht
    first | (replace ht':=of_decide_eq_true ht) | (replace ht':=of_decide_eq_false ht) | (replace ht':=eq_of_beq ht) | (replace ht':=beq_eq_false_iff_ne.1 ht) | (replace ht':=bne_iff_ne.1 ht) | (replace ht':=bne_eq_false_iff_eq.1 ht)
    clear hc0
    go_enter Tryz.func163,Tryz.ntmps163
    go_wp2_with fail
    have hB0:Below w.heap.size w (w.drew):=bel
    go_region_law (go_simp;go_at_call 184;refine (hc _).mono ?_;rintro e w1 ⟨rfl,hb1⟩;refine zb hb1 ?_;rintro ⟨hc1,hf1⟩ hz1 hy1 hx1;refine szz w1 w ?_;intros;dsimp only)
    all_goals
     go_wp2_with (go_at_call 185;refine (zbm _ _).mono ?_;rintro e w2 ⟨rfl,hb2⟩;refine zb hb2 ?_;rintro ⟨hc2,hf2⟩ hz2 hy2 hx2;refine szz w2 w ?_;intros;refine szz w2 w1 ?_;intros;dsimp only)
     exact bpr Tryz.results163 (.agg #[.int .i64 2,.int .i64 0,.string ⟨#[]⟩]) ⟨rfl,bel⟩
   have ht':=ht
   first | (replace ht':=of_decide_eq_true ht) | (replace ht':=of_decide_eq_false ht) | (replace ht':=eq_of_beq ht) | (replace ht':=beq_eq_false_iff_ne.1 ht) | (replace ht':=bne_iff_ne.1 ht) | (replace ht':=bne_eq_false_iff_eq.1 ht)
   clear hc0
   go_enter Tryz.func163,Tryz.ntmps163
   go_wp2_with fail
   have hB0:Below w.heap.size w (w.drew):=bel
   go_region_law (go_simp;go_at_call 184;refine (hc _).mono ?_;rintro e w1 ⟨rfl,hb1⟩;refine zb hb1 ?_;rintro ⟨hc1,hf1⟩ hz1 hy1 hx1;refine szz w1 w ?_;intros;dsimp only)
   all_goals
    go_wp2_with (go_at_call 185;refine (zbm _ _).mono ?_;rintro e w2 ⟨rfl,hb2⟩;refine zb hb2 ?_;rintro ⟨hc2,hf2⟩ hz2 hy2 hx2;refine szz w2 w ?_;intros;refine szz w2 w1 ?_;intros;dsimp only)
    exact bpr Tryz.results163 (.agg #[.int .i64 2,.int .i64 1,.string ⟨#[]⟩]) ⟨rfl,bel⟩
 rw[hr] at hc ⊢
 show Calls Tryz.prog 163 #[.int .i64 op,.slice _ 2 c] w (RetV w (z1m 9))
 clear hr h
 rcases ho with rfl | rfl | rfl | rfl
 all_goals
  go_enter Tryz.func163,Tryz.ntmps163
  go_wp2_with fail
  have hB0:Below w.heap.size w (w.drew):=bel
  go_region_law (go_simp;go_at_call 184;refine (hc _).mono ?_;rintro e w1 ⟨rfl,hb1⟩;refine zb hb1 ?_;rintro ⟨hc1,hf1⟩ hz1 hy1 hx1;refine szz w1 w ?_;intros;dsimp only)
  all_goals
   go_wp2_with (go_at_call 159;refine (z45 _ _).mono ?_;rintro e w2 ⟨rfl,hb2⟩;refine zb hb2 ?_;rintro ⟨hc2,hf2⟩ hz2 hy2 hx2;refine szz w2 w ?_;intros;refine szz w2 w1 ?_;intros;dsimp only)
   exact bpr Tryz.results163 (.agg #[.int .i64 5,.int .i64 9,.string ⟨#[]⟩]) ⟨rfl,bel⟩
theorem apply_not (A:Option Addr)(c:Nat)(a:Val)(w:World)(h:Sl w (old w) 3 RVal A 1 [a]) :
  Calls Tryz.prog 163 #[.int .i64 4,.slice A 1 c] w (RetV w (if a.k=2 then z6g (a.n==0) else z1m 9)):=by
 have hk:=fun w h hS=>z97 A 1 c [a] (old w) 2 w (by unfold inL;decide) h hS
 have HH:=zh h
 obtain⟨b,o,rfl,hbl,x0,x1,x2⟩:=one_at h
 clear h
 simp only[List.all_cons,List.all_nil,Bool.and_true] at hk
 by_cases hp:a.k=2
 ·have hp':(a.k==2)=true:=by simpa using hp
  rw[if_pos hp]
  simp only[hp'] at hk
  clear hp hp'
  cases hq:a.n==0
  ·go_enter Tryz.func163,Tryz.ntmps163
   go_wp2_with (first
    | (go_at_call 186;refine (hk _ (HH.out.now bel) (fun _ h=>h)).mono ?_;rintro e w1 ⟨rfl,hb1⟩;refine zb hb1 ?_;rintro ⟨hc1,hf1⟩ hz1 hy1 hx1;refine szz w1 w ?_;intros)
    | (go_at_call 185;refine (zbm _ _).mono ?_;rintro e w2 ⟨rfl,hb2⟩;refine zb hb2 ?_;rintro ⟨hc2,hf2⟩ hz2 hy2 hx2;refine szz w2 w ?_;intros;refine szz w2 w1 ?_;intros;dsimp only))
   exact bpr Tryz.results163 (.agg #[.int .i64 2,.int .i64 0,.string ⟨#[]⟩]) ⟨rfl,bel⟩
  go_enter Tryz.func163,Tryz.ntmps163
  go_wp2_with (first
   | (go_at_call 186;refine (hk _ (HH.out.now bel) (fun _ h=>h)).mono ?_;rintro e w1 ⟨rfl,hb1⟩;refine zb hb1 ?_;rintro ⟨hc1,hf1⟩ hz1 hy1 hx1;refine szz w1 w ?_;intros)
   | (go_at_call 185;refine (zbm _ _).mono ?_;rintro e w2 ⟨rfl,hb2⟩;refine zb hb2 ?_;rintro ⟨hc2,hf2⟩ hz2 hy2 hx2;refine szz w2 w ?_;intros;refine szz w2 w1 ?_;intros;dsimp only))
  exact bpr Tryz.results163 (.agg #[.int .i64 2,.int .i64 1,.string ⟨#[]⟩]) ⟨rfl,bel⟩
 have hp':(a.k==2)=false:=by simpa using hp
 rw[if_neg hp]
 simp only[hp'] at hk
 clear hp hp'
 go_enter Tryz.func163,Tryz.ntmps163
 go_wp2_with (first
  | (go_at_call 186;refine (hk _ (HH.out.now bel) (fun _ h=>h)).mono ?_;rintro e w1 ⟨rfl,hb1⟩;refine zb hb1 ?_;rintro ⟨hc1,hf1⟩ hz1 hy1 hx1;refine szz w1 w ?_;intros)
  | (go_at_call 159;refine (z45 _ _).mono ?_;rintro e w2 ⟨rfl,hb2⟩;refine zb hb2 ?_;rintro ⟨hc2,hf2⟩ hz2 hy2 hx2;refine szz w2 w ?_;intros;refine szz w2 w1 ?_;intros;dsimp only))
 exact bpr Tryz.results163 (.agg #[.int .i64 5,.int .i64 9,.string ⟨#[]⟩]) ⟨rfl,bel⟩
theorem apply_len (A:Option Addr)(c:Nat)(a:Val)(w:World)(h:Sl w (old w) 3 RVal A 1 [a]) :
  Calls Tryz.prog 163 #[.int .i64 18,.slice A 1 c] w (RetV w (if a.k=3 then ⟨1,a.s.size,⟨#[]⟩⟩ else z1m 9)):=by
 have hk:=fun w h hS=>z97 A 1 c [a] (old w) 3 w (by unfold inL;decide) h hS
 have HH:=zh h
 obtain⟨b,o,rfl,hbl,x0,x1,x2⟩:=one_at h
 clear h
 simp only[List.all_cons,List.all_nil,Bool.and_true] at hk
 by_cases hp:a.k=3
 ·have hp':(a.k==3)=true:=by simpa using hp
  rw[if_pos hp]
  simp only[hp'] at hk
  clear hp hp'
  go_enter Tryz.func163,Tryz.ntmps163
  go_wp2_with (go_at_call 186;refine (hk _ (HH.out.now bel) (fun _ h=>h)).mono ?_;rintro e w1 ⟨rfl,hb1⟩;refine zb hb1 ?_;rintro ⟨hc1,hf1⟩ hz1 hy1 hx1;refine szz w1 w ?_;intros)
  exact bpr Tryz.results163 (.agg #[.int .i64 1,.int .i64 a.s.size,.string ⟨#[]⟩]) ⟨rfl,bel⟩
 have hp':(a.k==3)=false:=by simpa using hp
 rw[if_neg hp]
 simp only[hp'] at hk
 clear hp hp'
 go_enter Tryz.func163,Tryz.ntmps163
 go_wp2_with (first
  | (go_at_call 186;refine (hk _ (HH.out.now bel) (fun _ h=>h)).mono ?_;rintro e w1 ⟨rfl,hb1⟩;refine zb hb1 ?_;rintro ⟨hc1,hf1⟩ hz1 hy1 hx1;refine szz w1 w ?_;intros)
  | (go_at_call 159;refine (z45 _ _).mono ?_;rintro e w2 ⟨rfl,hb2⟩;refine zb hb2 ?_;rintro ⟨hc2,hf2⟩ hz2 hy2 hx2;refine szz w2 w ?_;intros;refine szz w2 w1 ?_;intros;dsimp only))
 exact bpr Tryz.results163 (.agg #[.int .i64 5,.int .i64 9,.string ⟨#[]⟩]) ⟨rfl,bel⟩
theorem apply_join (A:Option Addr)(c:Nat)(a a':Val)(w:World)(h:Sl w (old w) 3 RVal A 2 [a,a'])(ha:a.s.size<=40)(ha':a'.s.size<=40) :
  Calls Tryz.prog 163 #[.int .i64 10,.slice A 2 c] w (RetV w (if a.k=3/\a'.k=3 then joinV a.s a'.s else z1m 9)):=by
 have hk:=fun w h hS=>z97 A 2 c [a,a'] (old w) 3 w (by unfold inL;decide) h hS
 have HH:=zh h
 obtain⟨b,o,rfl,hbl,⟨x0,x1,x2⟩,y0,y1,y2⟩:=two_at h
 clear h
 simp only[List.all_cons,List.all_nil,Bool.and_true] at hk
 by_cases hp:a.k=3/\a'.k=3
 ·have hp':(a.k==3&&a'.k==3)=true:=by simpa using hp
  rw[if_pos hp]
  simp only[hp'] at hk
  clear hp hp'
  unfold joinV
  by_cases hs:a.s.size+a'.s.size<=40
  ·rw[if_pos hs]
   have hs1:¬ (40:Int)<(a.s.size:Int)+a'.s.size:=by omega
   have hs2:decide ((40:Int)<(a.s.size:Int)+a'.s.size)=false:=by simpa using hs1
   go_enter Tryz.func163,Tryz.ntmps163
   go_wp2_with (go_at_call 186;refine (hk _ (HH.out.now bel) (fun _ h=>h)).mono ?_;rintro e w1 ⟨rfl,hb1⟩;refine zb hb1 ?_;rintro ⟨hc1,hf1⟩ hz1 hy1 hx1;refine szz w1 w ?_;intros)
   go_quiet (fail)
   go_wp2_with fail
   go_region
   all_goals
    go_wp2_with fail
    exact bpr Tryz.results163 (.agg #[.int .i64 3,.int .i64 0,.string (a.s++a'.s)]) ⟨rfl,bel⟩
  rw[if_neg hs]
  have hs1:(40:Int)<(a.s.size:Int)+a'.s.size:=by omega
  have hs2:decide ((40:Int)<(a.s.size:Int)+a'.s.size)=true:=by simpa using hs1
  go_enter Tryz.func163,Tryz.ntmps163
  go_wp2_with (go_at_call 186;refine (hk _ (HH.out.now bel) (fun _ h=>h)).mono ?_;rintro e w1 ⟨rfl,hb1⟩;refine zb hb1 ?_;rintro ⟨hc1,hf1⟩ hz1 hy1 hx1;refine szz w1 w ?_;intros)
  go_quiet (fail)
  go_wp2_with (go_at_call 159;refine (z45 _ _).mono ?_;rintro e w2 ⟨rfl,hb2⟩;refine zb hb2 ?_;rintro ⟨hc2,hf2⟩ hz2 hy2 hx2;refine szz w2 w ?_;intros;refine szz w2 w1 ?_;intros;dsimp only)
  exact bpr Tryz.results163 (.agg #[.int .i64 5,.int .i64 1,.string ⟨#[]⟩]) ⟨rfl,bel⟩
 have hp':(a.k==3&&a'.k==3)=false:=by
  cases hq:(a.k==3&&a'.k==3)
  ·rfl
  exact absurd (by simpa using hq) hp
 rw[if_neg hp]
 simp only[hp'] at hk
 clear hp hp'
 go_enter Tryz.func163,Tryz.ntmps163
 go_wp2_with (first
  | (go_at_call 186;refine (hk _ (HH.out.now bel) (fun _ h=>h)).mono ?_;rintro e w1 ⟨rfl,hb1⟩;refine zb hb1 ?_;rintro ⟨hc1,hf1⟩ hz1 hy1 hx1;refine szz w1 w ?_;intros)
  | (go_at_call 159;refine (z45 _ _).mono ?_;rintro e w2 ⟨rfl,hb2⟩;refine zb hb2 ?_;rintro ⟨hc2,hf2⟩ hz2 hy2 hx2;refine szz w2 w ?_;intros;refine szz w2 w1 ?_;intros;dsimp only))
 exact bpr Tryz.results163 (.agg #[.int .i64 5,.int .i64 9,.string ⟨#[]⟩]) ⟨rfl,bel⟩
open Go.RowKit Go.Maps
theorem Tryz.zeroFun (w:World):(zeroValue 200).run Tryz.prog w=.ok .nilFunc w:=by kernel_rfl
def numMap:Lit->Option Value:=(putAt (putAt (putAt (putAt (putAt (fun _=>none) (.int .i64 5) (.func (.func 187) #[] #[])) (.int .i64 6) (.func (.func 188) #[] #[])) (.int .i64 7) (.func (.func 189) #[] #[])) (.int .i64 8) (.func (.func 190) #[] #[])) (.int .i64 9) (.func (.func 191) #[] #[]))
theorem cf_numMul (args:Array Value)(w:World):(callFunc 187 args).run Tryz.prog w=.ok (.enter 187 args) w:=cf _ _ Tryz.func187 (by kernel_rfl) (by kernel_rfl) args w
theorem cf_numDiv (args:Array Value)(w:World):(callFunc 188 args).run Tryz.prog w=.ok (.enter 188 args) w:=cf _ _ Tryz.func188 (by kernel_rfl) (by kernel_rfl) args w
theorem cf_numMod (args:Array Value)(w:World):(callFunc 189 args).run Tryz.prog w=.ok (.enter 189 args) w:=cf _ _ Tryz.func189 (by kernel_rfl) (by kernel_rfl) args w
theorem cf_numAdd (args:Array Value)(w:World):(callFunc 190 args).run Tryz.prog w=.ok (.enter 190 args) w:=cf _ _ Tryz.func190 (by kernel_rfl) (by kernel_rfl) args w
theorem cf_numSub (args:Array Value)(w:World):(callFunc 191 args).run Tryz.prog w=.ok (.enter 191 args) w:=cf _ _ Tryz.func191 (by kernel_rfl) (by kernel_rfl) args w
theorem zan (op:Int)(fi:FuncId)(g:Int->Int->Int×Int)(hop:op=5\/op=6\/op=7\/op=8\/op=9)(hop2:(numMap (.int .i64 op)).getD .nilFunc=.func (.func fi) #[] #[])
  (hcf:∀ args w,(callFunc fi args).run Tryz.prog w=.ok (.enter fi args) w)(hNum:∀ a b w,Calls Tryz.prog fi #[.int .i64 a,.int .i64 b] w fun e w'=>e=.returned (.tuple #[.int .i64 (g a b).1,.int .i64 (g a b).2])/\∃ n,w'=w.drewN n)
  (A:Option Addr)(c:Nat)(a a':Val)(w:World)(h:Sl w (old w) 3 RVal A 2 [a,a']) :
  Calls Tryz.prog 163 #[.int .i64 op,.slice A 2 c] w (RetV w (if a.k=1/\a'.k=1 then numV (g a.n a'.n) else z1m 9)):=by
 have hk:=fun w h hS=>z97 A 2 c [a,a'] (old w) 1 w (by unfold inL;decide) h hS
 have HH:=zh h
 obtain⟨b,o,rfl,hbl,⟨x0,x1,x2⟩,y0,y1,y2⟩:=two_at h
 clear h
 simp only[List.all_cons,List.all_nil,Bool.and_true] at hk
 have hmm:=@run_makeMap Tryz.prog
 have ho4:(op==4)=false:=by rcases hop with rfl | rfl | rfl | rfl | rfl<;>rfl
 have ho10:(op==10)=false:=by rcases hop with rfl | rfl | rfl | rfl | rfl<;>rfl
 have ho18:(op==18)=false:=by rcases hop with rfl | rfl | rfl | rfl | rfl<;>rfl
 have ho3:(op==3)=false:=by rcases hop with rfl | rfl | rfl | rfl | rfl<;>rfl
 have ho11:(op==11)=false:=by rcases hop with rfl | rfl | rfl | rfl | rfl<;>rfl
 have ho12:(op==12)=false:=by rcases hop with rfl | rfl | rfl | rfl | rfl<;>rfl
 have ho13:(op==13)=false:=by rcases hop with rfl | rfl | rfl | rfl | rfl<;>rfl
 have ho14:(op==14)=false:=by rcases hop with rfl | rfl | rfl | rfl | rfl<;>rfl
 have HOP:=zh (ai (by rcases hop with rfl | rfl | rfl | rfl | rfl<;>rfl:(Lit.int .i64 op).wf=true) hop2)
 clear hop hop2
 by_cases hp:a.k=1/\a'.k=1
 ·have hp':(a.k==1&&a'.k==1)=true:=by simpa using hp
  rw[if_pos hp]
  simp only[hp'] at hk
  clear hp hp'
  have hN:=fun w=>hNum a.n a'.n w
  obtain⟨r,e,hr⟩:∃ r e,g a.n a'.n=(r,e):=⟨_,_,rfl⟩
  rw[hr] at hN ⊢
  clear hr hNum
  dsimp only at hN
  unfold numV
  obtain⟨out,hout⟩:∃ u,(if e=0 then (⟨1,r,⟨#[]⟩⟩:Val) else z1m e)=u:=⟨_,rfl⟩
  rw[hout]
  have HO:=zh hout
  clear hout
  go_enter Tryz.func163,Tryz.ntmps163
  go_wp2_with (first
   | (go_at_call 186;refine (hk _ (HH.out.now bel) (fun _ h=>h)).mono ?_;rintro e w1 ⟨rfl,hb1⟩;refine zb hb1 ?_;rintro ⟨hc1,hf1⟩ hz1 hy1 hx1;refine szz w1 w ?_;intros)
   | (refine z1a _ rfl _ (.const (.int .i64 5)) _ 201 rfl 3 200 (Maps.int_keyed Tryz.underlying3) Tryz.underlying201 _ 0 _ rfl (MapIs.made _ _ _) (by unfold maxLen;omega) _ _ _ rfl rfl (Tryz.keyInt 5 (by decide)) ?_;intro u0 hm0 hg0)
   | (refine z1a _ rfl _ (.const (.int .i64 6)) _ 201 rfl 3 200 (Maps.int_keyed Tryz.underlying3) Tryz.underlying201 _ 1 _ rfl hm0 (by unfold maxLen;omega) _ _ _ rfl rfl (Tryz.keyInt 6 (by decide)) ?_;intro u1 hm1 hg1)
   | (refine z1a _ rfl _ (.const (.int .i64 7)) _ 201 rfl 3 200 (Maps.int_keyed Tryz.underlying3) Tryz.underlying201 _ 2 _ rfl hm1 (by unfold maxLen;omega) _ _ _ rfl rfl (Tryz.keyInt 7 (by decide)) ?_;intro u2 hm2 hg2)
   | (refine z1a _ rfl _ (.const (.int .i64 8)) _ 201 rfl 3 200 (Maps.int_keyed Tryz.underlying3) Tryz.underlying201 _ 3 _ rfl hm2 (by unfold maxLen;omega) _ _ _ rfl rfl (Tryz.keyInt 8 (by decide)) ?_;intro u3 hm3 hg3)
   | (refine z1a _ rfl _ (.const (.int .i64 9)) _ 201 rfl 3 200 (Maps.int_keyed Tryz.underlying3) Tryz.underlying201 _ 4 _ rfl hm3 (by unfold maxLen;omega) _ _ _ rfl rfl (Tryz.keyInt 9 (by decide)) ?_;intro w4 hm4 hg4)
   | (at_lookup;refine z2g _ rfl _ _ 201 rfl 3 200 (Maps.int_keyed Tryz.underlying3) Tryz.underlying201 (Tryz.zeroFun _) _ 5 numMap rfl hm4 _ _ rfl (Tryz.keyInt op HOP.out.1) ?_;rw[HOP.out.2]))
  have s0:w1.heap.size<=u0.heap.size:=by have:=hg0.size;simp at this;omega
  have s1:=Nat.le_trans s0 hg1.size
  have s2:=Nat.le_trans s1 hg2.size
  have s3:=Nat.le_trans s2 hg3.size
  have hb4:Below w1.heap.size w1 w4:=(((((Below.alloc (Below.refl _ w1) (nr _) _).grown hg0 (by simp) (fun j e=>by cases e;exact nr _)).grown hg1 s0 (fun j e=>by cases e;exact nr _)).grown hg2 s1 (fun j e=>by cases e;exact nr _)).grown hg3 s2 (fun j e=>by cases e;exact nr _)).grown hg4 s3 (fun j e=>by cases e;exact nr _)
  clear s0 s1 s2 s3 hm0 hm1 hm2 hm3 hm4 hg0 hg1 hg2 hg3 hg4
  have hbl1:b<w1.heap.size:=by omega
  refine zb hb4 ?_;rintro ⟨hc4,hf4⟩ hz4 hy4 hx4;refine szz w4 w ?_;intros;refine szz w4 w1 ?_;intros
  go_quiet (fail)
  by_cases he:e=0
  ·subst he
   obtain rfl:=(HO.out.symm.trans (if_pos rfl))
   go_wp2_with (first
    | (refine (hN _).mono ?_;rintro e w2 ⟨rfl,nq,rfl⟩))
   exact bpr Tryz.results163 (.agg #[.int .i64 1,.int .i64 r,.string ⟨#[]⟩]) ⟨rfl,bel⟩
  obtain rfl:=(HO.out.symm.trans (if_neg he))
  have he':(e != 0)=true:=by simpa using he
  clear he
  go_wp2_with (first
   | (refine (hN _).mono ?_;rintro e w2 ⟨rfl,nq,rfl⟩)
   | (go_at_call 159;refine (z45 _ _).mono ?_;rintro e w3 ⟨rfl,hb3⟩;refine zb hb3 ?_;rintro ⟨hc3,hf3⟩ hz3 hy3 hx3;refine szz w3 w ?_;intros;refine szz w3 w1 ?_;intros;refine szz w3 w4 ?_;intros;dsimp only))
  exact bpr Tryz.results163 (.agg #[.int .i64 5,.int .i64 e,.string ⟨#[]⟩]) ⟨rfl,bel⟩
 have hp':(a.k==1&&a'.k==1)=false:=by
  cases hq:(a.k==1&&a'.k==1)
  ·rfl
  exact absurd (by simpa using hq) hp
 rw[if_neg hp]
 simp only[hp'] at hk
 clear hp hp'
 go_enter Tryz.func163,Tryz.ntmps163
 go_wp2_with (first
  | (go_at_call 186;refine (hk _ (HH.out.now bel) (fun _ h=>h)).mono ?_;rintro e w1 ⟨rfl,hb1⟩;refine zb hb1 ?_;rintro ⟨hc1,hf1⟩ hz1 hy1 hx1;refine szz w1 w ?_;intros)
  | (go_at_call 159;refine (z45 _ _).mono ?_;rintro e w2 ⟨rfl,hb2⟩;refine zb hb2 ?_;rintro ⟨hc2,hf2⟩ hz2 hy2 hx2;refine szz w2 w ?_;intros;refine szz w2 w1 ?_;intros;dsimp only))
 exact bpr Tryz.results163 (.agg #[.int .i64 5,.int .i64 9,.string ⟨#[]⟩]) ⟨rfl,bel⟩
theorem apply_neg (A:Option Addr)(c:Nat)(a:Val)(w:World)(h:Sl w (old w) 3 RVal A 1 [a])(hv:a.k=1->z0o a.n=0) :
  Calls Tryz.prog 163 #[.int .i64 3,.slice A 1 c] w (RetV w (if a.k=1 then ⟨1,-a.n,⟨#[]⟩⟩ else z1m 9)):=by
 have hk:=fun w h hS=>z97 A 1 c [a] (old w) 1 w (by unfold inL;decide) h hS
 have HH:=zh h
 obtain⟨b,o,rfl,hbl,x0,x1,x2⟩:=one_at h
 clear h
 simp only[List.all_cons,List.all_nil,Bool.and_true] at hk
 have hmm:=@run_makeMap Tryz.prog
 have hcf:=cf_numSub
 by_cases hp:a.k=1
 ·have hp':(a.k==1)=true:=by simpa using hp
  have hc0:=hv hp
  rw[if_pos hp]
  simp only[hp'] at hk
  clear hp hp' hv
  have hN:=fun w=>num_Sub 0 a.n w
  have hr:z7m 0 a.n=(-a.n,0):=by
   have:=z11 hc0
   unfold z7m z0x
   rw[if_pos ⟨by decide,hc0⟩,Int.zero_sub]
   unfold z2m
   rw[if_pos (z9w (by omega) (by omega))]
  rw[hr] at hN
  clear hr hc0
  dsimp only at hN
  obtain⟨r,hr⟩:∃ r,-a.n=r:=⟨_,rfl⟩
  rw[hr] at hN ⊢
  clear hr
  ·go_enter Tryz.func163,Tryz.ntmps163
   go_wp2_with (first
    | (go_at_call 186;refine (hk _ (HH.out.now bel) (fun _ h=>h)).mono ?_;rintro e w1 ⟨rfl,hb1⟩;refine zb hb1 ?_;rintro ⟨hc1,hf1⟩ hz1 hy1 hx1;refine szz w1 w ?_;intros)
    | (refine z1a _ rfl _ (.const (.int .i64 5)) _ 201 rfl 3 200 (Maps.int_keyed Tryz.underlying3) Tryz.underlying201 _ 0 _ rfl (MapIs.made _ _ _) (by unfold maxLen;omega) _ _ _ rfl rfl (Tryz.keyInt 5 (by decide)) ?_;intro u0 hm0 hg0)
    | (refine z1a _ rfl _ (.const (.int .i64 6)) _ 201 rfl 3 200 (Maps.int_keyed Tryz.underlying3) Tryz.underlying201 _ 1 _ rfl hm0 (by unfold maxLen;omega) _ _ _ rfl rfl (Tryz.keyInt 6 (by decide)) ?_;intro u1 hm1 hg1)
    | (refine z1a _ rfl _ (.const (.int .i64 7)) _ 201 rfl 3 200 (Maps.int_keyed Tryz.underlying3) Tryz.underlying201 _ 2 _ rfl hm1 (by unfold maxLen;omega) _ _ _ rfl rfl (Tryz.keyInt 7 (by decide)) ?_;intro u2 hm2 hg2)
    | (refine z1a _ rfl _ (.const (.int .i64 8)) _ 201 rfl 3 200 (Maps.int_keyed Tryz.underlying3) Tryz.underlying201 _ 3 _ rfl hm2 (by unfold maxLen;omega) _ _ _ rfl rfl (Tryz.keyInt 8 (by decide)) ?_;intro u3 hm3 hg3)
    | (refine z1a _ rfl _ (.const (.int .i64 9)) _ 201 rfl 3 200 (Maps.int_keyed Tryz.underlying3) Tryz.underlying201 _ 4 _ rfl hm3 (by unfold maxLen;omega) _ _ _ rfl rfl (Tryz.keyInt 9 (by decide)) ?_;intro w4 hm4 hg4)
    | (at_lookup;refine z2g _ rfl _ _ 201 rfl 3 200 (Maps.int_keyed Tryz.underlying3) Tryz.underlying201 (Tryz.zeroFun _) _ 5 numMap rfl hm4 _ _ rfl (Tryz.keyInt 3 (by decide)) ?_;rw[show ((numMap (.int .i64 3):Option Value).getD .nilFunc)=.nilFunc from rfl]))
   have s0:w1.heap.size<=u0.heap.size:=by have:=hg0.size;simp at this;omega
   have s1:=Nat.le_trans s0 hg1.size
   have s2:=Nat.le_trans s1 hg2.size
   have s3:=Nat.le_trans s2 hg3.size
   have hb4:Below w1.heap.size w1 w4:=(((((Below.alloc (Below.refl _ w1) (nr _) _).grown hg0 (by simp) (fun j e=>by cases e;exact nr _)).grown hg1 s0 (fun j e=>by cases e;exact nr _)).grown hg2 s1 (fun j e=>by cases e;exact nr _)).grown hg3 s2 (fun j e=>by cases e;exact nr _)).grown hg4 s3 (fun j e=>by cases e;exact nr _)
   clear s0 s1 s2 s3 hm0 hm1 hm2 hm3 hm4 hg0 hg1 hg2 hg3 hg4
   have hbl1:b<w1.heap.size:=by omega
   refine zb hb4 ?_;rintro ⟨hc4,hf4⟩ hz4 hy4 hx4;refine szz w4 w ?_;intros;refine szz w4 w1 ?_;intros
   go_quiet (fail)
   go_wp2_with (first
    | (refine (hN _).mono ?_;rintro e w2 ⟨rfl,nq,rfl⟩))
   exact bpr Tryz.results163 (.agg #[.int .i64 1,.int .i64 r,.string ⟨#[]⟩]) ⟨rfl,bel⟩
 have hp':(a.k==1)=false:=by simpa using hp
 rw[if_neg hp]
 simp only[hp'] at hk
 clear hp hp'
 go_enter Tryz.func163,Tryz.ntmps163
 go_wp2_with (first
  | (go_at_call 186;refine (hk _ (HH.out.now bel) (fun _ h=>h)).mono ?_;rintro e w1 ⟨rfl,hb1⟩;refine zb hb1 ?_;rintro ⟨hc1,hf1⟩ hz1 hy1 hx1;refine szz w1 w ?_;intros)
  | (go_at_call 159;refine (z45 _ _).mono ?_;rintro e w2 ⟨rfl,hb2⟩;refine zb hb2 ?_;rintro ⟨hc2,hf2⟩ hz2 hy2 hx2;refine szz w2 w ?_;intros;refine szz w2 w1 ?_;intros;dsimp only))
 exact bpr Tryz.results163 (.agg #[.int .i64 5,.int .i64 9,.string ⟨#[]⟩]) ⟨rfl,bel⟩
theorem eval_apply (A:Option Addr)(n c:Nat)(vs:List Val)(op:Int)(w:World)(h:Sl w (old w) 3 RVal A n vs)(ho:3<=op/\op<=18/\¬ isChoice op)(hl:(vs.length:Int)=argsN op)(hv:∀ v∈vs,valCheck v=0) :
  Calls Tryz.prog 163 #[.int .i64 op,.slice A n c] w (RetV w (appV op vs)):=by
 have hn:=h.len
 subst hn
 unfold isChoice at ho
 obtain⟨h3,h18,hnc⟩:=ho
 rcases (by omega:op=3\/op=4\/op=5\/op=6\/op=7\/op=8\/op=9\/op=10\/(op=11\/op=12\/op=13\/op=14)\/op=18) with e | e | e | e | e | e | e | e | e | e
 ·subst e
  match vs,hl with
  | [a],_=>exact apply_neg A c a w h fun hk=>(zfp (hv a (by simp)) hk).1
 ·subst e
  match vs,hl with
  | [a],_=>exact apply_not A c a w h
 ·subst e
  match vs,hl with
  | [a,a'],_=>exact zan _ _ z76 (by omega) rfl cf_numMul num_Mul A c a a' w h
 ·subst e
  match vs,hl with
  | [a,a'],_=>exact zan _ _ z4c (by omega) rfl cf_numDiv num_Div A c a a' w h
 ·subst e
  match vs,hl with
  | [a,a'],_=>exact zan _ _ z51 (by omega) rfl cf_numMod num_Mod A c a a' w h
 ·subst e
  match vs,hl with
  | [a,a'],_=>exact zan _ _ z8q (by omega) rfl cf_numAdd num_Add A c a a' w h
 ·subst e
  match vs,hl with
  | [a,a'],_=>exact zan _ _ z7m (by omega) rfl cf_numSub num_Sub A c a a' w h
 ·subst e
  match vs,hl with
  | [a,a'],_=>exact apply_join A c a a' w h (z6d (hv a (by simp))) (z6d (hv a' (by simp)))
 ·have hl2:vs.length=2:=by
   have:argsN op=2:=by rcases e with rfl | rfl | rfl | rfl<;>rfl
   omega
  match vs,hl2 with
  | [a,a'],_ =>
   have ha:=z6d (hv a (by simp))
   have ha':=z6d (hv a' (by simp))
   have he:appV op [a,a']=cmpV op (z2p a a'):=by unfold appV;rw[if_pos (by omega)];rfl
   rw[he]
   exact apply_cmp A c a a' op w h e (by unfold maxLen;omega) (by unfold maxLen;omega)
 subst e
 match vs,hl with
 | [a],_=>exact apply_len A c a w h
end Go.Proofs.YtldhlpjjcnlbcaaGreat
