/- Texts merged (mergeh.py): EngP OrcR Whl1 WhlG. -/
import Derived.Test.YtldhlpjjcnlbcaaGreatCall1
import Derived.Test.YtldhlpjjcnlbcaaGreatCall3
import Derived.Test.YtldhlpjjcnlbcaaGreatOrc
import Derived.Test.YtldhlpjjcnlbcaaGreatRowV
/- How an engine is settled. Plain laws. -/
set_option maxRecDepth 100000
set_option maxHeartbeats 8000000
namespace Go.Proofs.YtldhlpjjcnlbcaaGreat
open Go.RowKit
structure Est where (calls:List Cll)(vals:List Val)(last:Int)(ltrs:List Ltr)
def valE (key:Val)(c:Cll):Val:=if 3<key.k then key else z0v c
def turnE (p:Pol)(now:Int)(s:Est)(i:Nat)(key:Val):Cll×Bool×Int:=z1p (s.calls[i]?.getD noCll) p (s.last+1) key now
def lookE (p:Pol)(now:Int)(s:Est)(i:Nat)(nm:ByteArray)(key:Val):Est :=
 ⟨s.calls.set i (turnE p now s i key).1,s.vals.set i (valE key (turnE p now s i key).1),if (turnE p now s i key).2.1=true then s.last+1 else s.last,
  if (turnE p now s i key).2.1=true then s.ltrs++[⟨nm,(turnE p now s i key).1.id,(turnE p now s i key).1.key,noVal⟩] else s.ltrs⟩
def keyE (kn:List Fct)(f:Fld):Val:=(evalRes kn f.source).1
def eStep (p:Pol)(ins:List Fct)(now:Int)(kn:List Fct)(s:Est)(i:Nat)(f:Fld):Est :=
 if f.kind=3 then lookE p now s i f.name (keyE kn f) else ⟨s.calls,s.vals.set i (oneV f ins [] kn),s.last,s.ltrs⟩
def eTo (F:List Fld)(p:Pol)(ins:List Fct)(now:Int)(kn:Est->Nat -> List Fct)(s0:Est)(ord:List Nat):Nat -> Est
 | 0=>s0
 | j+1=>match ord[j]? with
  | none=>eTo F p ins now kn s0 ord j
  | some i=>match (F)[i]? with
   | none=>eTo F p ins now kn s0 ord j
   | some f=>eStep p ins now (kn (eTo F p ins now kn s0 ord j) j) (eTo F p ins now kn s0 ord j) i f
theorem zh8 {F:List Fld}{p:Pol}{ins:List Fct}{now:Int}{kn:Est->Nat -> List Fct}{s0:Est}{ord:List Nat}{j i:Nat}{f:Fld}(h:ord[j]?=some i)(hf:(F)[i]?=some f) :
  eTo F p ins now kn s0 ord (j+1)=eStep p ins now (kn (eTo F p ins now kn s0 ord j) j) (eTo F p ins now kn s0 ord j) i f:=by
 rw[eTo,h];simp only[hf]
theorem z7p {c:Cll}{p:Pol}(h:z07 c p=0):gapCheck p=0:=by
 unfold z07 at h
 by_cases h0:gapCheck p=0
 ·exact h0
 rw[if_neg h0] at h;cases h
theorem zfs {p:Pol}(h:gapCheck p=0):z07 noCll p=0:=by
 unfold z07
 rw[if_pos h,if_neg (by decide),if_pos (show noCll.state=0 from rfl),if_pos ((cllEq_iff _ _).2 rfl)]
theorem z4v {c:Cll}{p:Pol}(h:z07 c p=0):c=noCll\/((c.state=1\/c.state=2\/c.state=3)/\¬ z2a c p/\z3q c p=true):=by
 have hs:=zao h
 unfold z07 at h
 rw[if_pos (by by_cases h0:gapCheck p=0;exact h0;rw[if_neg h0] at h;cases h),if_neg (by omega)] at h
 by_cases h1:c.state=0
 ·rw[if_pos h1] at h
  by_cases h2:cllEq c noCll=true
  ·exact .inl ((cllEq_iff _ _).1 h2)
  rw[if_neg h2] at h;cases h
 rw[if_neg h1] at h
 by_cases h2:z2a c p
 ·rw[if_pos h2] at h;cases h
 rw[if_neg h2] at h
 by_cases h3:z3q c p=true
 ·exact .inr ⟨by omega,h2,h3⟩
 rw[if_neg h3] at h;cases h
theorem ze1:noVal.wf:=by unfold noVal Val.wf inI inS;exact⟨by decide +kernel,by decide +kernel,by decide⟩
theorem noCll_wf:noCll.wf:=by unfold noCll Cll.wf Val.wf inI inS;refine⟨?_,?_,?_,⟨?_,?_,?_⟩,⟨?_,?_,?_⟩,?_⟩<;>decide +kernel
theorem inI_mid {n:Int}(h1:-1099511627776<=n)(h2:n<=1099511627776):inI n:=by
 unfold inI
 rw[Lit.wf]
 have e:IntKind.i64.min=-9223372036854775808:=by decide
 have e':IntKind.i64.max=9223372036854775807:=by decide
 simp only[e,e',Bool.and_eq_true,decide_eq_true_eq]
 omega
theorem isNo_eq {v:Val}(h:isNo v=true):v=noVal:=(z2o _ _).1 h
theorem zap {c:Cll}{p:Pol}(h:z3q c p=true):z0b c.key=true/\(c.has=noVal\/(c.state=2/\z0b c.has=true)):=by
 unfold z3q at h
 rw[Bool.and_eq_true] at h
 refine⟨h.1,?_⟩
 have h2:=h.2
 split at h2
 ·exact .inl (isNo_eq h2)
 split at h2
 ·rename_i h4;exact .inr ⟨h4,by simp only[Bool.and_eq_true] at h2;exact h2.1⟩
 simp only[Bool.and_eq_true] at h2;exact .inl (isNo_eq h2.1.1)
theorem known_ok {v:Val}(h:z0b v=true):valCheck v=0:=((z23 _).1 h).1
theorem zar {c:Cll}{p:Pol}(h:z07 c p=0):c.wf:=by
 have hg:=z2l (z7p h)
 rcases z4v h with rfl | ⟨h1,h2,h3⟩
 ·exact noCll_wf
 obtain⟨h4,h5⟩:=zap h3
 unfold z2a at h2
 refine⟨inI_mid (by omega) (by omega),inI_mid (by omega) (by omega),inI_mid (by omega) (by omega),z48 (known_ok h4),?_,inI_mid (by omega) (by omega)⟩
 rcases h5 with h5 | h5
 ·rw[h5];exact ze1
 exact z48 (known_ok h5.2)
theorem callValue_ok {c:Cll}{p:Pol}(h:z07 c p=0):valCheck (z0v c)=0:=by
 unfold z0v
 by_cases h2:c.state=2
 ·rw[if_pos h2]
  rcases z4v h with rfl | ⟨h1,_,h3⟩
  ·cases h2
  unfold z3q at h3
  rw[if_neg (by omega),if_pos h2] at h3
  simp only[Bool.and_eq_true] at h3
  exact known_ok h3.2.1
 rw[if_neg h2]
 by_cases h3:c.state=3
 ·rw[if_pos h3];decide +kernel
 rw[if_neg h3];decide +kernel
theorem zfn {c:Cll}{p:Pol}{id:Int}{key:Val}{now:Int}(hc:z07 c p=0)(hi:1<=id/\id<=1073741824)(hn:0<=now/\now<=1073741824)(hk:valCheck key=0) :
  z07 (z1p c p id key now).1 p=0/\(z1p c p id key now).2.2=0/\((z1p c p id key now).2.1=true->(z1p c p id key now).1.state=1/\(z1p c p id key now).1.id=id) /\
   ((z1p c p id key now).1.state=0↔3<key.k):=by
 have hg:=z7p hc
 unfold z1p
 rw[if_pos hc,if_pos hk]
 by_cases h1:z0b key=true
 ·have h2:=((z23 _).1 h1).2
  rw[if_pos h1]
  by_cases h3:c.state≠0/\c.key=key
  ·rw[if_pos h3]
   exact⟨hc,rfl,fun h=>(by cases h),⟨fun h=>absurd h h3.1,fun h=>by omega⟩⟩
  rw[if_neg h3]
  rcases z5z p id key now with ⟨h4,_⟩ | ⟨_,h4,_⟩ | ⟨_,_,h4,_⟩ | ⟨_,_,_,h5⟩
  ·exact absurd hg h4
  ·omega
  ·rw[h1] at h4;cases h4
  rw[h5,if_pos rfl]
  refine⟨?_,rfl,fun _=>⟨rfl,rfl⟩,⟨fun h=>(by cases h),fun h=>(by omega)⟩⟩
  have hb:=z9a p 1 hg
  have ht:=z2l hg
  unfold z07
  dsimp only
  rw[if_pos hg,if_neg (by decide),if_neg (by decide),if_neg (by unfold z2a;dsimp only;omega),if_pos (by unfold z3q;simp[h1,isNo,valEq])]
 rw[if_neg h1]
 have h2:¬ key.k<4:=fun h=>h1 ((z23 _).2 ⟨hk,h⟩)
 exact⟨zfs hg,rfl,fun h=>(by cases h),⟨fun _=>by omega,fun _=>rfl⟩⟩
theorem evalRes_congr {f:Fld}{l l':List Fct}(hk:f.kind≠1)(h1:z1q l=0)(h2:z1q l'=0)(h:∀ s∈srcN f,factV l s=factV l' s):evalRes l f.source=evalRes l' f.source:=by
 unfold evalRes
 by_cases he:exprErr f.source=0
 ·rw[if_neg (by simpa using he),if_neg (by simpa using h1),if_neg (by simpa using he),if_neg (by simpa using h2),evX_congr f.source fun s hs=>h s (by unfold srcN;rw[if_neg hk,z4j];exact hs)]
 rw[if_pos he,if_pos he]
structure EOk (p:Pol)(l0:Int)(n j:Nat)(s:Est):Prop where
 cl:s.calls.length=n
 vl:s.vals.length=n
 ok:∀ c∈s.calls,z07 c p=0
 lo:l0<=s.last
 hi:s.last<=l0+j
 ll:s.ltrs.length<=j
theorem EOk.call {p:Pol}{l0:Int}{n j:Nat}{s:Est}(h:EOk p l0 n j s){i:Nat}(hi:i<n):∃ c,s.calls[i]?=some c/\z07 c p=0:=by
 have:i<s.calls.length:=by rw[h.cl];exact hi
 exact⟨_,gq this,h.ok _ (List.getElem_mem this)⟩
theorem EOk.step {p:Pol}{l0 now:Int}{n j:Nat}{s:Est}(h:EOk p l0 n j s)(hl:0<=l0/\l0+n<=1073741824)(hn:0<=now/\now<=1073741824)(hj:j<n){i:Nat}(hi:i<n)(f:Fld)(ins kn:List Fct)(hk:f.kind=3->valCheck (keyE kn f)=0) :
  EOk p l0 n (j+1) (eStep p ins now kn s i f):=by
 have h1:=h.lo
 have h2:=h.hi
 have h3:=h.ll
 unfold eStep
 by_cases h4:f.kind=3
 ·rw[if_pos h4]
  obtain⟨c,hc,hcc⟩:=h.call hi
  have ht:=zfn (id:=s.last+1) hcc (by omega) hn (hk h4)
  unfold lookE turnE
  rw[hc,Option.getD_some]
  refine⟨by rw[List.length_set,h.cl],by rw[List.length_set,h.vl],fun c' hc'=>?_,?_,?_,?_⟩
  ·rcases List.mem_or_eq_of_mem_set hc' with hc' | rfl
   ·exact h.ok _ hc'
   exact ht.1
  ·dsimp only;split<;>omega
  ·dsimp only;split<;>omega
  dsimp only
  split
  ·rw[List.length_append,List.length_singleton];omega
  omega
 rw[if_neg h4]
 exact⟨h.cl,by rw[List.length_set,h.vl],h.ok,h1,by dsimp only;omega,by dsimp only;omega⟩
def ERel (ord:List Nat)(j:Nat)(s t:Est):Prop:=s.calls=t.calls/\s.last=t.last/\s.ltrs=t.ltrs/\∀ k∈ord.take j,s.vals[k]?=t.vals[k]?
theorem lookE_rel {p:Pol}{now:Int}{s t:Est}{ord:List Nat}{j:Nat}(h:ERel ord j s t)(i:Nat)(nm:ByteArray)(key:Val) :
  (lookE p now s i nm key).calls=(lookE p now t i nm key).calls/\(lookE p now s i nm key).last=(lookE p now t i nm key).last/\(lookE p now s i nm key).ltrs=(lookE p now t i nm key).ltrs /\
   ∃ v,(lookE p now s i nm key).vals=s.vals.set i v/\(lookE p now t i nm key).vals=t.vals.set i v:=by
 obtain⟨h1,h2,h3,_⟩:=h
 unfold lookE turnE
 rw[h1,h2,h3]
 exact⟨rfl,rfl,rfl,_,rfl,rfl⟩
section
variable {F:List Fld} {ins:List Fct} {p:Pol} {now:Int}
def knP (F:List Fld):Est->Nat -> List Fct:=fun s j=>z1y F s.vals (ordF F) j
def knR (F:List Fld):Est->Nat -> List Fct:=fun s _=>z1k F s.vals
theorem ord_newE {j i:Nat}(h:(ordF F)[j]?=some i):i ∉ (ordF F).take j:=by
 intro hm
 obtain⟨k,hk,he⟩:=List.mem_iff_getElem.1 hm
 rw[List.getElem_take] at he
 rw[List.length_take] at hk
 obtain⟨hj,he2⟩:=List.getElem?_eq_some_iff.1 h
 have h1:=List.pairwise_iff_getElem.1 (z8c (outAt (rankO F)) F.length) k j (by unfold ordF at hk;omega) hj (by omega)
 change ltR _ ((ordF F)[k]'(by omega)) ((ordF F)[j]'hj) at h1
 rw[he,he2] at h1
 exact ltR_irr _ _ h1
theorem e_rel (hA:AllOk F ins [])(hn:0<=now/\now<=1073741824){l0:Int}(hl:0<=l0/\l0+F.length<=1073741824){s0 t0:Est}(hs0:EOk p l0 F.length 0 s0)(ht0:EOk p l0 F.length 0 t0)(h0:ERel (ordF F) 0 s0 t0)
  (hv:∀ v∈t0.vals,valCheck v=0):∀ j,j<=F.length ->
  ERel (ordF F) j (eTo F p ins now (knP F) s0 (ordF F) j) (eTo F p ins now (knR F) t0 (ordF F) j)/\EOk p l0 F.length j (eTo F p ins now (knP F) s0 (ordF F) j)/\EOk p l0 F.length j (eTo F p ins now (knR F) t0 (ordF F) j) /\
   (∀ v∈(eTo F p ins now (knR F) t0 (ordF F) j).vals,valCheck v=0)
 | 0=>fun _=>⟨h0,hs0,ht0,hv⟩
 | j+1=>fun hj=>by
  obtain⟨ih1,ih2,ih3,ih4⟩:=e_rel hA hn hl hs0 ht0 h0 hv j (by omega)
  have hol:(ordF F).length=F.length:=by unfold ordF;rw[z2v]
  obtain⟨i,hi⟩:∃ i,(ordF F)[j]?=some i:=⟨_,gq (by omega)⟩
  have hiF:=z9x (List.mem_of_getElem? hi)
  obtain⟨f,hf⟩:∃ f,(F)[i]?=some f:=⟨_,gq hiF⟩
  rw[zh8 hi hf,zh8 hi hf]
  generalize eTo F p ins now (knP F) s0 (ordF F) j=s at *
  generalize eTo F p ins now (knR F) t0 (ordF F) j=t at *
  have he:=(z13 hA.1).1
  have hlt:∀ k∈ordF F,k<F.length:=fun k hk=>z9x hk
  have hkR:z1q (knR F t j)=0:=z5l ih4
  have hkP:z1q (knP F s j)=0:=by
   refine z7q fun x hx=>?_
   obtain⟨k,hk,rfl⟩:=List.mem_map.1 hx
   have hkl:k<t.vals.length:=by rw[ih3.vl];exact hlt k (List.mem_of_mem_take hk)
   show valCheck (s.vals[k]?.getD noVal)=0
   rw[ih1.2.2.2 k hk,gq hkl,Option.getD_some]
   exact ih4 _ (List.getElem_mem hkl)
  have hsame:∀ s'∈srcN f,factV (knP F s j) s'=factV (knR F t j) s':=by
   intro s' hs
   obtain⟨h1,g,hg,rfl⟩:=src_at hA.1 hf hs
   have hgl:fieldAt F g.name<F.length:=(List.getElem?_eq_some_iff.1 hg).1
   have hv:t.vals[fieldAt F g.name]?=some (t.vals[fieldAt F g.name]'(by rw[ih3.vl];exact hgl)):=gq _
   obtain⟨r,hr,hrn,hr1⟩:=zb9 hA.1 hiF
   obtain⟨q,hq1,hq2⟩:=zfj hr h1
   obtain⟨q',hq3,_,hq4⟩:=zb9 hA.1 hgl
   have hqe:=z81 hq1 hq3
   subst hqe
   have ha:=ord_ahead (O:=outAt (rankO F)) (N:=F.length) hi hgl (by omega)
   unfold knP knR
   rw[factV_known he hlt hg ((ih1.2.2.2 _ ha).trans hv) ha,z9p he hg hv]
  have hfo:=hA.2.1 f (List.mem_of_getElem? hf)
  have hkey:f.kind=3->keyE (knP F s j) f=keyE (knR F t j) f:=fun hk=>by unfold keyE;rw[evalRes_congr (by omega) hkP hkR hsame]
  have hkok:f.kind=3->valCheck (keyE (knR F t j) f)=0:=fun hk=>by
   unfold keyE
   rw[z6k (hfo.2.2 (by omega)) hkR]
   exact z5a (z4x hkR) _ _ (nr _) (z1f (hfo.2.2 (by omega)))
  refine⟨?_,ih2.step hl hn (by omega) hiF f ins _ (fun hk=>by rw[hkey hk];exact hkok hk),ih3.step hl hn (by omega) hiF f ins _ hkok,?_⟩
  ·have hset:∀ v,∀ k∈(ordF F).take (j+1),(s.vals.set i v)[k]?=(t.vals.set i v)[k]?:=by
    intro v k hk
    rw[List.getElem?_set,List.getElem?_set,ih2.vl,ih3.vl]
    by_cases hki:i=k
    ·rw[if_pos hki,if_pos hki]
    rw[if_neg hki,if_neg hki]
    rw[List.take_add_one,hi] at hk
    refine ih1.2.2.2 k ?_
    rcases List.mem_append.1 hk with hk | hk
    ·exact hk
    simp at hk;exact absurd hk.symm hki
   unfold eStep
   by_cases hk:f.kind=3
   ·rw[if_pos hk,if_pos hk,hkey hk]
    obtain⟨e1,e2,e3,v,e4,e5⟩:=lookE_rel (p:=p) (now:=now) ih1 i f.name (keyE (knR F t j) f)
    exact⟨e1,e2,e3,by rw[e4,e5];exact hset v⟩
   rw[if_neg hk,if_neg hk,zfe hkP hkR hsame]
   exact⟨ih1.1,ih1.2.1,ih1.2.2.1,hset _⟩
  intro v hv
  unfold eStep at hv
  by_cases hk:f.kind=3
  ·rw[if_pos hk] at hv
   rcases List.mem_or_eq_of_mem_set hv with hv | rfl
   ·exact ih4 v hv
   obtain⟨c,hc,hcc⟩:=ih3.call hiF
   have h1:=ih3.lo
   have h2:=ih3.hi
   have ht:=zfn (id:=t.last+1) hcc (by omega) hn (hkok hk)
   unfold valE turnE
   rw[hc,Option.getD_some]
   split
   ·exact hkok hk
   exact callValue_ok ht.1
  rw[if_neg hk] at hv
  rcases List.mem_or_eq_of_mem_set hv with hv | rfl
  ·exact ih4 v hv
  exact oneV_ok hfo hA.2.2.1 (fun x h=>absurd h List.not_mem_nil) hkR
def setP (F:List Fld)(p:Pol)(ins:List Fct)(now:Int)(cs:List Cll)(vs:List Val)(last:Int)(j:Nat):Est:=eTo F p ins now (knP F) ⟨cs,vs,last,[]⟩ (ordF F) j
def setR (F:List Fld)(p:Pol)(ins:List Fct)(now:Int)(cs:List Cll)(last:Int)(j:Nat):Est:=eTo F p ins now (knR F) ⟨cs,List.replicate F.length pendV,last,[]⟩ (ordF F) j
def SetOk (F:List Fld)(p:Pol)(ins:List Fct)(now:Int)(cs:List Cll)(last:Int):Prop :=
 AllOk F ins []/\(0<=now/\now<=1073741824)/\(0<=last/\last+F.length<=1073741824)/\cs.length=F.length/\∀ c∈cs,z07 c p=0
theorem z5m {cs:List Cll}{vs:List Val}{last:Int}(h:SetOk F p ins now cs last)(hvl:vs.length=F.length){j:Nat}(hj:j<=F.length) :
  ERel (ordF F) j (setP F p ins now cs vs last j) (setR F p ins now cs last j)/\EOk p last F.length j (setP F p ins now cs vs last j)/\EOk p last F.length j (setR F p ins now cs last j)/\(∀ v∈(setR F p ins now cs last j).vals,valCheck v=0) :=
 e_rel h.1 h.2.1 h.2.2.1 (s0:=⟨cs,vs,last,[]⟩) (t0:=⟨cs,List.replicate F.length pendV,last,[]⟩) ⟨h.2.2.2.1,hvl,h.2.2.2.2,Int.le_refl _,by simp,Nat.zero_le _⟩ ⟨h.2.2.2.1,List.length_replicate,h.2.2.2.2,Int.le_refl _,by simp,Nat.zero_le _⟩
  ⟨rfl,rfl,rfl,fun k hk=>by simp at hk⟩ (fun v hv=>by rw[List.eq_of_mem_replicate hv];exact pendV_ok) j hj
theorem set_same {cs:List Cll}{vs:List Val}{last:Int}(h:SetOk F p ins now cs last)(hvl:vs.length=F.length):setP F p ins now cs vs last F.length=setR F p ins now cs last F.length:=by
 obtain⟨⟨h1,h2,h3,h4⟩,h5,h6,_⟩:=z5m (vs:=vs) h hvl (nr _)
 have h7:(setP F p ins now cs vs last F.length).vals=(setR F p ins now cs last F.length).vals:=by
  refine List.ext_getElem? fun k=>?_
  rcases Nat.lt_or_ge k F.length with hk | hk
  ·refine h4 k ?_
   rw[List.take_of_length_le (by unfold ordF;rw[z2v];exact nr _)]
   exact (z5j _ _ _).2 hk
  rw[List.getElem?_eq_none (by rw[h5.vl];exact hk),List.getElem?_eq_none (by rw[h6.vl];exact hk)]
 generalize setP F p ins now cs vs last F.length=s at *
 generalize setR F p ins now cs last F.length=t at *
 obtain⟨a,b,c,d⟩:=s
 obtain⟨a',b',c',d'⟩:=t
 simp only at h1 h2 h3 h7
 rw[h1,h2,h3,h7]
end
--TRYSZ (some lists of worlds name one that is not there)
open Go.RowKit
open Go.RowKit
def RIO (w:World)(A1:Option Addr)(n1 c1:Nat)(ins:List Fct)(A2:Option Addr)(n2 c2:Nat)(orc:List Fct):Prop :=
 inB 80 n1/\n1<=c1/\inB 80 n2/\n2<=c2/\Sl w (old w) 7 RFct A1 n1 ins/\Sl w (old w) 7 RFct A2 n2 orc
theorem RIO.now {w w':World}{A1 A2:Option Addr}{n1 c1 n2 c2:Nat}{ins orc:List Fct}(h:RIO w A1 n1 c1 ins A2 n2 c2 orc)(hb:Below w.heap.size w w'):RIO w' A1 n1 c1 ins A2 n2 c2 orc :=
 ⟨h.1,h.2.1,h.2.2.1,h.2.2.2.1,h.2.2.2.2.1.now hb,h.2.2.2.2.2.now hb⟩
section
variable {F:List Fld} {P:List Pag} {ins orc:List Fct}
end
theorem zfb {F:List Fld}{V:List Val}{k:Nat}{f:Fld}{v:Val}(hf:(F)[k]?=some f)(hv:V[k]?=some v):(z1k F V).take (k+1)=(z1k F V).take k++[⟨f.name,noVal,v⟩]:=by
 rw[List.take_add_one,namedF_at hf hv];rfl
theorem zeg (B:Option Addr)(m d:Nat)(F:List Fld)(Vb:Option Addr)(cv:Nat)(V:List Val)(w:World)(h14:m<=14)(hF:Sl w (old w) 9 (RFld w (old w)) B m F)(hV:Sl w (old w) 3 RVal Vb m V) :
  Calls Tryz.prog 76 #[.slice B m d,.slice Vb m cv] w (z8m Fct.cs 72 7 w (z1k F V)):=by
 have hml:=hF.len
 have hvl:=hV.len
 have HX:=zh (ai hF (ai hV (ai hml hvl)))
 obtain⟨i0,ei,ez0,ez1,ez2⟩:=info_parts Tryz.infoFct
 clear hF hV hml hvl
 go_enter Tryz.func76,Tryz.ntmps76
 go_wp2_with fail
 go_loopw [5,9] (fun v i wr=>∃ k:Nat,k<=m/\i=.int .i64 k/\Hid (wr.ownsRow w.heap.size 72 7 v k (((z1k F V).take k).flatMap Fct.cs))/\Below w.heap.size w wr) (fun _ i _=>m-(intOf i).toNat)
 case atStart=>exact⟨0,by omega,rfl,zh (by simpa using World.ownsRow_nil _ _ _ _),Below.refl _ _⟩
 case round =>
  obtain⟨k,hk,rfl,hown,hbr⟩:=hrel
  by_cases hlt:k<m
  ·obtain⟨b,o,f,X,C,hAe,hbl,hlf,hrep,x0,x1,x2,x3,x4,x5,x6,x7,x8⟩:=z25 (HX.out.1.nowN z02 hbr) hlt
   obtain⟨b3,o3,v,hVe,hbl3,hlv,hwf,z0,z1,z2⟩:=z2t (HX.out.2.1.now hbr) hlt
   have HAE:=zh (ai hAe hVe)
   subst hAe
   subst hVe
   have hbl':b<wr.heap.size:=hbl
   have hbl3':b3<wr.heap.size:=hbl3
   have hki:(k:Int)<(m:Int):=by omega
   have HT:=zh (zfb hlf hlv)
   clear hbl hlf hrep x1 x2 x3 x4 x5 x6 x7 x8 hbl3 hlv hwf HAE
   go_wp2_with fail
   go_region_law (refine z1l rfl (.tmp 12) (.tmp 23) 28 rfl w.heap.size 72 i0 _ 7 80 Tryz.underlying28 ei ez0 ez1 ez2 rfl (by decide) _ k _ rfl (z04 hown.out bel) _ 1 1 (Fct.mk f.name noVal v).cs rfl rfl (fun p hp j u hj=>by cases hp;exact z63 _ _ _ j u hj) (by simp) (by simp[Value.oneCell']) (by unfold maxLen;omega) (by omega) (by have:=hbr.size;first | omega | (simp;omega)) ?_;intro v6 w6 hown6 hb6 hz6)
   all_goals
    go_wp2_with fail
    go_roundw
    case rel=>exact⟨k+1,by omega,by go_num,zh (by rw[HT.out,List.flatMap_append];simpa using hown6),z01 (z01 hbr ((Below.refl _ _).drew.alloc (nr _) _) hbr.size) hb6 (nr _)⟩
    case measure=>simp[intOf];omega
  have hke:k=m:=by omega
  subst hke
  have ho:=hown.out
  rw[List.take_of_length_le (by rw[z3o (by rw[HX.out.2.2.2,HX.out.2.2.1]),HX.out.2.2.1];exact nr _)] at ho
  have HO:=zh ho
  clear hown ho
  go_wp2_with fail
  go_ret
  exact⟨_,rfl,by rw[z3o (by rw[HX.out.2.2.2,HX.out.2.2.1]),HX.out.2.2.1];exact HO.out,hbr⟩
open Go.RowKit
theorem z4y (l:List Val)(k:Nat)(v:Val)(hk:k<l.length) :
  (((l.flatMap Val.cs).set (k*3) (.int .i64 v.k)).set (k*3+1) (.int .i64 v.n)).set (k*3+2) (.string v.s)=(l.set k v).flatMap Val.cs:=by
 have e:l=l.take k++l[k]::l.drop (k+1):=by rw[List.getElem_cons_drop,List.take_append_drop]
 have hlen:((l.take k).flatMap Val.cs).length=k*3:=by rw[z0w _ 3 z7f,List.length_take,Nat.min_eq_left (by omega)]
 have e1:l.flatMap Val.cs=(l.take k).flatMap Val.cs++(l[k].cs++(l.drop (k+1)).flatMap Val.cs):=by
  conv=>lhs;rw[e]
  rw[List.flatMap_append,List.flatMap_cons]
 have e2:(l.set k v).flatMap Val.cs=(l.take k).flatMap Val.cs++(v.cs++(l.drop (k+1)).flatMap Val.cs):=by
  rw[List.set_eq_take_append_cons_drop,if_pos hk,List.flatMap_append,List.flatMap_cons]
 rw[e1,e2]
 rw[List.set_append_right _ _ (by omega),List.set_append_right _ _ (by omega),List.set_append_right _ _ (by omega),hlen]
 have a0:k*3-k*3=0:=by omega
 have a1:k*3+1-k*3=1:=by omega
 have a2:k*3+2-k*3=2:=by omega
 rw[a0,a1,a2]
 simp[Val.cs]
theorem z2z {w:World}{base g n cap k:Nat}{l:List Val}{e:TypeId}{x:Val}(h:w.ownsRow base e 3 (.slice (some ⟨g,0,none⟩) n cap) n (l.flatMap Val.cs))(hx:l[k]?=some x)(hk:k<n) :
  w.cell? ⟨g,k*3,none⟩=some (.int .i64 x.k)/\w.cell? ⟨g,k*3+1,none⟩=some (.int .i64 x.n)/\w.cell? ⟨g,k*3+2,none⟩=some (.string x.s):=by
 have f:=fun j hj=>z87 Val.cs 3 z7f l k j x hx hj
 refine⟨?_,?_,?_⟩
 ·have:=f 0 (by decide);rw[Nat.add_zero] at this;rw[h.cellAt _ (by omega),this];rfl
 ·rw[h.cellAt _ (by omega),f 1 (by decide)];rfl
 rw[h.cellAt _ (by omega),f 2 (by decide)];rfl
theorem z7t {w w':World}{base N g n cap size:Nat}{e:TypeId}{xs:List Value}(h:w.ownsRow base e size (.slice (some ⟨g,0,none⟩) n cap) n xs)(hg:g<N)(hb:Below N w w'):w'.ownsRow base e size (.slice (some ⟨g,0,none⟩) n cap) n xs:=by
 refine⟨h.1,?_⟩
 rcases h.2 with hn | ⟨g',cap',cur,he,hbg,hgg,rest⟩
 ·exact .inl hn
 simp only[Value.slice.injEq,Option.some.injEq,Addr.mk.injEq,and_true,true_and] at he
 obtain⟨rfl,rfl⟩:=he
 exact .inr ⟨g,cap,cur,rfl,hbg,by rw[hb.block g hg];exact hgg,rest⟩
theorem z9e (m:Nat):(madeCells #[.int .i64 0,.int .i64 0,.string ⟨#[]⟩] (m*3)).toList=(List.replicate m noVal).flatMap Val.cs:=by
 refine List.ext_getElem? fun j=>?_
 rcases Nat.lt_or_ge j (m*3) with hj | hj
 ·have h1:(List.replicate m noVal)[j / 3]?=some noVal:=by rw[List.getElem?_replicate,if_pos (by omega)]
  have h2:=z87 Val.cs 3 z7f (List.replicate m noVal) (j / 3) (j%3) noVal h1 (by omega)
  rw[show j / 3*3+j%3=j by omega] at h2
  rw[h2]
  have h3:(madeCells #[Value.int .i64 0,.int .i64 0,.string ⟨#[]⟩] (m*3)).toList[j]?=some (#[Value.int .i64 0,.int .i64 0,.string ⟨#[]⟩][j%3]!):=by
   simp[madeCells,hj]
  rw[h3]
  rcases (by omega:j%3=0\/j%3=1\/j%3=2) with e | e | e<;>rw[e]<;>rfl
 rw[List.getElem?_eq_none (by rw[Array.length_toList,size_madeCells];exact hj),List.getElem?_eq_none (by rw[z0w _ 3 z7f,List.length_replicate];exact hj)]
theorem RFld.now {w w':World}{cs:List Value}{f:Fld}(h:RFld w (old w) cs f)(hb:Below w.heap.size w w'):RFld w' (old w') cs f :=
 h.keep (z05 hb)
def allR (F:List Fld)(P:List Pag)(ins orc:List Fct):List Val×Int:=if toldErr F P ins orc≠0 then ([],toldErr F P ins orc) else (finV F ins orc,0)
theorem ord_at {F:List Fld}{j:Nat}{p:Int}(h:(toI (ordF F))[j]?=some p):∃ x:Nat,(ordF F)[j]?=some x/\p=x/\x<F.length:=by
 unfold toI at h
 rw[List.getElem?_map] at h
 cases hx:(ordF F)[j]? with
 | none=>rw[hx] at h;cases h
 | some x=>rw[hx] at h;exact⟨x,rfl,(Option.some.inj h).symm,z9x (List.mem_of_getElem? hx)⟩
theorem zgb {F:List Fld}{vs:List Val}{ord:List Nat}{j x:Nat}{f:Fld}{v:Val}(h:ord[j]?=some x)(hf:(F)[x]?=some f)(hv:vs[x]?=some v):z1y F vs ord (j+1)=z1y F vs ord j++[⟨f.name,noVal,v⟩]:=by
 unfold z1y
 rw[List.take_add_one,h,List.map_append]
 simp[nameAt_some hf,hv]
theorem zd3 {F:List Fld}{vs:List Val}{ord:List Nat}{j:Nat}(h:j<=ord.length):(z1y F vs ord j).length=j:=by
 unfold z1y;rw[List.length_map,List.length_take,Nat.min_eq_left h]
theorem z9v:noVal.wf:=by unfold noVal Val.wf inI inS;exact⟨by decide +kernel,by decide +kernel,by decide⟩
end Go.Proofs.YtldhlpjjcnlbcaaGreat
