/- Texts merged (mergeh.py): Call2 CallSp CallSt CallSw Call3. -/
import Derived.Test.YtldhlpjjcnlbcaaGreatCall1
/- Calls: call.Check, call.Value and the references of the same. -/
set_option maxRecDepth 100000
set_option maxHeartbeats 8000000
namespace Go.Proofs.YtldhlpjjcnlbcaaGreat
open Go.RowKit
def cllEq (c d:Cll):Bool:=c.state==d.state&&(c.id==d.id&&(c.tries==d.tries&&(valEq c.key d.key&&(valEq c.has d.has&&c.next==d.next))))
theorem cllEq_iff (c d:Cll):cllEq c d=true↔c=d:=by
 obtain⟨a1,a2,a3,a4,a5,a6⟩:=c
 obtain⟨b1,b2,b3,b4,b5,b6⟩:=d
 simp[cllEq,z2o]
theorem run_neq_Cll (w:World)(st id tr kk kn hk hn nx st' id' tr' kk' kn' hk' hn' nx':Int)(ks hs ks' hs':ByteArray) :
  (binOp .neq 62 (.agg #[.int .i64 st,.int .i64 id,.int .i64 tr,.int .i64 kk,.int .i64 kn,.string ks,.int .i64 hk,.int .i64 hn,.string hs,.int .i64 nx])
   (.agg #[.int .i64 st',.int .i64 id',.int .i64 tr',.int .i64 kk',.int .i64 kn',.string ks',.int .i64 hk',.int .i64 hn',.string hs',.int .i64 nx'])).run Tryz.prog w =
   .ok (.bool (!cllEq ⟨st,id,tr,⟨kk,kn,ks⟩,⟨hk,hn,hs⟩,nx⟩ ⟨st',id',tr',⟨kk',kn',ks'⟩,⟨hk',hn',hs'⟩,nx'⟩)) w:=by
 go_simp
 unfold cllEq valEq
 (repeat' split)<;>simp_all
def isNo (v:Val):Bool:=valEq v ⟨0,0,⟨#[]⟩⟩
def z3q (c:Cll)(p:Pol):Bool :=
 z0b c.key&&(if c.state=1 then isNo c.has else if c.state=2 then z0b c.has&&decide (c.next=0) else isNo c.has&&decide (c.next=0)&&decide (c.tries=p.tries))
def z2a (c:Cll)(p:Pol):Prop:=c.id<1\/1073741824<c.id\/c.tries<1\/p.tries<c.tries\/c.next<0\/1073742824<c.next
instance (c:Cll) (p:Pol):Decidable (z2a c p):=by unfold z2a;infer_instance
def z07 (c:Cll)(p:Pol):Int :=
 if gapCheck p=0 then
  if c.state<0\/3<c.state then 2
  else if c.state=0 then if cllEq c noCll then 0 else 15
  else if z2a c p then 4
  else if z3q c p then 0 else 15
 else 4
theorem known_no {v:Val}(h:z0b v=true):isNo v=false:=by
 cases hv:isNo v
 ·rfl
 rw[isNo,z2o] at hv
 subst hv
 exact absurd ((z5v _).1 h).1 (by decide)
theorem zc5 (st id tr kk kn:Int)(ks:ByteArray)(hk hn:Int)(hs:ByteArray)(nx t b c:Int)(h1:1<=st)(h2:st<=3)(h3:tr<=t) :
  let g:=z3q ⟨st,id,tr,⟨kk,kn,ks⟩,⟨hk,hn,hs⟩,nx⟩ ⟨t,b,c⟩
  (z0b ⟨kk,kn,ks⟩=false/\g=false) \/
  (z0b ⟨kk,kn,ks⟩=true/\st=1/\valEq ⟨hk,hn,hs⟩ ⟨0,0,⟨#[]⟩⟩=false/\g=false) \/
  (z0b ⟨kk,kn,ks⟩=true/\st=1/\valEq ⟨hk,hn,hs⟩ ⟨0,0,⟨#[]⟩⟩=true/\g=true) \/
  (z0b ⟨kk,kn,ks⟩=true/\st=2/\valEq ⟨hk,hn,hs⟩ ⟨0,0,⟨#[]⟩⟩=true/\z0b ⟨hk,hn,hs⟩=false/\g=false) \/
  (z0b ⟨kk,kn,ks⟩=true/\st=2/\valEq ⟨hk,hn,hs⟩ ⟨0,0,⟨#[]⟩⟩=false/\z0b ⟨hk,hn,hs⟩=false/\g=false) \/
  (z0b ⟨kk,kn,ks⟩=true/\st=2/\valEq ⟨hk,hn,hs⟩ ⟨0,0,⟨#[]⟩⟩=false/\z0b ⟨hk,hn,hs⟩=true/\(nx==0)=false/\g=false) \/
  (z0b ⟨kk,kn,ks⟩=true/\st=2/\valEq ⟨hk,hn,hs⟩ ⟨0,0,⟨#[]⟩⟩=false/\z0b ⟨hk,hn,hs⟩=true/\nx=0/\g=true) \/
  (z0b ⟨kk,kn,ks⟩=true/\st=3/\valEq ⟨hk,hn,hs⟩ ⟨0,0,⟨#[]⟩⟩=false/\g=false) \/
  (z0b ⟨kk,kn,ks⟩=true/\st=3/\valEq ⟨hk,hn,hs⟩ ⟨0,0,⟨#[]⟩⟩=true/\(nx==0)=false/\g=false) \/
  (z0b ⟨kk,kn,ks⟩=true/\st=3/\valEq ⟨hk,hn,hs⟩ ⟨0,0,⟨#[]⟩⟩=true/\nx=0/\tr<t/\g=false) \/
  (z0b ⟨kk,kn,ks⟩=true/\st=3/\valEq ⟨hk,hn,hs⟩ ⟨0,0,⟨#[]⟩⟩=true/\nx=0/\tr=t/\g=true):=by
 intro g
 have kno:=fun h=>known_no (v:=⟨hk,hn,hs⟩) h
 unfold isNo at kno
 have hst:st=1\/st=2\/st=3:=by omega
 have htr:tr<t\/tr=t:=by omega
 have hg:g=z3q ⟨st,id,tr,⟨kk,kn,ks⟩,⟨hk,hn,hs⟩,nx⟩ ⟨t,b,c⟩:=rfl
 clear_value g
 unfold z3q isNo at hg
 subst hg
 by_cases hn0:nx=0<;>cases h1:z0b ⟨kk,kn,ks⟩<;>cases h2:valEq ⟨hk,hn,hs⟩ ⟨0,0,⟨#[]⟩⟩<;>cases h3:z0b ⟨hk,hn,hs⟩<;>rcases hst with rfl | rfl | rfl<;>rcases htr with htr | rfl<;>simp_all<;>omega
theorem z1s (st id tr kk kn:Int)(ks:ByteArray)(hk hn:Int)(hs:ByteArray)(nx t b c:Int)(w:World)(hks:ks.size<=maxLen)(hhs:hs.size<=maxLen) :
  Calls Tryz.prog 69 #[.agg #[.int .i64 st,.int .i64 id,.int .i64 tr,.int .i64 kk,.int .i64 kn,.string ks,.int .i64 hk,.int .i64 hn,.string hs,.int .i64 nx],.agg #[.int .i64 t,.int .i64 b,.int .i64 c]] w
   fun e w'=>e=.returned (.int .i64 (z07 ⟨st,id,tr,⟨kk,kn,ks⟩,⟨hk,hn,hs⟩,nx⟩ ⟨t,b,c⟩))/\Below w.heap.size w w':=by
 by_cases h1:gapCheck ⟨t,b,c⟩=0
 ·by_cases h2:st<0\/3<st
  ·have e:z07 ⟨st,id,tr,⟨kk,kn,ks⟩,⟨hk,hn,hs⟩,nx⟩ ⟨t,b,c⟩=2:=by simp[z07,h1,h2]
   rw[e]
   have h1':(gapCheck ⟨t,b,c⟩ != 0)=false:=by simpa using h1
   clear e h1
   rcases (by omega:st<0\/(0<=st/\3<st)) with h2 | h2
   all_goals
    go_enter Tryz.func69,Tryz.ntmps69
    go_wp2_with (first | (go_at_call 23;refine (z3h _ _ _ _).mono ?_;rintro e w1 ⟨rfl,hb1⟩;refine zb hb1 ?_;rintro ⟨hc1,hf1⟩ hz1 hy1 hx1;refine szz w1 w ?_;intros))
    go_ret
    exact⟨rfl,bel⟩
  by_cases h3:st=0
  ·subst h3
   have hneq:=fun w=>run_neq_Cll w 0 id tr kk kn hk hn nx 0 0 0 0 0 0 0 0 ks hs ⟨#[]⟩ ⟨#[]⟩
   have h1':(gapCheck ⟨t,b,c⟩ != 0)=false:=by simpa using h1
   have e:z07 ⟨0,id,tr,⟨kk,kn,ks⟩,⟨hk,hn,hs⟩,nx⟩ ⟨t,b,c⟩=if cllEq ⟨0,id,tr,⟨kk,kn,ks⟩,⟨hk,hn,hs⟩,nx⟩ noCll then 0 else 15:=by simp[z07,h1]
   rw[e]
   unfold noCll
   clear e h1 h2
   cases hc:cllEq ⟨0,id,tr,⟨kk,kn,ks⟩,⟨hk,hn,hs⟩,nx⟩ ⟨0,0,0,⟨0,0,⟨#[]⟩⟩,⟨0,0,⟨#[]⟩⟩,0⟩
   all_goals
    go_enter Tryz.func69,Tryz.ntmps69
    go_wp2_with (first | (go_at_call 23;refine (z3h _ _ _ _).mono ?_;rintro e w1 ⟨rfl,hb1⟩;refine zb hb1 ?_;rintro ⟨hc1,hf1⟩ hz1 hy1 hx1;refine szz w1 w ?_;intros))
    go_ret
    exact⟨rfl,bel⟩
  by_cases h4:z2a ⟨st,id,tr,⟨kk,kn,ks⟩,⟨hk,hn,hs⟩,nx⟩ ⟨t,b,c⟩
  ·have e:z07 ⟨st,id,tr,⟨kk,kn,ks⟩,⟨hk,hn,hs⟩,nx⟩ ⟨t,b,c⟩=4:=by simp[z07,h1,h2,h3,h4]
   rw[e]
   have h1':(gapCheck ⟨t,b,c⟩ != 0)=false:=by simpa using h1
   have h3':(st==0)=false:=by simpa using h3
   unfold z2a at h4
   simp only at h4
   clear e h1
   rcases (by omega:id<1\/(1<=id/\1073741824<id)\/(1<=id/\id<=1073741824/\tr<1)\/(1<=id/\id<=1073741824/\1<=tr/\t<tr)\/(1<=id/\id<=1073741824/\1<=tr/\tr<=t/\nx<0)\/(1<=id/\id<=1073741824/\1<=tr/\tr<=t/\0<=nx/\1073742824<nx)) with h5 | h5 | h5 | h5 | h5 | h5
   all_goals
    clear h4
    go_enter Tryz.func69,Tryz.ntmps69
    go_wp2_with (first | (go_at_call 23;refine (z3h _ _ _ _).mono ?_;rintro e w1 ⟨rfl,hb1⟩;refine zb hb1 ?_;rintro ⟨hc1,hf1⟩ hz1 hy1 hx1;refine szz w1 w ?_;intros))
    go_ret
    exact⟨rfl,bel⟩
  have e:z07 ⟨st,id,tr,⟨kk,kn,ks⟩,⟨hk,hn,hs⟩,nx⟩ ⟨t,b,c⟩=if z3q ⟨st,id,tr,⟨kk,kn,ks⟩,⟨hk,hn,hs⟩,nx⟩ ⟨t,b,c⟩ then 0 else 15:=by simp[z07,h1,h2,h3,h4]
  rw[e]
  have h1':(gapCheck ⟨t,b,c⟩ != 0)=false:=by simpa using h1
  have h3':(st==0)=false:=by simpa using h3
  unfold z2a at h4
  simp only[not_or] at h4
  obtain⟨r1,r2,r3,r4,r5,r6⟩:=h4
  have hneq:=fun w=>z24 w hk hn 0 0 hs ⟨#[]⟩
  have hg:=zc5 st id tr kk kn ks hk hn hs nx t b c (by omega) (by omega) (by omega)
  clear e h1
  rcases hg with ⟨g1,e⟩ | ⟨g1,rfl,g2,e⟩ | ⟨g1,rfl,g2,e⟩ | ⟨g1,rfl,g2,g3,e⟩ | ⟨g1,rfl,g2,g3,e⟩ | ⟨g1,rfl,g2,g3,g4,e⟩ | ⟨g1,rfl,g2,g3,g4,e⟩ | ⟨g1,rfl,g2,e⟩ | ⟨g1,rfl,g2,g4,e⟩ | ⟨g1,rfl,g2,g4,g5,e⟩ | ⟨g1,rfl,g2,g4,g5,e⟩
  all_goals
   rw[e]
   clear e
   (try (have g4':(nx != 0)=true:=by simpa using g4))
   go_enter Tryz.func69,Tryz.ntmps69
   go_wp2_with (first | (go_at_call 23;refine (z3h _ _ _ _).mono ?_;rintro e w1 ⟨rfl,hb1⟩;refine zb hb1 ?_;rintro ⟨hc1,hf1⟩ hz1 hy1 hx1;refine szz w1 w ?_;intros))
   go_quiet (fail)
   go_wp2_with fail
   refine (z0q _ _ _ _ hks).mono ?_;rintro e w2 ⟨rfl,hb2⟩;refine zb hb2 ?_;rintro ⟨hc2,hf2⟩ hz2 hy2 hx2;refine szz w2 w ?_;intros;refine szz w2 w1 ?_;intros
   go_wp2_with (go_at_call 83;refine (z0q _ _ _ _ hhs).mono ?_;rintro e w3 ⟨rfl,hb3⟩;refine zb hb3 ?_;rintro ⟨hc3,hf3⟩ hz3 hy3 hx3;refine szz w3 w ?_;intros;refine szz w3 w1 ?_;intros;refine szz w3 w2 ?_;intros)
   go_ret
   exact⟨rfl,bel⟩
 have e:z07 ⟨st,id,tr,⟨kk,kn,ks⟩,⟨hk,hn,hs⟩,nx⟩ ⟨t,b,c⟩=gapCheck ⟨t,b,c⟩:=by rw[z9u h1];simp[z07,h1]
 rw[e]
 have h1':(gapCheck ⟨t,b,c⟩ != 0)=true:=by simpa using h1
 clear e h1
 go_enter Tryz.func69,Tryz.ntmps69
 go_wp2_with (first | (go_at_call 23;refine (z3h _ _ _ _).mono ?_;rintro e w1 ⟨rfl,hb1⟩;refine zb hb1 ?_;rintro ⟨hc1,hf1⟩ hz1 hy1 hx1;refine szz w1 w ?_;intros))
 go_ret
 exact⟨rfl,bel⟩
open Go.RowKit
def z71 (c:Cll)(id:Int)(key has:Val):Bool:=decide (c.state=1)&&decide (c.id=id)&&valEq c.key key&&z0b has
def zfr (w:World)(c:Cll)(is:Bool)(n:Int)(e:Ending)(w':World):Prop:=e=.returned (.tuple #[c.ag,.bool is,.int .i64 n])/\Below w.heap.size w w'
def z43 (c:Cll)(p:Pol)(id:Int)(key has:Val):Cll×Bool×Int :=
 if z07 c p=0 then if z71 c id key has=true then (⟨2,c.id,c.tries,c.key,has,0⟩,true,0) else (c,false,0) else (noCll,false,z07 c p)
theorem zc6 (st id' tr kk' kn':Int)(ks':ByteArray)(hk' hn':Int)(hs':ByteArray)(nx:Int)(p:Pol)(id kk kn:Int)(ks:ByteArray)(hk hn:Int)(hs:ByteArray) :
  let c:Cll:=⟨st,id',tr,⟨kk',kn',ks'⟩,⟨hk',hn',hs'⟩,nx⟩
  let r:=z43 c p id ⟨kk,kn,ks⟩ ⟨hk,hn,hs⟩
  ((z07 c p != 0)=true/\r=(noCll,false,z07 c p)) \/
  (z07 c p=0/\(st==1)=false/\r=(c,false,0)) \/
  (z07 c p=0/\st=1/\(id'==id)=false/\r=(c,false,0)) \/
  (z07 c p=0/\st=1/\id'=id/\valEq ⟨kk',kn',ks'⟩ ⟨kk,kn,ks⟩=false/\r=(c,false,0)) \/
  (z07 c p=0/\st=1/\id'=id/\valEq ⟨kk',kn',ks'⟩ ⟨kk,kn,ks⟩=true/\z0b ⟨hk,hn,hs⟩=false/\r=(c,false,0)) \/
  (z07 c p=0/\st=1/\id'=id/\kk'=kk/\kn'=kn/\ks'=ks/\z0b ⟨hk,hn,hs⟩=true/\r=(⟨2,id',tr,⟨kk',kn',ks'⟩,⟨hk,hn,hs⟩,0⟩,true,0)):=by
 intro c r
 have hr:r=z43 c p id ⟨kk,kn,ks⟩ ⟨hk,hn,hs⟩:=rfl
 clear_value r
 unfold z43 at hr
 by_cases h0:z07 c p=0
 ·rw[if_pos h0] at hr
  by_cases h1:st=1
  ·by_cases h2:id'=id
   ·cases h3:valEq ⟨kk',kn',ks'⟩ ⟨kk,kn,ks⟩
    ·right;right;right;left
     refine⟨h0,h1,h2,rfl,?_⟩
     rw[hr,if_neg (by simp[z71,c,h3])]
    cases h4:z0b ⟨hk,hn,hs⟩
    ·right;right;right;right;left
     refine⟨h0,h1,h2,rfl,rfl,?_⟩
     rw[hr,if_neg (by simp[z71,h4])]
    right;right;right;right;right
    have h5:=(z2o _ _).1 h3
    simp only[Val.mk.injEq] at h5
    refine⟨h0,h1,h2,h5.1,h5.2.1,h5.2.2,rfl,?_⟩
    rw[hr,if_pos (by simp[z71,c,h1,h2,h3,h4])]
   right;right;left
   refine⟨h0,h1,by simpa using h2,?_⟩
   rw[hr,if_neg (by simp[z71,c,h2])]
  right;left
  refine⟨h0,by simpa using h1,?_⟩
  rw[hr,if_neg (by simp[z71,c,h1])]
 left
 exact⟨by simpa using h0,by rw[hr,if_neg h0]⟩
open Go.RowKit
def z1p (c:Cll)(p:Pol)(id:Int)(key:Val)(now:Int):Cll×Bool×Int :=
 if z07 c p=0 then
  if valCheck key=0 then
   if z0b key=true then
    if c.state≠0/\c.key=key then (c,false,0)
    else if (z18 p id key now).2=0 then ((z18 p id key now).1,true,0) else (noCll,false,(z18 p id key now).2)
   else (noCll,false,0)
  else (noCll,false,valCheck key)
 else (noCll,false,z07 c p)
theorem zao {c:Cll}{p:Pol}(h:z07 c p=0):0<=c.state/\c.state<=3:=by
 unfold z07 at h
 by_cases h0:gapCheck p=0
 ·rw[if_pos h0] at h
  by_cases h1:c.state<0\/3<c.state
  ·rw[if_pos h1] at h;cases h
  omega
 rw[if_neg h0] at h;cases h
theorem callStart_none {p:Pol}{id:Int}{key:Val}{now:Int}(h:(z18 p id key now).2≠0):(z18 p id key now).1=noCll:=by
 rcases z5z p id key now with ⟨_,e⟩ | ⟨_,_,e⟩ | ⟨_,_,_,e⟩ | ⟨_,_,_,e⟩<;>rw[e] at h ⊢
 exact absurd rfl h
theorem zae (st id' tr kk' kn':Int)(ks':ByteArray)(hk' hn':Int)(hs':ByteArray)(nx:Int)(p:Pol)(id kk kn:Int)(ks:ByteArray)(now:Int) :
  let c:Cll:=⟨st,id',tr,⟨kk',kn',ks'⟩,⟨hk',hn',hs'⟩,nx⟩
  let k:Val:=⟨kk,kn,ks⟩
  let r:=z1p c p id k now
  let s:=z18 p id k now
  ((z07 c p != 0)=true/\r=(noCll,false,z07 c p)) \/
  (z07 c p=0/\(valCheck k != 0)=true/\r=(noCll,false,valCheck k)) \/
  (z07 c p=0/\valCheck k=0/\z0b k=false/\3<kk/\r=(noCll,false,0)) \/
  (z07 c p=0/\valCheck k=0/\z0b k=true/\kk<=3/\0<st/\(st != 0)=true/\kk'=kk/\kn'=kn/\ks'=ks/\r=(c,false,0)) \/
  (z07 c p=0/\valCheck k=0/\z0b k=true/\kk<=3/\((0<st/\(st != 0)=true/\valEq ⟨kk',kn',ks'⟩ k=false)\/st=0)/\(s.2==0)=true/\(s.2 != 0)=false/\r=(s.1,true,0)) \/
  (z07 c p=0/\valCheck k=0/\z0b k=true/\kk<=3/\((0<st/\(st != 0)=true/\valEq ⟨kk',kn',ks'⟩ k=false)\/st=0)/\(s.2==0)=false/\(s.2 != 0)=true/\s.1=noCll/\r=(noCll,false,s.2)):=by
 intro c k r s
 have hr:r=z1p c p id k now:=rfl
 clear_value r
 unfold z1p at hr
 by_cases h0:z07 c p=0
 ·rw[if_pos h0] at hr
  have hst:=zao h0
  simp only[c] at hst
  by_cases h1:valCheck k=0
  ·rw[if_pos h1] at hr
   cases h2:z0b k
   ·have h3:¬ (valCheck k=0/\k.k<4):=by rw[<-z23,h2];simp
    rw[h2,if_neg (by simp)] at hr
    exact .inr (.inr (.inl ⟨h0,h1,rfl,by simp only[k] at h3 h1 ⊢;omega,hr⟩))
   have h3:=(z23 _).1 h2
   have h3':kk<=3:=by have:=h3.2;simp only[k] at this;omega
   rw[if_pos h2] at hr
   by_cases h4:c.state≠0/\c.key=k
   ·rw[if_pos h4] at hr
    have h5:=h4.2
    have h6:=h4.1
    simp only[c,k,Val.mk.injEq] at h5 h6
    exact .inr (.inr (.inr (.inl ⟨h0,h1,rfl,h3',by omega,by simpa using h6,h5.1,h5.2.1,h5.2.2,hr⟩)))
   rw[if_neg h4] at hr
   have h5:(0<st/\(st != 0)=true/\valEq ⟨kk',kn',ks'⟩ k=false)\/st=0:=by
    by_cases h6:st=0
    ·exact .inr h6
    refine .inl ⟨by omega,by simpa using h6,?_⟩
    cases h7:valEq ⟨kk',kn',ks'⟩ k
    ·rfl
    exact absurd ⟨h6,(z2o _ _).1 h7⟩ h4
   by_cases h6:s.2=0
   ·rw[if_pos (show (z18 p id k now).2=0 from h6)] at hr
    exact .inr (.inr (.inr (.inr (.inl ⟨h0,h1,rfl,h3',h5,by simpa using h6,by simpa using h6,hr⟩))))
   rw[if_neg (show ¬ (z18 p id k now).2=0 from h6)] at hr
   exact .inr (.inr (.inr (.inr (.inr ⟨h0,h1,rfl,h3',h5,by simpa using h6,by simpa using h6,callStart_none h6,hr⟩))))
  rw[if_neg h1] at hr
  exact .inr (.inl ⟨h0,by simpa using h1,hr⟩)
 exact .inl ⟨by simpa using h0,by rw[hr,if_neg h0]⟩
open Go.RowKit
def z44 (c:Cll)(p:Pol)(now:Int):Cll×Bool×Int :=
 if z07 c p=0 then
  if now<0\/1073741824<now then (noCll,false,4)
  else if c.state=1/\c.next<=now then
   if c.tries=p.tries then (⟨3,c.id,c.tries,c.key,c.has,0⟩,false,0) else (⟨1,c.id,c.tries+1,c.key,c.has,now+(gapOf p (c.tries+1)).1⟩,true,0)
  else (c,false,0)
 else (noCll,false,z07 c p)
theorem zc4 {c:Cll}{p:Pol}(h:z07 c p=0)(h1:c.state=1):gapCheck p=0/\1<=c.tries/\c.tries<=p.tries/\c.has=⟨0,0,⟨#[]⟩⟩:=by
 unfold z07 at h
 by_cases h0:gapCheck p=0
 ·rw[if_pos h0,if_neg (by omega),if_neg (by omega)] at h
  by_cases h2:z2a c p
  ·rw[if_pos h2] at h;cases h
  rw[if_neg h2] at h
  unfold z2a at h2
  simp only[not_or] at h2
  by_cases h3:z3q c p=true
  ·unfold z3q at h3
   rw[if_pos h1,Bool.and_eq_true] at h3
   exact⟨h0,by omega,by omega,(z2o _ _).1 h3.2⟩
  rw[if_neg h3] at h;cases h
 rw[if_neg h0] at h;cases h
theorem zc7 (st id tr kk kn:Int)(ks:ByteArray)(hk hn:Int)(hs:ByteArray)(nx:Int)(p:Pol)(now:Int) :
  let c:Cll:=⟨st,id,tr,⟨kk,kn,ks⟩,⟨hk,hn,hs⟩,nx⟩
  let r:=z44 c p now
  ((z07 c p != 0)=true/\r=(noCll,false,z07 c p)) \/
  (z07 c p=0/\now<0/\r=(noCll,false,4)) \/
  (z07 c p=0/\0<=now/\1073741824<now/\r=(noCll,false,4)) \/
  (z07 c p=0/\0<=now/\now<=1073741824/\(st==1)=false/\r=(c,false,0)) \/
  (z07 c p=0/\0<=now/\now<=1073741824/\st=1/\now<nx/\r=(c,false,0)) \/
  (z07 c p=0/\0<=now/\now<=1073741824/\st=1/\nx<=now/\tr=p.tries/\hk=0/\hn=0/\hs=⟨#[]⟩/\gapCheck p=0/\1<=tr/\r=(⟨3,id,tr,⟨kk,kn,ks⟩,⟨0,0,⟨#[]⟩⟩,0⟩,false,0)) \/
  (z07 c p=0/\0<=now/\now<=1073741824/\st=1/\nx<=now/\tr<p.tries/\hk=0/\hn=0/\hs=⟨#[]⟩/\gapCheck p=0/\1<=tr/\r=(⟨1,id,tr+1,⟨kk,kn,ks⟩,⟨0,0,⟨#[]⟩⟩,now+(gapOf p (tr+1)).1⟩,true,0)):=by
 intro c r
 have hr:r=z44 c p now:=rfl
 clear_value r
 unfold z44 at hr
 by_cases h0:z07 c p=0
 ·rw[if_pos h0] at hr
  by_cases h1:now<0
  ·right;left
   exact⟨h0,h1,by rw[hr,if_pos (.inl h1)]⟩
  by_cases h2:1073741824<now
  ·right;right;left
   exact⟨h0,by omega,h2,by rw[hr,if_pos (.inr h2)]⟩
  rw[if_neg (by omega)] at hr
  by_cases h3:st=1
  ·by_cases h4:nx<=now
   ·obtain⟨g1,g2,g3,g4⟩:=zc4 h0 h3
    simp only[c,Val.mk.injEq] at g2 g3 g4
    obtain⟨rfl,rfl,rfl⟩:=g4
    rw[if_pos (show c.state=1/\c.next<=now from ⟨h3,h4⟩)] at hr
    by_cases h5:tr=p.tries
    ·right;right;right;right;right;left
     exact⟨h0,by omega,by omega,h3,h4,h5,rfl,rfl,rfl,g1,g2,by rw[hr,if_pos (show c.tries=p.tries from h5)]⟩
    right;right;right;right;right;right
    exact⟨h0,by omega,by omega,h3,h4,by omega,rfl,rfl,rfl,g1,g2,by rw[hr,if_neg (show ¬ c.tries=p.tries from h5)]⟩
   right;right;right;right;left
   exact⟨h0,by omega,by omega,h3,by omega,by rw[hr,if_neg (show ¬ (c.state=1/\c.next<=now) from fun h=>h4 h.2)]⟩
  right;right;right;left
  exact⟨h0,by omega,by omega,by simpa using h3,by rw[hr,if_neg (show ¬ (c.state=1/\c.next<=now) from fun h=>h3 h.1)]⟩
 left
 exact⟨by simpa using h0,by rw[hr,if_neg h0]⟩
open Go.RowKit
def z0v (c:Cll):Val:=if c.state=2 then c.has else if c.state=3 then ⟨5,14,⟨#[]⟩⟩ else ⟨4,0,⟨#[]⟩⟩
def RetVal (w:World)(v:Val)(e:Ending)(w':World):Prop:=e=.returned (.agg #[.int .i64 v.k,.int .i64 v.n,.string v.s])/\Below w.heap.size w w'
theorem zaq (st id tr kk kn:Int)(ks:ByteArray)(hk hn:Int)(hs:ByteArray)(nx:Int) :
  let v:=z0v ⟨st,id,tr,⟨kk,kn,ks⟩,⟨hk,hn,hs⟩,nx⟩
  (st=2/\v=⟨hk,hn,hs⟩)\/(st=3/\v=⟨5,14,⟨#[]⟩⟩)\/((st==2)=false/\(st==3)=false/\v=⟨4,0,⟨#[]⟩⟩):=by
 intro v
 have hv:v=z0v ⟨st,id,tr,⟨kk,kn,ks⟩,⟨hk,hn,hs⟩,nx⟩:=rfl
 clear_value v
 unfold z0v at hv
 subst hv
 by_cases h2:st=2
 ·left;simp[h2]
 by_cases h3:st=3
 ·right;left;simp[h3]
 right;right;simp[h2,h3]
theorem zez (st id tr kk kn:Int)(ks:ByteArray)(hk hn:Int)(hs:ByteArray)(nx:Int)(w:World) :
  Calls Tryz.prog 122 #[.agg #[.int .i64 st,.int .i64 id,.int .i64 tr,.int .i64 kk,.int .i64 kn,.string ks,.int .i64 hk,.int .i64 hn,.string hs,.int .i64 nx]] w
   (RetVal w (z0v ⟨st,id,tr,⟨kk,kn,ks⟩,⟨hk,hn,hs⟩,nx⟩)):=by
 rcases zaq st id tr kk kn ks hk hn hs nx with ⟨rfl,e⟩ | ⟨rfl,e⟩ | ⟨h2,h3,e⟩
 ·rw[e];clear e
  go_enter Tryz.func122,Tryz.ntmps122
  go_wp2_with fail
  exact bodyPost_ret (v:=.agg #[.int .i64 hk,.int .i64 hn,.string hs]) (by simp[results,Tryz.results122,go_sem]) rfl ⟨rfl,bel⟩
 ·rw[e];clear e
  go_enter Tryz.func122,Tryz.ntmps122
  go_wp2_with fail
  exact bodyPost_ret (v:=.agg #[.int .i64 5,.int .i64 14,.string ⟨#[]⟩]) (by simp[results,Tryz.results122,go_sem]) rfl ⟨rfl,bel⟩
 rw[e];clear e
 go_enter Tryz.func122,Tryz.ntmps122
 go_wp2_with fail
 exact bodyPost_ret (v:=.agg #[.int .i64 4,.int .i64 0,.string ⟨#[]⟩]) (by simp[results,Tryz.results122,go_sem]) rfl ⟨rfl,bel⟩
theorem ref_noC (e:Int)(w:World):Calls Tryz.prog 129 #[.int .i64 e] w (RetVal w ⟨5,e,⟨#[]⟩⟩):=by
 go_enter Tryz.func129,Tryz.ntmps129
 go_wp2_with fail
 exact bodyPost_ret (v:=.agg #[.int .i64 5,.int .i64 e,.string ⟨#[]⟩]) (by simp[results,Tryz.results129,go_sem]) rfl ⟨rfl,bel⟩
theorem z9z (st id tr kk kn:Int)(ks:ByteArray)(hk hn:Int)(hs:ByteArray)(nx:Int)(w:World) :
  Calls Tryz.prog 80 #[.agg #[.int .i64 st,.int .i64 id,.int .i64 tr,.int .i64 kk,.int .i64 kn,.string ks,.int .i64 hk,.int .i64 hn,.string hs,.int .i64 nx]] w
   (RetVal w (z0v ⟨st,id,tr,⟨kk,kn,ks⟩,⟨hk,hn,hs⟩,nx⟩)):=by
 rcases zaq st id tr kk kn ks hk hn hs nx with ⟨rfl,e⟩ | ⟨rfl,e⟩ | ⟨h2,h3,e⟩
 ·rw[e];clear e
  go_enter Tryz.func80,Tryz.ntmps80
  go_wp2_with fail
  exact bodyPost_ret (v:=.agg #[.int .i64 hk,.int .i64 hn,.string hs]) (by simp[results,Tryz.results80,go_sem]) rfl ⟨rfl,bel⟩
 ·rw[e];clear e
  go_enter Tryz.func80,Tryz.ntmps80
  go_wp2_with fail
  refine (ref_noC _ _).mono ?_;rintro e w1 ⟨rfl,hb1⟩;refine zb hb1 ?_;rintro ⟨hc1,hf1⟩ hz1 hy1 hx1;refine szz w1 w ?_;intros
  go_wp2_with fail
  exact bodyPost_ret (v:=.agg #[.int .i64 5,.int .i64 14,.string ⟨#[]⟩]) (by simp[results,Tryz.results80,go_sem,hc1]) rfl ⟨rfl,bel⟩
 rw[e];clear e
 go_enter Tryz.func80,Tryz.ntmps80
 go_wp2_with fail
 exact bodyPost_ret (v:=.agg #[.int .i64 4,.int .i64 0,.string ⟨#[]⟩]) (by simp[results,Tryz.results80,go_sem]) rfl ⟨rfl,bel⟩
end Go.Proofs.YtldhlpjjcnlbcaaGreat
