/- Texts merged (mergeh.py): NumRef Vald. -/
import Derived.Test.YtldhlpjjcnlbcaaGreatShelf
import Derived.Test.YtldhlpjjcnlbcaaGreatNum
import Derived.Test.YtldhlpjjcnlbcaaGreatMacP
/- The numbers of the reference: NumOf, op by op. -/
set_option maxRecDepth 100000
set_option maxHeartbeats 8000000
namespace Go.Proofs.YtldhlpjjcnlbcaaGreat
open Go.RowKit
theorem ret_ub {k:IntKind}{a c:Int}{b d:Bool}(h:a=c)(h':b=d):Ending.returned (.tuple #[.int k a,.bool b])=.returned (.tuple #[.int k c,.bool d]):=by rw[h,h']
theorem ref_size (n:Int)(w:World)(h1:-1099511627776<=n)(h2:n<=1099511627776) :
  Calls Tryz.prog 193 #[.int .i64 n] w fun e w'=>e=.returned (.tuple #[.int .u64 (n.natAbs:Int),.bool (decide (n<0))])/\w=w':=by
 by_cases h:n<0
 ·go_enter Tryz.func193,Tryz.ntmps193
  go_wp2
  go_ret2
  exact⟨ret_ub (by omega) (by simpa using h),rfl⟩
 go_enter Tryz.func193,Tryz.ntmps193
 go_wp2
 go_ret2
 exact⟨ret_ub (by omega) (by simpa using h),rfl⟩
theorem zea (a b:Int)(w:World) :
  Calls Tryz.prog 170 #[.int .i64 8,.int .i64 a,.int .i64 b] w fun e w'=>e=.returned (.tuple #[.int .i64 (z8q a b).1,.int .i64 (z8q a b).2])/\∃ n,w'=w.drewN n:=by
 by_cases ha:z0o a=0
 ·by_cases hb:z0o b=0
  ·have a1:=z11 ha
   have b1:=z11 hb
   go_enter Tryz.func170,Tryz.ntmps170
   go_wp2_with (first | (go_at_call 165;refine (z17 _ _).mono ?_;rintro e w' ⟨rfl,rfl⟩))
   all_goals
    go_ret2
    exact⟨z2w (by simp_all [z8q,z0x,z2m]) (by simp_all [z8q,z0x,z2m,z4h]),0,rfl⟩
  have h0:¬ b=0:=fun e=>hb (by rw[e];rfl)
  have h0':(b==0)=false:=by simpa using h0
  have hb':(z0o b != 0)=true:=by simpa using hb
  go_enter Tryz.func170,Tryz.ntmps170
  go_wp2_with (first | (go_at_call 165;refine (z17 _ _).mono ?_;rintro e w' ⟨rfl,rfl⟩))
  go_ret2
  exact⟨z2w (by simp[z8q,z0x,ha,hb]) (by simp[z8q,z0x,ha,hb]),0,rfl⟩
 have ha':(z0o a != 0)=true:=by simpa using ha
 go_enter Tryz.func170,Tryz.ntmps170
 go_wp2_with (first | (go_at_call 165;refine (z17 _ _).mono ?_;rintro e w' ⟨rfl,rfl⟩))
 go_ret2
 exact⟨z2w (by simp[z8q,z0x,ha]) (by simp[z8q,z0x,ha]),0,rfl⟩
theorem zed (a b:Int)(w:World) :
  Calls Tryz.prog 170 #[.int .i64 9,.int .i64 a,.int .i64 b] w fun e w'=>e=.returned (.tuple #[.int .i64 (z7m a b).1,.int .i64 (z7m a b).2])/\∃ n,w'=w.drewN n:=by
 by_cases ha:z0o a=0
 ·by_cases hb:z0o b=0
  ·have a1:=z11 ha
   have b1:=z11 hb
   go_enter Tryz.func170,Tryz.ntmps170
   go_wp2_with (first | (go_at_call 165;refine (z17 _ _).mono ?_;rintro e w' ⟨rfl,rfl⟩))
   all_goals
    go_ret2
    exact⟨z2w (by simp_all [z7m,z0x,z2m]) (by simp_all [z7m,z0x,z2m,z4h]),0,rfl⟩
  have h0:¬ b=0:=fun e=>hb (by rw[e];rfl)
  have h0':(b==0)=false:=by simpa using h0
  have hb':(z0o b != 0)=true:=by simpa using hb
  go_enter Tryz.func170,Tryz.ntmps170
  go_wp2_with (first | (go_at_call 165;refine (z17 _ _).mono ?_;rintro e w' ⟨rfl,rfl⟩))
  go_ret2
  exact⟨z2w (by simp[z7m,z0x,ha,hb]) (by simp[z7m,z0x,ha,hb]),0,rfl⟩
 have ha':(z0o a != 0)=true:=by simpa using ha
 go_enter Tryz.func170,Tryz.ntmps170
 go_wp2_with (first | (go_at_call 165;refine (z17 _ _).mono ?_;rintro e w' ⟨rfl,rfl⟩))
 go_ret2
 exact⟨z2w (by simp[z7m,z0x,ha]) (by simp[z7m,z0x,ha]),0,rfl⟩
theorem zec (a b:Int)(w:World) :
  Calls Tryz.prog 170 #[.int .i64 5,.int .i64 a,.int .i64 b] w fun e w'=>e=.returned (.tuple #[.int .i64 (z76 a b).1,.int .i64 (z76 a b).2])/\∃ n,w'=w.drewN n:=by
 by_cases ha:z0o a=0
 ·by_cases hb:z0o b=0
  ·have a1:=z11 ha
   have b1:=z11 hb
   by_cases h0:b=0
   ·subst h0
    go_enter Tryz.func170,Tryz.ntmps170
    go_wp2_with (first | (go_at_call 165;refine (z17 _ _).mono ?_;rintro e w' ⟨rfl,rfl⟩) | (go_at_call 193;refine (ref_size _ _ (by omega) (by omega)).mono ?_;rintro e w' ⟨rfl,rfl⟩) | (go_at_call 194;refine (Tryz.bits_Mul64 _ 0 (by omega) (by omega) _).mono ?_;rintro e w' ⟨rfl,rfl⟩))
    all_goals
     go_ret2
     exact⟨z2w (by simp_all [z76,z0x,z2m]) (by simp_all [z76,z0x,z2m]),0,rfl⟩
   have h0':(b==0)=false:=by simpa using h0
   have hs:=zh (mul_same a b)
   have ho:=zh (mul_other a b)
   go_enter Tryz.func170,Tryz.ntmps170
   go_wp2_with (first | (go_at_call 165;refine (z17 _ _).mono ?_;rintro e w' ⟨rfl,rfl⟩) | (go_at_call 193;refine (ref_size _ _ (by omega) (by omega)).mono ?_;rintro e w' ⟨rfl,rfl⟩) | (go_at_call 194;refine (Tryz.bits_Mul64 _ _ (by omega) (by omega) _).mono ?_;rintro e w' ⟨rfl,rfl⟩))
   all_goals
    go_ret2
    have hab:=mul_abs a b
    have hp:(0:Int)<=↑a.natAbs*↑b.natAbs:=Int.mul_nonneg (by omega) (by omega)
    have hg:z76 a b=z2m (a*b):=by simp[z76,z0x,ha,hb]
    first
     |
      have hn:¬ z0o (a*b)=0:=fun e=>by have:=z11 e;omega
      exact⟨z2w (by rw[hg,z2m,if_neg hn]) (by rw[hg,z2m,if_neg hn]),0,rfl⟩
     |
      have h1:=ho.out (by assumption)
      have hx:a*b=-(↑a.natAbs*↑b.natAbs%18446744073709551616):=by omega
      exact⟨z2w (by rw[hg,hx];simp_all [z2m]) (by rw[hg,hx];simp_all [z2m,z4h]),0,rfl⟩
     |
      have h1:=hs.out (by assumption)
      have hx:a*b=(↑a.natAbs*↑b.natAbs%18446744073709551616):=by omega
      exact⟨z2w (by rw[hg,hx];simp_all [z2m]) (by rw[hg,hx];simp_all [z2m,z4h]),0,rfl⟩
  have h0:¬ b=0:=fun e=>hb (by rw[e];rfl)
  have h0':(b==0)=false:=by simpa using h0
  have hb':(z0o b != 0)=true:=by simpa using hb
  go_enter Tryz.func170,Tryz.ntmps170
  go_wp2_with (first | (go_at_call 165;refine (z17 _ _).mono ?_;rintro e w' ⟨rfl,rfl⟩))
  go_ret2
  exact⟨z2w (by simp[z76,z0x,ha,hb]) (by simp[z76,z0x,ha,hb]),0,rfl⟩
 have ha':(z0o a != 0)=true:=by simpa using ha
 go_enter Tryz.func170,Tryz.ntmps170
 go_wp2_with (first | (go_at_call 165;refine (z17 _ _).mono ?_;rintro e w' ⟨rfl,rfl⟩))
 go_ret2
 exact⟨z2w (by simp[z76,z0x,ha]) (by simp[z76,z0x,ha]),0,rfl⟩
theorem za1 (a b:Int)(w:World) :
  Calls Tryz.prog 170 #[.int .i64 6,.int .i64 a,.int .i64 b] w fun e w'=>e=.returned (.tuple #[.int .i64 (z4c a b).1,.int .i64 (z4c a b).2])/\∃ n,w'=w.drewN n:=by
 by_cases ha:z0o a=0
 ·by_cases h0:b=0
  ·subst h0
   go_enter Tryz.func170,Tryz.ntmps170
   go_wp2_with (first | (go_at_call 165;refine (z17 _ _).mono ?_;rintro e w' ⟨rfl,rfl⟩))
   go_ret2
   exact⟨z2w (by simp[z4c,ha]) (by simp[z4c,ha]),0,rfl⟩
  have h0':(b==0)=false:=by simpa using h0
  by_cases hb:z0o b=0
  ·obtain⟨a1,a2⟩:=z11 ha
   obtain⟨b1,b2⟩:=z11 hb
   have hf:=fdiv_bd a b h0 a1 a2
   have ht:=tdiv_bd a b
   have hfd:=fdiv_of a b h0
   have hd:=div_at a b
   have hu:=div_up a b
   have HH:=zh (ai hfd (ai hd hu))
   have hr:z4c a b=z2m (a.fdiv b):=by simp[z4c,z0x,ha,hb,h0]
   have HR:=zh hr
   clear hfd hd hu hr
   go_enter Tryz.func170,Tryz.ntmps170
   go_wp2_with (first | (go_at_call 165;refine (z17 _ _).mono ?_;rintro e w' ⟨rfl,rfl⟩))
   go_loop [8] (fun n=>∃ v:Int,n=.int .i64 v/\(v=a.fdiv b\/v=a.fdiv b+1)) (fun n=>(intOf n-a.fdiv b).toNat)
   case atStart=>exact⟨_,rfl,HH.out.1⟩
   case round =>
    obtain⟨v,rfl,hv⟩:=hrel
    rcases hv with hv | hv
    ·have hd:=HH.out.2.1
     rw[<-hv] at hd
     rcases (by omega:0<b\/b<0) with hs | hs
     all_goals
      have hd1:=(by first | exact hd.1 hs | exact hd.2 hs:_/\_)
      have HV:=zh hv
      clear hv hd
      go_wp2_with (first | (go_at_call 165;refine (z17 _ _).mono ?_;rintro e w' ⟨rfl,rfl⟩))
      all_goals
       go_ret2
       exact⟨z2w (by rw[HR.out,<-HV.out];simp_all [z2m]) (by rw[HR.out,<-HV.out];simp_all [z2m,z4h]),0,rfl⟩
    have hd:=HH.out.2.2 v hv
    rcases (by omega:0<b\/b<0) with hs | hs
    all_goals
     have hd1:=(by first | exact hd.1 hs | exact hd.2 hs:_/\_)
     have hf':-1099511627777<=v/\v<=1099511627777:=by omega
     have HV:=zh hv
     clear hv hd
     go_wp2
     go_round
     case rel=>have:=HV.out;exact⟨v-1,rfl,.inl (by omega)⟩
     case measure=>have:=HV.out;simp[intOf];omega
  have hb':(z0o b != 0)=true:=by simpa using hb
  go_enter Tryz.func170,Tryz.ntmps170
  go_wp2_with (first | (go_at_call 165;refine (z17 _ _).mono ?_;rintro e w' ⟨rfl,rfl⟩))
  go_ret2
  exact⟨z2w (by simp[z4c,z0x,ha,hb,h0]) (by simp[z4c,z0x,ha,hb,h0]),0,rfl⟩
 have ha':(z0o a != 0)=true:=by simpa using ha
 go_enter Tryz.func170,Tryz.ntmps170
 go_wp2_with (first | (go_at_call 165;refine (z17 _ _).mono ?_;rintro e w' ⟨rfl,rfl⟩))
 go_ret2
 exact⟨z2w (by simp[z4c,z0x,ha]) (by simp[z4c,z0x,ha]),0,rfl⟩
theorem zeb (a b:Int)(w:World) :
  Calls Tryz.prog 170 #[.int .i64 7,.int .i64 a,.int .i64 b] w fun e w'=>e=.returned (.tuple #[.int .i64 (z51 a b).1,.int .i64 (z51 a b).2])/\∃ n,w'=w.drewN n:=by
 by_cases ha:z0o a=0
 ·by_cases h0:b=0
  ·subst h0
   go_enter Tryz.func170,Tryz.ntmps170
   go_wp2_with (first | (go_at_call 165;refine (z17 _ _).mono ?_;rintro e w' ⟨rfl,rfl⟩))
   go_ret2
   exact⟨z2w (by simp[z51,ha]) (by simp[z51,ha]),0,rfl⟩
  have h0':(b==0)=false:=by simpa using h0
  by_cases hb:z0o b=0
  ·obtain⟨a1,a2⟩:=z11 ha
   obtain⟨b1,b2⟩:=z11 hb
   have hr:z51 a b=z2m (a.fmod b):=by simp[z51,z0x,ha,hb,h0]
   have hf:=fdiv_bd a b h0 a1 a2
   have hf1:=fdiv_in a b a1 a2
   have hq:z4c a b=(a.fdiv b,0):=by
    have hx:z0o (a.fdiv b)=0:=z9w hf1 hf.2
    simp[z4c,z0x,z2m,ha,hb,h0,hx]
   have hq1:(z4c a b).1=a.fdiv b:=by rw[hq]
   have hmo:=mod_of a b
   have hbd:=fmod_bd a b
   have hfb:-2199023255552<=a.fdiv b*b/\a.fdiv b*b<=2199023255552:=by omega
   have HR:=zh hr
   clear hr hq hbd
   have hbd:=fmod_bd a b
   have hmb:-1099511627776<=a.fmod b/\a.fmod b<=1099511627776:=by omega
   clear hbd
   go_enter Tryz.func170,Tryz.ntmps170
   go_wp2_with (first | (go_at_call 165;refine (z17 _ _).mono ?_;rintro e w' ⟨rfl,rfl⟩) | (go_at_call 170;refine (za1 _ _ _).mono ?_;rintro e w' ⟨rfl,nq,rfl⟩))
   all_goals
    go_ret2
    exact⟨z2w (by rw[HR.out];simp_all [z2m]) (by rw[HR.out];simp_all [z2m,z4h]),_,rfl⟩
  have hb':(z0o b != 0)=true:=by simpa using hb
  go_enter Tryz.func170,Tryz.ntmps170
  go_wp2_with (first | (go_at_call 165;refine (z17 _ _).mono ?_;rintro e w' ⟨rfl,rfl⟩))
  go_ret2
  exact⟨z2w (by simp[z51,z0x,ha,hb,h0]) (by simp[z51,z0x,ha,hb,h0]),0,rfl⟩
 have ha':(z0o a != 0)=true:=by simpa using ha
 go_enter Tryz.func170,Tryz.ntmps170
 go_wp2_with (first | (go_at_call 165;refine (z17 _ _).mono ?_;rintro e w' ⟨rfl,rfl⟩))
 go_ret2
 exact⟨z2w (by simp[z51,z0x,ha]) (by simp[z51,z0x,ha]),0,rfl⟩
open Go.RowKit Go.Maps
def ValN (l:List Fct)(F:Option Addr)(nF cF N:Nat):Prop:=∀ (x:Exp) (A:Option Addr) (c:Nat) (w:World),x.nodes<=N->prtN x=0->XRep w (old w) (x.cs A c) x->Sl w (old w) 7 RFct F nF l ->
 Calls Tryz.prog 127 #[.agg (x.cs A c).toArray,.slice F nF cF] w (RetV w (evX l x))
theorem Own.fresh (w:World)(e:TypeId)(v:Val)(hv:v.wf):Own (w.alloc (.cells #[.int .i64 v.k,.int .i64 v.n,.string v.s] e)) w.heap.size e 3 (fun _ _=>RVal) (.slice (some ⟨w.heap.size,0,none⟩) 1 1) [v]:=by
 refine⟨[v.cs],⟨by simp,.inr ⟨w.heap.size,1,#[.int .i64 v.k,.int .i64 v.n,.string v.s],rfl,nr _,?_,nr _,by decide,rfl,rfl⟩⟩,rfl,fun c hc=>?_,fun i c a hc ha=>?_⟩
 ·exact heap_alloc_new w _
 ·simp at hc;subst hc;rfl
 have hi:i=0:=by
  have:=(List.getElem?_eq_some_iff.1 hc).1
  simp at this;exact this
 subst hi
 simp at hc ha
 subst hc;subst ha
 exact⟨rfl,hv⟩
theorem lackV_pend1 {vs:List Val}{k:Nat}{v:Val}(h5:vs.any (fun v=>v.k==5)=false)(h0:(vs.take k).any (fun v=>v.k==4)=false)(h1:vs[k]?=some v)(h2:v.k=4):lackV vs=some v:=by
 unfold lackV
 rw[z5e _ _ h5]
 dsimp only
 rw[zbn h0 h1 (by simpa using h2)]
theorem app4 (v0:Val):appV 4 [v0]=bif [v0].all (fun v=>v.k==2) then z6g (v0.n==0) else z1m 9:=by
 unfold appV
 rw[if_neg (by decide),if_pos rfl]
 show (if v0.k=2 then _ else _)=_
 by_cases h:v0.k=2
 ·have e:(v0.k==2)=true:=by simpa using h
  rw[if_pos h];simp[e,vAt]
 have e:(v0.k==2)=false:=by simpa using h
 rw[if_neg h];simp[e]
theorem app10 (v0 v1:Val):appV 10 [v0,v1]=bif [v0,v1].all (fun v=>v.k==3) then joinV v0.s v1.s else z1m 9:=by
 unfold appV
 rw[if_neg (by decide),if_neg (by decide),if_pos rfl]
 show (if v0.k=3/\v1.k=3 then _ else _)=_
 by_cases h:v0.k=3
 ·have e:(v0.k==3)=true:=by simpa using h
  by_cases h':v1.k=3
  ·have e':(v1.k==3)=true:=by simpa using h'
   rw[if_pos ⟨h,h'⟩];simp[e,e',vAt]
  have e':(v1.k==3)=false:=by simpa using h'
  rw[if_neg (fun hh=>h' hh.2)];simp[e']
 have e:(v0.k==3)=false:=by simpa using h
 rw[if_neg (fun hh=>h hh.1)];simp[e]
theorem app18 (v0:Val):appV 18 [v0]=bif [v0].all (fun v=>v.k==3) then ⟨1,v0.s.size,⟨#[]⟩⟩ else z1m 9:=by
 unfold appV
 rw[if_neg (by decide),if_neg (by decide),if_neg (by decide),if_pos rfl]
 show (if v0.k=3 then _ else _)=_
 by_cases h:v0.k=3
 ·have e:(v0.k==3)=true:=by simpa using h
  rw[if_pos h];simp[e,vAt]
 have e:(v0.k==3)=false:=by simpa using h
 rw[if_neg h];simp[e]
theorem app3 (v0:Val):appV 3 [v0]=bif [v0].all (fun v=>v.k==1) then ⟨1,-v0.n,⟨#[]⟩⟩ else z1m 9:=by
 unfold appV
 rw[if_neg (by decide),if_neg (by decide),if_neg (by decide),if_neg (by decide),if_pos rfl]
 show (if v0.k=1 then _ else _)=_
 by_cases h:v0.k=1
 ·have e:(v0.k==1)=true:=by simpa using h
  rw[if_pos h];simp[e,vAt]
 have e:(v0.k==1)=false:=by simpa using h
 rw[if_neg h];simp[e]
theorem appMul (v0 v1:Val):appV 5 [v0,v1]=bif [v0,v1].all (fun v=>v.k==1) then numV (z76 v0.n v1.n) else z1m 9:=by
 unfold appV
 rw[if_neg (by decide),if_neg (by decide),if_neg (by decide),if_neg (by decide),if_neg (by decide)]
 show (if v0.k=1/\v1.k=1 then _ else _)=_
 by_cases h:v0.k=1
 ·have e:(v0.k==1)=true:=by simpa using h
  by_cases h':v1.k=1
  ·have e':(v1.k==1)=true:=by simpa using h'
   rw[if_pos ⟨h,h'⟩];simp[e,e',vAt,zb7]
  have e':(v1.k==1)=false:=by simpa using h'
  rw[if_neg (fun hh=>h' hh.2)];simp[e']
 have e:(v0.k==1)=false:=by simpa using h
 rw[if_neg (fun hh=>h hh.1)];simp[e]
theorem appDiv (v0 v1:Val):appV 6 [v0,v1]=bif [v0,v1].all (fun v=>v.k==1) then numV (z4c v0.n v1.n) else z1m 9:=by
 unfold appV
 rw[if_neg (by decide),if_neg (by decide),if_neg (by decide),if_neg (by decide),if_neg (by decide)]
 show (if v0.k=1/\v1.k=1 then _ else _)=_
 by_cases h:v0.k=1
 ·have e:(v0.k==1)=true:=by simpa using h
  by_cases h':v1.k=1
  ·have e':(v1.k==1)=true:=by simpa using h'
   rw[if_pos ⟨h,h'⟩];simp[e,e',vAt,zb7]
  have e':(v1.k==1)=false:=by simpa using h'
  rw[if_neg (fun hh=>h' hh.2)];simp[e']
 have e:(v0.k==1)=false:=by simpa using h
 rw[if_neg (fun hh=>h hh.1)];simp[e]
theorem appMod (v0 v1:Val):appV 7 [v0,v1]=bif [v0,v1].all (fun v=>v.k==1) then numV (z51 v0.n v1.n) else z1m 9:=by
 unfold appV
 rw[if_neg (by decide),if_neg (by decide),if_neg (by decide),if_neg (by decide),if_neg (by decide)]
 show (if v0.k=1/\v1.k=1 then _ else _)=_
 by_cases h:v0.k=1
 ·have e:(v0.k==1)=true:=by simpa using h
  by_cases h':v1.k=1
  ·have e':(v1.k==1)=true:=by simpa using h'
   rw[if_pos ⟨h,h'⟩];simp[e,e',vAt,zb7]
  have e':(v1.k==1)=false:=by simpa using h'
  rw[if_neg (fun hh=>h' hh.2)];simp[e']
 have e:(v0.k==1)=false:=by simpa using h
 rw[if_neg (fun hh=>h hh.1)];simp[e]
theorem appAdd (v0 v1:Val):appV 8 [v0,v1]=bif [v0,v1].all (fun v=>v.k==1) then numV (z8q v0.n v1.n) else z1m 9:=by
 unfold appV
 rw[if_neg (by decide),if_neg (by decide),if_neg (by decide),if_neg (by decide),if_neg (by decide)]
 show (if v0.k=1/\v1.k=1 then _ else _)=_
 by_cases h:v0.k=1
 ·have e:(v0.k==1)=true:=by simpa using h
  by_cases h':v1.k=1
  ·have e':(v1.k==1)=true:=by simpa using h'
   rw[if_pos ⟨h,h'⟩];simp[e,e',vAt,zb7]
  have e':(v1.k==1)=false:=by simpa using h'
  rw[if_neg (fun hh=>h' hh.2)];simp[e']
 have e:(v0.k==1)=false:=by simpa using h
 rw[if_neg (fun hh=>h hh.1)];simp[e]
theorem appSub (v0 v1:Val):appV 9 [v0,v1]=bif [v0,v1].all (fun v=>v.k==1) then numV (z7m v0.n v1.n) else z1m 9:=by
 unfold appV
 rw[if_neg (by decide),if_neg (by decide),if_neg (by decide),if_neg (by decide),if_neg (by decide)]
 show (if v0.k=1/\v1.k=1 then _ else _)=_
 by_cases h:v0.k=1
 ·have e:(v0.k==1)=true:=by simpa using h
  by_cases h':v1.k=1
  ·have e':(v1.k==1)=true:=by simpa using h'
   rw[if_pos ⟨h,h'⟩];simp[e,e',vAt,zb7]
  have e':(v1.k==1)=false:=by simpa using h'
  rw[if_neg (fun hh=>h' hh.2)];simp[e']
 have e:(v0.k==1)=false:=by simpa using h
 rw[if_neg (fun hh=>h hh.1)];simp[e]
theorem Tryz.zeroBool (w:World):(zeroValue 4).run Tryz.prog w=.ok (.bool false) w:=by kernel_rfl
def boolMap (r:Int):Lit->Option Value:=putAt (putAt (putAt (putAt (fun _=>none) (.int .i64 11) (.bool (r==-1))) (.int .i64 12) (.bool (r != 1))) (.int .i64 13) (.bool (r==0))) (.int .i64 14) (.bool (r != 0))
theorem valOrder_one {a b:Val}{r e:Int}(h:z2p a b=(r,e)):r=-1\/r=0\/r=1:=by
 have h1:r=(z2p a b).1:=by rw[h]
 rw[h1]
 unfold z2p
 split
 ·show or2 _ _=-1\/or2 _ _=0\/or2 _ _=1
  unfold or2 cmpZ cmpS
  repeat' split
  all_goals omega
 exact .inr (.inl rfl)
theorem boolMap_at {r:Int}(op:Int)(h1:11<=op)(h2:op<=14)(hr:r=-1\/r=0\/r=1):(boolMap r (.int .i64 op)).getD (.bool false)=.bool (cmpTruth op r):=by
 rcases (by omega:op=11\/op=12\/op=13\/op=14) with rfl | rfl | rfl | rfl<;>rcases hr with rfl | rfl | rfl<;>rfl
theorem z68 (e:Int)(w:World):Calls Tryz.prog 129 #[.int .i64 e] w (RetV w (z1m e)):=by
 go_enter Tryz.func129,Tryz.ntmps129
 go_wp2_with fail
 exact bpr Tryz.results129 (.agg #[.int .i64 5,.int .i64 e,.string ⟨#[]⟩]) ⟨rfl,bel⟩
theorem ref_yes (b:Bool)(w:World):Calls Tryz.prog 169 #[.bool b] w (RetV w (z6g b)):=by
 cases b
 ·go_enter Tryz.func169,Tryz.ntmps169
  go_wp2_with fail
  exact bpr Tryz.results169 (.agg #[.int .i64 2,.int .i64 0,.string ⟨#[]⟩]) ⟨rfl,bel⟩
 go_enter Tryz.func169,Tryz.ntmps169
 go_wp2_with fail
 exact bpr Tryz.results169 (.agg #[.int .i64 2,.int .i64 1,.string ⟨#[]⟩]) ⟨rfl,bel⟩
end Go.Proofs.YtldhlpjjcnlbcaaGreat
