/- Texts merged (mergeh.py): Call2r Call6r. -/
import Derived.Test.YtldhlpjjcnlbcaaGreatCall3
/- The reference CallFault, with the same answer as call.Check. -/
set_option maxRecDepth 100000
set_option maxHeartbeats 8000000
namespace Go.Proofs.YtldhlpjjcnlbcaaGreat
open Go.RowKit
theorem callZero_cases (id tr kk kn:Int)(ks:ByteArray)(hk hn:Int)(hs:ByteArray)(nx:Int) :
  let g:=cllEq ⟨0,id,tr,⟨kk,kn,ks⟩,⟨hk,hn,hs⟩,nx⟩ noCll
  ((id != 0)=true/\g=false)\/(id=0/\(tr != 0)=true/\g=false)\/(id=0/\tr=0/\(nx != 0)=true/\g=false) \/
  (id=0/\tr=0/\nx=0/\valEq ⟨kk,kn,ks⟩ ⟨0,0,⟨#[]⟩⟩=false/\g=false) \/
  (id=0/\tr=0/\nx=0/\valEq ⟨kk,kn,ks⟩ ⟨0,0,⟨#[]⟩⟩=true/\valEq ⟨hk,hn,hs⟩ ⟨0,0,⟨#[]⟩⟩=false/\g=false) \/
  (id=0/\tr=0/\nx=0/\valEq ⟨kk,kn,ks⟩ ⟨0,0,⟨#[]⟩⟩=true/\valEq ⟨hk,hn,hs⟩ ⟨0,0,⟨#[]⟩⟩=true/\g=true):=by
 intro g
 have hg:g=cllEq ⟨0,id,tr,⟨kk,kn,ks⟩,⟨hk,hn,hs⟩,nx⟩ noCll:=rfl
 clear_value g
 unfold cllEq noCll at hg
 simp only at hg
 subst hg
 by_cases h1:id=0<;>by_cases h2:tr=0<;>by_cases h3:nx=0<;>cases h4:valEq ⟨kk,kn,ks⟩ ⟨0,0,⟨#[]⟩⟩<;>cases h5:valEq ⟨hk,hn,hs⟩ ⟨0,0,⟨#[]⟩⟩<;>simp_all
theorem z15 (st id tr kk kn:Int)(ks:ByteArray)(hk hn:Int)(hs:ByteArray)(nx t b c:Int)(w:World)(hks:ks.size<=maxLen)(hhs:hs.size<=maxLen) :
  Calls Tryz.prog 43 #[.agg #[.int .i64 st,.int .i64 id,.int .i64 tr,.int .i64 kk,.int .i64 kn,.string ks,.int .i64 hk,.int .i64 hn,.string hs,.int .i64 nx],.agg #[.int .i64 t,.int .i64 b,.int .i64 c]] w
   fun e w'=>e=.returned (.int .i64 (z07 ⟨st,id,tr,⟨kk,kn,ks⟩,⟨hk,hn,hs⟩,nx⟩ ⟨t,b,c⟩))/\Below w.heap.size w w':=by
 by_cases h1:gapCheck ⟨t,b,c⟩=0
 ·by_cases h2:st<0\/3<st
  ·have e:z07 ⟨st,id,tr,⟨kk,kn,ks⟩,⟨hk,hn,hs⟩,nx⟩ ⟨t,b,c⟩=2:=by simp[z07,h1,h2]
   rw[e]
   have h1':(gapCheck ⟨t,b,c⟩ != 0)=false:=by simpa using h1
   have s0:(st==0)=false:=by simp;omega
   have s1:(st==1)=false:=by simp;omega
   have s2:(st==2)=false:=by simp;omega
   have s3:(st==3)=false:=by simp;omega
   clear e h1 h2
   go_enter Tryz.func43,Tryz.ntmps43
   go_wp2_with (first | (go_at_call 27;refine (z1r _ _ _ _).mono ?_;rintro e w1 ⟨rfl,hb1⟩;refine zb hb1 ?_;rintro ⟨hc1,hf1⟩ hz1 hy1 hx1;refine szz w1 w ?_;intros))
   go_ret
   exact⟨rfl,bel⟩
  by_cases h3:st=0
  ·subst h3
   have hneq:=fun w=>z24 w hk hn 0 0 hs ⟨#[]⟩
   have hneq':=fun w=>z24 w kk kn 0 0 ks ⟨#[]⟩
   have h1':(gapCheck ⟨t,b,c⟩ != 0)=false:=by simpa using h1
   have e:z07 ⟨0,id,tr,⟨kk,kn,ks⟩,⟨hk,hn,hs⟩,nx⟩ ⟨t,b,c⟩=if cllEq ⟨0,id,tr,⟨kk,kn,ks⟩,⟨hk,hn,hs⟩,nx⟩ noCll then 0 else 15:=by simp[z07,h1]
   rw[e]
   clear e h1 h2
   rcases callZero_cases id tr kk kn ks hk hn hs nx with ⟨g1,e⟩ | ⟨rfl,g1,e⟩ | ⟨rfl,rfl,g1,e⟩ | ⟨rfl,rfl,rfl,g1,e⟩ | ⟨rfl,rfl,rfl,g1,g2,e⟩ | ⟨rfl,rfl,rfl,g1,g2,e⟩
   all_goals
    rw[e]
    clear e
    go_enter Tryz.func43,Tryz.ntmps43
    go_wp2_with (first | (go_at_call 27;refine (z1r _ _ _ _).mono ?_;rintro e w1 ⟨rfl,hb1⟩;refine zb hb1 ?_;rintro ⟨hc1,hf1⟩ hz1 hy1 hx1;refine szz w1 w ?_;intros))
    go_ret
    exact⟨rfl,bel⟩
  by_cases h4:z2a ⟨st,id,tr,⟨kk,kn,ks⟩,⟨hk,hn,hs⟩,nx⟩ ⟨t,b,c⟩
  ·have e:z07 ⟨st,id,tr,⟨kk,kn,ks⟩,⟨hk,hn,hs⟩,nx⟩ ⟨t,b,c⟩=4:=by simp[z07,h1,h2,h3,h4]
   rw[e]
   have h1':(gapCheck ⟨t,b,c⟩ != 0)=false:=by simpa using h1
   unfold z2a at h4
   simp only at h4
   clear e h1
   have h2':st=1\/st=2\/st=3:=by omega
   rcases h2' with rfl | rfl | rfl
   all_goals rcases (by omega:id<1\/(1<=id/\1073741824<id)\/(1<=id/\id<=1073741824/\tr<1)\/(1<=id/\id<=1073741824/\1<=tr/\t<tr)\/(1<=id/\id<=1073741824/\1<=tr/\tr<=t/\nx<0)\/(1<=id/\id<=1073741824/\1<=tr/\tr<=t/\0<=nx/\1073742824<nx)) with h5 | h5 | h5 | h5 | h5 | h5
   all_goals
    clear h4 h2 h3
    go_enter Tryz.func43,Tryz.ntmps43
    go_wp2_with (first | (go_at_call 27;refine (z1r _ _ _ _).mono ?_;rintro e w1 ⟨rfl,hb1⟩;refine zb hb1 ?_;rintro ⟨hc1,hf1⟩ hz1 hy1 hx1;refine szz w1 w ?_;intros))
    go_ret
    exact⟨rfl,bel⟩
  have e:z07 ⟨st,id,tr,⟨kk,kn,ks⟩,⟨hk,hn,hs⟩,nx⟩ ⟨t,b,c⟩=if z3q ⟨st,id,tr,⟨kk,kn,ks⟩,⟨hk,hn,hs⟩,nx⟩ ⟨t,b,c⟩ then 0 else 15:=by simp[z07,h1,h2,h3,h4]
  rw[e]
  have h1':(gapCheck ⟨t,b,c⟩ != 0)=false:=by simpa using h1
  unfold z2a at h4
  simp only[not_or] at h4
  obtain⟨r1,r2,r3,r4,r5,r6⟩:=h4
  have hneq:=fun w=>z1j w hk hn 0 0 hs ⟨#[]⟩
  have hg:=zc5 st id tr kk kn ks hk hn hs nx t b c (by omega) (by omega) (by omega)
  clear e h1
  rcases hg with ⟨g1,e⟩ | ⟨g1,rfl,g2,e⟩ | ⟨g1,rfl,g2,e⟩ | ⟨g1,rfl,g2,g3,e⟩ | ⟨g1,rfl,g2,g3,e⟩ | ⟨g1,rfl,g2,g3,g4,e⟩ | ⟨g1,rfl,g2,g3,g4,e⟩ | ⟨g1,rfl,g2,e⟩ | ⟨g1,rfl,g2,g4,e⟩ | ⟨g1,rfl,g2,g4,g5,e⟩ | ⟨g1,rfl,g2,g4,g5,e⟩
  ·have h2':st=1\/st=2\/st=3:=by omega
   rw[e]
   clear e
   rcases h2' with rfl | rfl | rfl
   all_goals
    clear h2 h3
    go_enter Tryz.func43,Tryz.ntmps43
    go_wp2_with (first | (go_at_call 27;refine (z1r _ _ _ _).mono ?_;rintro e w1 ⟨rfl,hb1⟩;refine zb hb1 ?_;rintro ⟨hc1,hf1⟩ hz1 hy1 hx1;refine szz w1 w ?_;intros) | (go_at_call 74;refine (z1d _ _ _ _ hks).mono ?_;rintro e w2 ⟨rfl,hb2⟩;refine zb hb2 ?_;rintro ⟨hc2,hf2⟩ hz2 hy2 hx2;refine szz w2 w ?_;intros;refine szz w2 w1 ?_;intros))
    go_ret
    exact⟨rfl,bel⟩
  all_goals
   rw[e]
   clear e
   (try (have g5':(tr==t)=false:=by simp;omega))
   go_enter Tryz.func43,Tryz.ntmps43
   go_wp2_with (go_at_call 27;refine (z1r _ _ _ _).mono ?_;rintro e w1 ⟨rfl,hb1⟩;refine zb hb1 ?_;rintro ⟨hc1,hf1⟩ hz1 hy1 hx1;refine szz w1 w ?_;intros)
   refine (z1d _ _ _ _ hks).mono ?_;rintro e w2 ⟨rfl,hb2⟩;refine zb hb2 ?_;rintro ⟨hc2,hf2⟩ hz2 hy2 hx2;refine szz w2 w ?_;intros;refine szz w2 w1 ?_;intros
   go_wp2_with (go_at_call 74;refine (z1d _ _ _ _ hhs).mono ?_;rintro e w3 ⟨rfl,hb3⟩;refine zb hb3 ?_;rintro ⟨hc3,hf3⟩ hz3 hy3 hx3;refine szz w3 w ?_;intros;refine szz w3 w1 ?_;intros;refine szz w3 w2 ?_;intros)
   go_ret
   exact⟨rfl,bel⟩
 have e:z07 ⟨st,id,tr,⟨kk,kn,ks⟩,⟨hk,hn,hs⟩,nx⟩ ⟨t,b,c⟩=gapCheck ⟨t,b,c⟩:=by rw[z9u h1];simp[z07,h1]
 rw[e]
 have h1':(gapCheck ⟨t,b,c⟩ != 0)=true:=by simpa using h1
 clear e h1
 go_enter Tryz.func43,Tryz.ntmps43
 go_wp2_with (first | (go_at_call 27;refine (z1r _ _ _ _).mono ?_;rintro e w1 ⟨rfl,hb1⟩;refine zb hb1 ?_;rintro ⟨hc1,hf1⟩ hz1 hy1 hx1;refine szz w1 w ?_;intros))
 go_ret
 exact⟨rfl,bel⟩
open Go.RowKit
theorem z7o (st id' tr kk' kn':Int)(ks':ByteArray)(hk' hn':Int)(hs':ByteArray)(nx t b c id kk kn:Int)(ks:ByteArray)(now:Int)(w:World)(s1:ks'.size<=maxLen)(s2:hs'.size<=maxLen)(s3:ks.size<=maxLen)
  (h0:z07 ⟨st,id',tr,⟨kk',kn',ks'⟩,⟨hk',hn',hs'⟩,nx⟩ ⟨t,b,c⟩=0)(h1:valCheck ⟨kk,kn,ks⟩=0)(_h2:z0b ⟨kk,kn,ks⟩=true)(h3:kk<=3)(h4:(0<st/\(st != 0)=true/\valEq ⟨kk',kn',ks'⟩ ⟨kk,kn,ks⟩=false)\/st=0) :
  Calls Tryz.prog 79 #[.agg #[.int .i64 st,.int .i64 id',.int .i64 tr,.int .i64 kk',.int .i64 kn',.string ks',.int .i64 hk',.int .i64 hn',.string hs',.int .i64 nx],.agg #[.int .i64 t,.int .i64 b,.int .i64 c],.int .i64 id,.agg #[.int .i64 kk,.int .i64 kn,.string ks],.int .i64 now] w (zfr w (z18 ⟨t,b,c⟩ id ⟨kk,kn,ks⟩ now).1 ((z18 ⟨t,b,c⟩ id ⟨kk,kn,ks⟩ now).2==0) (z18 ⟨t,b,c⟩ id ⟨kk,kn,ks⟩ now).2):=by
 have heq:=fun w=>z1j w kk' kn' kk kn ks' ks
 have hx:(z07 ⟨st,id',tr,⟨kk',kn',ks'⟩,⟨hk',hn',hs'⟩,nx⟩ ⟨t,b,c⟩ != 0)=false:=by simpa using h0
 have hx':(z07 ⟨st,id',tr,⟨kk',kn',ks'⟩,⟨hk',hn',hs'⟩,nx⟩ ⟨t,b,c⟩==0)=true:=by simpa using h0
 have hy:(valCheck ⟨kk,kn,ks⟩ != 0)=false:=by simpa using h1
 clear h0 h1
 generalize hS:z18 ⟨t,b,c⟩ id ⟨kk,kn,ks⟩ now=S
 have HS:=zh hS
 clear hS
 rcases h4 with ⟨h6,h7,h8⟩ | rfl
 all_goals
  go_enter Tryz.func79,Tryz.ntmps79
  go_wp2_with (first | (go_at_call 43;refine (z15 _ _ _ _ _ _ _ _ _ _ _ _ _ _ s1 s2).mono ?_;rintro e w1 ⟨rfl,hb1⟩;refine zb hb1 ?_;rintro ⟨hc1,hf1⟩ hz1 hy1 hx1;refine szz w1 w ?_;intros) | (go_at_call 124;refine (z21 _ _ _ _ s3).mono ?_;rintro e w2 ⟨rfl,hb2⟩;refine zb hb2 ?_;rintro ⟨hc2,hf2⟩ hz2 hy2 hx2;refine szz w2 w ?_;intros;refine szz w2 w1 ?_;intros))
  refine (z57 _ _ _ _ _ _ _ _ _ s3).mono ?_;rintro e w4 ⟨rfl,hb4⟩;refine zb hb4 ?_;rintro ⟨hc4,hf4⟩ hz4 hy4 hx4;refine szz w4 w ?_;intros;refine szz w4 w1 ?_;intros;refine szz w4 w2 ?_;intros
  (try have a0:w4.cell? ⟨w.heap.size,0,none⟩=some (.int .i64 st):=by go_simp)
  (try have a1:w4.cell? ⟨w.heap.size,1,none⟩=some (.int .i64 id'):=by go_simp)
  (try have a2:w4.cell? ⟨w.heap.size,2,none⟩=some (.int .i64 tr):=by go_simp)
  (try have a3:w4.cell? ⟨w.heap.size,3,none⟩=some (.int .i64 kk'):=by go_simp)
  (try have a4:w4.cell? ⟨w.heap.size,4,none⟩=some (.int .i64 kn'):=by go_simp)
  (try have a5:w4.cell? ⟨w.heap.size,5,none⟩=some (.string ks'):=by go_simp)
  (try have a6:w4.cell? ⟨w.heap.size,6,none⟩=some (.int .i64 hk'):=by go_simp)
  (try have a7:w4.cell? ⟨w.heap.size,7,none⟩=some (.int .i64 hn'):=by go_simp)
  (try have a8:w4.cell? ⟨w.heap.size,8,none⟩=some (.string hs'):=by go_simp)
  (try have a9:w4.cell? ⟨w.heap.size,9,none⟩=some (.int .i64 nx):=by go_simp)
  (try have f0:w4.frozen? ⟨w.heap.size,0,none⟩=false:=by go_simp)
  (try have f1:w4.frozen? ⟨w.heap.size,1,none⟩=false:=by go_simp)
  (try have f2:w4.frozen? ⟨w.heap.size,2,none⟩=false:=by go_simp)
  (try have f3:w4.frozen? ⟨w.heap.size,3,none⟩=false:=by go_simp)
  (try have f4:w4.frozen? ⟨w.heap.size,4,none⟩=false:=by go_simp)
  (try have f5:w4.frozen? ⟨w.heap.size,5,none⟩=false:=by go_simp)
  (try have f6:w4.frozen? ⟨w.heap.size,6,none⟩=false:=by go_simp)
  (try have f7:w4.frozen? ⟨w.heap.size,7,none⟩=false:=by go_simp)
  (try have f8:w4.frozen? ⟨w.heap.size,8,none⟩=false:=by go_simp)
  (try have f9:w4.frozen? ⟨w.heap.size,9,none⟩=false:=by go_simp)
  (try have z0:w4.cell? ⟨w.heap.size+1+1+1,0,none⟩=some (.int .i64 0):=by go_simp)
  (try have z1:w4.cell? ⟨w.heap.size+1+1+1,1,none⟩=some (.int .i64 0):=by go_simp)
  (try have z2:w4.cell? ⟨w.heap.size+1+1+1,2,none⟩=some (.int .i64 0):=by go_simp)
  (try have z3:w4.cell? ⟨w.heap.size+1+1+1,3,none⟩=some (.int .i64 0):=by go_simp)
  (try have z4:w4.cell? ⟨w.heap.size+1+1+1,4,none⟩=some (.int .i64 0):=by go_simp)
  (try have z5:w4.cell? ⟨w.heap.size+1+1+1,5,none⟩=some (.string ⟨#[]⟩):=by go_simp)
  (try have z6:w4.cell? ⟨w.heap.size+1+1+1,6,none⟩=some (.int .i64 0):=by go_simp)
  (try have z7:w4.cell? ⟨w.heap.size+1+1+1,7,none⟩=some (.int .i64 0):=by go_simp)
  (try have z8:w4.cell? ⟨w.heap.size+1+1+1,8,none⟩=some (.string ⟨#[]⟩):=by go_simp)
  (try have z9:w4.cell? ⟨w.heap.size+1+1+1,9,none⟩=some (.int .i64 0):=by go_simp)
  (try have y0:w4.frozen? ⟨w.heap.size+1+1+1,0,none⟩=false:=by go_simp)
  (try have y1:w4.frozen? ⟨w.heap.size+1+1+1,1,none⟩=false:=by go_simp)
  (try have y2:w4.frozen? ⟨w.heap.size+1+1+1,2,none⟩=false:=by go_simp)
  (try have y3:w4.frozen? ⟨w.heap.size+1+1+1,3,none⟩=false:=by go_simp)
  (try have y4:w4.frozen? ⟨w.heap.size+1+1+1,4,none⟩=false:=by go_simp)
  (try have y5:w4.frozen? ⟨w.heap.size+1+1+1,5,none⟩=false:=by go_simp)
  (try have y6:w4.frozen? ⟨w.heap.size+1+1+1,6,none⟩=false:=by go_simp)
  (try have y7:w4.frozen? ⟨w.heap.size+1+1+1,7,none⟩=false:=by go_simp)
  (try have y8:w4.frozen? ⟨w.heap.size+1+1+1,8,none⟩=false:=by go_simp)
  (try have y9:w4.frozen? ⟨w.heap.size+1+1+1,9,none⟩=false:=by go_simp)
  (try have a0:w4.cell? ⟨w.heap.size,0,none⟩=some (.int .i64 0):=by go_simp)
  clear hc4 hf4 hc2 hf2 hc1 hf1
  rw[HS.out]
  go_wp2_with fail
  exact bpr Tryz.results79 (.tuple #[.agg #[.int .i64 S.1.state,.int .i64 S.1.id,.int .i64 S.1.tries,.int .i64 S.1.key.k,.int .i64 S.1.key.n,.string S.1.key.s,.int .i64 S.1.has.k,.int .i64 S.1.has.n,.string S.1.has.s,.int .i64 S.1.next],.bool (S.2==0),.int .i64 S.2]) ⟨rfl,bel⟩
theorem zcf (st id' tr kk' kn':Int)(ks':ByteArray)(hk' hn':Int)(hs':ByteArray)(nx t b c id kk kn:Int)(ks:ByteArray)(now:Int)(w:World)(s1:ks'.size<=maxLen)(s2:hs'.size<=maxLen)(s3:ks.size<=maxLen) :
  let r:=z1p ⟨st,id',tr,⟨kk',kn',ks'⟩,⟨hk',hn',hs'⟩,nx⟩ ⟨t,b,c⟩ id ⟨kk,kn,ks⟩ now
  Calls Tryz.prog 79 #[.agg #[.int .i64 st,.int .i64 id',.int .i64 tr,.int .i64 kk',.int .i64 kn',.string ks',.int .i64 hk',.int .i64 hn',.string hs',.int .i64 nx],.agg #[.int .i64 t,.int .i64 b,.int .i64 c],.int .i64 id,.agg #[.int .i64 kk,.int .i64 kn,.string ks],.int .i64 now] w (zfr w r.1 r.2.1 r.2.2):=by
 intro r
 have hr:r=z1p ⟨st,id',tr,⟨kk',kn',ks'⟩,⟨hk',hn',hs'⟩,nx⟩ ⟨t,b,c⟩ id ⟨kk,kn,ks⟩ now:=rfl
 clear_value r
 have heq:=fun w=>z1j w kk' kn' kk kn ks' ks
 rcases zae st id' tr kk' kn' ks' hk' hn' hs' nx ⟨t,b,c⟩ id kk kn ks now with ⟨h0,e⟩ | ⟨h0,h1,e⟩ | ⟨h0,h1,h2,h3,e⟩ | ⟨h0,h1,h2,h3,h4,h5,h6,h7,h8,e⟩ | ⟨h0,h1,h2,h3,h4,h5,h5',e⟩ | ⟨h0,h1,h2,h3,h4,h5,h5',h6,e⟩
 ·rw[e] at hr;subst hr;clear e
  have h0':(z07 ⟨st,id',tr,⟨kk',kn',ks'⟩,⟨hk',hn',hs'⟩,nx⟩ ⟨t,b,c⟩==0)=false:=by simpa using h0
  go_enter Tryz.func79,Tryz.ntmps79
  go_wp2_with (first | (go_at_call 43;refine (z15 _ _ _ _ _ _ _ _ _ _ _ _ _ _ s1 s2).mono ?_;rintro e w1 ⟨rfl,hb1⟩;refine zb hb1 ?_;rintro ⟨hc1,hf1⟩ hz1 hy1 hx1;refine szz w1 w ?_;intros) | (go_at_call 124;refine (z21 _ _ _ _ s3).mono ?_;rintro e w2 ⟨rfl,hb2⟩;refine zb hb2 ?_;rintro ⟨hc2,hf2⟩ hz2 hy2 hx2;refine szz w2 w ?_;intros;refine szz w2 w1 ?_;intros) | (go_at_call 128;refine (z57 _ _ _ _ _ _ _ _ _ s3).mono ?_;rintro e w4 ⟨rfl,hb4⟩;refine zb hb4 ?_;rintro ⟨hc4,hf4⟩ hz4 hy4 hx4;refine szz w4 w ?_;intros;refine szz w4 w1 ?_;intros;refine szz w4 w2 ?_;intros))
  exact bpr Tryz.results79 (.tuple #[.agg #[.int .i64 0,.int .i64 0,.int .i64 0,.int .i64 0,.int .i64 0,.string ⟨#[]⟩,.int .i64 0,.int .i64 0,.string ⟨#[]⟩,.int .i64 0],.bool false,.int .i64 (z07 ⟨st,id',tr,⟨kk',kn',ks'⟩,⟨hk',hn',hs'⟩,nx⟩ ⟨t,b,c⟩)]) ⟨rfl,bel⟩
 ·rw[e] at hr;subst hr;clear e
  have hx:(z07 ⟨st,id',tr,⟨kk',kn',ks'⟩,⟨hk',hn',hs'⟩,nx⟩ ⟨t,b,c⟩ != 0)=false:=by simpa using h0
  have hx':(z07 ⟨st,id',tr,⟨kk',kn',ks'⟩,⟨hk',hn',hs'⟩,nx⟩ ⟨t,b,c⟩==0)=true:=by simpa using h0
  clear h0
  go_enter Tryz.func79,Tryz.ntmps79
  go_wp2_with (first | (go_at_call 43;refine (z15 _ _ _ _ _ _ _ _ _ _ _ _ _ _ s1 s2).mono ?_;rintro e w1 ⟨rfl,hb1⟩;refine zb hb1 ?_;rintro ⟨hc1,hf1⟩ hz1 hy1 hx1;refine szz w1 w ?_;intros) | (go_at_call 124;refine (z21 _ _ _ _ s3).mono ?_;rintro e w2 ⟨rfl,hb2⟩;refine zb hb2 ?_;rintro ⟨hc2,hf2⟩ hz2 hy2 hx2;refine szz w2 w ?_;intros;refine szz w2 w1 ?_;intros) | (go_at_call 128;refine (z57 _ _ _ _ _ _ _ _ _ s3).mono ?_;rintro e w4 ⟨rfl,hb4⟩;refine zb hb4 ?_;rintro ⟨hc4,hf4⟩ hz4 hy4 hx4;refine szz w4 w ?_;intros;refine szz w4 w1 ?_;intros;refine szz w4 w2 ?_;intros))
  exact bpr Tryz.results79 (.tuple #[.agg #[.int .i64 0,.int .i64 0,.int .i64 0,.int .i64 0,.int .i64 0,.string ⟨#[]⟩,.int .i64 0,.int .i64 0,.string ⟨#[]⟩,.int .i64 0],.bool false,.int .i64 (valCheck ⟨kk,kn,ks⟩)]) ⟨rfl,bel⟩
 ·rw[e] at hr;subst hr;clear e
  have hx:(z07 ⟨st,id',tr,⟨kk',kn',ks'⟩,⟨hk',hn',hs'⟩,nx⟩ ⟨t,b,c⟩ != 0)=false:=by simpa using h0
  have hx':(z07 ⟨st,id',tr,⟨kk',kn',ks'⟩,⟨hk',hn',hs'⟩,nx⟩ ⟨t,b,c⟩==0)=true:=by simpa using h0
  clear h0
  have hy:(valCheck ⟨kk,kn,ks⟩ != 0)=false:=by simpa using h1
  clear h1
  go_enter Tryz.func79,Tryz.ntmps79
  go_wp2_with (first | (go_at_call 43;refine (z15 _ _ _ _ _ _ _ _ _ _ _ _ _ _ s1 s2).mono ?_;rintro e w1 ⟨rfl,hb1⟩;refine zb hb1 ?_;rintro ⟨hc1,hf1⟩ hz1 hy1 hx1;refine szz w1 w ?_;intros) | (go_at_call 124;refine (z21 _ _ _ _ s3).mono ?_;rintro e w2 ⟨rfl,hb2⟩;refine zb hb2 ?_;rintro ⟨hc2,hf2⟩ hz2 hy2 hx2;refine szz w2 w ?_;intros;refine szz w2 w1 ?_;intros) | (go_at_call 128;refine (z57 _ _ _ _ _ _ _ _ _ s3).mono ?_;rintro e w4 ⟨rfl,hb4⟩;refine zb hb4 ?_;rintro ⟨hc4,hf4⟩ hz4 hy4 hx4;refine szz w4 w ?_;intros;refine szz w4 w1 ?_;intros;refine szz w4 w2 ?_;intros))
  exact bpr Tryz.results79 (.tuple #[.agg #[.int .i64 0,.int .i64 0,.int .i64 0,.int .i64 0,.int .i64 0,.string ⟨#[]⟩,.int .i64 0,.int .i64 0,.string ⟨#[]⟩,.int .i64 0],.bool false,.int .i64 0]) ⟨rfl,bel⟩
 ·rw[e] at hr;subst hr;clear e
  subst h6;subst h7;subst h8
  have hv:valEq ⟨kk',kn',ks'⟩ ⟨kk',kn',ks'⟩=true:=(z2o _ _).2 rfl
  have hx:(z07 ⟨st,id',tr,⟨kk',kn',ks'⟩,⟨hk',hn',hs'⟩,nx⟩ ⟨t,b,c⟩ != 0)=false:=by simpa using h0
  have hx':(z07 ⟨st,id',tr,⟨kk',kn',ks'⟩,⟨hk',hn',hs'⟩,nx⟩ ⟨t,b,c⟩==0)=true:=by simpa using h0
  clear h0
  have hy:(valCheck ⟨kk',kn',ks'⟩ != 0)=false:=by simpa using h1
  clear h1
  go_enter Tryz.func79,Tryz.ntmps79
  go_wp2_with (first | (go_at_call 43;refine (z15 _ _ _ _ _ _ _ _ _ _ _ _ _ _ s1 s2).mono ?_;rintro e w1 ⟨rfl,hb1⟩;refine zb hb1 ?_;rintro ⟨hc1,hf1⟩ hz1 hy1 hx1;refine szz w1 w ?_;intros) | (go_at_call 124;refine (z21 _ _ _ _ s3).mono ?_;rintro e w2 ⟨rfl,hb2⟩;refine zb hb2 ?_;rintro ⟨hc2,hf2⟩ hz2 hy2 hx2;refine szz w2 w ?_;intros;refine szz w2 w1 ?_;intros) | (go_at_call 128;refine (z57 _ _ _ _ _ _ _ _ _ s3).mono ?_;rintro e w4 ⟨rfl,hb4⟩;refine zb hb4 ?_;rintro ⟨hc4,hf4⟩ hz4 hy4 hx4;refine szz w4 w ?_;intros;refine szz w4 w1 ?_;intros;refine szz w4 w2 ?_;intros))
  exact bpr Tryz.results79 (.tuple #[.agg #[.int .i64 st,.int .i64 id',.int .i64 tr,.int .i64 kk',.int .i64 kn',.string ks',.int .i64 hk',.int .i64 hn',.string hs',.int .i64 nx],.bool false,.int .i64 0]) ⟨rfl,bel⟩
 ·rw[e] at hr;subst hr;clear e
  have hw:=z7o st id' tr kk' kn' ks' hk' hn' hs' nx t b c id kk kn ks now w s1 s2 s3 h0 h1 h2 h3 h4
  have e0:(z18 ⟨t,b,c⟩ id ⟨kk,kn,ks⟩ now).2=0:=by simpa using h5
  simp only[e0] at hw
  exact hw
 rw[e] at hr;subst hr;clear e
 have hw:=z7o st id' tr kk' kn' ks' hk' hn' hs' nx t b c id kk kn ks now w s1 s2 s3 h0 h1 h2 h3 h4
 rw[h6] at hw
 rw[h5] at hw
 exact hw
end Go.Proofs.YtldhlpjjcnlbcaaGreat
