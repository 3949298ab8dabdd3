/- Texts merged (mergeh.py): Call4r. -/
import Derived.Test.YtldhlpjjcnlbcaaGreatCall3
import Derived.Test.YtldhlpjjcnlbcaaGreatCall6r
/- The reference CallHear. -/
set_option maxRecDepth 100000
set_option maxHeartbeats 8000000
namespace Go.Proofs.YtldhlpjjcnlbcaaGreat
open Go.RowKit
theorem ref_CallHear (st id' tr kk' kn':Int)(ks':ByteArray)(hk' hn':Int)(hs':ByteArray)(nx t b c id kk kn:Int)(ks:ByteArray)(hk hn:Int)(hs:ByteArray)(w:World)
  (s1:ks'.size<=maxLen)(s2:hs'.size<=maxLen)(s4:hs.size<=maxLen) :
  let r:=z43 ⟨st,id',tr,⟨kk',kn',ks'⟩,⟨hk',hn',hs'⟩,nx⟩ ⟨t,b,c⟩ id ⟨kk,kn,ks⟩ ⟨hk,hn,hs⟩
  Calls Tryz.prog 54 #[.agg #[.int .i64 st,.int .i64 id',.int .i64 tr,.int .i64 kk',.int .i64 kn',.string ks',.int .i64 hk',.int .i64 hn',.string hs',.int .i64 nx],.agg #[.int .i64 t,.int .i64 b,.int .i64 c],
   .int .i64 id,.agg #[.int .i64 kk,.int .i64 kn,.string ks],.agg #[.int .i64 hk,.int .i64 hn,.string hs]] w (zfr w r.1 r.2.1 r.2.2):=by
 intro r
 have hr:r=z43 ⟨st,id',tr,⟨kk',kn',ks'⟩,⟨hk',hn',hs'⟩,nx⟩ ⟨t,b,c⟩ id ⟨kk,kn,ks⟩ ⟨hk,hn,hs⟩:=rfl
 clear_value r
 have hneq:=fun w=>z1j w kk' kn' kk kn ks' ks
 rcases zc6 st id' tr kk' kn' ks' hk' hn' hs' nx ⟨t,b,c⟩ id kk kn ks hk hn hs with ⟨h0,e⟩ | ⟨h0,h1,e⟩ | ⟨h0,h1,h2,e⟩ | ⟨h0,h1,h2,h3,e⟩ | ⟨h0,h1,h2,h3,h4,e⟩ | ⟨h0,h1,h2,h3,h5,h6,h4,e⟩
 ·rw[e] at hr;subst hr;clear e
  go_enter Tryz.func54,Tryz.ntmps54
  go_wp2_with fail
  refine (z15 _ _ _ _ _ _ _ _ _ _ _ _ _ _ s1 s2).mono ?_;rintro e w1 ⟨rfl,hb1⟩;refine zb hb1 ?_;rintro ⟨hc1,hf1⟩ hz1 hy1 hx1;refine szz w1 w ?_;intros
  go_wp2_with fail
  exact bpr Tryz.results54 (.tuple #[.agg #[.int .i64 0,.int .i64 0,.int .i64 0,.int .i64 0,.int .i64 0,.string ⟨#[]⟩,.int .i64 0,.int .i64 0,.string ⟨#[]⟩,.int .i64 0],.bool false,.int .i64 (z07 ⟨st,id',tr,⟨kk',kn',ks'⟩,⟨hk',hn',hs'⟩,nx⟩ ⟨t,b,c⟩)]) ⟨rfl,bel⟩
 ·rw[e] at hr;subst hr;clear e
  have h1':(st != 1)=true:=by simpa using h1
  have hx:(z07 ⟨st,id',tr,⟨kk',kn',ks'⟩,⟨hk',hn',hs'⟩,nx⟩ ⟨t,b,c⟩ != 0)=false:=by simpa using h0
  clear h0
  go_enter Tryz.func54,Tryz.ntmps54
  go_wp2_with fail
  refine (z15 _ _ _ _ _ _ _ _ _ _ _ _ _ _ s1 s2).mono ?_;rintro e w1 ⟨rfl,hb1⟩;refine zb hb1 ?_;rintro ⟨hc1,hf1⟩ hz1 hy1 hx1;refine szz w1 w ?_;intros
  go_wp2_with fail
  exact bpr Tryz.results54 (.tuple #[.agg #[.int .i64 st,.int .i64 id',.int .i64 tr,.int .i64 kk',.int .i64 kn',.string ks',.int .i64 hk',.int .i64 hn',.string hs',.int .i64 nx],.bool false,.int .i64 0]) ⟨rfl,bel⟩
 ·rw[e] at hr;subst hr;clear e
  subst h1
  have h2':(id' != id)=true:=by simpa using h2
  have hx:(z07 ⟨1,id',tr,⟨kk',kn',ks'⟩,⟨hk',hn',hs'⟩,nx⟩ ⟨t,b,c⟩ != 0)=false:=by simpa using h0
  clear h0
  go_enter Tryz.func54,Tryz.ntmps54
  go_wp2_with fail
  refine (z15 _ _ _ _ _ _ _ _ _ _ _ _ _ _ s1 s2).mono ?_;rintro e w1 ⟨rfl,hb1⟩;refine zb hb1 ?_;rintro ⟨hc1,hf1⟩ hz1 hy1 hx1;refine szz w1 w ?_;intros
  go_wp2_with fail
  exact bpr Tryz.results54 (.tuple #[.agg #[.int .i64 1,.int .i64 id',.int .i64 tr,.int .i64 kk',.int .i64 kn',.string ks',.int .i64 hk',.int .i64 hn',.string hs',.int .i64 nx],.bool false,.int .i64 0]) ⟨rfl,bel⟩
 ·rw[e] at hr;subst hr;clear e
  subst h1;subst h2
  have hx:(z07 ⟨1,id',tr,⟨kk',kn',ks'⟩,⟨hk',hn',hs'⟩,nx⟩ ⟨t,b,c⟩ != 0)=false:=by simpa using h0
  clear h0
  go_enter Tryz.func54,Tryz.ntmps54
  go_wp2_with fail
  refine (z15 _ _ _ _ _ _ _ _ _ _ _ _ _ _ s1 s2).mono ?_;rintro e w1 ⟨rfl,hb1⟩;refine zb hb1 ?_;rintro ⟨hc1,hf1⟩ hz1 hy1 hx1;refine szz w1 w ?_;intros
  go_wp2_with fail
  exact bpr Tryz.results54 (.tuple #[.agg #[.int .i64 1,.int .i64 id',.int .i64 tr,.int .i64 kk',.int .i64 kn',.string ks',.int .i64 hk',.int .i64 hn',.string hs',.int .i64 nx],.bool false,.int .i64 0]) ⟨rfl,bel⟩
 ·rw[e] at hr;subst hr;clear e
  subst h1;subst h2
  have hx:(z07 ⟨1,id',tr,⟨kk',kn',ks'⟩,⟨hk',hn',hs'⟩,nx⟩ ⟨t,b,c⟩ != 0)=false:=by simpa using h0
  clear h0
  go_enter Tryz.func54,Tryz.ntmps54
  go_wp2_with fail
  refine (z15 _ _ _ _ _ _ _ _ _ _ _ _ _ _ s1 s2).mono ?_;rintro e w1 ⟨rfl,hb1⟩;refine zb hb1 ?_;rintro ⟨hc1,hf1⟩ hz1 hy1 hx1;refine szz w1 w ?_;intros
  go_wp2_with (go_at_call 74;refine (z1d _ _ _ _ s4).mono ?_;rintro e w2 ⟨rfl,hb2⟩;refine zb hb2 ?_;rintro ⟨hc2,hf2⟩ hz2 hy2 hx2;refine szz w2 w ?_;intros;refine szz w2 w1 ?_;intros)
  exact bpr Tryz.results54 (.tuple #[.agg #[.int .i64 1,.int .i64 id',.int .i64 tr,.int .i64 kk',.int .i64 kn',.string ks',.int .i64 hk',.int .i64 hn',.string hs',.int .i64 nx],.bool false,.int .i64 0]) ⟨rfl,bel⟩
 rw[e] at hr;subst hr;clear e
 subst h1;subst h2;subst h3;subst h5;subst h6
 have hx:(z07 ⟨1,id',tr,⟨kk',kn',ks'⟩,⟨hk',hn',hs'⟩,nx⟩ ⟨t,b,c⟩ != 0)=false:=by simpa using h0
 have hv:valEq ⟨kk',kn',ks'⟩ ⟨kk',kn',ks'⟩=true:=(z2o _ _).2 rfl
 clear h0
 go_enter Tryz.func54,Tryz.ntmps54
 go_wp2_with fail
 refine (z15 _ _ _ _ _ _ _ _ _ _ _ _ _ _ s1 s2).mono ?_;rintro e w1 ⟨rfl,hb1⟩;refine zb hb1 ?_;rintro ⟨hc1,hf1⟩ hz1 hy1 hx1;refine szz w1 w ?_;intros
 go_wp2_with (go_at_call 74;refine (z1d _ _ _ _ s4).mono ?_;rintro e w2 ⟨rfl,hb2⟩;refine zb hb2 ?_;rintro ⟨hc2,hf2⟩ hz2 hy2 hx2;refine szz w2 w ?_;intros;refine szz w2 w1 ?_;intros)
 exact bpr Tryz.results54 (.tuple #[.agg #[.int .i64 2,.int .i64 id',.int .i64 tr,.int .i64 kk',.int .i64 kn',.string ks',.int .i64 hk,.int .i64 hn,.string hs,.int .i64 0],.bool true,.int .i64 0]) ⟨rfl,bel⟩
end Go.Proofs.YtldhlpjjcnlbcaaGreat
