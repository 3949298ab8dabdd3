/- Texts merged (mergeh.py): Call5r. -/
import Derived.Test.YtldhlpjjcnlbcaaGreatCall3
import Derived.Test.YtldhlpjjcnlbcaaGreatCall6r
/- The reference CallWake. -/
set_option maxRecDepth 100000
set_option maxHeartbeats 8000000
namespace Go.Proofs.YtldhlpjjcnlbcaaGreat
open Go.RowKit
theorem ref_CallWake (st id tr kk kn:Int)(ks:ByteArray)(hk hn:Int)(hs:ByteArray)(nx t b c now:Int)(w:World)(s1:ks.size<=maxLen)(s2:hs.size<=maxLen) :
  let r:=z44 ⟨st,id,tr,⟨kk,kn,ks⟩,⟨hk,hn,hs⟩,nx⟩ ⟨t,b,c⟩ now
  Calls Tryz.prog 57 #[.agg #[.int .i64 st,.int .i64 id,.int .i64 tr,.int .i64 kk,.int .i64 kn,.string ks,.int .i64 hk,.int .i64 hn,.string hs,.int .i64 nx],.agg #[.int .i64 t,.int .i64 b,.int .i64 c],.int .i64 now] w (zfr w r.1 r.2.1 r.2.2):=by
 intro r
 have hr:r=z44 ⟨st,id,tr,⟨kk,kn,ks⟩,⟨hk,hn,hs⟩,nx⟩ ⟨t,b,c⟩ now:=rfl
 clear_value r
 rcases zc7 st id tr kk kn ks hk hn hs nx ⟨t,b,c⟩ now with ⟨h0,e⟩ | ⟨h0,h1,e⟩ | ⟨h0,h1,h2,e⟩ | ⟨h0,h1,h2,h3,e⟩ | ⟨h0,h1,h2,h3,h4,e⟩ | ⟨h0,h1,h2,h3,h4,h5,h6,h7,h8,g1,g2,e⟩ | ⟨h0,h1,h2,h3,h4,h5,h6,h7,h8,g1,g2,e⟩
 ·rw[e] at hr;subst hr;clear e
  go_enter Tryz.func57,Tryz.ntmps57
  go_wp2_with fail
  refine (z15 _ _ _ _ _ _ _ _ _ _ _ _ _ _ s1 s2).mono ?_;rintro e w1 ⟨rfl,hb1⟩;refine zb hb1 ?_;rintro ⟨hc1,hf1⟩ hz1 hy1 hx1;refine szz w1 w ?_;intros
  go_wp2_with fail
  exact bpr Tryz.results57 (.tuple #[.agg #[.int .i64 0,.int .i64 0,.int .i64 0,.int .i64 0,.int .i64 0,.string ⟨#[]⟩,.int .i64 0,.int .i64 0,.string ⟨#[]⟩,.int .i64 0],.bool false,.int .i64 (z07 ⟨st,id,tr,⟨kk,kn,ks⟩,⟨hk,hn,hs⟩,nx⟩ ⟨t,b,c⟩)]) ⟨rfl,bel⟩
 ·rw[e] at hr;subst hr;clear e
  have hx:(z07 ⟨st,id,tr,⟨kk,kn,ks⟩,⟨hk,hn,hs⟩,nx⟩ ⟨t,b,c⟩ != 0)=false:=by simpa using h0
  clear h0
  go_enter Tryz.func57,Tryz.ntmps57
  go_wp2_with fail
  refine (z15 _ _ _ _ _ _ _ _ _ _ _ _ _ _ s1 s2).mono ?_;rintro e w1 ⟨rfl,hb1⟩;refine zb hb1 ?_;rintro ⟨hc1,hf1⟩ hz1 hy1 hx1;refine szz w1 w ?_;intros
  go_wp2_with fail
  exact bpr Tryz.results57 (.tuple #[.agg #[.int .i64 0,.int .i64 0,.int .i64 0,.int .i64 0,.int .i64 0,.string ⟨#[]⟩,.int .i64 0,.int .i64 0,.string ⟨#[]⟩,.int .i64 0],.bool false,.int .i64 4]) ⟨rfl,bel⟩
 ·rw[e] at hr;subst hr;clear e
  have hx:(z07 ⟨st,id,tr,⟨kk,kn,ks⟩,⟨hk,hn,hs⟩,nx⟩ ⟨t,b,c⟩ != 0)=false:=by simpa using h0
  clear h0
  go_enter Tryz.func57,Tryz.ntmps57
  go_wp2_with fail
  refine (z15 _ _ _ _ _ _ _ _ _ _ _ _ _ _ s1 s2).mono ?_;rintro e w1 ⟨rfl,hb1⟩;refine zb hb1 ?_;rintro ⟨hc1,hf1⟩ hz1 hy1 hx1;refine szz w1 w ?_;intros
  go_wp2_with fail
  exact bpr Tryz.results57 (.tuple #[.agg #[.int .i64 0,.int .i64 0,.int .i64 0,.int .i64 0,.int .i64 0,.string ⟨#[]⟩,.int .i64 0,.int .i64 0,.string ⟨#[]⟩,.int .i64 0],.bool false,.int .i64 4]) ⟨rfl,bel⟩
 ·rw[e] at hr;subst hr;clear e
  have hx:(z07 ⟨st,id,tr,⟨kk,kn,ks⟩,⟨hk,hn,hs⟩,nx⟩ ⟨t,b,c⟩ != 0)=false:=by simpa using h0
  clear h0
  have h3':(st != 1)=true:=by simpa using h3
  go_enter Tryz.func57,Tryz.ntmps57
  go_wp2_with fail
  refine (z15 _ _ _ _ _ _ _ _ _ _ _ _ _ _ s1 s2).mono ?_;rintro e w1 ⟨rfl,hb1⟩;refine zb hb1 ?_;rintro ⟨hc1,hf1⟩ hz1 hy1 hx1;refine szz w1 w ?_;intros
  go_wp2_with fail
  exact bpr Tryz.results57 (.tuple #[.agg #[.int .i64 st,.int .i64 id,.int .i64 tr,.int .i64 kk,.int .i64 kn,.string ks,.int .i64 hk,.int .i64 hn,.string hs,.int .i64 nx],.bool false,.int .i64 0]) ⟨rfl,bel⟩
 ·rw[e] at hr;subst hr;clear e
  subst h3
  have hx:(z07 ⟨1,id,tr,⟨kk,kn,ks⟩,⟨hk,hn,hs⟩,nx⟩ ⟨t,b,c⟩ != 0)=false:=by simpa using h0
  clear h0
  go_enter Tryz.func57,Tryz.ntmps57
  go_wp2_with fail
  refine (z15 _ _ _ _ _ _ _ _ _ _ _ _ _ _ s1 s2).mono ?_;rintro e w1 ⟨rfl,hb1⟩;refine zb hb1 ?_;rintro ⟨hc1,hf1⟩ hz1 hy1 hx1;refine szz w1 w ?_;intros
  go_wp2_with fail
  exact bpr Tryz.results57 (.tuple #[.agg #[.int .i64 1,.int .i64 id,.int .i64 tr,.int .i64 kk,.int .i64 kn,.string ks,.int .i64 hk,.int .i64 hn,.string hs,.int .i64 nx],.bool false,.int .i64 0]) ⟨rfl,bel⟩
 ·rw[e] at hr;subst hr;clear e
  (try simp only at h5)
  subst h3;subst h6;subst h7;subst h8;subst h5
  have hx:(z07 ⟨1,id,tr,⟨kk,kn,ks⟩,⟨0,0,⟨#[]⟩⟩,nx⟩ ⟨tr,b,c⟩ != 0)=false:=by simpa using h0
  have hg2:(gapOf ⟨tr,b,c⟩ (tr+1)).2=4:=by unfold gapOf;rw[if_pos g1,if_pos (by simp only;omega)]
  clear h0
  have hgc:=z2l g1
  (try simp only at hgc)
  obtain⟨q1,q2,q3,q4,q5,q6⟩:=hgc
  clear g1
  go_enter Tryz.func57,Tryz.ntmps57
  go_wp2_with fail
  refine (z15 _ _ _ _ _ _ _ _ _ _ _ _ _ _ s1 s2).mono ?_;rintro e w1 ⟨rfl,hb1⟩;refine zb hb1 ?_;rintro ⟨hc1,hf1⟩ hz1 hy1 hx1;refine szz w1 w ?_;intros
  go_wp2_with (go_at_call 88;refine (z79 _ _ _ _ _).mono ?_;rintro e w2 ⟨rfl,hb2⟩;refine zb hb2 ?_;rintro ⟨hc2,hf2⟩ hz2 hy2 hx2;refine szz w2 w ?_;intros;refine szz w2 w1 ?_;intros)
  exact bpr Tryz.results57 (.tuple #[.agg #[.int .i64 3,.int .i64 id,.int .i64 tr,.int .i64 kk,.int .i64 kn,.string ks,.int .i64 0,.int .i64 0,.string ⟨#[]⟩,.int .i64 0],.bool false,.int .i64 0]) ⟨rfl,bel⟩
 rw[e] at hr;subst hr;clear e
 subst h3;subst h6;subst h7;subst h8
 have hx:(z07 ⟨1,id,tr,⟨kk,kn,ks⟩,⟨0,0,⟨#[]⟩⟩,nx⟩ ⟨t,b,c⟩ != 0)=false:=by simpa using h0
 clear h0
 have hgb:=z9a ⟨t,b,c⟩ (tr+1) g1
 (try simp only at h5)
 obtain⟨p1,p2⟩:=hgb
 have hgc:=z2l g1
 (try simp only at hgc)
 obtain⟨q1,q2,q3,q4,q5,q6⟩:=hgc
 have hg2:(gapOf ⟨t,b,c⟩ (tr+1)).2=0:=by unfold gapOf;rw[if_pos g1,if_neg (by simp only;omega)]
 clear g1
 go_enter Tryz.func57,Tryz.ntmps57
 go_wp2_with fail
 refine (z15 _ _ _ _ _ _ _ _ _ _ _ _ _ _ s1 s2).mono ?_;rintro e w1 ⟨rfl,hb1⟩;refine zb hb1 ?_;rintro ⟨hc1,hf1⟩ hz1 hy1 hx1;refine szz w1 w ?_;intros
 go_wp2_with (go_at_call 88;refine (z79 _ _ _ _ _).mono ?_;rintro e w2 ⟨rfl,hb2⟩;refine zb hb2 ?_;rintro ⟨hc2,hf2⟩ hz2 hy2 hx2;refine szz w2 w ?_;intros;refine szz w2 w1 ?_;intros)
 exact bodyPost_ret (v:=.tuple #[.agg #[.int .i64 1,.int .i64 id,.int .i64 (tr+1),.int .i64 kk,.int .i64 kn,.string ks,.int .i64 0,.int .i64 0,.string ⟨#[]⟩,.int .i64 (now+(gapOf ⟨t,b,c⟩ (tr+1)).1)],.bool true,.int .i64 0]) (by first | (simp[results,Tryz.results57,go_sem];done) | (simp[results,Tryz.results57,go_sem, *];done)) rfl ⟨rfl,bel⟩
end Go.Proofs.YtldhlpjjcnlbcaaGreat
