/- Texts merged (mergeh.py): Call4. -/
import Derived.Test.YtldhlpjjcnlbcaaGreatCall3
import Derived.Deep.DeepCutAuto
/- call.Hear. -/
set_option maxRecDepth 100000
set_option maxHeartbeats 8000000
namespace Go.Proofs.YtldhlpjjcnlbcaaGreat
open Go.RowKit
theorem call_Hear_takes (id' tr kk' kn':Int)(ks':ByteArray)(hk' hn':Int)(hs':ByteArray)(nx t b c hk hn:Int)(hs:ByteArray)(w:World)
  (s1:ks'.size<=maxLen)(s2:hs'.size<=maxLen)(s4:hs.size<=maxLen)(hx:(z07 ⟨1,id',tr,⟨kk',kn',ks'⟩,⟨hk',hn',hs'⟩,nx⟩ ⟨t,b,c⟩ != 0)=false)(h4:z0b ⟨hk,hn,hs⟩=true) :
  Calls Tryz.prog 52 #[.agg #[.int .i64 1,.int .i64 id',.int .i64 tr,.int .i64 kk',.int .i64 kn',.string ks',.int .i64 hk',.int .i64 hn',.string hs',.int .i64 nx],.agg #[.int .i64 t,.int .i64 b,.int .i64 c],
   .int .i64 id',.agg #[.int .i64 kk',.int .i64 kn',.string ks'],.agg #[.int .i64 hk,.int .i64 hn,.string hs]] w (zfr w ⟨2,id',tr,⟨kk',kn',ks'⟩,⟨hk,hn,hs⟩,0⟩ true 0):=by
 have hneq:=fun w=>z24 w kk' kn' kk' kn' ks' ks'
 have hv:valEq ⟨kk',kn',ks'⟩ ⟨kk',kn',ks'⟩=true:=(z2o _ _).2 rfl
 go_enter Tryz.func52,Tryz.ntmps52
 go_wp2_with fail
 refine (z1s _ _ _ _ _ _ _ _ _ _ _ _ _ _ s1 s2).mono ?_;rintro e w1 ⟨rfl,hb1⟩;refine zb hb1 ?_;rintro ⟨hc1,hf1⟩ hz1 hy1 hx1;refine szz w1 w ?_;intros
 go_wp2_with (go_at_call 83;refine (z0q _ _ _ _ s4).mono ?_;rintro e w2 ⟨rfl,hb2⟩;refine zb hb2 ?_;rintro ⟨hc2,hf2⟩ hz2 hy2 hx2;refine szz w2 w ?_;intros;refine szz w2 w1 ?_;intros)
 have a0:w2.cell? ⟨w.heap.size,0,none⟩=some (.int .i64 1):=by go_simp
 have a6:w2.cell? ⟨w.heap.size,6,none⟩=some (.int .i64 hk'):=by go_simp
 have a7:w2.cell? ⟨w.heap.size,7,none⟩=some (.int .i64 hn'):=by go_simp
 have a8:w2.cell? ⟨w.heap.size,8,none⟩=some (.string hs'):=by go_simp
 have a9:w2.cell? ⟨w.heap.size,9,none⟩=some (.int .i64 nx):=by go_simp
 go_upto_region 6 with fail
 go_cut [] (fun wx=>(wx.cell? ⟨w.heap.size,0,none⟩=some (.int .i64 2)/\wx.cell? ⟨w.heap.size,1,none⟩=some (.int .i64 id')/\wx.cell? ⟨w.heap.size,2,none⟩=some (.int .i64 tr)/\wx.cell? ⟨w.heap.size,3,none⟩=some (.int .i64 kk')/\wx.cell? ⟨w.heap.size,4,none⟩=some (.int .i64 kn') /\
  wx.cell? ⟨w.heap.size,5,none⟩=some (.string ks')/\wx.cell? ⟨w.heap.size,6,none⟩=some (.int .i64 hk)/\wx.cell? ⟨w.heap.size,7,none⟩=some (.int .i64 hn)/\wx.cell? ⟨w.heap.size,8,none⟩=some (.string hs)/\wx.cell? ⟨w.heap.size,9,none⟩=some (.int .i64 0)) /\
  (∀ o,wx.cell? ⟨w.heap.size+1+1+1+1,o,none⟩=w2.cell? ⟨w.heap.size+1+1+1+1,o,none⟩)/\(∀ o,wx.frozen? ⟨w.heap.size+1+1+1+1,o,none⟩=w2.frozen? ⟨w.heap.size+1+1+1+1,o,none⟩)/\Below w.heap.size w wx)
 case first =>
  go_region
  all_goals
   go_wp2_with fail
   go_meet
   refine⟨⟨(by first | (go_simp;done) | (go_simp;exact World.cell?_setCell_same' _ _ _ (by go_simp))),(by first | (go_simp;done) | (go_simp;exact World.cell?_setCell_same' _ _ _ (by go_simp))),(by first | (go_simp;done) | (go_simp;exact World.cell?_setCell_same' _ _ _ (by go_simp))),(by first | (go_simp;done) | (go_simp;exact World.cell?_setCell_same' _ _ _ (by go_simp))),(by first | (go_simp;done) | (go_simp;exact World.cell?_setCell_same' _ _ _ (by go_simp))),(by first | (go_simp;done) | (go_simp;exact World.cell?_setCell_same' _ _ _ (by go_simp))),(by first | (go_simp;done) | (go_simp;exact World.cell?_setCell_same' _ _ _ (by go_simp))),(by first | (go_simp;done) | (go_simp;exact World.cell?_setCell_same' _ _ _ (by go_simp))),(by first | (go_simp;done) | (go_simp;exact World.cell?_setCell_same' _ _ _ (by go_simp))),(by first | (go_simp;done) | (go_simp;exact World.cell?_setCell_same' _ _ _ (by go_simp)))⟩,fun o=>(by first | (go_simp;done) | (go_simp;exact World.cell?_setCell_same' _ _ _ (by go_simp))),fun o=>(by first | (go_simp;done) | (go_simp;exact World.cell?_setCell_same' _ _ _ (by go_simp))),bel⟩
 case rest =>
  obtain⟨⟨x0,x1,x2,x3,x4,x5,x6,x7,x8,x9⟩,y1,y2,hb3⟩:=hcut
  go_wp2_with fail
  exact bpr Tryz.results52 (.tuple #[.agg #[.int .i64 2,.int .i64 id',.int .i64 tr,.int .i64 kk',.int .i64 kn',.string ks',.int .i64 hk,.int .i64 hn,.string hs,.int .i64 0],.bool true,.int .i64 0]) ⟨rfl,bel⟩
theorem call_Hear (st id' tr kk' kn':Int)(ks':ByteArray)(hk' hn':Int)(hs':ByteArray)(nx t b c id kk kn:Int)(ks:ByteArray)(hk hn:Int)(hs:ByteArray)(w:World)
  (s1:ks'.size<=maxLen)(s2:hs'.size<=maxLen)(s4:hs.size<=maxLen) :
  let r:=z43 ⟨st,id',tr,⟨kk',kn',ks'⟩,⟨hk',hn',hs'⟩,nx⟩ ⟨t,b,c⟩ id ⟨kk,kn,ks⟩ ⟨hk,hn,hs⟩
  Calls Tryz.prog 52 #[.agg #[.int .i64 st,.int .i64 id',.int .i64 tr,.int .i64 kk',.int .i64 kn',.string ks',.int .i64 hk',.int .i64 hn',.string hs',.int .i64 nx],.agg #[.int .i64 t,.int .i64 b,.int .i64 c],
   .int .i64 id,.agg #[.int .i64 kk,.int .i64 kn,.string ks],.agg #[.int .i64 hk,.int .i64 hn,.string hs]] w (zfr w r.1 r.2.1 r.2.2):=by
 intro r
 have hr:r=z43 ⟨st,id',tr,⟨kk',kn',ks'⟩,⟨hk',hn',hs'⟩,nx⟩ ⟨t,b,c⟩ id ⟨kk,kn,ks⟩ ⟨hk,hn,hs⟩:=rfl
 clear_value r
 have hneq:=fun w=>z24 w kk' kn' kk kn ks' ks
 rcases zc6 st id' tr kk' kn' ks' hk' hn' hs' nx ⟨t,b,c⟩ id kk kn ks hk hn hs with ⟨h0,e⟩ | ⟨h0,h1,e⟩ | ⟨h0,h1,h2,e⟩ | ⟨h0,h1,h2,h3,e⟩ | ⟨h0,h1,h2,h3,h4,e⟩ | ⟨h0,h1,h2,h3,h5,h6,h4,e⟩
 ·rw[e] at hr;subst hr;clear e
  go_enter Tryz.func52,Tryz.ntmps52
  go_wp2_with fail
  refine (z1s _ _ _ _ _ _ _ _ _ _ _ _ _ _ s1 s2).mono ?_;rintro e w1 ⟨rfl,hb1⟩;refine zb hb1 ?_;rintro ⟨hc1,hf1⟩ hz1 hy1 hx1;refine szz w1 w ?_;intros
  go_wp2_with fail
  exact bpr Tryz.results52 (.tuple #[.agg #[.int .i64 0,.int .i64 0,.int .i64 0,.int .i64 0,.int .i64 0,.string ⟨#[]⟩,.int .i64 0,.int .i64 0,.string ⟨#[]⟩,.int .i64 0],.bool false,.int .i64 (z07 ⟨st,id',tr,⟨kk',kn',ks'⟩,⟨hk',hn',hs'⟩,nx⟩ ⟨t,b,c⟩)]) ⟨rfl,bel⟩
 ·rw[e] at hr;subst hr;clear e
  have h1':(st != 1)=true:=by simpa using h1
  have hx:(z07 ⟨st,id',tr,⟨kk',kn',ks'⟩,⟨hk',hn',hs'⟩,nx⟩ ⟨t,b,c⟩ != 0)=false:=by simpa using h0
  clear h0
  go_enter Tryz.func52,Tryz.ntmps52
  go_wp2_with fail
  refine (z1s _ _ _ _ _ _ _ _ _ _ _ _ _ _ s1 s2).mono ?_;rintro e w1 ⟨rfl,hb1⟩;refine zb hb1 ?_;rintro ⟨hc1,hf1⟩ hz1 hy1 hx1;refine szz w1 w ?_;intros
  go_wp2_with fail
  exact bpr Tryz.results52 (.tuple #[.agg #[.int .i64 st,.int .i64 id',.int .i64 tr,.int .i64 kk',.int .i64 kn',.string ks',.int .i64 hk',.int .i64 hn',.string hs',.int .i64 nx],.bool false,.int .i64 0]) ⟨rfl,bel⟩
 ·rw[e] at hr;subst hr;clear e
  subst h1
  have h2':(id' != id)=true:=by simpa using h2
  have hx:(z07 ⟨1,id',tr,⟨kk',kn',ks'⟩,⟨hk',hn',hs'⟩,nx⟩ ⟨t,b,c⟩ != 0)=false:=by simpa using h0
  clear h0
  go_enter Tryz.func52,Tryz.ntmps52
  go_wp2_with fail
  refine (z1s _ _ _ _ _ _ _ _ _ _ _ _ _ _ s1 s2).mono ?_;rintro e w1 ⟨rfl,hb1⟩;refine zb hb1 ?_;rintro ⟨hc1,hf1⟩ hz1 hy1 hx1;refine szz w1 w ?_;intros
  go_wp2_with fail
  exact bpr Tryz.results52 (.tuple #[.agg #[.int .i64 1,.int .i64 id',.int .i64 tr,.int .i64 kk',.int .i64 kn',.string ks',.int .i64 hk',.int .i64 hn',.string hs',.int .i64 nx],.bool false,.int .i64 0]) ⟨rfl,bel⟩
 ·rw[e] at hr;subst hr;clear e
  subst h1;subst h2
  have hx:(z07 ⟨1,id',tr,⟨kk',kn',ks'⟩,⟨hk',hn',hs'⟩,nx⟩ ⟨t,b,c⟩ != 0)=false:=by simpa using h0
  clear h0
  go_enter Tryz.func52,Tryz.ntmps52
  go_wp2_with fail
  refine (z1s _ _ _ _ _ _ _ _ _ _ _ _ _ _ s1 s2).mono ?_;rintro e w1 ⟨rfl,hb1⟩;refine zb hb1 ?_;rintro ⟨hc1,hf1⟩ hz1 hy1 hx1;refine szz w1 w ?_;intros
  go_wp2_with fail
  exact bpr Tryz.results52 (.tuple #[.agg #[.int .i64 1,.int .i64 id',.int .i64 tr,.int .i64 kk',.int .i64 kn',.string ks',.int .i64 hk',.int .i64 hn',.string hs',.int .i64 nx],.bool false,.int .i64 0]) ⟨rfl,bel⟩
 ·rw[e] at hr;subst hr;clear e
  subst h1;subst h2
  have hx:(z07 ⟨1,id',tr,⟨kk',kn',ks'⟩,⟨hk',hn',hs'⟩,nx⟩ ⟨t,b,c⟩ != 0)=false:=by simpa using h0
  clear h0
  go_enter Tryz.func52,Tryz.ntmps52
  go_wp2_with fail
  refine (z1s _ _ _ _ _ _ _ _ _ _ _ _ _ _ s1 s2).mono ?_;rintro e w1 ⟨rfl,hb1⟩;refine zb hb1 ?_;rintro ⟨hc1,hf1⟩ hz1 hy1 hx1;refine szz w1 w ?_;intros
  go_wp2_with (go_at_call 83;refine (z0q _ _ _ _ s4).mono ?_;rintro e w2 ⟨rfl,hb2⟩;refine zb hb2 ?_;rintro ⟨hc2,hf2⟩ hz2 hy2 hx2;refine szz w2 w ?_;intros;refine szz w2 w1 ?_;intros)
  exact bpr Tryz.results52 (.tuple #[.agg #[.int .i64 1,.int .i64 id',.int .i64 tr,.int .i64 kk',.int .i64 kn',.string ks',.int .i64 hk',.int .i64 hn',.string hs',.int .i64 nx],.bool false,.int .i64 0]) ⟨rfl,bel⟩
 rw[e] at hr;subst hr;clear e
 subst h1;subst h2;subst h3;subst h5;subst h6
 exact call_Hear_takes _ _ _ _ _ _ _ _ _ _ _ _ _ _ _ _ s1 s2 s4 (by simpa using h0) h4
end Go.Proofs.YtldhlpjjcnlbcaaGreat
