/- Texts merged (mergeh.py): EngQ AnyT Cli RowL. -/
import Derived.Test.YtldhlpjjcnlbcaaGreatWhlG
import Derived.Test.YtldhlpjjcnlbcaaGreatTypes
import Derived.Deep.QuietTactic
import Derived.BigQuiet
/- How an engine is settled: what the walk of settle leans on. Plain laws. -/
set_option maxRecDepth 100000
set_option maxHeartbeats 8000000
namespace Go.Proofs.YtldhlpjjcnlbcaaGreat
open Go.RowKit
theorem known_set {F:List Fld}{vs:List Val}{ord:List Nat}{i j:Nat}{v:Val}(h:i ∉ ord.take j):z1y F (vs.set i v) ord j=z1y F vs ord j:=by
 unfold z1y
 refine List.map_congr_left fun k hk=>?_
 have hne:i≠k:=fun e=>h (e▸hk)
 rw[List.getElem?_set,if_neg hne]
section
variable {F:List Fld} {ins:List Fct} {p:Pol} {now:Int} {cs:List Cll} {vs:List Val} {last:Int}
theorem set_known (h:SetOk F p ins now cs last)(hvl:vs.length=F.length){j:Nat}(hj:j<=F.length):z1q (z1y F (setP F p ins now cs vs last j).vals (ordF F) j)=0:=by
 obtain⟨h1,h2,h3,h4⟩:=z5m (vs:=vs) h hvl hj
 refine z7q fun x hx=>?_
 obtain⟨k,hk,rfl⟩:=List.mem_map.1 hx
 have hkl:k<(setR F p ins now cs last j).vals.length:=by rw[h3.vl];exact z9x (List.mem_of_mem_take hk)
 show valCheck ((setP F p ins now cs vs last j).vals[k]?.getD noVal)=0
 rw[h1.2.2.2 k hk,gq hkl,Option.getD_some]
 exact h4 _ (List.getElem_mem hkl)
theorem set_known_wf (h:SetOk F p ins now cs last)(hvl:vs.length=F.length)(hF:∀ f∈F,inS f.name){j:Nat}(hj:j<=F.length):∀ a∈z1y F (setP F p ins now cs vs last j).vals (ordF F) j,a.wf:=by
 obtain⟨h1,h2,h3,h4⟩:=z5m (vs:=vs) h hvl hj
 intro a ha
 obtain⟨k,hk,rfl⟩:=List.mem_map.1 ha
 have hkF:k<F.length:=z9x (List.mem_of_mem_take hk)
 have hkl:k<(setR F p ins now cs last j).vals.length:=by rw[h3.vl];exact hkF
 refine⟨?_,z9v,?_⟩
 ·show inS (z1e F k)
  unfold z1e
  rw[gq hkF]
  exact hF _ (List.getElem_mem hkF)
 show ((setP F p ins now cs vs last j).vals[k]?.getD noVal).wf
 rw[h1.2.2.2 k hk,gq hkl,Option.getD_some]
 exact z48 (h4 _ (List.getElem_mem hkl))
theorem set_key (h:SetOk F p ins now cs last)(hvl:vs.length=F.length){j i:Nat}(hj:j<=F.length){f:Fld}(hf:(F)[i]?=some f)(hk:f.kind=3):valCheck (keyE (z1y F (setP F p ins now cs vs last j).vals (ordF F) j) f)=0:=by
 have hkn:=set_known (vs:=vs) h hvl hj
 have hfo:=h.1.2.1 f (List.mem_of_getElem? hf)
 unfold keyE
 rw[z6k (hfo.2.2 (by omega)) hkn]
 exact z5a (z4x hkn) _ _ (nr _) (z1f (hfo.2.2 (by omega)))
theorem set_step {j i:Nat}{f:Fld}(hi:(ordF F)[j]?=some i)(hf:(F)[i]?=some f):setP F p ins now cs vs last (j+1)=eStep p ins now (z1y F (setP F p ins now cs vs last j).vals (ordF F) j) (setP F p ins now cs vs last j) i f:=zh8 hi hf
theorem set_zero:setP F p ins now cs vs last 0=⟨cs,vs,last,[]⟩:=rfl
theorem set_more (h:SetOk F p ins now cs last)(hvl:vs.length=F.length){j i:Nat}(hj:j<F.length){f:Fld}(hi:(ordF F)[j]?=some i)(hf:(F)[i]?=some f){v:Val}(hv:(setP F p ins now cs vs last (j+1)).vals=(setP F p ins now cs vs last j).vals.set i v) :
  z1y F (setP F p ins now cs vs last (j+1)).vals (ordF F) (j+1)=z1y F (setP F p ins now cs vs last j).vals (ordF F) j++[⟨f.name,noVal,v⟩]:=by
 have h2:=(z5m (vs:=vs) h hvl (Nat.le_of_lt hj)).2.1.vl
 have hiF:i<F.length:=z9x (List.mem_of_getElem? hi)
 rw[hv,zgb hi hf (v:=v) (by rw[List.getElem?_set,if_pos rfl,if_pos (by rw[h2];exact hiF)]),known_set (ord_newE hi)]
theorem zhk (h:SetOk F p ins now cs last)(hvl:vs.length=F.length)(hF:∀ f∈F,inS f.name):∀ j,j<=F.length->∀ l∈(setP F p ins now cs vs last j).ltrs,l.wf
 | 0=>fun _ l hl=>by rw[set_zero] at hl;exact absurd hl List.not_mem_nil
 | j+1=>fun hj l hl=>by
  have ih:=zhk h hvl hF j (by omega)
  have hol:(ordF F).length=F.length:=by unfold ordF;rw[z2v]
  obtain⟨i,hi⟩:∃ i,(ordF F)[j]?=some i:=⟨_,gq (by omega)⟩
  have hiF:=z9x (List.mem_of_getElem? hi)
  obtain⟨f,hf⟩:∃ f,(F)[i]?=some f:=⟨_,gq hiF⟩
  have hE:=(z5m (vs:=vs) h hvl (Nat.le_of_lt hj)).2.1
  have hk:=fun hk=>set_key (vs:=vs) h hvl (Nat.le_of_lt hj) hf hk
  rw[set_step hi hf] at hl
  generalize setP F p ins now cs vs last j=s at *
  unfold eStep at hl
  by_cases h3:f.kind=3
  ·rw[if_pos h3] at hl
   obtain⟨c,hc,hcc⟩:=hE.call hiF
   have h1:=hE.lo
   have h2:=hE.hi
   have hl1:=h.2.2.1
   have ht:=zfn (id:=s.last+1) hcc (by omega) h.2.1 (hk h3)
   unfold lookE turnE at hl
   rw[hc,Option.getD_some] at hl
   simp only at hl
   split at hl
   ·rcases List.mem_append.1 hl with hl | hl
    ·exact ih l hl
    rw[List.mem_singleton.1 hl]
    have hw:=zar ht.1
    exact⟨hF f (List.mem_of_getElem? hf),hw.2.1,hw.2.2.2.1,ze1⟩
   exact ih l hl
  rw[if_neg h3] at hl
  exact ih l hl
theorem set_ok_vals (h:SetOk F p ins now cs last)(hvl:vs.length=F.length):∀ v∈(setP F p ins now cs vs last F.length).vals,valCheck v=0:=by
 rw[set_same h hvl]
 exact (z5m (vs:=vs) h hvl (nr _)).2.2.2
end
open Go.RowKit Go.Maps
section
variable {P:Program} {ops:Array Oper} {Q:Exit -> Act -> World -> Prop} {S:World -> Prop} {n:Nat}
theorem z2s {i j:Nat}{o p:Oper}{fuel:Nat}{listed:Array Bool}{a:Act}{w:World}(ho':ops.toList[i]?=some o)(hp':ops.toList[j]?=some p)(hr:Region.ready .any ops listed=[i,j])
  (h:∀ K:Act->World->Prop,Hid (∀ a w,(i<n->S w)->z5h P ops Q S n fuel (listed.setIfInBounds i true) a w->K a w)->if Region.wanted o (yielded ops a.tmps)=true then Oper.wp P o a w K Q else K (a.put o.dst undef) w)
  (h2:∀ K:Act->World->Prop,Hid (∀ a w,(j<n->S w)->z5h P ops Q S n fuel (listed.setIfInBounds j true) a w->K a w)->if Region.wanted p (yielded ops a.tmps)=true then Oper.wp P p a w K Q else K (a.put p.dst undef) w) :
  z5h P ops Q S n (fuel+1) listed a w:=by
 have ho:ops[i]?=some o:=by simpa using ho'
 have hp:ops[j]?=some p:=by simpa using hp'
 refine⟨fun h0=>(by rw[h0] at hr;cases hr),fun k hk=>?_⟩
 rw[hr] at hk
 rcases List.mem_cons.1 hk with rfl | hk
 ·exact wpOp_step ho (fun K' hK=>h K' (zh fun a w h1 h2=>hK a w ⟨h1,h2⟩))
 obtain rfl:=List.mem_singleton.1 hk
 exact wpOp_step hp (fun K' hK=>h2 K' (zh fun a w h1 h2=>hK a w ⟨h1,h2⟩))
theorem zgw {i j k:Nat}{o p r:Oper}{fuel:Nat}{listed:Array Bool}{a:Act}{w:World}(ho':ops.toList[i]?=some o)(hp':ops.toList[j]?=some p)(hr':ops.toList[k]?=some r)(hr:Region.ready .any ops listed=[i,j,k])
  (h:∀ K:Act->World->Prop,Hid (∀ a w,(i<n->S w)->z5h P ops Q S n fuel (listed.setIfInBounds i true) a w->K a w)->if Region.wanted o (yielded ops a.tmps)=true then Oper.wp P o a w K Q else K (a.put o.dst undef) w)
  (h2:∀ K:Act->World->Prop,Hid (∀ a w,(j<n->S w)->z5h P ops Q S n fuel (listed.setIfInBounds j true) a w->K a w)->if Region.wanted p (yielded ops a.tmps)=true then Oper.wp P p a w K Q else K (a.put p.dst undef) w)
  (h3:∀ K:Act->World->Prop,Hid (∀ a w,(k<n->S w)->z5h P ops Q S n fuel (listed.setIfInBounds k true) a w->K a w)->if Region.wanted r (yielded ops a.tmps)=true then Oper.wp P r a w K Q else K (a.put r.dst undef) w) :
  z5h P ops Q S n (fuel+1) listed a w:=by
 have ho:ops[i]?=some o:=by simpa using ho'
 have hp:ops[j]?=some p:=by simpa using hp'
 have hq:ops[k]?=some r:=by simpa using hr'
 refine⟨fun h0=>(by rw[h0] at hr;cases hr),fun m hm=>?_⟩
 rw[hr] at hm
 rcases List.mem_cons.1 hm with rfl | hm
 ·exact wpOp_step ho (fun K' hK=>h K' (zh fun a w h1 h2=>hK a w ⟨h1,h2⟩))
 rcases List.mem_cons.1 hm with rfl | hm
 ·exact wpOp_step hp (fun K' hK=>h2 K' (zh fun a w h1 h2=>hK a w ⟨h1,h2⟩))
 obtain rfl:=List.mem_singleton.1 hm
 exact wpOp_step hq (fun K' hK=>h3 K' (zh fun a w h1 h2=>hK a w ⟨h1,h2⟩))
theorem z0z {w:World}{o:Oper}{a:Act}{K:Act->World->Prop}{E:Prop}(hgd:o.guard=none)(s x:Operand)(t:TypeId)
  (ho:o.op=.call { callee:=.builtin .append,args:=#[s,x],argTypes:=#[t,t] })
  (base:Nat)(e:TypeId)(i:TypeInfo)(z:Value)(size bytes:Nat)(ht:P.underlying t=some (.slice e))(hi:P.info? e=some i)(hz:i.zero=some z)
  (hsize:i.size=size)(hby:i.bytes=bytes)(hzs:z.cells.size=size)(hsz:0<size)
  (v:Value)(n:Nat)(xs:List Value)(hs:a.eval s=v)(hown:w.ownsRow base e size v n xs)
  (A:Option Addr)(m c:Nat)(news:List Value)(hx:a.eval x=.slice A m c)(hl:news.length=m*size)(hnews:∀ p,A=some p->∀ j u,news[j]?=some u->w.cell? (p.add j)=some u)(hnone:A=none->m=0)(h1:∀ u∈news,u.oneCell'=true)
  (h63:n+m<=maxLen)(hbytes:(n+m)*bytes<=140737488355328)(hbase:base<=w.heap.size)
  (h:∀ v' w',w'.ownsRow base e size v' (n+m) (xs++news)->w.grownBy w' v.ownBlock->(v'.ownBlock=v.ownBlock\/v'.ownBlock=some w.heap.size)->K (a.put o.dst v') w') :
  if Region.wanted o (yielded ops a.tmps)=true then Oper.wp P o a w K Q else E:=by
 have hw:Region.wanted o (yielded ops a.tmps)=true:=by simp[Region.wanted,hgd]
 rw[if_pos hw]
 obtain⟨v',w',hr,h2,h3,h4⟩:=z6c (P:=P) w base t o.type e i z size bytes ht hi hz hsize hby hzs hsz v n xs hown A m c news hl hnews hnone h1 h63 hbytes hbase
 unfold Oper.wp execOp
 simp only[ho,resolve,invoke,builtin,Sem.run_bind,Sem.run_pure,Result.andThen_ok,List.map_toArray,List.map_cons,List.map_nil,hs,hx,hr]
 exact h v' w' h2 h3 h4
end
section
variable {P:Program} {ops:Array Oper} {Q:Exit -> Act -> World -> Prop}
end
theorem z49 {P:Program}{ops:Array Oper}{rest:List Oper}{o:Oper}{a:Act}{Q:Exit->Act->World->Prop}{w W:World}(hgd:o.guard=none)(s x:Operand)(t:TypeId)
  (ho:o.op=.call { callee:=.builtin .append,args:=#[s,x],argTypes:=#[t,t] })
  (base:Nat)(e:TypeId)(i:TypeInfo)(z:Value)(size bytes:Nat)(ht:P.underlying t=some (.slice e))(hi:P.info? e=some i)(hz:i.zero=some z)
  (hsize:i.size=size)(hby:i.bytes=bytes)(hzs:z.cells.size=size)(hsz:0<size)
  (v:Value)(n:Nat)(xs:List Value)(hs:a.eval s=v)(hown:w.ownsRow base e size v n xs)
  (cs:List Value)(t':TypeId)(hW:W=w.alloc (.cells cs.toArray t'))(g:Nat)(hx:a.eval x=.slice (some ⟨g,0,none⟩) 1 1)(hg0:g=w.heap.size)(hl:cs.length=size)(h1:∀ u∈cs,u.oneCell'=true)
  (hbytes:(n+1)*bytes<=140737488355328)(h63:n+1<=maxLen)(hbase:base<=w.heap.size)
  (h:∀ v' w',w'.ownsRow base e size v' (n+1) (xs++cs)->Below base w w'->w.heap.size<=w'.heap.size->(∀ k,k<w.heap.size->some k≠v.ownBlock->w'.heap[k]?=w.heap[k]?)->(v'.ownBlock=v.ownBlock\/∃ k,v'.ownBlock=some k/\w.heap.size<=k)->wpList P ops Q rest (a.put o.dst v') w') :
  wpList P ops Q (o::rest) a W:=by
 subst hW
 subst hg0
 refine wpList_plain hgd fun K hK=>?_
 obtain⟨v',w',hr,h2,h3,h5⟩:=z6c (P:=P) (w.alloc (.cells cs.toArray t')) base t o.type e i z size bytes ht hi hz hsize hby hzs hsz v n xs (hown.alloc _) (some ⟨w.heap.size,0,none⟩) 1 1 cs (by rw[hl,Nat.one_mul]) (fun p hp=>by cases hp;exact z63 w cs t') (fun e=>by cases e) h1 h63 hbytes (by simp;omega)
 unfold Oper.wp execOp
 simp only[ho,resolve,invoke,builtin,Sem.run_bind,Sem.run_pure,Result.andThen_ok,List.map_toArray,List.map_cons,List.map_nil,hs,hx,hr]
 have hsz':=h3.size
 simp only[World.size_alloc] at hsz'
 refine hK _ _ (h v' w' h2 ?_ (by omega) (fun k hk hne=>?_) ?_)
 ·exact ((Below.refl base w).alloc hbase _).grown h3 (by simp;omega) fun k hk=>(hown.lt k hk).1
 ·rw[h3.block k (by simp;omega) hne]
  exact Below.heap_alloc w _ k hk
 rcases h5 with h5 | h5
 ·exact .inl h5
 exact .inr ⟨_,h5,by simp⟩
theorem z09 {w w':World}{base:Nat}{e:TypeId}{size:Nat}{v:Value}{n:Nat}{xs:List Value}(h:w.ownsRow base e size v n xs)(hk:∀ q,v.ownBlock=some q->q<w.heap.size->w'.heap[q]?=w.heap[q]?):w'.ownsRow base e size v n xs:=by
 refine⟨h.1,?_⟩
 rcases h.2 with hn | ⟨g,cap,cur,rfl,hbg,hgg,rest⟩
 ·exact .inl hn
 refine .inr ⟨g,cap,cur,rfl,hbg,?_,rest⟩
 rw[hk g rfl (Array.getElem?_eq_some_iff.1 hgg).1]
 exact hgg
theorem stop9 {G:Prop}(h:Hid G):G:=h.out
open Go.RowKit
def z56 (o:Option Int)(c:Cll):Option Int :=
 match o with
 | none=>if c.state=1 then some c.next else none
 | some n=>if c.state=1/\c.next<n then some c.next else some n
def z3g (l:List Cll):Option Int:=l.foldl z56 none
def nextRes:Option Int->Int×Int
 | none=>(0,5)
 | some n=>(n,0)
def zhe (o:Option Int)(m:Int)(s:Bool):Prop:=(o=none/\s=false/\m=0)\/(o=some m/\s=true)
def refVars (o:Option Int)(v:Value)(w:World):Prop :=
 (o=none/\v=.slice none 0 0)\/∃ g m,o=some m/\v=.slice (some ⟨g,0,none⟩) 1 1/\w.cell? ⟨g,0,none⟩=some (.int .i64 m)
def letterOf (name:ByteArray)(c:Cll):Ltr×Int :=
 if c.state=1 then (⟨name,c.id,c.key,⟨0,0,⟨#[]⟩⟩⟩,0) else (⟨⟨#[]⟩,0,⟨0,0,⟨#[]⟩⟩,⟨0,0,⟨#[]⟩⟩⟩,2)
theorem z95 (name:ByteArray)(st id tr kk kn:Int)(ks:ByteArray)(hk hn:Int)(hs:ByteArray)(nx:Int)(w:World)(h:st=1) :
  Calls Tryz.prog 87 #[.string name,.agg #[.int .i64 st,.int .i64 id,.int .i64 tr,.int .i64 kk,.int .i64 kn,.string ks,.int .i64 hk,.int .i64 hn,.string hs,.int .i64 nx]] w
   fun e w'=>e=.returned (.tuple #[.agg #[.string name,.int .i64 id,.int .i64 kk,.int .i64 kn,.string ks,.int .i64 0,.int .i64 0,.string ⟨#[]⟩],.int .i64 0])/\Below w.heap.size w w':=by
 subst h
 go_enter Tryz.func87,Tryz.ntmps87
 go_wp2
 exact bodyPost_ret (v:=.tuple #[.agg #[.string name,.int .i64 id,.int .i64 kk,.int .i64 kn,.string ks,.int .i64 0,.int .i64 0,.string ⟨#[]⟩],.int .i64 0]) (by simp[results,Tryz.results87,go_sem]) rfl ⟨rfl,bel⟩
open Go.RowKit
theorem Tryz.infoLtr:(Tryz.prog.info? 48).map (fun i=>(i.zero,i.size,i.bytes))=some (some (.agg #[.string ⟨#[]⟩,.int .i64 0,.int .i64 0,.int .i64 0,.string ⟨#[]⟩,.int .i64 0,.int .i64 0,.string ⟨#[]⟩]),8,88):=by kernel_rfl
theorem oneLtr (l:List Ltr):∀ u∈l.flatMap Ltr.cs,u.oneCell'=true:=by
 intro u hu
 obtain⟨x,_,hx⟩:=List.mem_flatMap.1 hu
 simp only[Ltr.cs,List.mem_cons,List.not_mem_nil,or_false] at hx
 rcases hx with rfl | rfl | rfl | rfl | rfl | rfl | rfl | rfl<;>rfl
theorem lenLtr (x:Ltr):x.cs.length=8:=rfl
theorem Sl.cellsLtr {w:World}{S:Nat -> Prop}{A:Option Addr}{n:Nat}{l:List Ltr}(h:Sl w S 8 RLtr A n l):∀ p,A=some p->∀ j u,(l.flatMap Ltr.cs)[j]?=some u->w.cell? (p.add j)=some u :=
 Sl.cells (by decide) lenLtr (fun _ _ h=>h.1) h
theorem ownLtr {w:World}{base:Nat}{e:TypeId}{v:Value}{n:Nat}{l:List Ltr}(h:w.ownsRow base e 8 v n (l.flatMap Ltr.cs))(hl:l.length=n)(hw:∀ a∈l,a.wf) :
  ∃ A c,v=.slice A n c/\n<=c/\Sl w (old w) 8 RLtr A n l:=own_slw Ltr.cs Ltr.wf lenLtr h hl hw
def ltrEq (x y:Ltr):Bool:=(x.field.toList==y.field.toList&&(x.id==y.id&&(x.key.k==y.key.k&&(x.key.n==y.key.n&&(x.key.s.toList==y.key.s.toList&&(x.answer.k==y.answer.k&&(x.answer.n==y.answer.n&&(x.answer.s.toList==y.answer.s.toList))))))))
theorem ltrEq_iff (x y:Ltr):ltrEq x y=true↔x=y:=by
 simp only[ltrEq,Bool.and_eq_true,beq_iff_eq]
 constructor
 ·intro h
  obtain⟨a1,a2,⟨a3,a4,a5⟩,⟨a6,a7,a8⟩⟩:=x
  obtain⟨b1,b2,⟨b3,b4,b5⟩,⟨b6,b7,b8⟩⟩:=y
  simp only at h
  simp only[Ltr.mk.injEq,Val.mk.injEq]
  grind [z2f]
 rintro rfl
 simp
theorem run_neq_Ltr (w:World)(x y:Ltr):(binOp .neq 48 (.agg #[.string x.field,.int .i64 x.id,.int .i64 x.key.k,.int .i64 x.key.n,.string x.key.s,.int .i64 x.answer.k,.int .i64 x.answer.n,.string x.answer.s]) (.agg #[.string y.field,.int .i64 y.id,.int .i64 y.key.k,.int .i64 y.key.n,.string y.key.s,.int .i64 y.answer.k,.int .i64 y.answer.n,.string y.answer.s])).run Tryz.prog w=.ok (.bool (!ltrEq x y)) w:=by
 go_simp
 unfold ltrEq
 (repeat' split)<;>simp_all
theorem equal_Ltr (A:Option Addr)(n c:Nat)(l:List Ltr)(A1:Option Addr)(n1 c1:Nat)(l1:List Ltr)(w:World)(hn:inL n)(hn1:inL n1)(h:Sl w (old w) 8 RLtr A n l)(h1:Sl w (old w) 8 RLtr A1 n1 l1) :
  Calls Tryz.prog 33 #[.slice A n c,.slice A1 n1 c1] w (RetB w (decide (l=l1))):=by
 unfold inL at hn hn1
 by_cases hne:n=n1
 ·subst hne
  have HH:=zh (ai h h1)
  clear h h1
  go_enter Tryz.func33,Tryz.ntmps33
  go_wp2_with fail
  go_loopw [13] (fun i wr=>∃ k:Nat,k<=n/\i=.int .i64 k/\l.take k=l1.take k/\Below w.heap.size w wr) (fun i _=>n-(intOf i).toNat)
  case atStart=>exact⟨0,by omega,rfl,by simp,Below.refl _ _⟩
  case round =>
   obtain⟨k,hk,rfl,hv,hb⟩:=hrel
   by_cases hlt:k<n
   ·obtain⟨b,o,x,rfl,_,hl,_,h0,h1,h2,h3,h4,h5,h6,h7⟩:=zdj (HH.out.1.now hb) hlt
    obtain⟨b1,o1,y,rfl,_,hl1,_,g0,g1,g2,g3,g4,g5,g6,g7⟩:=zdj (HH.out.2.now hb) hlt
    have HL:=zh (ai hl (ai hl1 hv))
    clear hl hl1 hv
    have hneq:=fun w=>run_neq_Ltr w x y
    cases he:ltrEq x y
    ·have HE:=zh he
     go_wp2_with fail
     go_quiet (fail)
     go_wp2_with fail
     go_ret
     refine⟨z34 ?_,bel⟩
     rw[eq_comm,decide_eq_false_iff_not]
     intro e
     subst e
     rw[HL.out.1] at HL
     have:=HL.out.2.1
     cases this
     rw[(ltrEq_iff x x).2 rfl] at HE
     cases HE.out
    have HE:=zh he
    go_wp2_with fail
    go_quiet (fail)
    go_wp2_with fail
    go_roundw
    case rel =>
     refine⟨k+1,by omega,by go_num,?_,bel⟩
     rw[List.take_add_one,List.take_add_one,HL.out.1,HL.out.2.1,HL.out.2.2,(ltrEq_iff x y).1 HE.out]
    case measure=>simp[intOf];omega
   have hke:k=n:=by omega
   subst hke
   have e0:l.take k=l:=by rw[List.take_of_length_le (by rw[HH.out.1.len];exact nr _)]
   have e1:l1.take k=l1:=by rw[List.take_of_length_le (by rw[HH.out.2.len];exact nr _)]
   rw[e0,e1] at hv
   have HV:=zh hv
   clear hv e0 e1
   go_wp2_with fail
   go_ret
   exact⟨z34 (by rw[eq_comm,decide_eq_true_iff];exact HV.out),hb⟩
 have hd:((n:Int) != (n1:Int))=true:=by simp;omega
 have hf:decide (l=l1)=false:=by
  rw[decide_eq_false_iff_not]
  intro e
  exact hne (by rw[<-h.len,<-h1.len,e])
 rw[hf]
 clear h h1
 go_enter Tryz.func33,Tryz.ntmps33
 go_wp2_with fail
 go_ret
 exact⟨rfl,Below.refl _ _⟩
theorem z3v (A:Option Addr)(n c:Nat)(l:List Ltr)(A1:Option Addr)(n1 c1:Nat)(l1:List Ltr)(w:World)(hn:inL n)(hn1:inL n1)(h:Sl w (old w) 8 RLtr A n l)(h1:Sl w (old w) 8 RLtr A1 n1 l1) :
  Calls Tryz.prog 11 #[.slice A n c,.slice A1 n1 c1] w (RetB w (decide (l=l1))):=by
 have HH:=zh (ai h h1)
 clear h h1
 go_enter Tryz.func11,Tryz.ntmps11
 go_wp2_with (refine (equal_Ltr A n c l A1 n1 c1 l1 _ hn hn1 HH.out.1 HH.out.2).mono ?_;rintro e w1 ⟨rfl,hb1⟩)
 go_ret
 exact⟨rfl,hb1⟩
end Go.Proofs.YtldhlpjjcnlbcaaGreat
