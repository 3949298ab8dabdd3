/- Texts merged (mergeh.py): OrdF. -/
import Derived.Test.YtldhlpjjcnlbcaaGreatRnk7
import Derived.Deep.QuietTactic
import Derived.BigQuiet
import Derived.Test.YtldhlpjjcnlbcaaGreatTypes
/- Texts merged: Ord1 Ord2 Ord3 Ord4 Ord5 (rank.Order, FieldOrder; what hangs on a field: plain). -/
set_option maxRecDepth 100000
set_option maxHeartbeats 8000000
/- Fields by their ranks: plain laws; cmp.Compare, the insertion sort and rank.Order. -/
namespace Go.Proofs.YtldhlpjjcnlbcaaGreat
open Go.RowKit
def ltR (O:Nat -> Int)(a b:Nat):Prop:=O a<O b\/(O a=O b/\a<b)
theorem ltR_irr (O:Nat -> Int)(a:Nat):¬ ltR O a a:=fun h=>by unfold ltR at h;omega
theorem ltR_tr (O:Nat -> Int)(a b c:Nat)(h:ltR O a b)(k:ltR O b c):ltR O a c:=by unfold ltR at *;omega
def insAt (l:List Nat)(x j:Nat):List Nat:=l.take j++x::l.drop j
theorem insAt_sorted {O:Nat -> Int}{l:List Nat}{x j:Nat}(h:l.Pairwise (ltR O))(hx:∀ y∈l,y<x)(hhi:∀ y∈l.drop j,O x<O y)(hlo:∀ y∈l.take j,O y<=O x):(insAt l x j).Pairwise (ltR O):=by
 unfold insAt
 have hsp:=h
 rw[<-List.take_append_drop j l,List.pairwise_append] at hsp
 obtain⟨p1,p2,p3⟩:=hsp
 rw[List.pairwise_append]
 refine⟨p1,List.pairwise_cons.2 ⟨fun y hy=>.inl (hhi y hy),p2⟩,fun a ha b hb=>?_⟩
 rcases List.mem_cons.1 hb with rfl | hb
 ·have h1:=hlo a ha
  have h2:=hx a (List.mem_of_mem_take ha)
  unfold ltR;omega
 exact p3 a ha b hb
theorem insAt_mem (l:List Nat)(x j y:Nat):y∈insAt l x j↔y∈l\/y=x:=by
 unfold insAt
 conv=>rhs;rw[<-List.take_append_drop j l]
 simp only[List.mem_append,List.mem_cons]
 constructor
 ·rintro (h | h | h)
  ·exact .inl (.inl h)
  ·exact .inr h
  exact .inl (.inr h)
 rintro ((h | h) | h)
 ·exact .inl h
 ·exact .inr (.inr h)
 exact .inr (.inl h)
def z7l (O:Nat -> Int)(l:List Nat)(x:Nat):Nat -> Nat
 | 0=>0
 | j+1=>if O x<O (l[j]?.getD 0) then z7l O l x j else j+1
theorem leftTo_hi (O:Nat -> Int)(l:List Nat)(x:Nat):∀ j i,z7l O l x j<=i->i<j->O x<O (l[i]?.getD 0)
 | 0,i,_,h=>absurd h (Nat.not_lt_zero _)
 | j+1,i,h1,h2=>by
  unfold z7l at h1
  split at h1
  ·rename_i hq
   by_cases he:i=j
   ·subst he;exact hq
   exact leftTo_hi O l x j i h1 (by omega)
  omega
theorem leftTo_lo (O:Nat -> Int)(l:List Nat)(x:Nat)(hs:l.Pairwise (ltR O)):∀ j i,j<=l.length->i<z7l O l x j->O (l[i]?.getD 0)<=O x
 | 0,i,_,h=>absurd h (Nat.not_lt_zero _)
 | j+1,i,hj,h=>by
  unfold z7l at h
  split at h
  ·exact leftTo_lo O l x hs j i (by omega) h
  rename_i hq
  have hjl:j<l.length:=by omega
  rcases Nat.lt_or_ge i j with h1 | h1
  ·have hp:=List.pairwise_iff_getElem.1 hs i j (by omega) hjl h1
   rw[gq hjl] at hq
   rw[gq (by omega:i<l.length)]
   simp only[Option.getD_some] at hq ⊢
   unfold ltR at hp
   omega
  rw[show i=j by omega];omega
def ordK (O:Nat -> Int):Nat -> List Nat
 | 0=>[]
 | k+1=>insAt (ordK O k) k (z7l O (ordK O k) k (ordK O k).length)
theorem zds (l:List Nat)(x j:Nat):(insAt l x j).length=l.length+1:=by unfold insAt;simp;omega
theorem z2v (O:Nat -> Int):∀ k,(ordK O k).length=k
 | 0=>rfl
 | k+1=>by rw[ordK,zds,z2v O k]
theorem z5j (O:Nat -> Int):∀ k y,y∈ordK O k↔y<k
 | 0,y=>by simp[ordK]
 | k+1,y=>by rw[ordK,insAt_mem,z5j O k y];omega
theorem z8c (O:Nat -> Int):∀ k,(ordK O k).Pairwise (ltR O)
 | 0=>List.Pairwise.nil
 | k+1=>by
  have h:=z8c O k
  refine insAt_sorted h (fun y hy=>(z5j O k y).1 hy) (fun y hy=>?_) (fun y hy=>?_)
  ·obtain⟨i,hi,rfl⟩:=List.mem_iff_getElem.1 hy
   rw[List.length_drop] at hi
   rw[List.getElem_drop]
   have:=leftTo_hi O (ordK O k) k (ordK O k).length _ (Nat.le_add_right _ i) (by omega)
   rw[gq (by omega)] at this
   exact this
  obtain⟨i,hi,rfl⟩:=List.mem_iff_getElem.1 hy
  rw[List.length_take] at hi
  rw[List.getElem_take]
  have:=leftTo_lo O (ordK O k) k h (ordK O k).length i (nr _) (by omega)
  rw[gq (by omega)] at this
  exact this
def lvlK (O:Nat -> Int)(N lev:Nat):List Nat:=(List.range N).filter fun i=>O i==(lev:Int)
def lvls (O:Nat -> Int)(N:Nat):Nat -> List Nat
 | 0=>[]
 | lev+1=>lvls O N lev++lvlK O N lev
theorem zhc (O:Nat -> Int)(N lev y:Nat):y∈lvlK O N lev↔y<N/\O y=lev:=by simp[lvlK]
theorem lvls_mem (O:Nat -> Int)(N:Nat):∀ L y,y∈lvls O N L↔y<N/\∃ lev:Nat,lev<L/\O y=lev
 | 0,y=>by simp[lvls]
 | L+1,y=>by
  rw[lvls,List.mem_append,lvls_mem O N L y,zhc]
  constructor
  ·rintro (⟨h1,lev,h2,h3⟩ | ⟨h1,h2⟩)
   ·exact⟨h1,lev,by omega,h3⟩
   exact⟨h1,L,by omega,h2⟩
  rintro ⟨h1,lev,h2,h3⟩
  by_cases he:lev=L
  ·subst he;exact .inr ⟨h1,h3⟩
  exact .inl ⟨h1,lev,by omega,h3⟩
theorem lvls_sorted (O:Nat -> Int)(N:Nat):∀ L,(lvls O N L).Pairwise (ltR O)
 | 0=>List.Pairwise.nil
 | L+1=>by
  rw[lvls,List.pairwise_append]
  refine⟨lvls_sorted O N L,?_,fun a ha b hb=>?_⟩
  ·have hr:(List.range N).Pairwise (·<·):=List.pairwise_lt_range
   have hf:(lvlK O N L).Pairwise (·<·):=hr.filter _
   refine List.Pairwise.imp_of_mem ?_ hf
   intro a b ha hb hab
   have h1:=((zhc O N L a).1 ha).2
   have h2:=((zhc O N L b).1 hb).2
   exact .inr ⟨by omega,hab⟩
  obtain⟨_,lev,h2,h3⟩:=(lvls_mem O N L a).1 ha
  have h4:=((zhc O N L b).1 hb).2
  exact .inl (by omega)
theorem ordK_lvls {O:Nat -> Int}{N:Nat}(hO:∀ i,i<N->0<=O i/\O i<N):ordK O N=lvls O N N:=by
 refine zfm (ltR_irr O) (ltR_tr O) _ _ (z8c O N) (lvls_sorted O N N) fun y=>?_
 rw[z5j,lvls_mem]
 constructor
 ·intro h
  have:=hO y h
  exact⟨h,(O y).toNat,by omega,by omega⟩
 exact fun h=>h.1
def rowJ (O:Nat -> Int)(n k j:Nat):List Nat:=insAt (ordK O k) k j++List.range' (k+1) (n-(k+1))
theorem rowJ_len (O:Nat -> Int){n k j:Nat}(hk:k<n):(rowJ O n k j).length=n:=by
 unfold rowJ
 rw[List.length_append,zds,z2v,List.length_range']
 omega
theorem rowJ_at (O:Nat -> Int){n k j:Nat}(_hk:k<n)(hj:j<=k):(rowJ O n k j)[j]?=some k:=by
 unfold rowJ
 have hl:=z2v O k
 rw[List.getElem?_append_left (by rw[zds];omega),insAt,List.getElem?_append_right (by rw[List.length_take];omega),List.length_take]
 rw[show j-min j (ordK O k).length=0 by omega]
 rfl
theorem rowJ_left (O:Nat -> Int){n k j:Nat}(_hk:k<n)(hj:j<k):(rowJ O n k (j+1))[j]?=some ((ordK O k)[j]?.getD 0):=by
 unfold rowJ
 have hl:=z2v O k
 have hjl:j<(ordK O k).length:=by omega
 rw[List.getElem?_append_left (by rw[zds];omega),insAt,List.getElem?_append_left (by rw[List.length_take];omega),List.getElem?_take,if_pos (by omega),gq hjl]
 rfl
theorem rowJ_swap (O:Nat -> Int){n k j:Nat}(_hk:k<n)(hj:j<k):((rowJ O n k (j+1)).set (j+1) ((ordK O k)[j]?.getD 0)).set j k=rowJ O n k j:=by
 have hl:=z2v O k
 have hjl:j<(ordK O k).length:=by omega
 unfold rowJ insAt
 generalize List.range' (k+1) (n-(k+1))=R
 generalize ordK O k=l at *
 rw[gq hjl,Option.getD_some]
 have e1:l.take (j+1)=l.take j++[l[j]]:=by rw[List.take_add_one,gq hjl];rfl
 have e2:l.drop j=l[j]::l.drop (j+1):=List.drop_eq_getElem_cons hjl
 rw[e1,e2]
 have hlt:(l.take j).length=j:=by rw[List.length_take];omega
 generalize l.take j=a at *
 generalize l.drop (j+1)=d
 generalize l[j]=y
 subst hlt
 simp
theorem rowJ_start (O:Nat -> Int){n k:Nat}(hk:k<n):ordK O k++List.range' k (n-k)=rowJ O n k k:=by
 unfold rowJ insAt
 have hl:=z2v O k
 rw[List.take_of_length_le (by omega),List.drop_eq_nil_of_le (by omega),List.append_assoc]
 congr 1
 rw[show n-k=(n-(k+1))+1 by omega,List.range'_succ]
 rfl
theorem rowJ_end (O:Nat -> Int){n k:Nat}:rowJ O n k (z7l O (ordK O k) k k)=ordK O (k+1)++List.range' (k+1) (n-(k+1)):=by
 unfold rowJ
 rw[ordK,z2v]
theorem leftTo_step {O:Nat -> Int}{l:List Nat}{x j:Nat}(h:O x<O (l[j]?.getD 0)):z7l O l x (j+1)=z7l O l x j:=by rw[z7l,if_pos h]
theorem leftTo_stop {O:Nat -> Int}{l:List Nat}{x j:Nat}(h:¬ O x<O (l[j]?.getD 0)):z7l O l x (j+1)=j+1:=by rw[z7l,if_neg h]
def cmpI (x y:Int):Int:=if x<y then -1 else if y<x then 1 else 0
theorem cmp_Compare (x y:Int)(w:World):Calls Tryz.prog 117 #[.int .i64 x,.int .i64 y] w fun e w'=>e=.returned (.int .i64 (cmpI x y))/\∃ k,w'=w.drewN k:=by
 have g1:(x != x)=false:=by simp
 have g2:(y != y)=false:=by simp
 rcases Int.lt_trichotomy x y with h | h | h
 ·have hr:cmpI x y=-1:=by rw[cmpI,if_pos h]
  rw[hr]
  clear hr
  go_enter Tryz.func117,Tryz.ntmps117
  go_wp2
  go_ret
  exact⟨rfl,0,rfl⟩
 ·subst h
  have hr:cmpI x x=0:=by rw[cmpI,if_neg (by omega),if_neg (by omega)]
  rw[hr]
  have h1:¬ x<x:=by omega
  clear hr
  go_enter Tryz.func117,Tryz.ntmps117
  go_wp2
  go_ret
  exact⟨rfl,0,rfl⟩
 have hr:cmpI x y=1:=by rw[cmpI,if_neg (by omega),if_pos h]
 rw[hr]
 have h1:¬ x<y:=by omega
 clear hr
 go_enter Tryz.func117,Tryz.ntmps117
 go_wp2
 go_ret
 exact⟨rfl,0,rfl⟩
theorem rank_Order1 (O:List Int)(A:Option Addr)(n c g a b:Nat)(w:World)(ha:a<n)(hb:b<n)(hg:w.cell? ⟨g,0,none⟩=some (.slice A n c))(h:Sl w (old w) 1 RInt A n O) :
  Calls Tryz.prog 116 #[.int .i64 a,.int .i64 b,.pointer (some ⟨g,0,none⟩)] w fun e w'=>e=.returned (.int .i64 (cmpI (outAt O a) (outAt O b)))/\∃ k,w'=w.drewN k:=by
 obtain⟨bk,o,x,rfl,hbl,hl,_,h0⟩:=z5c h ha
 obtain⟨bk',o',x',e',hbl',hl',_,h0'⟩:=z5c h hb
 cases e'
 have hc:=fun w=>cmp_Compare x x' w
 rw[z4u hl,z4u hl']
 have hgl:=block_lt_of_cell hg
 simp only at hgl
 have hbl2:bk<w.heap.size:=hbl
 clear hl hl' hbl hbl' h
 go_enter Tryz.func116,Tryz.ntmps116
 go_wp2_with fail
 go_quiet ((go_at_call 117;refine Calls.quiet_of (hc _)))
 go_wp2_with fail
 go_ret
 exact⟨rfl,_,rfl⟩
end Go.Proofs.YtldhlpjjcnlbcaaGreat
/- slices.SortStableFunc at up to 20 ints by their ranks; rank.Order. -/
namespace Go.Proofs.YtldhlpjjcnlbcaaGreat
open Go.RowKit
theorem z3m.of_own {w:World}{base:Nat}{e:TypeId}{g n cap:Nat}{O:List Int}(h:w.ownsRow base e 1 (.slice (some ⟨g,0,none⟩) n cap) n (O.flatMap intCs))(hn:0<n):z3m w g O/\base<=g/\g<w.heap.size/\n<=cap/\O.length=n:=by
 have hl:O.length=n:=by
  have h1:=h.1
  rw[z0w intCs 1 (fun _=>rfl)] at h1
  omega
 rcases h.2 with ⟨_,h0⟩ | ⟨g',cap',cur,hv,hbg,hgg,hnc,hcm,hcs,hxs⟩
 ·omega
 cases hv
 refine⟨fun j hj=>?_,hbg,(Array.getElem?_eq_some_iff.1 hgg).1,hnc,hl⟩
 have hc:=h.cells (g:=g) rfl j (.int .i64 (outAt O j)) (by
  have:=z87 intCs 1 (fun _=>rfl) O j 0 (outAt O j) (by rw[gq hj];exact congrArg some (z4u (gq hj)).symm) (by omega)
  simpa using this)
 rw[Addr.add_lit,Nat.zero_add] at hc
 refine⟨hc,?_⟩
 simp[World.frozen?,hgg]
theorem cmpI_neg {x y:Int}:cmpI x y<0↔x<y:=by
 unfold cmpI
 split
 ·simp;omega
 split<;>simp<;>omega
theorem toI_set (l:List Nat)(j v:Nat):toI (l.set j v)=(toI l).set j (v:Int):=by simp[toI,List.map_set]
theorem outAt_toI {l:List Nat}{j v:Nat}(h:l[j]?=some v):outAt (toI l) j=(v:Int):=z4u (by simp[toI,h])
theorem insertion_sort (O:List Int)(n gd cd gb B:Nat)(w:World)(h20:n<=1000)(h0:0<n)(hD:z3m w gd (toI (List.range n)))(hgd:gd<w.heap.size)(hB:B<=gd)
  (hT:∀ w',Below B w w'->∀ a b:Nat,a<n->b<n->Calls Tryz.prog 116 #[.int .i64 a,.int .i64 b,.pointer (some ⟨gb,0,none⟩)] w' fun e w2=>e=.returned (.int .i64 (cmpI (outAt O a) (outAt O b)))/\∃ k,w2=w'.drewN k) :
  Calls Tryz.prog 181 #[.slice (some ⟨gd,0,none⟩) n cd,.int .i64 0,.int .i64 n,.func (.func 116) #[] #[.pointer (some ⟨gb,0,none⟩)]] w fun e w'=>e=.returned (.tuple #[])/\z3m w' gd (toI (ordK (outAt O) n))/\Below B w w'/\gd<w'.heap.size:=by
 have HT:=zh hT
 clear hT
 go_enter Tryz.func181,Tryz.ntmps181
 go_wp2_with fail
 go_loopw [8] (fun i wr=>∃ k:Nat,1<=k/\k<=n/\i=.int .i64 k/\Hid (z3m wr gd (toI (ordK (outAt O) k++List.range' k (n-k))))/\Below B w wr/\gd<wr.heap.size) (fun i _=>n+1-(intOf i).toNat)
 case atStart =>
  refine⟨1,nr _,by omega,rfl,zh ?_,Below.refl _ _,hgd⟩
  have e:ordK (outAt O) 1++List.range' 1 (n-1)=List.range n:=by
   rw[List.range_eq_range',show n=(n-1)+1 by omega,List.range'_succ]
   rfl
  rw[e]
  exact hD
 case round =>
  obtain⟨k,hk1,hkn,rfl,hbk,hbr,hgr⟩:=hrel
  by_cases hlt:k<n
  ·have HK:=zh (show z3m wr gd (toI (rowJ (outAt O) n k k)) by rw[<-rowJ_start (outAt O) hlt];exact hbk.out)
   clear hbk
   go_wp2_with fail
   generalize hwq:wr=wq at *
   clear hwq
   go_loopw [9] (fun j wr=>∃ j':Nat,j'<=k/\j=.int .i64 j'/\Hid (z3m wr gd (toI (rowJ (outAt O) n k j')))/\Hid (z7l (outAt O) (ordK (outAt O) k) k k=z7l (outAt O) (ordK (outAt O) k) k j')/\Below B w wr/\gd<wr.heap.size) (fun j _=>(intOf j).toNat)
   case atStart=>exact⟨k,nr _,rfl,HK,zh rfl,hbr,hgr⟩
   case round =>
    obtain⟨j,hj,rfl,hbj,hlf,hbj2,hgj⟩:=hrel
    rcases j with _ | j
    ·have HE:=zh (show z3m wr gd (toI (ordK (outAt O) (k+1)++List.range' (k+1) (n-(k+1)))) by
      rw[<-rowJ_end,hlf.out]
      exact hbj.out)
     clear hbj hlf
     go_wp2_with fail
     go_quiet (fail)
     go_wp2_with fail
     go_roundw
     case rel=>exact⟨k+1,by omega,by omega,by go_num,zh (fun j hj=>by simpa using HE.out j hj),z4f hbj2 _,by simpa using hgj⟩
     case measure=>simp[intOf];omega
    have hjk:j<k:=by omega
    have hln:=rowJ_len (outAt O) (j:=j+1) hlt
    have q1:=(hbj.out (j+1) (by simp[hln];omega))
    have q0:=(hbj.out j (by simp[hln];omega))
    rw[outAt_toI (rowJ_at (outAt O) hlt hj)] at q1
    rw[outAt_toI (rowJ_left (outAt O) hlt hjk)] at q0
    obtain⟨y,hy⟩:∃ y,y=(ordK (outAt O) k)[j]?.getD 0:=⟨_,rfl⟩
    have hyn:y<n:=by
     have hm:j<(ordK (outAt O) k).length:=by rw[z2v];exact hjk
     rw[hy,gq hm,Option.getD_some]
     have:=(z5j (outAt O) k _).1 (List.getElem_mem hm)
     omega
    rw[<-hy] at q0
    have HY:=zh hy
    clear hy
    obtain⟨c1,f1⟩:=q1
    obtain⟨c0,f0⟩:=q0
    have hjn:j+1<n:=by omega
    have hjn2:j<n:=by omega
    have hjn':((j:Int)+1)<(n:Int):=by omega
    have hjn3:(((j+1:Nat)):Int)<(n:Int):=by omega
    have h00:(0:Int)<=(j:Int)+1:=by omega
    have h01:(0:Int)<(j:Int)+1:=by omega
    have hw1:IntKind.i64.wrap (j:Int)=j:=IntWalk.i64_in _ (by omega)
    have hj0:(0:Int)<=(j:Int):=by omega
    have hjn4:(j:Int)<(n:Int):=by omega
    have hcl:=fun m=>HT.out (wr.drewN m) (z4f hbj2 m) k y hlt hyn
    by_cases hcm:outAt O k<outAt O y
    ·have hci:cmpI (outAt O k) (outAt O y)=-1:=by rw[cmpI,if_pos hcm]
     rw[hci] at hcl
     have HL:=zh (hlf.out.trans (leftTo_step (by rw[<-HY.out];exact hcm)))
     clear hlf hcm hci
     go_wp2_with fail
     go_quiet ((go_at_call 116;refine Calls.quiet_of (hcl _)))
     go_wp2_with fail
     go_region
     go_wp2_with fail
     go_roundw
     case rel =>
      have hb1:z3m (wr.drewN (nq+1)) gd (toI (rowJ (outAt O) n k (j+1))):=fun j hj=>by simpa using hbj.out j hj
      have hb2:=(hb1.set (i:=j+1) (by simp[hln];omega) (y:Int)).set (i:=j) (by simp[hln];omega) (k:Int)
      rw[<-toI_set,<-toI_set,HY.out,rowJ_swap (outAt O) hlt hjk,<-HY.out] at hb2
      exact⟨j,by omega,by go_num,zh hb2,HL,z03 (z03 (z4f hbj2 _) hB) hB,by simpa using hgj⟩
     case measure=>simp[intOf]
    have hci:¬ cmpI (outAt O k) (outAt O y)<0:=by rw[cmpI_neg];exact hcm
    have HE:=zh (show z3m wr gd (toI (ordK (outAt O) (k+1)++List.range' (k+1) (n-(k+1)))) by
     rw[<-rowJ_end,hlf.out,leftTo_stop (by rw[<-HY.out];exact hcm)]
     exact hbj.out)
    clear hlf hcm
    go_wp2_with fail
    go_quiet ((go_at_call 116;refine Calls.quiet_of (hcl _)))
    go_wp2_with fail
    go_roundw
    case rel=>exact⟨k+1,by omega,by omega,by go_num,zh (fun j hj=>by simpa using HE.out j hj),z4f hbj2 _,by simpa using hgj⟩
    case measure=>simp[intOf];omega
  have hkn:k=n:=by omega
  subst hkn
  have HE:=zh (show z3m wr gd (toI (ordK (outAt O) k)) by have:=hbk.out;rw[Nat.sub_self,List.range'_zero,List.append_nil] at this;exact this)
  clear hbk
  go_wp2_with fail
  go_end0
  exact⟨rfl,HE.out,hbr,hgr⟩
theorem stable_sort (O:List Int)(n gd cd gb B:Nat)(w:World)(h14:n<=14)(h0:0<n)(hD:z3m w gd (toI (List.range n)))(hgd:gd<w.heap.size)(hB:B<=gd)
  (hT:∀ w',Below B w w'->∀ a b:Nat,a<n->b<n->Calls Tryz.prog 116 #[.int .i64 a,.int .i64 b,.pointer (some ⟨gb,0,none⟩)] w' fun e w2=>e=.returned (.int .i64 (cmpI (outAt O a) (outAt O b)))/\∃ k,w2=w'.drewN k) :
  Calls Tryz.prog 155 #[.slice (some ⟨gd,0,none⟩) n cd,.int .i64 n,.func (.func 116) #[] #[.pointer (some ⟨gb,0,none⟩)]] w fun e w'=>e=.returned (.tuple #[])/\z3m w' gd (toI (ordK (outAt O) n))/\Below B w w'/\gd<w'.heap.size:=by
 have hs:=insertion_sort O n gd cd gb B w (by omega) h0 hD hgd hB hT
 have hn20:¬ (20:Int)<=(n:Int):=by omega
 have hn21:¬ (20:Int)<(n:Int):=by omega
 clear hD hT
 go_enter Tryz.func155,Tryz.ntmps155
 go_wp2_with fail
 go_loopw [7,8] (fun a b wr=>a=.int .i64 0/\b=.int .i64 20/\wr=w) (fun _ _ _=>0)
 case atStart=>exact⟨rfl,rfl,rfl⟩
 case round =>
  obtain⟨rfl,rfl,rfl⟩:=hrel
  go_wp2_with fail
  refine hs.mono ?_;rintro e w1 ⟨rfl,hd1,hb1,hg1⟩
  have HD:=zh hd1
  clear hd1
  go_wp2_with fail
  go_loopw [6] (fun b wr=>b=.int .i64 20/\wr=w1) (fun _ _=>0)
  case atStart=>exact⟨rfl,rfl⟩
  case round =>
   obtain⟨rfl,rfl⟩:=hrel
   go_wp2_with fail
   go_end0
   exact⟨rfl,HD.out,hb1,hg1⟩
theorem SortStable (O:List Int)(n gd cd gb B:Nat)(w:World)(h14:n<=14)(h0:0<n)(hD:z3m w gd (toI (List.range n)))(hgd:gd<w.heap.size)(hB:B<=gd)
  (hT:∀ w',Below B w w'->∀ a b:Nat,a<n->b<n->Calls Tryz.prog 116 #[.int .i64 a,.int .i64 b,.pointer (some ⟨gb,0,none⟩)] w' fun e w2=>e=.returned (.int .i64 (cmpI (outAt O a) (outAt O b)))/\∃ k,w2=w'.drewN k) :
  Calls Tryz.prog 115 #[.slice (some ⟨gd,0,none⟩) n cd,.func (.func 116) #[] #[.pointer (some ⟨gb,0,none⟩)]] w fun e w'=>e=.returned (.tuple #[])/\z3m w' gd (toI (ordK (outAt O) n))/\Below B w w'/\gd<w'.heap.size:=by
 have hs:=stable_sort O n gd cd gb B w h14 h0 hD hgd hB hT
 clear hD hT
 go_enter Tryz.func115,Tryz.ntmps115
 go_wp2_with fail
 refine hs.mono ?_;rintro e w1 ⟨rfl,hd1,hb1,hg1⟩
 have HD:=zh hd1
 clear hd1
 go_wp2_with fail
 go_end0
 exact⟨rfl,HD.out,hb1,hg1⟩
theorem stable_none (f:Value)(w:World):Calls Tryz.prog 115 #[.slice none 0 0,f] w fun e w'=>e=.returned (.tuple #[])/\Below w.heap.size w w':=by
 have h1:Calls Tryz.prog 181 #[.slice none 0 0,.int .i64 0,.int .i64 0,f] w fun e w'=>e=.returned (.tuple #[])/\Below w.heap.size w w':=by
  go_enter Tryz.func181,Tryz.ntmps181
  go_wp2_with fail
  go_loopw [8] (fun b wr=>b=.int .i64 1/\wr=w) (fun _ _=>0)
  case atStart=>exact⟨rfl,rfl⟩
  case round =>
   obtain⟨rfl,rfl⟩:=hrel
   go_wp2_with fail
   go_end0
   exact⟨rfl,Below.refl _ _⟩
 have h2:Calls Tryz.prog 155 #[.slice none 0 0,.int .i64 0,f] w fun e w'=>e=.returned (.tuple #[])/\Below w.heap.size w w':=by
  go_enter Tryz.func155,Tryz.ntmps155
  go_wp2_with fail
  go_loopw [7,8] (fun a b wr=>a=.int .i64 0/\b=.int .i64 20/\wr=w) (fun _ _ _=>0)
  case atStart=>exact⟨rfl,rfl,rfl⟩
  case round =>
   obtain⟨rfl,rfl,rfl⟩:=hrel
   go_wp2_with fail
   refine h1.mono ?_;rintro e w1 ⟨rfl,hb1⟩
   go_wp2_with fail
   go_loopw [6] (fun b wr=>b=.int .i64 20/\wr=w1) (fun _ _=>0)
   case atStart=>exact⟨rfl,rfl⟩
   case round =>
    obtain⟨rfl,rfl⟩:=hrel
    go_wp2_with fail
    go_end0
    exact⟨rfl,hb1⟩
 go_enter Tryz.func115,Tryz.ntmps115
 go_wp2_with fail
 refine h2.mono ?_;rintro e w1 ⟨rfl,hb1⟩
 go_wp2_with fail
 go_end0
 exact⟨rfl,hb1⟩
end Go.Proofs.YtldhlpjjcnlbcaaGreat
/- rank.Order: the places of fields by their ranks. -/
namespace Go.Proofs.YtldhlpjjcnlbcaaGreat
open Go.RowKit
def ordF (F:List Fld):List Nat:=ordK (outAt (rankO F)) F.length
def z3u (F:List Fld):List Int×Int:=if (rankR F).2.2=0 then (toI (ordF F),0) else ([],(rankR F).2.2)
def zbj (w:World)(r:List Int×Int)(e:Ending)(w':World):Prop :=
 ∃ A c,e=.returned (.tuple #[.slice A r.1.length c,.int .i64 r.2])/\r.1.length<=c/\Sl w' (fun b=>w.heap.size<=b/\b<w'.heap.size) 1 RInt A r.1.length r.1/\Below w.heap.size w w'
theorem z13 {F:List Fld}(h:(rankR F).2.2=0):fieldsErr F=0/\rankR F=(rankO F,[],0):=by
 unfold rankR at h ⊢
 by_cases he:fieldsErr F=0
 ·refine⟨he,?_⟩
  rw[if_neg (by simpa using he)] at h ⊢
  cases ha:(rankO F).any negO
  ·rw[if_neg (by decide)]
  rw[ha,if_pos rfl] at h;cases h
 rw[if_pos he] at h;exact absurd h he
theorem own_form9 {w:World}{base:Nat}{e:TypeId}{size:Nat}{v:Value}{n:Nat}{xs:List Value}(h:w.ownsRow base e size v n xs)(hn:0<n):∃ g cap,v=.slice (some ⟨g,0,none⟩) n cap:=by
 rcases h.2 with ⟨_,h0⟩ | ⟨g,cap,cur,rfl,_⟩
 ·omega
 exact⟨g,cap,rfl⟩
theorem z80 (l:List Fld)(L:Option Addr)(n d:Nat)(w:World)(hn:inB 112 n)(hnd:n<=d)(hl:Sl w (old w) 9 (RFld w (old w)) L n l)(hN:∀ f∈l,f.source.nodes<=1048576)(hst:∀ f∈l,inS f.name/\∀ s∈askN f.source,inS s) :
  Calls Tryz.prog 70 #[.slice L n d] w (zbj w (z3u l)):=by
 have hof:=fun w h=>rank_Of l L n d w hn hnd h hN hst
 have HL:=zh (ai hl hl.len)
 by_cases he:(rankR l).2.2=0
 ·obtain⟨hfe,hr⟩:=z13 he
  have h14:n<=14:=by rw[<-hl.len];exact (z0h hfe).1
  have hro:z3u l=(toI (ordF l),0):=by rw[z3u,if_pos he]
  have hlo:(rankO l).length=n:=by rw[(z66 hfe).1];exact hl.len
  have hof':∀ w,Sl w (old w) 9 (RFld w (old w)) L n l->Calls Tryz.prog 58 #[.slice L n d] w (fun e w'=>∃ A c B d,e=.returned (.tuple #[.slice A n c,.slice B 0 d,.int .i64 0])/\Sl w' (fresh w w') 1 RInt A n (rankO l)/\Below w.heap.size w w'):=fun w h=>(hof w h).mono (fun e w' q=>by
   rw[hr] at q
   obtain⟨A,c,B,d,q1,q2,q3,q4,q5,q6⟩:=q
   exact⟨A,c,B,d,by rw[q1,show ((rankO l,([]:List ByteArray),(0:Int)).1).length=n from hlo];rfl,by rw[show ((rankO l,([]:List ByteArray),(0:Int)).1).length=n from hlo] at q4;exact q4,q6⟩)
  have hol:ordF l=ordK (outAt (rankO l)) n:=by unfold ordF;rw[hl.len]
  rw[hro]
  obtain⟨i0,ei,ez0,ez1,ez2⟩:=info_parts Tryz.infoIn9
  have HO:=zh (ai hol hlo)
  clear hof hl he hr hro hn hnd hN hst hfe hol hlo
  generalize rankO l=O at *
  generalize ordF l=od at *
  go_enter Tryz.func70,Tryz.ntmps70
  go_wp2_with fail
  refine (hof' _ (HL.out.1.nowN z02 bel)).mono ?_;rintro e w1 ⟨A1,c1,B1,d1,rfl,hs1,hb1⟩;refine zb hb1 ?_;rintro ⟨hc1,hf1⟩ hz1 hy1 hx1;refine szz w1 w ?_;intros
  have HS1:=zh hs1
  clear hs1
  go_wp2_with fail
  have hg0:(w1.alloc (.cells #[.slice A1 n c1] 93)).cell? ⟨w1.heap.size,0,none⟩=some (.slice A1 n c1):=by go_simp
  have hB0:Below w1.heap.size w1 (w1.alloc (.cells #[.slice A1 n c1] 93)):=bel
  have hz0:(w1.alloc (.cells #[.slice A1 n c1] 93)).heap.size=w1.heap.size+1:=by simp
  generalize hW:w1.alloc (.cells #[.slice A1 n c1] 93)=W1 at *
  clear hW
  have hB1:Below w.heap.size w w1:=hb1
  go_loopw [7,20] (fun v i wr=>∃ k:Nat,k<=n/\i=.int .i64 k/\Hid (wr.ownsRow W1.heap.size 3 1 v k ((toI (List.range k)).flatMap intCs))/\(k=0->v=.slice none 0 0)/\Below W1.heap.size W1 wr) (fun _ i _=>n-(intOf i).toNat)
  case atStart=>exact⟨0,by omega,rfl,zh (by simpa using World.ownsRow_nil _ _ _ _),fun _=>rfl,Below.refl _ _⟩
  case round =>
   obtain⟨k,hk,rfl,hown,hnil,hbr⟩:=hrel
   by_cases hlt:k<n
   ·go_wp2_with (at_builtin;refine z0l rfl _ _ 93 rfl W1.heap.size 3 i0 (.int .i64 0) 1 8 Tryz.underlying93 ei ez0 ez1 ez2 rfl (by decide) _ k _ rfl hown.out [.int .i64 (k:Int)] 3 rfl _ rfl rfl rfl (by simp[Value.oneCell']) (by omega) (by unfold maxLen;omega) (by have:=hbr.size;omega) ?_;intro v6 w6 hown6 hb6 hz6 _)
    go_roundw
    case rel =>
     refine⟨k+1,by omega,by go_num,zh ?_,fun h=>absurd h (by omega),z01 hbr hb6 (nr _)⟩
     rw[List.range_succ,toI,List.map_append,List.flatMap_append]
     simpa [toI] using hown6
    case measure=>simp[intOf];omega
   have hke:k=n:=by omega
   subst hke
   have hBr:Below w.heap.size w wr:=z01 (z01 hB1 hB0 hB1.size) hbr (by have:=hB1.size;omega)
   have hgl:w1.heap.size<wr.heap.size:=by have:=hbr.size;omega
   have hgr:wr.cell? ⟨w1.heap.size,0,none⟩=some (.slice A1 k c1):=(hbr.cell (p:=⟨w1.heap.size,0,none⟩) (by simp;omega)).trans hg0
   have hB1r:Below w1.heap.size w1 wr:=z01 hB0 hbr (by omega)
   have hsl:Sl wr (fun b=>b<W1.heap.size) 1 RInt A1 k O:=(HS1.out.keep (w':=wr) (fun b hb=>hB1r.block b hb.2) (fun _ _ h=>h)).mono (fun b hb=>by have:=hb.2;omega)
   rcases Nat.eq_zero_or_pos k with h0 | h0
   ·subst h0
    have hv:=hnil rfl
    subst hv
    have hol:toI od=[]:=by rw[HO.out.1];rfl
    have HI:=zh hol
    clear hnil hsl hol
    go_wp2_with fail
    refine (stable_none _ _).mono ?_;rintro e w8 ⟨rfl,hb8⟩
    have hB8:Below w.heap.size w w8:=z01 hBr hb8 (by have:=hB1.size;omega)
    go_wp2_with fail
    go_ret2
    rw[HI.out]
    exact⟨none,0,rfl,nr _,Sl.nil,hB8⟩
   obtain⟨g9,c9,e9⟩:=own_form9 hown.out h0
   subst e9
   obtain⟨hD,hgB,hgw,hc9,_⟩:=z3m.of_own hown.out h0
   have hT:∀ w',Below W1.heap.size wr w'->∀ a b:Nat,a<k->b<k->Calls Tryz.prog 116 #[.int .i64 a,.int .i64 b,.pointer (some ⟨w1.heap.size,0,none⟩)] w' fun e w2=>e=.returned (.int .i64 (cmpI (outAt O a) (outAt O b)))/\∃ k,w2=w'.drewN k:=by
    intro w' hb' a b ha hb
    refine rank_Order1 O A1 k c1 w1.heap.size a b w' ha hb ((hb'.cell (p:=⟨w1.heap.size,0,none⟩) (by simp;omega)).trans hgr) ?_
    exact (hsl.keep (w':=w') (fun b hb=>hb'.block b hb) (fun _ _ h=>h)).mono (fun b hb=>by have h1:=hb'.size;have h2:=hbr.size;exact Nat.lt_of_lt_of_le hb (Nat.le_trans h2 h1))
   have hss:=SortStable O k g9 c9 w1.heap.size W1.heap.size wr h14 h0 hD hgw hgB hT
   have HHg:=zh hgB
   clear hT hsl hD
   go_wp2_with fail
   refine hss.mono ?_;rintro e w8 ⟨rfl,hd8,hb8,hg8⟩
   have hB8:Below w.heap.size w w8:=z01 hBr hb8 (by have:=hB1.size;omega)
   rw[<-HO.out.1] at hd8
   have hol:(toI od).length=k:=by rw[HO.out.1,List.length_map,z2v]
   have HD:=zh hd8
   have hin:∀ a∈toI od,inI a:=by
    intro a ha
    obtain⟨x,hx,rfl⟩:=List.mem_map.1 ha
    rw[HO.out.1] at hx
    have:=(z5j _ _ _).1 hx
    exact z50 (by omega) (by omega)
   have HI:=zh (ai hol hin)
   clear hd8 hol hin hss
   go_wp2_with fail
   go_ret2
   refine⟨some ⟨g9,0,none⟩,c9,by rw[HI.out.1];rfl,by rw[HI.out.1];exact hc9,?_,hB8⟩
   exact HD.out.sl (S:=fun b=>w.heap.size<=b/\b<w8.heap.size) ⟨by have:=hB1.size;omega,hg8⟩ HI.out.2
 have hro:z3u l=([],(rankR l).2.2):=by rw[z3u,if_neg he]
 rw[hro]
 obtain⟨lo,lc,er,hr⟩:∃ lo lc er,rankR l=(lo,lc,er):=⟨_,_,_,rfl⟩
 rw[hr] at he ⊢
 have g1:(er != 0)=true:=by simpa using he
 have hof':∀ w,Sl w (old w) 9 (RFld w (old w)) L n l->Calls Tryz.prog 58 #[.slice L n d] w (fun e w'=>∃ A c B d,e=.returned (.tuple #[.slice A lo.length c,.slice B lc.length d,.int .i64 er])/\Below w.heap.size w w'):=fun w h=>(hof w h).mono (fun e w' q=>by
  rw[hr] at q
  obtain⟨A,c,B,d,q1,q2,q3,q4,q5,q6⟩:=q
  exact⟨A,c,B,d,q1,q6⟩)
 show Calls Tryz.prog 70 #[.slice L n d] w (zbj w ([],er))
 clear hof hl he hr hro hn hnd hN hst
 go_enter Tryz.func70,Tryz.ntmps70
 go_wp2_with fail
 refine (hof' _ (HL.out.1.nowN z02 bel)).mono ?_;rintro e w1 ⟨A1,c1,B1,d1,rfl,hb1⟩;refine zb hb1 ?_;rintro ⟨hc1,hf1⟩ hz1 hy1 hx1;refine szz w1 w ?_;intros
 go_wp2_with fail
 go_ret2
 exact⟨none,0,rfl,nr _,Sl.nil,bel⟩
end Go.Proofs.YtldhlpjjcnlbcaaGreat
/- The reference FieldOrder. -/
namespace Go.Proofs.YtldhlpjjcnlbcaaGreat
open Go.RowKit
def lvlTo (O:Nat -> Int)(lev i:Nat):List Nat:=(List.range i).filter fun i=>O i==(lev:Int)
theorem lvlTo_yes {O:Nat -> Int}{lev i:Nat}(h:O i=lev):lvlTo O lev (i+1)=lvlTo O lev i++[i]:=by
 unfold lvlTo
 rw[List.range_succ,List.filter_append]
 simp[h]
theorem lvlTo_no {O:Nat -> Int}{lev i:Nat}(h:¬ O i=lev):lvlTo O lev (i+1)=lvlTo O lev i:=by
 unfold lvlTo
 rw[List.range_succ,List.filter_append]
 simp[h]
theorem lvlTo_len (O:Nat -> Int)(lev i:Nat):(lvlTo O lev i).length<=i:=by
 unfold lvlTo
 have:=List.length_filter_le (fun i=>O i==(lev:Int)) (List.range i)
 rw[List.length_range] at this
 exact this
theorem lvls_len (O:Nat -> Int)(N:Nat):∀ L,(lvls O N L).length<=N*L
 | 0=>by simp[lvls]
 | L+1=>by
  have h1:=lvls_len O N L
  have h2:=lvlTo_len O L N
  have e:lvlK O N L=lvlTo O L N:=rfl
  rw[lvls,List.length_append,e,Nat.mul_add]
  omega
theorem zdb {F:List Fld}(h:(rankR F).2.2=0):∀ i,i<F.length->0<=outAt (rankO F) i/\outAt (rankO F) i<F.length:=by
 obtain⟨he,hr⟩:=z13 h
 intro i hi
 have hg:=z66 he
 have hbd:=hg.2.bd (z4t he) hi
 refine⟨?_,hbd.2⟩
 cases ha:(rankO F).any negO
 ·rw[List.any_eq_false] at ha
  have hil:i<(rankO F).length:=by rw[hg.1];exact hi
  have hn:=ha _ (List.getElem_mem hil)
  rw[z4u (gq hil)]
  simp[negO] at hn
  exact hn
 unfold rankR at h
 rw[if_neg (by simpa using he),if_pos ha] at h
 cases h
theorem ordF_lvls {F:List Fld}(h:(rankR F).2.2=0):ordF F=lvls (outAt (rankO F)) F.length F.length:=ordK_lvls (zdb h)
theorem z90 (l:List Fld)(L:Option Addr)(n d:Nat)(w:World)(hn:inB 112 n)(hl:Sl w (old w) 9 (RFld w (old w)) L n l)(hN:∀ f∈l,f.source.nodes<=1048576)(hst:∀ f∈l,inS f.name/\∀ s∈askN f.source,inS s) :
  Calls Tryz.prog 75 #[.slice L n d] w (zbj w (z3u l)):=by
 have hof:=fun w h=>z6w l L n d w hn h hN hst
 have HL:=zh (ai hl hl.len)
 by_cases he:(rankR l).2.2=0
 ·obtain⟨hfe,hr⟩:=z13 he
  have h14:n<=14:=by rw[<-hl.len];exact (z0h hfe).1
  have hro:z3u l=(toI (ordF l),0):=by rw[z3u,if_pos he]
  have hlo:(rankO l).length=n:=by rw[(z66 hfe).1];exact hl.len
  have hof':∀ w,Sl w (old w) 9 (RFld w (old w)) L n l->Calls Tryz.prog 62 #[.slice L n d] w (fun e w'=>∃ A c B d,e=.returned (.tuple #[.slice A n c,.slice B 0 d,.int .i64 0])/\Sl w' (fresh w w') 1 RInt A n (rankO l)/\Below w.heap.size w w'):=fun w h=>(hof w h).mono (fun e w' q=>by
   rw[hr] at q
   obtain⟨A,c,B,d,q1,q2,q3,q4,q5,q6⟩:=q
   exact⟨A,c,B,d,by rw[q1,show ((rankO l,([]:List ByteArray),(0:Int)).1).length=n from hlo];rfl,by rw[show ((rankO l,([]:List ByteArray),(0:Int)).1).length=n from hlo] at q4;exact q4,q6⟩)
  have hol:ordF l=lvls (outAt (rankO l)) n n:=by rw[ordF_lvls he,hl.len]
  have hod:(ordF l).length<=14/\∀ x∈ordF l,x<14\/x<n:=⟨by unfold ordF;rw[z2v,hl.len];exact h14,fun x hx=>.inr (by have:=(z5j _ _ _).1 hx;rw[hl.len] at this;exact this)⟩
  rw[hro]
  obtain⟨i0,ei,ez0,ez1,ez2⟩:=info_parts Tryz.infoIn9
  have HO:=zh (ai hol (ai hlo hod))
  clear hof hl he hr hro hn hN hst hfe hol hlo hod
  generalize rankO l=O at *
  generalize ordF l=od at *
  go_enter Tryz.func75,Tryz.ntmps75
  go_wp2_with fail
  refine (hof' _ (HL.out.1.nowN z02 bel)).mono ?_;rintro e w1 ⟨A1,c1,B1,d1,rfl,hs1,hb1⟩;refine zb hb1 ?_;rintro ⟨hc1,hf1⟩ hz1 hy1 hx1;refine szz w1 w ?_;intros
  have HS1:=zh (hs1.mono (S':=old w1) (fun b hb=>hb.2))
  clear hs1
  have hB1:Below w.heap.size w w1:=bel
  go_wp2_with fail
  go_loopw [7,8] (fun v lv wr=>∃ k:Nat,k<=n/\lv=.int .i64 k/\Hid (wr.ownsRow w1.heap.size 3 1 v (lvls (outAt O) n k).length ((toI (lvls (outAt O) n k)).flatMap intCs))/\Below w1.heap.size w1 wr) (fun _ lv _=>n-(intOf lv).toNat)
  case atStart=>exact⟨0,by omega,rfl,zh (by simpa [lvls] using World.ownsRow_nil _ _ _ _),Below.refl _ _⟩
  case round =>
   obtain⟨k,hk,rfl,hown,hbr⟩:=hrel
   by_cases hlt:k<n
   ·have hll:=lvls_len (outAt O) n k
    have hnk:n*k<=196:=Nat.le_trans (Nat.mul_le_mul h14 (by omega:k<=14)) (by omega)
    go_wp2_with fail
    generalize hwq:wr=wq at *
    clear hwq
    go_loopw [7,27] (fun v i wr=>∃ j:Nat,j<=n/\i=.int .i64 j/\Hid (wr.ownsRow w1.heap.size 3 1 v ((lvls (outAt O) n k).length+(lvlTo (outAt O) k j).length) ((toI (lvls (outAt O) n k++lvlTo (outAt O) k j)).flatMap intCs))/\Below w1.heap.size w1 wr) (fun _ i _=>n-(intOf i).toNat)
    case atStart=>exact⟨0,by omega,rfl,zh (by simpa [lvlTo] using hown.out),hbr⟩
    case round =>
     obtain⟨j,hj,rfl,hown2,hbj⟩:=hrel
     by_cases hltj:j<n
     ·obtain⟨b,o,x,hAe,hbl,hlx,hxi,y0⟩:=z5c (HS1.out.now hbj) hltj
      subst hAe
      have hbl':b<wr.heap.size:=hbl
      have hox:=z4u hlx
      have hjl:=lvlTo_len (outAt O) k j
      clear hbl hlx hxi
      by_cases hq:x=(k:Int)
      ·have HT:=zh (lvlTo_yes (O:=outAt O) (lev:=k) (i:=j) (hox.trans hq))
       have g1:(x==(k:Int))=true:=by rw[hq];simp
       clear hox hq
       go_wp2_with (at_builtin;refine z0l rfl _ _ 93 rfl w1.heap.size 3 i0 (.int .i64 0) 1 8 Tryz.underlying93 ei ez0 ez1 ez2 rfl (by decide) _ ((lvls (outAt O) n k).length+(lvlTo (outAt O) k j).length) _ rfl hown2.out [.int .i64 (j:Int)] 3 rfl _ rfl rfl rfl (by simp[Value.oneCell']) (by omega) (by unfold maxLen;omega) (by have:=hbj.size;omega) ?_;intro v6 w6 hown6 hb6 hz6 _)
       go_roundw
       case rel =>
        refine⟨j+1,by omega,by go_num,zh ?_,z01 hbj hb6 (nr _)⟩
        rw[HT.out,<-List.append_assoc,toI,List.map_append,List.flatMap_append,List.length_append]
        simpa [toI,Nat.add_assoc] using hown6
       case measure=>simp[intOf];omega
      have HT:=zh (lvlTo_no (O:=outAt O) (lev:=k) (i:=j) (by rw[hox];exact hq))
      have g1:(x==(k:Int))=false:=by simpa using hq
      clear hox hq
      go_wp2_with fail
      go_roundw
      case rel=>exact⟨j+1,by omega,by go_num,zh (by rw[HT.out];exact hown2.out),hbj⟩
      case measure=>simp[intOf];omega
     have hje:j=n:=by omega
     subst hje
     have HE:=zh (show wr.ownsRow w1.heap.size 3 1 u7 (lvls (outAt O) j (k+1)).length ((toI (lvls (outAt O) j (k+1))).flatMap intCs) by
      have:=hown2.out
      rw[lvls,List.length_append]
      exact this)
     clear hown2
     go_wp2_with fail
     go_roundw
     case rel=>exact⟨k+1,by omega,by go_num,HE,hbj⟩
     case measure=>simp[intOf];omega
   have hke:k=n:=by omega
   subst hke
   have ho:=hown.out
   rw[<-HO.out.1] at ho
   obtain⟨A9,c9,e9,hc9,hs9⟩:=own_sli ho (by simp) (by
    intro a ha
    obtain⟨x,hx,rfl⟩:=List.mem_map.1 ha
    rcases HO.out.2.2.2 x hx with h | h
    ·exact z50 (by omega) (by omega)
    exact z50 (by omega) (by omega))
   subst e9
   have HS:=zh (ai hs9 hc9)
   clear ho hs9 hc9 hown
   have hBr:Below w.heap.size w wr:=z01 hB1 hbr hB1.size
   go_wp2_with fail
   go_ret2
   have hlen:(toI od).length=od.length:=by simp[toI]
   exact⟨A9,c9,by rw[hlen];rfl,by rw[hlen];exact HS.out.2,by rw[hlen];exact HS.out.1.mono (fun b hb=>⟨by have:=hb.1;have:=hB1.size;omega,hb.2⟩),hBr⟩
 have hro:z3u l=([],(rankR l).2.2):=by rw[z3u,if_neg he]
 rw[hro]
 obtain⟨lo,lc,er,hr⟩:∃ lo lc er,rankR l=(lo,lc,er):=⟨_,_,_,rfl⟩
 rw[hr] at he ⊢
 have g1:(er != 0)=true:=by simpa using he
 have hof':∀ w,Sl w (old w) 9 (RFld w (old w)) L n l->Calls Tryz.prog 62 #[.slice L n d] w (fun e w'=>∃ A c B d,e=.returned (.tuple #[.slice A lo.length c,.slice B lc.length d,.int .i64 er])/\Below w.heap.size w w'):=fun w h=>(hof w h).mono (fun e w' q=>by
  rw[hr] at q
  obtain⟨A,c,B,d,q1,q2,q3,q4,q5,q6⟩:=q
  exact⟨A,c,B,d,q1,q6⟩)
 show Calls Tryz.prog 75 #[.slice L n d] w (zbj w ([],er))
 clear hof hl he hr hro hn hN hst
 go_enter Tryz.func75,Tryz.ntmps75
 go_wp2_with fail
 refine (hof' _ (HL.out.1.nowN z02 bel)).mono ?_;rintro e w1 ⟨A1,c1,B1,d1,rfl,hb1⟩;refine zb hb1 ?_;rintro ⟨hc1,hf1⟩ hz1 hy1 hx1;refine szz w1 w ?_;intros
 go_wp2_with fail
 go_ret2
 exact⟨none,0,rfl,nr _,Sl.nil,bel⟩
end Go.Proofs.YtldhlpjjcnlbcaaGreat
/- What hangs on a field: plain laws. No program text is walked here. -/
namespace Go.Proofs.YtldhlpjjcnlbcaaGreat
def hgK (nd:List (List Nat))(a:Nat):Nat -> Nat -> Bool
 | 0,i=>i==a
 | k+1,i=>i==a||(ndAt nd i).any (hgK nd a k)
theorem zfj {nd:List (List Nat)}{k i r s:Nat}(h:rkL nd k i=some r)(hs:s∈ndAt nd i):∃ q,rkL nd r s=some q/\q<r:=by
 obtain⟨_,_,h3⟩:=z6a h
 obtain⟨q,hq⟩:=Option.isSome_iff_exists.1 (h3 s hs)
 exact⟨q,hq,(z6a hq).1⟩
def hangs (nd:List (List Nat))(a N i:Nat):Bool:=hgK nd a N i
def metJ (nd:List (List Nat))(a N:Nat)(ord:List Nat)(j i:Nat):Bool:=i==a||((ord.take j).any (fun x=>x==i)&&hangs nd a N i)
theorem ord_ahead {O:Nat -> Int}{N j x s:Nat}(hx:(ordK O N)[j]?=some x)(hs:s<N)(hlt:O s<O x):s∈(ordK O N).take j:=by
 have hj:=(List.getElem?_eq_some_iff.1 hx).1
 have hxe:(ordK O N)[j]=x:=by rw[gq hj] at hx;exact Option.some.inj hx
 obtain⟨i,hi,he⟩:=List.mem_iff_getElem.1 ((z5j O N s).2 hs)
 rcases Nat.lt_trichotomy i j with h | h | h
 ·exact List.mem_iff_getElem.2 ⟨i,by rw[List.length_take];omega,by rw[List.getElem_take];exact he⟩
 ·subst h;rw[hxe] at he;subst he;omega
 have hp:=List.pairwise_iff_getElem.1 (z8c O N) j i hj hi h
 rw[hxe,he] at hp
 unfold ltR at hp
 omega
def z7k (nd:List (List Nat))(a N:Nat):List Nat:=(List.range N).filter (hangs nd a N)
end Go.Proofs.YtldhlpjjcnlbcaaGreat
