/- Texts merged (mergeh.py): Frm HeldX. -/
import Derived.Test.YtldhlpjjcnlbcaaGreatRnk7
import Derived.Test.YtldhlpjjcnlbcaaGreatPCk
import Derived.Test.YtldhlpjjcnlbcaaGreatPag2
import Derived.Test.YtldhlpjjcnlbcaaGreatOpen
import Derived.Test.YtldhlpjjcnlbcaaGreatTypes
/- Texts merged: Frm FrmT FrmB. -/
set_option maxRecDepth 100000
set_option maxHeartbeats 8000000
/- sheet.Check and the reference FormFault. -/
namespace Go.Proofs.YtldhlpjjcnlbcaaGreat
open Go.RowKit
def formErr (F:List Fld)(P:List Pag):Int:=if (rankR F).2.2≠0 then (rankR F).2.2 else pagesErr P F
def z2i (F:List Fld):Prop:=(∀ f∈F,f.source.nodes<=1048576)/\∀ f∈F,inS f.name/\∀ s∈askN f.source,inS s
def RFo (w:World)(B:Option Addr)(m d:Nat)(F:List Fld)(A:Option Addr)(n c:Nat)(P:List Pag):Prop :=
 inB 112 m/\m<=d/\inB 120 n/\n<=c/\Sl w (old w) 9 (RFld w (old w)) B m F/\Sl w (old w) 8 (RPag w (old w)) A n P
theorem RFo.now {w w':World}{B A:Option Addr}{m d n c:Nat}{F:List Fld}{P:List Pag}(h:RFo w B m d F A n c P)(hb:Below w.heap.size w w'):RFo w' B m d F A n c P :=
 ⟨h.1,h.2.1,h.2.2.1,h.2.2.2.1,h.2.2.2.2.1.nowN z02 hb,h.2.2.2.2.2.nowN z0d hb⟩
theorem zhg {l:List Fld}{lo:List Int}{lc:List ByteArray}{er:Int}(hr:rankR l=(lo,lc,er)){w:World}{e:Ending}{w':World}(h:RetRk w (rankR l) e w') :
  ∃ A c B d,e=.returned (.tuple #[.slice A lo.length c,.slice B lc.length d,.int .i64 er])/\lo.length<=c/\lc.length<=d/\Sl w' (fresh w w') 1 RInt A lo.length lo/\Sl w' (fresh w w') 1 RStr B lc.length lc/\Below w.heap.size w w':=by
 rw[hr] at h;exact h
theorem z5n (B:Option Addr)(m d:Nat)(F:List Fld)(A:Option Addr)(n c:Nat)(P:List Pag)(w:World)(hX:RFo w B m d F A n c P)(hO:z2i F) :
  Calls Tryz.prog 22 #[.agg #[.slice B m d,.slice A n c]] w (RetI w (formErr F P)):=by
 obtain⟨lo,lc,er,hr⟩:∃ lo lc er,rankR F=(lo,lc,er):=⟨_,_,_,rfl⟩
 have h1:=fun w (h:RFo w B m d F A n c P)=>rank_Of F B m d w h.1 h.2.1 h.2.2.2.2.1 hO.1 hO.2
 have h2:=fun w (h:RFo w B m d F A n c P)=>page_Check P A n c F B m d w (h.2.2.1.l (by decide)) h.2.2.2.1 h.1 h.2.2.2.2.2 h.2.2.2.2.1
 have HX:=zh hX
 have HR:=zh hr
 have hfe:formErr F P=if er≠0 then er else pagesErr P F:=by unfold formErr;rw[hr]
 clear hX hO hr
 by_cases he:er=0
 ·rw[hfe,if_neg (by simpa using he)]
  subst he
  clear hfe
  go_enter Tryz.func22,Tryz.ntmps22
  go_wp2_with fail
  refine (h1 _ (HX.out.now bel)).mono ?_;intro e w1 q1;obtain⟨A1,c1,B1,d1,rfl,_,_,_,_,hb1⟩:=zhg HR.out q1;clear q1;refine zb hb1 ?_;rintro ⟨hc1,hf1⟩ hz1 hy1 hx1;refine szz w1 w ?_;intros
  go_wp2_with fail
  refine (h2 _ (HX.out.now bel)).mono ?_;rintro e w2 ⟨rfl,hb2⟩;refine zb hb2 ?_;rintro ⟨hc2,hf2⟩ hz2 hy2 hx2;refine szz w2 w ?_;intros;refine szz w2 w1 ?_;intros
  go_wp2_with fail
  go_ret
  exact⟨rfl,bel⟩
 rw[hfe,if_pos he]
 have g1:(er != 0)=true:=by simpa using he
 clear hfe
 go_enter Tryz.func22,Tryz.ntmps22
 go_wp2_with fail
 refine (h1 _ (HX.out.now bel)).mono ?_;intro e w1 q1;obtain⟨A1,c1,B1,d1,rfl,_,_,_,_,hb1⟩:=zhg HR.out q1;clear q1;refine zb hb1 ?_;rintro ⟨hc1,hf1⟩ hz1 hy1 hx1;refine szz w1 w ?_;intros
 go_wp2_with fail
 go_ret
 exact⟨rfl,bel⟩
theorem z58 (B:Option Addr)(m d:Nat)(F:List Fld)(A:Option Addr)(n c:Nat)(P:List Pag)(w:World)(hX:RFo w B m d F A n c P)(hO:z2i F) :
  Calls Tryz.prog 26 #[.agg #[.slice B m d,.slice A n c]] w (RetI w (formErr F P)):=by
 obtain⟨lo,lc,er,hr⟩:∃ lo lc er,rankR F=(lo,lc,er):=⟨_,_,_,rfl⟩
 have h1:=fun w (h:RFo w B m d F A n c P)=>z6w F B m d w h.1 h.2.2.2.2.1 hO.1 hO.2
 have h2:=fun w (h:RFo w B m d F A n c P)=>zcj P A n c F B m d w (h.2.2.1.l (by decide)) h.2.2.2.1 h.1 h.2.2.2.2.2 h.2.2.2.2.1
 have HX:=zh hX
 have HR:=zh hr
 have hfe:formErr F P=if er≠0 then er else pagesErr P F:=by unfold formErr;rw[hr]
 clear hX hO hr
 by_cases he:er=0
 ·rw[hfe,if_neg (by simpa using he)]
  subst he
  clear hfe
  go_enter Tryz.func26,Tryz.ntmps26
  go_wp2_with fail
  refine (h1 _ (HX.out.now bel)).mono ?_;intro e w1 q1;obtain⟨A1,c1,B1,d1,rfl,_,_,_,_,hb1⟩:=zhg HR.out q1;clear q1;refine zb hb1 ?_;rintro ⟨hc1,hf1⟩ hz1 hy1 hx1;refine szz w1 w ?_;intros
  go_wp2_with fail
  refine (h2 _ (HX.out.now bel)).mono ?_;rintro e w2 ⟨rfl,hb2⟩;refine zb hb2 ?_;rintro ⟨hc2,hf2⟩ hz2 hy2 hx2;refine szz w2 w ?_;intros;refine szz w2 w1 ?_;intros
  go_wp2_with fail
  go_ret
  exact⟨rfl,bel⟩
 rw[hfe,if_pos he]
 have g1:(er != 0)=true:=by simpa using he
 clear hfe
 go_enter Tryz.func26,Tryz.ntmps26
 go_wp2_with fail
 refine (h1 _ (HX.out.now bel)).mono ?_;intro e w1 q1;obtain⟨A1,c1,B1,d1,rfl,_,_,_,_,hb1⟩:=zhg HR.out q1;clear q1;refine zb hb1 ?_;rintro ⟨hc1,hf1⟩ hz1 hy1 hx1;refine szz w1 w ?_;intros
 go_wp2_with fail
 go_ret
 exact⟨rfl,bel⟩
end Go.Proofs.YtldhlpjjcnlbcaaGreat
/- sheet.Inputs, sheet.Free and what the law holds them against. (printed by mkfrmt.py) -/
namespace Go.Proofs.YtldhlpjjcnlbcaaGreat
open Go.RowKit
def inpTo (F:List Fld):Nat -> List Int
 | 0=>[]
 | k+1=>inpTo F k++(match (F)[k]? with | some f=>if f.kind=1 then [(k:Int)] else [] | none=>[])
def z4z (F:List Fld)(P:List Pag):Nat -> List ByteArray
 | 0=>[]
 | k+1=>z4z F P k++(match (F)[k]? with | some f=>if P.any (z1h f.name) then [] else [f.name] | none=>[])
def inpR (F:List Fld)(P:List Pag):List Int×Int:=if formErr F P=0 then (inpTo F F.length,0) else ([],formErr F P)
def freeR (F:List Fld)(P:List Pag):List ByteArray×Int:=if formErr F P=0 then (z4z F P F.length,0) else ([],formErr F P)
end Go.Proofs.YtldhlpjjcnlbcaaGreat
/- What bulk bounds; what a form that is handed in holds. -/
namespace Go.Proofs.YtldhlpjjcnlbcaaGreat
open Go.ChangeShapes Go.WideShapes Go.ChangeAt Go.RowKit
mutual
theorem z1u:∀ x:Exp,x.nodes<=x.bulk
 | .mk op v nm args=>by
  have:=z1i args
  simp only[Exp.bulk,Exp.nodes]
  omega
theorem z1i:∀ l:List Exp,z1o l<=Exp.bulk.bulks l
 | []=>by simp[z1o]
 | a::l=>by
  have:=z1u a
  have:=z1i l
  simp only[Exp.bulk.bulks,z1o]
  omega
end
theorem z30:∀ l:List Fld,(l.map Fld.bulk).sum<=1048576->∀ f∈l,f.source.nodes<=1048576
 | [],_=>fun f hf=>absurd hf List.not_mem_nil
 | a::l,h=>by
  simp only[List.map_cons,List.sum_cons] at h
  intro f hf
  rcases List.mem_cons.1 hf with rfl | hf
  ·have:=z1u f.source
   have e:f.bulk=f.name.size+f.source.bulk+1:=rfl
   omega
  exact z30 l (by omega) f hf
theorem z83 {α:Type}{w:World}{S:Nat -> Prop}{size:Nat}{R:List Value->α->Prop}{A:Option Addr}{n:Nat}{l:List α}(h:Sl w S size R A n l):∀ a∈l,∃ cs,R cs a:=by
 intro a ha
 obtain⟨i,hi,rfl⟩:=List.mem_iff_getElem.1 ha
 have hn:0<n:=by rw[<-h.1];omega
 obtain⟨b,o,e,hs,hc⟩:=h.2 hn
 obtain⟨cs,h1,_⟩:=hc i l[i] (gq hi)
 exact⟨cs,h1⟩
theorem z5i {w:World}{A:Option Addr}{n:Nat}{l:List Fld}(h:Sl w (old w) 9 (RFld w (old w)) A n l):∀ f∈l,inS f.name/\∀ s∈askN f.source,inS s:=by
 intro f hf
 obtain⟨cs,hr⟩:=z83 h f hf
 exact⟨hr.1,z5y hr.2.2.2.choose_spec.2⟩
theorem RFrm.parts {w:World}{cs:List Value}{f:Frm}(h:RFrm w (old w) cs f)(hb:f.bulk<=1048576) :
  ∃ A n c A2 n2 c2,cs=[.slice A n c,.slice A2 n2 c2]/\RFo w A n c f.fields A2 n2 c2 f.pages/\z2i f.fields:=by
 obtain⟨A,n,c,A2,n2,c2,rfl,hn,hnc,hn2,hnc2,hs,hs2⟩:=h
 exact⟨A,n,c,A2,n2,c2,rfl,⟨hn,hnc,hn2,hnc2,hs,hs2⟩,z30 f.fields (by unfold Frm.bulk at hb;omega),z5i hs⟩
end Go.Proofs.YtldhlpjjcnlbcaaGreat
/- More cells carried to another world (long families; struck from Types, which most texts import). -/
set_option maxRecDepth 100000
set_option maxHeartbeats 8000000
namespace Go.Proofs.YtldhlpjjcnlbcaaGreat
open Go.RowKit
theorem held5 {w0 w' w1:World}{N:Nat}{p0 p1 p2 p3 p4:Addr}{v0 v1 v2 v3 v4:Value}(h:w'.cell? p0=some v0/\w'.cell? p1=some v1/\w'.cell? p2=some v2/\w'.cell? p3=some v3/\w'.cell? p4=some v4/\Below N w0 w'/\N<=w'.heap.size)(hb:Below w'.heap.size w' w1):w1.cell? p0=some v0/\w1.cell? p1=some v1/\w1.cell? p2=some v2/\w1.cell? p3=some v3/\w1.cell? p4=some v4/\Below N w0 w1/\N<=w1.heap.size:=by
 obtain⟨h0,h1,h2,h3,h4,hb0,hl⟩:=h
 exact⟨z00 h0 hb,z00 h1 hb,z00 h2 hb,z00 h3 hb,z00 h4 hb,z01 hb0 hb hl,Nat.le_trans hl hb.size⟩
theorem held5d {w0 w':World}{N:Nat}{p0 p1 p2 p3 p4:Addr}{v0 v1 v2 v3 v4:Value}(h:w'.cell? p0=some v0/\w'.cell? p1=some v1/\w'.cell? p2=some v2/\w'.cell? p3=some v3/\w'.cell? p4=some v4/\Below N w0 w'/\N<=w'.heap.size):w'.drew.cell? p0=some v0/\w'.drew.cell? p1=some v1/\w'.drew.cell? p2=some v2/\w'.drew.cell? p3=some v3/\w'.drew.cell? p4=some v4/\Below N w0 w'.drew/\N<=w'.drew.heap.size:=by
 obtain⟨h0,h1,h2,h3,h4,hb0,hl⟩:=h
 exact⟨h0,h1,h2,h3,h4,hb0.drew,hl⟩
theorem held10 {w0 w' w1:World}{N:Nat}{p0 p1 p2 p3 p4 p5 p6 p7 p8 p9:Addr}{v0 v1 v2 v3 v4 v5 v6 v7 v8 v9:Value}(h:w'.cell? p0=some v0/\w'.cell? p1=some v1/\w'.cell? p2=some v2/\w'.cell? p3=some v3/\w'.cell? p4=some v4/\w'.cell? p5=some v5/\w'.cell? p6=some v6/\w'.cell? p7=some v7/\w'.cell? p8=some v8/\w'.cell? p9=some v9/\Below N w0 w'/\N<=w'.heap.size)(hb:Below w'.heap.size w' w1):w1.cell? p0=some v0/\w1.cell? p1=some v1/\w1.cell? p2=some v2/\w1.cell? p3=some v3/\w1.cell? p4=some v4/\w1.cell? p5=some v5/\w1.cell? p6=some v6/\w1.cell? p7=some v7/\w1.cell? p8=some v8/\w1.cell? p9=some v9/\Below N w0 w1/\N<=w1.heap.size:=by
 obtain⟨h0,h1,h2,h3,h4,h5,h6,h7,h8,h9,hb0,hl⟩:=h
 exact⟨z00 h0 hb,z00 h1 hb,z00 h2 hb,z00 h3 hb,z00 h4 hb,z00 h5 hb,z00 h6 hb,z00 h7 hb,z00 h8 hb,z00 h9 hb,z01 hb0 hb hl,Nat.le_trans hl hb.size⟩
theorem held10d {w0 w':World}{N:Nat}{p0 p1 p2 p3 p4 p5 p6 p7 p8 p9:Addr}{v0 v1 v2 v3 v4 v5 v6 v7 v8 v9:Value}(h:w'.cell? p0=some v0/\w'.cell? p1=some v1/\w'.cell? p2=some v2/\w'.cell? p3=some v3/\w'.cell? p4=some v4/\w'.cell? p5=some v5/\w'.cell? p6=some v6/\w'.cell? p7=some v7/\w'.cell? p8=some v8/\w'.cell? p9=some v9/\Below N w0 w'/\N<=w'.heap.size):w'.drew.cell? p0=some v0/\w'.drew.cell? p1=some v1/\w'.drew.cell? p2=some v2/\w'.drew.cell? p3=some v3/\w'.drew.cell? p4=some v4/\w'.drew.cell? p5=some v5/\w'.drew.cell? p6=some v6/\w'.drew.cell? p7=some v7/\w'.drew.cell? p8=some v8/\w'.drew.cell? p9=some v9/\Below N w0 w'.drew/\N<=w'.drew.heap.size:=by
 obtain⟨h0,h1,h2,h3,h4,h5,h6,h7,h8,h9,hb0,hl⟩:=h
 exact⟨h0,h1,h2,h3,h4,h5,h6,h7,h8,h9,hb0.drew,hl⟩
theorem rows8a {w w1:World}{x:Obj}{b:Nat}{v0 v1 v2 v3 v4 v5 v6 v7:Value}(h:(w.alloc x).cell? ⟨b,0,none⟩=some v0/\(w.alloc x).cell? ⟨b,1,none⟩=some v1/\(w.alloc x).cell? ⟨b,2,none⟩=some v2/\(w.alloc x).cell? ⟨b,3,none⟩=some v3/\(w.alloc x).cell? ⟨b,4,none⟩=some v4/\(w.alloc x).cell? ⟨b,5,none⟩=some v5/\(w.alloc x).cell? ⟨b,6,none⟩=some v6/\(w.alloc x).cell? ⟨b,7,none⟩=some v7)(hk:w1.heap[b]?=w.heap[b]?)(hb:b<w.heap.size):w1.cell? ⟨b,0,none⟩=some v0/\w1.cell? ⟨b,1,none⟩=some v1/\w1.cell? ⟨b,2,none⟩=some v2/\w1.cell? ⟨b,3,none⟩=some v3/\w1.cell? ⟨b,4,none⟩=some v4/\w1.cell? ⟨b,5,none⟩=some v5/\w1.cell? ⟨b,6,none⟩=some v6/\w1.cell? ⟨b,7,none⟩=some v7 :=
 rows8b h (hk.trans (Below.heap_alloc w x b hb).symm)
theorem rowg8c {w w1:World}{b g:Nat}{u v0 v1 v2 v3 v4 v5 v6 v7:Value}(h:(w.cell? ⟨b,0,none⟩=some v0/\w.cell? ⟨b,1,none⟩=some v1/\w.cell? ⟨b,2,none⟩=some v2/\w.cell? ⟨b,3,none⟩=some v3/\w.cell? ⟨b,4,none⟩=some v4/\w.cell? ⟨b,5,none⟩=some v5/\w.cell? ⟨b,6,none⟩=some v6/\w.cell? ⟨b,7,none⟩=some v7)/\w.cell? ⟨g,1,none⟩=some u)(hb:Below w.heap.size w w1):(w1.cell? ⟨b,0,none⟩=some v0/\w1.cell? ⟨b,1,none⟩=some v1/\w1.cell? ⟨b,2,none⟩=some v2/\w1.cell? ⟨b,3,none⟩=some v3/\w1.cell? ⟨b,4,none⟩=some v4/\w1.cell? ⟨b,5,none⟩=some v5/\w1.cell? ⟨b,6,none⟩=some v6/\w1.cell? ⟨b,7,none⟩=some v7)/\w1.cell? ⟨g,1,none⟩=some u :=
 ⟨rows8c h.1 hb,z00 h.2 hb⟩
theorem rowg8a {w w1:World}{x:Obj}{b g:Nat}{u v0 v1 v2 v3 v4 v5 v6 v7:Value}(h:((w.alloc x).cell? ⟨b,0,none⟩=some v0/\(w.alloc x).cell? ⟨b,1,none⟩=some v1/\(w.alloc x).cell? ⟨b,2,none⟩=some v2/\(w.alloc x).cell? ⟨b,3,none⟩=some v3/\(w.alloc x).cell? ⟨b,4,none⟩=some v4/\(w.alloc x).cell? ⟨b,5,none⟩=some v5/\(w.alloc x).cell? ⟨b,6,none⟩=some v6/\(w.alloc x).cell? ⟨b,7,none⟩=some v7)/\(w.alloc x).cell? ⟨g,1,none⟩=some u)(hk:w1.heap[b]?=w.heap[b]?)(hb:b<w.heap.size)(hk2:w1.heap[g]?=w.heap[g]?)(hb2:g<w.heap.size):(w1.cell? ⟨b,0,none⟩=some v0/\w1.cell? ⟨b,1,none⟩=some v1/\w1.cell? ⟨b,2,none⟩=some v2/\w1.cell? ⟨b,3,none⟩=some v3/\w1.cell? ⟨b,4,none⟩=some v4/\w1.cell? ⟨b,5,none⟩=some v5/\w1.cell? ⟨b,6,none⟩=some v6/\w1.cell? ⟨b,7,none⟩=some v7)/\w1.cell? ⟨g,1,none⟩=some u :=
 ⟨rows8a h.1 hk hb,(World.cell?_of_block (w:=(w.alloc x)) (a:=⟨g,1,none⟩) (hk2.trans (Below.heap_alloc w x g hb2).symm)).trans h.2⟩
theorem rowg8n {w:World}{x:Obj}{b g:Nat}{u v0 v1 v2 v3 v4 v5 v6 v7:Value}(h:(w.cell? ⟨b,0,none⟩=some v0/\w.cell? ⟨b,1,none⟩=some v1/\w.cell? ⟨b,2,none⟩=some v2/\w.cell? ⟨b,3,none⟩=some v3/\w.cell? ⟨b,4,none⟩=some v4/\w.cell? ⟨b,5,none⟩=some v5/\w.cell? ⟨b,6,none⟩=some v6/\w.cell? ⟨b,7,none⟩=some v7)/\w.cell? ⟨g,1,none⟩=some u):((w.alloc x).cell? ⟨b,0,none⟩=some v0/\(w.alloc x).cell? ⟨b,1,none⟩=some v1/\(w.alloc x).cell? ⟨b,2,none⟩=some v2/\(w.alloc x).cell? ⟨b,3,none⟩=some v3/\(w.alloc x).cell? ⟨b,4,none⟩=some v4/\(w.alloc x).cell? ⟨b,5,none⟩=some v5/\(w.alloc x).cell? ⟨b,6,none⟩=some v6/\(w.alloc x).cell? ⟨b,7,none⟩=some v7)/\(w.alloc x).cell? ⟨g,1,none⟩=some u :=
 rowg8c h ((Below.refl _ _).alloc (nr _) _)
theorem rows9b {w w1:World}{b:Nat}{v0 v1 v2 v3 v4 v5 v6 v7 v8:Value}(h:w.cell? ⟨b,0,none⟩=some v0/\w.cell? ⟨b,1,none⟩=some v1/\w.cell? ⟨b,2,none⟩=some v2/\w.cell? ⟨b,3,none⟩=some v3/\w.cell? ⟨b,4,none⟩=some v4/\w.cell? ⟨b,5,none⟩=some v5/\w.cell? ⟨b,6,none⟩=some v6/\w.cell? ⟨b,7,none⟩=some v7/\w.cell? ⟨b,8,none⟩=some v8)(hk:w1.heap[b]?=w.heap[b]?):w1.cell? ⟨b,0,none⟩=some v0/\w1.cell? ⟨b,1,none⟩=some v1/\w1.cell? ⟨b,2,none⟩=some v2/\w1.cell? ⟨b,3,none⟩=some v3/\w1.cell? ⟨b,4,none⟩=some v4/\w1.cell? ⟨b,5,none⟩=some v5/\w1.cell? ⟨b,6,none⟩=some v6/\w1.cell? ⟨b,7,none⟩=some v7/\w1.cell? ⟨b,8,none⟩=some v8:=by
 obtain⟨h0,h1,h2,h3,h4,h5,h6,h7,h8⟩:=h
 exact⟨(World.cell?_of_block (w:=w) (a:=⟨b,0,none⟩) hk).trans h0,(World.cell?_of_block (w:=w) (a:=⟨b,1,none⟩) hk).trans h1,(World.cell?_of_block (w:=w) (a:=⟨b,2,none⟩) hk).trans h2,(World.cell?_of_block (w:=w) (a:=⟨b,3,none⟩) hk).trans h3,(World.cell?_of_block (w:=w) (a:=⟨b,4,none⟩) hk).trans h4,(World.cell?_of_block (w:=w) (a:=⟨b,5,none⟩) hk).trans h5,(World.cell?_of_block (w:=w) (a:=⟨b,6,none⟩) hk).trans h6,(World.cell?_of_block (w:=w) (a:=⟨b,7,none⟩) hk).trans h7,(World.cell?_of_block (w:=w) (a:=⟨b,8,none⟩) hk).trans h8⟩
theorem rows9c {w w1:World}{b:Nat}{v0 v1 v2 v3 v4 v5 v6 v7 v8:Value}(h:w.cell? ⟨b,0,none⟩=some v0/\w.cell? ⟨b,1,none⟩=some v1/\w.cell? ⟨b,2,none⟩=some v2/\w.cell? ⟨b,3,none⟩=some v3/\w.cell? ⟨b,4,none⟩=some v4/\w.cell? ⟨b,5,none⟩=some v5/\w.cell? ⟨b,6,none⟩=some v6/\w.cell? ⟨b,7,none⟩=some v7/\w.cell? ⟨b,8,none⟩=some v8)(hb:Below w.heap.size w w1):w1.cell? ⟨b,0,none⟩=some v0/\w1.cell? ⟨b,1,none⟩=some v1/\w1.cell? ⟨b,2,none⟩=some v2/\w1.cell? ⟨b,3,none⟩=some v3/\w1.cell? ⟨b,4,none⟩=some v4/\w1.cell? ⟨b,5,none⟩=some v5/\w1.cell? ⟨b,6,none⟩=some v6/\w1.cell? ⟨b,7,none⟩=some v7/\w1.cell? ⟨b,8,none⟩=some v8 :=
 rows9b h (hb.block b (block_lt_of_cell (a:=⟨b,0,none⟩) h.1))
theorem rows9a {w w1:World}{x:Obj}{b:Nat}{v0 v1 v2 v3 v4 v5 v6 v7 v8:Value}(h:(w.alloc x).cell? ⟨b,0,none⟩=some v0/\(w.alloc x).cell? ⟨b,1,none⟩=some v1/\(w.alloc x).cell? ⟨b,2,none⟩=some v2/\(w.alloc x).cell? ⟨b,3,none⟩=some v3/\(w.alloc x).cell? ⟨b,4,none⟩=some v4/\(w.alloc x).cell? ⟨b,5,none⟩=some v5/\(w.alloc x).cell? ⟨b,6,none⟩=some v6/\(w.alloc x).cell? ⟨b,7,none⟩=some v7/\(w.alloc x).cell? ⟨b,8,none⟩=some v8)(hk:w1.heap[b]?=w.heap[b]?)(hb:b<w.heap.size):w1.cell? ⟨b,0,none⟩=some v0/\w1.cell? ⟨b,1,none⟩=some v1/\w1.cell? ⟨b,2,none⟩=some v2/\w1.cell? ⟨b,3,none⟩=some v3/\w1.cell? ⟨b,4,none⟩=some v4/\w1.cell? ⟨b,5,none⟩=some v5/\w1.cell? ⟨b,6,none⟩=some v6/\w1.cell? ⟨b,7,none⟩=some v7/\w1.cell? ⟨b,8,none⟩=some v8 :=
 rows9b h (hk.trans (Below.heap_alloc w x b hb).symm)
end Go.Proofs.YtldhlpjjcnlbcaaGreat
