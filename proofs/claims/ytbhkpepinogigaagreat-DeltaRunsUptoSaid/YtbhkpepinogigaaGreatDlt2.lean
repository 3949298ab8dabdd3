/- delta.Run. -/
import Derived.Test.YtbhkpepinogigaaGreatDlt1
namespace Go.Proofs.YtbhkpepinogigaaGreat
open Go.RowKit Go.Maps

section
variable {P:Program} {ops:Array Oper} {Q:Exit → Act → World → Prop}
theorem step_mapUpdate {w:World} {o:Oper} {a:Act} {K:Act → World → Prop} {E:Prop} (hgd:o.guard = none) (m x v:Operand) (t:TypeId) (hop:o.op = Op.mapUpdate t m x v) (k e:TypeId) (K1:Keyed P k) (ht:P.underlying t = some (.map k e))
  (b n:Nat) (f:Lit → Option Value) (hm:a.eval m = .map (some b)) (hown:MapIs w P k b n f) (hn:n < maxLen) (key val:Value) (kl:Lit) (hx:a.eval x = key) (hv:a.eval v = val) (hkey:keyOf P k key = some kl)
  (hK:∀ w',MapIs w' P k b (n + 1) (putAt f kl val) → w.grownBy w' (some b) → K (a.put o.dst undef) w'):if Region.wanted o (yielded ops a.tmps) = true then Oper.wp P o a w K Q else E:=by
 have hw:Region.wanted o (yielded ops a.tmps) = true:=by simp [Region.wanted,hgd]
 rw [if_pos hw]
 obtain ⟨D,h1,h2,h3⟩:=hown
 obtain ⟨w',hrun,r1,r2⟩:=h1.update K1 ht hn hkey (val:=val) (d:=.held val) (ps:=[]) rfl
 unfold Oper.wp
 simp [execOp,hop,hm,hx,hv,hrun,Result.andThen]
 exact hK w' (MapIs.put (K1.key hkey) h1 h2 h3 r1) r2
end
theorem wpList_append1d {P:Program} {ops:Array Oper} {rest:List Oper} {o:Oper} {a:Act} {Q:Exit → Act → World → Prop} {w W:World} (hgd:o.guard = none) (s x:Operand) (t:TypeId)
  (ho:o.op = .call { callee:=.builtin .append,args:=#[s,x],argTypes:=#[t,t] })
  (base:Nat) (e:TypeId) (i:TypeInfo) (z:Value) (size bytes:Nat) (ht:P.underlying t = some (.slice e)) (hi:P.info? e = some i) (hz:i.zero = some z)
  (hsize:i.size = size) (hby:i.bytes = bytes) (hzs:z.cells.size = size) (hsz:0 < size)
  (v:Value) (n:Nat) (xs:List Value) (hs:a.eval s = v) (hown:w.ownsRow base e size v n xs)
  (cs:List Value) (t':TypeId) (hW:W = w.alloc (.cells cs.toArray t')) (g:Nat) (hx:a.eval x = .slice (some ⟨g,0,none⟩) 1 1) (hg0:g = w.heap.size) (hl:cs.length = size) (h1:∀ u ∈ cs,u.oneCell' = true)
  (hbytes:(n + 1) * bytes ≤ 140737488355328) (h63:n + 1 ≤ maxLen) (hbase:base ≤ w.heap.size)
  (h:∀ v' w',w'.ownsRow base e size v' (n + 1) (xs ++ cs) → Below base w w' → w.heap.size ≤ w'.heap.size → (∀ k,k < w.heap.size → some k ≠ v.ownBlock → w'.heap[k]? = w.heap[k]?) → (v'.ownBlock = v.ownBlock ∨ ∃ k,v'.ownBlock = some k ∧ w.heap.size ≤ k) → wpList P ops Q rest (a.put o.dst v') w') :
  wpList P ops Q (o :: rest) a W:=by
 subst hW
 subst hg0
 refine wpList_plain hgd fun K hK => ?_
 obtain ⟨v',w',hr,h2,h3,h5⟩:=run_append_sl (P:=P) (w.alloc (.cells cs.toArray t')) base t o.type e i z size bytes ht hi hz hsize hby hzs hsz v n xs (hown.alloc _) (some ⟨w.heap.size,0,none⟩) 1 1 cs (by rw [hl,Nat.one_mul]) (fun p hp => by cases hp;exact news_new w cs t') (fun e => by cases e) h1 h63 hbytes (by simp;omega)
 unfold Oper.wp execOp
 simp only [ho,resolve,invoke,builtin,Sem.run_bind,Sem.run_pure,Result.andThen_ok,List.map_toArray,List.map_cons,List.map_nil,hs,hx,hr]
 have hsz':=h3.size
 simp only [World.size_alloc] at hsz'
 refine hK _ _ (h v' w' h2 ?_ (by omega) (fun k hk hne => ?_) ?_)
 ·exact ((Below.refl base w).alloc hbase _).grown h3 (by simp;omega) fun k hk => (hown.lt k hk).1
 ·rw [h3.block k (by simp;omega) hne]
  exact Below.heap_alloc w _ k hk
 ·rcases h5 with h5 | h5
  ·exact .inl h5
  ·exact .inr ⟨_,h5,by simp⟩
def RetVS (w:World) (r:List Val × List ByteArray × Int) (e:Ending) (w':World):Prop :=
 ∃ A c B d,e = .returned (.tuple #[.slice A r.1.length c,.slice B r.2.1.length d,.int .i64 r.2.2]) ∧ r.1.length ≤ c ∧ r.2.1.length ≤ d ∧ Sl w' (old w') 3 RVal A r.1.length r.1 ∧ Sl w' (old w') 1 RStr B r.2.1.length r.2.1 ∧ Below w.heap.size w w'
theorem RetVS.err {w w':World} (er:Int) {e:Ending} (h:e = .returned (.tuple #[.slice none 0 0,.slice none 0 0,.int .i64 er])) (hb:Below w.heap.size w w'):RetVS w ([],[],er) e w' :=
 ⟨none,0,none,0,h,Nat.le_refl _,Nat.le_refl _,Sl.nil,Sl.nil,hb⟩
section
variable {F:List Fld} {P:List Pag} {ins orc:List Fct} {old:List Val} {nm:ByteArray}
theorem deltaR_told (h:toldErr F P ins orc ≠ 0):deltaR F P ins orc old nm = ([],[],toldErr F P ins orc):=by unfold deltaR;rw [if_pos h]
theorem deltaR_none (h:toldErr F P ins orc = 0) (h1:F.any (hasName nm) = false):deltaR F P ins orc old nm = ([],[],5):=by unfold deltaR;rw [if_neg (by simpa using h),if_pos h1]
theorem deltaR_size (h:toldErr F P ins orc = 0) (h1:F.any (hasName nm) = true) (h2:old.length ≠ F.length):deltaR F P ins orc old nm = ([],[],1):=by unfold deltaR;rw [if_neg (by simpa using h),if_neg (by simp [h1]),if_pos h2]
theorem deltaR_vals (h:toldErr F P ins orc = 0) (h1:F.any (hasName nm) = true) (h2:old.length = F.length) (h3:valsErr old ≠ 0):deltaR F P ins orc old nm = ([],[],valsErr old):=by unfold deltaR;rw [if_neg (by simpa using h),if_neg (by simp [h1]),if_neg (by simpa using h2),if_pos h3]
theorem deltaR_ok (h:toldErr F P ins orc = 0) (h1:F.any (hasName nm) = true) (h2:old.length = F.length) (h3:valsErr old = 0):deltaR F P ins orc old nm = ((dTo F ins orc old nm (ordF F) F.length).out,(dTo F ins orc old nm (ordF F) F.length).seen,0):=by
 unfold deltaR;rw [if_neg (by simpa using h),if_neg (by simp [h1]),if_neg (by simpa using h2),if_neg (by simpa using h3)]
end
theorem namedF_wfD {F:List Fld} {vs:List Val} (hF:∀ f ∈ F,inS f.name) (hv:∀ v ∈ vs,v.wf):∀ a ∈ namedF F vs,a.wf:=by
 intro a ha
 obtain ⟨i,f,v,hf,hq,rfl⟩:=namedF_mem ha
 exact ⟨hF f (List.mem_of_getElem? hf),noVal_wf,hv v (List.mem_of_getElem? hq)⟩
set_option maxRecDepth 100000 in
set_option maxHeartbeats 8000000 in
theorem delta_Run (B:Option Addr) (m d:Nat) (F:List Fld) (A:Option Addr) (n c:Nat) (P:List Pag) (A1:Option Addr) (n1 c1:Nat) (ins:List Fct) (A2:Option Addr) (n2 c2:Nat) (orc:List Fct) (Vb:Option Addr) (nv cv:Nat) (V:List Val) (nm:ByteArray) (w:World)
  (hX:RFo w B m d F A n c P) (hO:FldsOk F) (hY:RIO w A1 n1 c1 ins A2 n2 c2 orc) (hnv:inB 32 nv) (hcv:nv ≤ cv) (hV:Sl w (old w) 3 RVal Vb nv V) :
  Calls Tryz.prog 37 #[.agg #[.slice B m d,.slice A n c],.slice A1 n1 c1,.slice A2 n2 c2,.slice Vb nv cv,.string nm] w (RetVS w (deltaR F P ins orc V nm)):=by
 have h1:=fun w h h' => whole_Check B m d F A n c P A1 n1 c1 ins A2 n2 c2 orc w h hO h'
 have h2:=fun w (h:RFo w B m d F A n c P) => field_Find B m d F nm w (h.1.l (by decide)) h.2.2.2.2.1
 have hml:=hX.2.2.2.2.1.len
 have hvl:=hV.len
 have hn1:=hX.1.l (by decide)
 have hn2:=hnv.l (by decide)
 unfold inL at hn1 hn2
 have HX:=Lib.hid (And.intro hX (And.intro hY hV))
 obtain ⟨rr,hrr⟩:∃ rr,rr = deltaR F P ins orc V nm:=⟨_,rfl⟩
 rw [← hrr]
 by_cases he:toldErr F P ins orc = 0
 ·rw [he] at h1
  cases ha:F.any (hasName nm)
  ·rw [deltaR_none he ha] at hrr
   subst hrr
   have hfr:findRes (hasName nm) F = (0,5):=by unfold findRes;rw [ha];rfl
   rw [hfr] at h2
   clear hX hY hO he ha hfr hnv hcv hV
   go_enter Tryz.func37,Tryz.ntmps37
   go_wp2_with (first
    | (go_at_call 32;refine (h1 _ (HX.out.1.now bel) (HX.out.2.1.now bel)).mono ?_;rintro e w1 ⟨rfl,hb1⟩;obtain ⟨hc1,hf1⟩:=bcell hb1;(try simp only [bqh,bqc,bqf] at hc1 hf1);have hz1:=hb1.size;(try simp at hz1);(try have hy1:=nl1 hz1);(try have hx1:=nl2 hy1);refine szz w1 w ?_;intros)
    | (go_at_call 57;refine (h2 _ (HX.out.1.now bel)).mono ?_;rintro e w2 ⟨rfl,hb2⟩;obtain ⟨hc2,hf2⟩:=bcell hb2;(try simp only [bqh,bqc,bqf] at hc2 hf2);have hz2:=hb2.size;(try simp at hz2);(try have hy2:=nl1 hz2);(try have hx2:=nl2 hy2);refine szz w2 w ?_;intros;refine szz w2 w1 ?_;intros))
   refine bodyPost_ret (v:=.tuple #[.slice none 0 0,.slice none 0 0,.int .i64 5]) (by first | (simp [results,Tryz.results37,go_sem];done) | (simp [results,Tryz.results37,go_sem, *];done)) rfl ?_
   exact RetVS.err _ rfl bel
  ·have hfr:findRes (hasName nm) F = ((firstAt (hasName nm) F:Int),0):=by unfold findRes;rw [ha];rfl
   rw [hfr] at h2
   generalize firstAt (hasName nm) F = fa at *
   by_cases hl:V.length = F.length
   ·obtain rfl:nv = m:=by omega
    have g0:((nv:Int) != (nv:Int)) = false:=by simp
    have hok:=toldErr_ok he
    have HE:=Lib.hid (And.intro he (And.intro ha (And.intro hl (And.intro hrr (And.intro hml (And.intro hvl (And.intro hok hO)))))))
    clear hX hY he hl hrr hml hvl hO hfr ha hV hok
    go_enter Tryz.func37,Tryz.ntmps37
    go_wp2_with (first
     | (go_at_call 32;refine (h1 _ (HX.out.1.now bel) (HX.out.2.1.now bel)).mono ?_;rintro e w1 ⟨rfl,hb1⟩;obtain ⟨hc1,hf1⟩:=bcell hb1;(try simp only [bqh,bqc,bqf] at hc1 hf1);have hz1:=hb1.size;(try simp at hz1);(try have hy1:=nl1 hz1);(try have hx1:=nl2 hy1);refine szz w1 w ?_;intros)
     | (go_at_call 57;refine (h2 _ (HX.out.1.now bel)).mono ?_;rintro e w2 ⟨rfl,hb2⟩;obtain ⟨hc2,hf2⟩:=bcell hb2;(try simp only [bqh,bqc,bqf] at hc2 hf2);have hz2:=hb2.size;(try simp at hz2);(try have hy2:=nl1 hz2);(try have hx2:=nl2 hy2);refine szz w2 w ?_;intros;refine szz w2 w1 ?_;intros))
    have hB2:Below w.heap.size w w2:=bel
    have hlw:w.heap.size < w2.heap.size:=by have:=hb1.size;have:=hb2.size;simp at *;omega
    have q0:w2.cell? ⟨w.heap.size,0,none⟩ = some (.slice B nv d):=by go_simp
    clear hb1 hb2 hc1 hc2 hf1 hf2 h1 h2
    go_loopw [55] (fun i wr => ∃ k:Nat,k ≤ nv ∧ i = .int .i64 k ∧ Hid (firstErr (valErr V) k = 0) ∧ Below w2.heap.size w2 wr) (fun i _ => nv - (intOf i).toNat)
    case atStart => exact ⟨0,by omega,rfl,Lib.hid rfl,Below.refl _ _⟩
    case round =>
     obtain ⟨k,hk,rfl,hz,hbr⟩:=hrel
     have hBr:Below w.heap.size w wr:=below_step hB2 hbr (by omega)
     have hlr:w.heap.size < wr.heap.size:=Nat.lt_of_lt_of_le hlw hbr.size
     by_cases hlt:k < nv
     ·obtain ⟨b,o,v,hAe,hbl,hlv,hwf,x0,x1,x2⟩:=Val_at (HX.out.2.2.now hBr) hlt
      subst hAe
      have hbl':b < wr.heap.size:=hbl
      have hch:=fun w => value_Check v.k v.n v.s w (inS_max hwf.2.2)
      rw [show (⟨v.k,v.n,v.s⟩:Val) = v from rfl] at hch
      by_cases hv:valCheck v = 0
      ·rw [hv] at hch
       have HL:=Lib.hid (And.intro hlv hv)
       clear hlv hwf hbl hv
       go_wp2_with (go_at_call 67;refine (hch _).mono ?_;rintro e w3 ⟨rfl,hb3⟩;obtain ⟨hc3,hf3⟩:=bcell hb3;(try simp only [bqh,bqc,bqf] at hc3 hf3);have hz3:=hb3.size;(try simp at hz3);(try have hy3:=nl1 hz3);(try have hx3:=nl2 hy3);refine szz w3 wr ?_;intros)
       go_roundw
       case rel => exact ⟨k + 1,by omega,by go_num,Lib.hid (firstErr_next hz.out ((valErr_at HL.out.1).trans HL.out.2)),below_step hbr (show Below wr.heap.size wr w3 from bel) hbr.size⟩
       case measure => simp [intOf];omega
      ·have gv:(valCheck v != 0) = true:=by simpa using hv
       have HL:=Lib.hid (And.intro hlv hv)
       clear hlv hwf hbl hv
       obtain ⟨ve,hve⟩:∃ ve,ve = valCheck v:=⟨_,rfl⟩
       rw [← hve] at gv
       simp only [← hve] at hch
       have HV:=Lib.hid hve
       clear hve
       go_wp2_with (go_at_call 67;refine (hch _).mono ?_;rintro e w3 ⟨rfl,hb3⟩;obtain ⟨hc3,hf3⟩:=bcell hb3;(try simp only [bqh,bqc,bqf] at hc3 hf3);have hz3:=hb3.size;(try simp at hz3);(try have hy3:=nl1 hz3);(try have hx3:=nl2 hy3);refine szz w3 wr ?_;intros)
       refine bodyPost_ret (v:=.tuple #[.slice none 0 0,.slice none 0 0,.int .i64 ve]) (by first | (simp [results,Tryz.results37,go_sem];done) | (simp [results,Tryz.results37,go_sem, *];done)) rfl ?_
       have hh:=valsErr_hit hz.out HL.out.1 HL.out.2
       rw [HE.out.2.2.2.1,deltaR_vals HE.out.1 HE.out.2.1 HE.out.2.2.1 (by rw [hh];exact HL.out.2),hh,← HV.out]
       exact RetVS.err _ rfl (below_step hBr (show Below wr.heap.size wr w3 from bel) hBr.size)
     ·have hke:k = nv:=by omega
      subst hke
      have hval:valsErr V = 0:=by unfold valsErr;rw [HE.out.2.2.2.2.2.1];exact hz.out
      have hra:=deltaR_ok (P:=P) HE.out.1 HE.out.2.1 HE.out.2.2.1 hval
      rw [← HE.out.2.2.2.1,HE.out.2.2.2.2.1] at hra
      have hok:=HE.out.2.2.2.2.2.2.1
      have hfn:=HE.out.2.2.2.2.2.2.2
      have hfe:=(rankR_zero hok.1).1
      have h14:k ≤ 14:=by rw [← HE.out.2.2.2.2.1];exact (fieldsErr_all hfe).1
      have h3:=fun w (h:RFo w B k d F A n c P) => rank_Order F B k d w h.1 h.2.1 h.2.2.2.2.1 hfn.1 hfn.2
      have hor:orderR F = (toI (ordF F),0):=by unfold orderR;rw [if_pos hok.1]
      have hol:(ordF F).length = k:=by unfold ordF;rw [ordK_len,HE.out.2.2.2.2.1]
      have hil:(toI (ordF F)).length = k:=by unfold toI;rw [List.length_map,hol]
      have h3':∀ w (h:RFo w B k d F A n c P),Calls Tryz.prog 14 #[.slice B k d] w (fun e w' => ∃ A c,e = .returned (.tuple #[.slice A k c,.int .i64 0]) ∧ k ≤ c ∧ Sl w' (old w') 1 RInt A k (toI (ordF F)) ∧ Below w.heap.size w w'):=by
       intro w h
       refine (h3 w h).mono ?_
       rintro e w' ⟨A,c,q1,q2,q3,q4⟩
       rw [hor] at q1 q2 q3
       dsimp only at q1 q2 q3
       rw [hil] at q1 q2 q3
       exact ⟨A,c,q1,q2,q3.mono (fun b hb => hb.2),q4⟩
      have h4:=fun w h => clone_Val Vb k cv V w hnv h
      have HVL:=Lib.hid HE.out.2.2.2.2.2.1
      have hvo:∀ v ∈ V,valCheck v = 0:=valsErr_ok hval
      have hout:∀ j,(dTo F ins orc V nm (ordF F) j).out.length = k:=fun j => by rw [dTo_len HE.out.2.2.1,HE.out.2.2.2.2.1]
      have hoo:=fun j => dTo_ok (nm:=nm) (ord:=ordF F) hok hvo j
      have hsl:=fun j => dTo_seen (F:=F) (ins:=ins) (orc:=orc) (old:=V) (nm:=nm) (ord:=ordF F) j
      have hsn:=fun j => dTo_in (ins:=ins) (orc:=orc) (old:=V) (nm:=nm) (ord:=ordF F) (p:=inS) (fun f hf => (hfn.2 f hf).1) j
      have HD:=Lib.hid (And.intro hra (And.intro hok (And.intro hfn (And.intro hfe (And.intro hol (And.intro hil (And.intro hout (And.intro hoo (And.intro hsl hsn)))))))))
      have r0:=cell_keep q0 hbr
      have hmm:=@run_makeMap Tryz.prog
      clear hval hra hok hfn hfe h3 hor hol hil hvo hout hoo hsl hsn q0 hz HE
      generalize hwq:wr = wq at *
      clear hwq
      go_wp2_with (first
       | (go_at_call 14;refine (h3' _ (HX.out.1.now (show Below w.heap.size w _ from bel))).mono ?_;rintro e w3 ⟨A5,c5,rfl,hc5,hs5,hb3⟩;obtain ⟨hc3,hf3⟩:=bcell hb3;(try simp only [bqh,bqc,bqf] at hc3 hf3);have hz3:=hb3.size;(try simp at hz3);(try have hy3:=nl1 hz3);(try have hx3:=nl2 hy3);refine szz w3 w ?_;intros;refine szz w3 wq ?_;intros)
       | (go_at_call 86;refine (h4 _ (HX.out.2.2.now (show Below w.heap.size w _ from bel))).mono ?_;rintro e w4 ⟨v4,rfl,ho4,hb4⟩;rw [HVL.out] at ho4;obtain ⟨hc4,hf4⟩:=bcell hb4;(try simp only [bqh,bqc,bqf] at hc4 hf4);have hz4:=hb4.size;(try simp at hz4);(try have hy4:=nl1 hz4);(try have hx4:=nl2 hy4);refine szz w4 w ?_;intros;refine szz w4 wq ?_;intros;refine szz w4 w3 ?_;intros))
      have hB4:Below w.heap.size w w4:=below_step hBr (below_chain hb3 hb4) hBr.size
      have hB34:=hb4
      have hlw4:w.heap.size < w4.heap.size:=by omega
      have hlw3:w.heap.size < w3.heap.size:=by omega
      have k0:w3.cell? ⟨w.heap.size,0,none⟩ = some (.slice B k d):=cell_keep r0 hb3
      have hB3:Below w.heap.size w w3:=below_step hBr hb3 hBr.size
      obtain ⟨Ao,co,rfl,hco,hs4⟩:=ownValR ho4 HVL.out (Sl.all_wf HX.out.2.2 fun _ _ h => h.2)
      have HS5:=Lib.hid hs5
      have HS4:=Lib.hid hs4
      obtain ⟨D,hDq⟩:∃ D,D = dTo F ins orc V nm (ordF F):=⟨_,rfl⟩
      simp only [← hDq] at HD
      have hDst:=fun (j i:Nat) (x:Fld) (h:(ordF F)[j]? = some i) (hx:(F)[i]? = some x) => dTo_step (ins:=ins) (orc:=orc) (old:=V) (nm:=nm) h hx
      have hDnw:=fun (j i:Nat) (x:Fld) (h:(ordF F)[j]? = some i) (hx:(F)[i]? = some x) => dTo_new (ins:=ins) (orc:=orc) (old:=V) (nm:=nm) HD.out.2.2.2.1 h hx
      simp only [← hDq] at hDst hDnw
      have hD0:D 0 = ⟨V,[],[]⟩:=by rw [hDq,dTo]
      have HDD:=Lib.hid (And.intro hDst (And.intro hDnw hD0))
      have HDQ:=Lib.hid hDq
      clear hDq hDst hDnw hD0 hs5 hs4
      obtain ⟨W5,hW5⟩:∃ W,W = ((w4.alloc (.map #[] 0)).alloc (.cells #[.map (some w4.heap.size)] 120)):=⟨_,rfl⟩
      have hm5:MapIs W5 Tryz.prog 9 w4.heap.size 0 (fun _ => none):=by rw [hW5];exact (MapIs.made _ _ _).kept (World.grownBy_alloc _ _ none) (by simp)
      have hb5:Below w4.heap.size w4 W5:=by rw [hW5];exact ((Below.refl _ _).alloc (Nat.le_refl _) _).alloc (by simp) _
      have hbx:W5.cell? ⟨w4.heap.size + 1,0,none⟩ = some (.map (some w4.heap.size)):=by rw [hW5];go_simp
      have hz5:w4.heap.size + 2 = W5.heap.size:=by rw [hW5];simp
      have ho5:=Lib.hid (ownsRow_keep ho4 hb5)
      have HM5:=Lib.hid hm5
      rw [← hW5]
      clear hW5 ho4 hm5 hb3 hb4 hc3 hc4 hf3 hf4 r0 h3' h4
      have h6:=fun (Vb:Option Addr) (cv:Nat) (V:List Val) (w:World) h h' => delta_facts B k d F Vb cv V w h14 h h'
      obtain ⟨i0,ei,ez0,ez1,ez2⟩:=info_parts Tryz.infoStr'
      go_loopw [22,76] (fun sn i wr => ∃ j:Nat,j ≤ k ∧ i = .int .i64 j ∧ Hid (wr.ownsRow (w4.heap.size + 2) 9 1 sn (D j).seen.length ((D j).seen.flatMap strCs)) ∧ Hid (wr.ownsRow w3.heap.size 73 3 (.slice Ao k co) k ((D j).out.flatMap Val.cs)) ∧
       Hid (∃ g cnt,cnt ≤ j ∧ MapIs wr Tryz.prog 9 w4.heap.size cnt g ∧ ChgIs g (D j).chg) ∧ wr.cell? ⟨w4.heap.size + 1,0,none⟩ = some (.map (some w4.heap.size)) ∧ w4.heap.size + 2 ≤ wr.heap.size ∧ Below w3.heap.size w3 wr) (fun _ i _ => k - (intOf i).toNat)
      case atStart =>
       refine ⟨0,by omega,rfl,Lib.hid (by rw [HDD.out.2.2];simpa using World.ownsRow_nil _ _ _ _),Lib.hid (by rw [HDD.out.2.2];exact ho5.out),Lib.hid ⟨_,0,Nat.le_refl _,HM5.out,by rw [HDD.out.2.2];exact ChgIs.start⟩,hbx,by omega,below_step hB34 hb5 hB34.size⟩
      case round =>
       clear hbx ho5 HM5 hb5 hz5
       obtain ⟨j,hj,rfl,hown,hout,hmap,hbx,hlr4,hb3r⟩:=hrel
       have hBr2:Below w.heap.size w wr:=below_step hB3 hb3r (by omega)
       have r0:=cell_keep k0 hb3r
       have hlr2:w.heap.size < wr.heap.size:=by omega
       by_cases hlt2:j < k
       ·obtain ⟨b,o,pi,hAe,hbl,hlp,hpi,y0⟩:=Int_at (HS5.out.now hb3r) hlt2
        subst hAe
        have hbl':b < wr.heap.size:=hbl
        obtain ⟨x,hx,rfl,hxF⟩:=ord_at hlp
        have hFl:F.length = k:=HX.out.1.2.2.2.2.1.len
        have hxm:x < k:=by omega
        have hxi:(x:Int) < (k:Int):=by omega
        have hji:(j:Int) < (k:Int):=by omega
        obtain ⟨b2,o2,f,X,C,hBe,hbl2,hlf,hrep,x0,x1,x2,x3,x4,x5,x6,x7,x8⟩:=Fld_at HX.out.1.2.2.2.2.1 hxm
        have HBE:=Lib.hid hBe
        subst hBe
        have hbl3:b2 < w.heap.size:=hbl2
        have hbl2':b2 < wr.heap.size:=Nat.lt_of_lt_of_le hbl3 hBr2.size
        replace x0:=cell_keep x0 hBr2
        replace x1:=cell_keep x1 hBr2
        replace x2:=cell_keep x2 hBr2
        replace x3:=cell_keep x3 hBr2
        replace x4:=cell_keep x4 hBr2
        replace x5:=cell_keep x5 hBr2
        replace x6:=cell_keep x6 hBr2
        replace x7:=cell_keep x7 hBr2
        replace x8:=cell_keep x8 hBr2
        obtain ⟨g,cap,e9,hg3,_⟩:=hout.out.form (by omega)
        cases e9
        have hg4:g < w4.heap.size:=by
         obtain ⟨_,_,_,e8,h8,_⟩:=Val_at HS4.out hxm
         cases e8;exact h8
        have hst:=HDD.out.1 j x f hx hlf
        have hnw:=HDD.out.2.1 j x f hx hlf
        obtain ⟨_,_,_,hxr⟩:=hrep.parts
        have HXR:=Lib.hid hxr
        have hfo:=HD.out.2.1.2.1 f (List.mem_of_getElem? hlf)
        have hfN:=HD.out.2.2.1.1 f (List.mem_of_getElem? hlf)
        have hfS:=(HD.out.2.2.1.2 f (List.mem_of_getElem? hlf))
        have HFF:=Lib.hid (And.intro hst (And.intro hnw (And.intro hfo (And.intro hfN (And.intro hfS (And.intro hlf hrep))))))
        clear hlp hpi hbl hbl2 hlf hrep hx hst hnw hfo hfN hfS hxr
        go_upto_region 24 with fail
        refine wp_world ?_;intro W0 hW0
        have hB0:Below wr.heap.size wr W0:=by rw [hW0];exact bel
        have b0:W0.cell? ⟨wr.heap.size,0,none⟩ = some (.string f.name):=by rw [hW0];go_simp
        have b1:W0.cell? ⟨wr.heap.size,1,none⟩ = some (.int .i64 f.kind):=by rw [hW0];go_simp
        have b2':W0.cell? ⟨wr.heap.size,2,none⟩ = some (.int .i64 f.type):=by rw [hW0];go_simp
        have b3:W0.cell? ⟨wr.heap.size,3,none⟩ = some (.int .i64 f.source.op):=by rw [hW0];go_simp
        have b4:W0.cell? ⟨wr.heap.size,4,none⟩ = some (.int .i64 f.source.v.k):=by rw [hW0];go_simp
        have b5:W0.cell? ⟨wr.heap.size,5,none⟩ = some (.int .i64 f.source.v.n):=by rw [hW0];go_simp
        have b6:W0.cell? ⟨wr.heap.size,6,none⟩ = some (.string f.source.v.s):=by rw [hW0];go_simp
        have b7:W0.cell? ⟨wr.heap.size,7,none⟩ = some (.string f.source.name):=by rw [hW0];go_simp
        have b8:W0.cell? ⟨wr.heap.size,8,none⟩ = some (.slice X f.source.args.length C):=by rw [hW0];go_simp
        have hz0:W0.heap.size = wr.heap.size + 1:=by rw [hW0];simp
        have hzl0:wr.heap.size < W0.heap.size:=by omega
        have hlW:w.heap.size < W0.heap.size:=by omega
        have r00:=cell_keep r0 hB0
        have hbx0:=cell_keep hbx hB0
        have hB0w:Below w.heap.size w W0:=below_step hBr2 hB0 hBr2.size
        obtain ⟨gm,cnt,hcnt,hmi,hci⟩:=hmap.out
        have hmi0:=hmi.below hB0 hmi.lt
        clear hW0 x0 x1 x2 x3 x4 x5 x6 x7 x8 r0 hbx hmap y0
        go_upto_if 91 with fail
        go_cut [27] (fun s27 wx => s27 = .bool (dLooks nm (D j).chg f) ∧ Below W0.heap.size W0 wx)
        case first =>
         by_cases hk:f.kind = 1
         ·have g25:(f.kind != 1) = false:=by simpa using hk
          have hdl:(f.name.toList == nm.toList) = dLooks nm (D j).chg f:=by unfold dLooks srcN;rw [if_pos hk];simp
          have HDL:=Lib.hid hdl
          clear hdl hk
          go_wp2_with fail
          go_meet
          exact ⟨by rw [HDL.out],Below.refl _ _⟩
         ·have g25:(f.kind != 1) = true:=by simpa using hk
          have hex:=HFF.out.2.2.1.2.2 hk
          have hnr:namesR f.source = (rise (askN f.source),0):=by rw [namesR,if_pos hex]
          have h7:=fun w h => names_Of f.source X C w HFF.out.2.2.2.1 h
          rw [hnr] at h7
          have hsr:srcN f = rise (askN f.source):=by unfold srcN;rw [if_neg hk]
          have hrw:∀ a ∈ rise (askN f.source),inS a:=fun a ha => HFF.out.2.2.2.2.1.2 a ((rise_mem _ _).1 ha)
          have hrl:(rise (askN f.source)).length ≤ 1048576:=Nat.le_trans (rise_len _) (Nat.le_trans (askN_nodes _) HFF.out.2.2.2.1)
          generalize rise (askN f.source) = rs at *
          have HRS:=Lib.hid (And.intro hsr hrw)
          clear hnr hsr hrw hex hk
          cases hg:(f.name.toList == nm.toList)
          ·have hdl:dLooks nm (D j).chg f = rs.any (fun s => (D j).chg.any (isStr s)):=by unfold dLooks;rw [hg,HRS.out.1,Bool.false_or]
           have HDL:=Lib.hid hdl
           clear hdl
           go_wp2_with (first
            | (go_at_call 87;refine (h7 _ (HXR.out.keep (old_keep (show Below w.heap.size w _ from bel)))).mono ?_;rintro e w6 ⟨v6,rfl,ho6,hb6⟩;obtain ⟨A6,c6,rfl,hc6,hs6⟩:=ownStr ho6 rfl HRS.out.2;obtain ⟨hc6,hf6⟩:=bcell hb6;(try simp only [bqh,bqc,bqf] at hc6 hf6);have hz6:=hb6.size;(try simp at hz6);(try have hy6:=nl1 hz6);(try have hx6:=nl2 hy6);refine szz w6 W0 ?_;intros)
            | (go_at_call 88;refine (strs_ContChg (fun s => (D j).chg.any (isStr s)) (w4.heap.size + 1) A6 rs.length c6 rs _ (by unfold inL;omega) (hs6.now bel) (fun wz s hb hs => delta_Run1 gm (D j).chg w4.heap.size (w4.heap.size + 1) cnt s wz hs (cell_keep (cell_keep hbx0 bel) hb) ((hmi0.below (show Below W0.heap.size W0 _ from bel) hmi0.lt).below hb (by have:=hmi0.lt;omega)) hci)).mono ?_;rintro e w7 ⟨rfl,hb7⟩;obtain ⟨hc7,hf7⟩:=bcell hb7;(try simp only [bqh,bqc,bqf] at hc7 hf7);have hz7:=hb7.size;(try simp at hz7);(try have hy7:=nl1 hz7);(try have hx7:=nl2 hy7);refine szz w7 W0 ?_;intros;refine szz w7 w6 ?_;intros))
           go_meet
           exact ⟨by rw [HDL.out],bel⟩
          ·have hdl:dLooks nm (D j).chg f = true:=by unfold dLooks;rw [hg,Bool.true_or]
           have HDL:=Lib.hid hdl
           clear hdl
           go_wp2_with (go_at_call 87;refine (h7 _ (HXR.out.keep (old_keep (show Below w.heap.size w _ from bel)))).mono ?_;rintro e w6 ⟨v6,rfl,ho6,hb6⟩;obtain ⟨A6,c6,rfl,hc6,hs6⟩:=ownStr ho6 rfl HRS.out.2;obtain ⟨hc6,hf6⟩:=bcell hb6;(try simp only [bqh,bqc,bqf] at hc6 hf6);have hz6:=hb6.size;(try simp at hz6);(try have hy6:=nl1 hz6);(try have hx6:=nl2 hy6);refine szz w6 W0 ?_;intros)
           go_meet
           exact ⟨by rw [HDL.out],bel⟩
        case rest =>
         obtain ⟨rfl,hbc⟩:=hcut
         have hzc:=hbc.size
         have hbrc:Below wr.heap.size wr wc:=below_step hB0 hbc hB0.size
         have hown1:=ownsRow_keep hown.out hbrc
         have hout1:=ownsRow_keep hout.out hbrc
         have hm1:=hmi.below hbrc hmi.lt
         have hbxc:=cell_keep hbx0 hbc
         have r01:=cell_keep r00 hbc
         have hb3c:Below w3.heap.size w3 wc:=below_step hb3r hbrc hb3r.size
         cases hdl:dLooks nm (D j).chg f
         ·have hD1:D (j + 1) = D j:=by rw [HFF.out.1,if_neg (by rw [hdl];decide)]
          have HD1:=Lib.hid hD1
          clear hdl hD1
          go_wp2_with fail
          go_roundw
          case rel => exact ⟨j + 1,by omega,by go_num,Lib.hid (by rw [HD1.out];exact hown1),Lib.hid (by rw [HD1.out];exact hout1),Lib.hid ⟨gm,cnt,by omega,hm1,by rw [HD1.out];exact hci⟩,hbxc,by omega,hb3c⟩
          case measure => simp [intOf];omega
         ·obtain ⟨vq,hvq⟩:∃ vq,vq = dNew F ins orc (D j) f:=⟨_,rfl⟩
          have hD1:D (j + 1) = ⟨(D j).out.set x vq,(D j).seen ++ [f.name],if valEq vq (V[x]?.getD noVal) = true then (D j).chg else (D j).chg ++ [f.name]⟩:=by rw [HFF.out.1,if_pos hdl,hvq]
          have hvv:vq = oneV f ins orc (namedF F (D j).out):=hvq
          have HV:=Lib.hid (And.intro hD1 hvv)
          have hsz:=(HD.out.2.2.2.2.2.2.2.2.1 j).1
          have hnot:∀ q,u22.ownBlock = some q → q < wr.heap.size:=fun q hq => (hown.out.lt q hq).2
          have b0c:=cell_keep b0 hbc
          have hzlc:wr.heap.size < wc.heap.size:=by omega
          clear hdl hD1 hvq hvv
          go_upto_region 30 with (at_builtin;refine wpList_append1d rfl _ _ 37 rfl (w4.heap.size + 2) 9 i0 (.string ⟨#[]⟩) 1 16 Tryz.underlying37 ei ez0 ez1 ez2 rfl (by decide) _ (D j).seen.length _ rfl hown1 [.string f.name] 9 rfl _ rfl rfl rfl (by simp [Value.oneCell']) (by omega) (by unfold maxLen;omega) (by omega) ?_;intro v6 w6 hown6 hb6 hz6 hk6 hv6)
          have hbk:w6.heap[wr.heap.size]? = wc.heap[wr.heap.size]?:=hk6 _ (by omega) (fun e => by have:=hnot _ e.symm;omega)
          have cb0:w6.cell? ⟨wr.heap.size,0,none⟩ = some (.string f.name):=(World.cell?_of_block (a:=⟨wr.heap.size,0,none⟩) hbk).trans (cell_keep b0 hbc)
          have cb1:w6.cell? ⟨wr.heap.size,1,none⟩ = some (.int .i64 f.kind):=(World.cell?_of_block (a:=⟨wr.heap.size,1,none⟩) hbk).trans (cell_keep b1 hbc)
          have cb2:w6.cell? ⟨wr.heap.size,2,none⟩ = some (.int .i64 f.type):=(World.cell?_of_block (a:=⟨wr.heap.size,2,none⟩) hbk).trans (cell_keep b2' hbc)
          have cb3:w6.cell? ⟨wr.heap.size,3,none⟩ = some (.int .i64 f.source.op):=(World.cell?_of_block (a:=⟨wr.heap.size,3,none⟩) hbk).trans (cell_keep b3 hbc)
          have cb4:w6.cell? ⟨wr.heap.size,4,none⟩ = some (.int .i64 f.source.v.k):=(World.cell?_of_block (a:=⟨wr.heap.size,4,none⟩) hbk).trans (cell_keep b4 hbc)
          have cb5:w6.cell? ⟨wr.heap.size,5,none⟩ = some (.int .i64 f.source.v.n):=(World.cell?_of_block (a:=⟨wr.heap.size,5,none⟩) hbk).trans (cell_keep b5 hbc)
          have cb6:w6.cell? ⟨wr.heap.size,6,none⟩ = some (.string f.source.v.s):=(World.cell?_of_block (a:=⟨wr.heap.size,6,none⟩) hbk).trans (cell_keep b6 hbc)
          have cb7:w6.cell? ⟨wr.heap.size,7,none⟩ = some (.string f.source.name):=(World.cell?_of_block (a:=⟨wr.heap.size,7,none⟩) hbk).trans (cell_keep b7 hbc)
          have cb8:w6.cell? ⟨wr.heap.size,8,none⟩ = some (.slice X f.source.args.length C):=(World.cell?_of_block (a:=⟨wr.heap.size,8,none⟩) hbk).trans (cell_keep b8 hbc)
          have r06:w6.cell? ⟨w.heap.size,0,none⟩ = some (.slice (some ⟨b2,o2,none⟩) k d):=(hb6.cell (p:=⟨w.heap.size,0,none⟩) (show w.heap.size < w4.heap.size + 2 by omega)).trans r01
          have hbx6:w6.cell? ⟨w4.heap.size + 1,0,none⟩ = some (.map (some w4.heap.size)):=(hb6.cell (p:=⟨w4.heap.size + 1,0,none⟩) (show w4.heap.size + 1 < w4.heap.size + 2 by omega)).trans hbxc
          have hout6:=ownsRow_under hout1 (by omega) hb6
          have hm6:=hm1.below hb6 (by omega)
          have hb36:Below w3.heap.size w3 w6:=below_step hb3c hb6 (by omega)
          have hBw6:Below w.heap.size w w6:=below_step hB3 hb36 (by omega)
          have hlb:wr.heap.size < w6.heap.size:=by omega
          have hlw6:w.heap.size < w6.heap.size:=by omega
          clear b0c b0 b1 b2' b3 b4 b5 b6 b7 b8 hbk r01 r00 hbx0 hbxc hout1 hout hown1 hown hm1 hmi hmi0 hnot hk6
          obtain ⟨Aq,cq,eq9,_,hsq⟩:=ownValR hout6 (HD.out.2.2.2.2.2.2.1 j) (fun v hv => val_wf (HD.out.2.2.2.2.2.2.2.1 j v hv))
          cases eq9
          have hnfl:(namedF F (D j).out).length = k:=by rw [namedF_len (by rw [HD.out.2.2.2.2.2.2.1 j,hFl]),hFl]
          have hnfw:∀ a ∈ namedF F (D j).out,a.wf:=namedF_wfD (fun f hf => (HD.out.2.2.1.2 f hf).1) (fun v hv => val_wf (HD.out.2.2.2.2.2.2.2.1 j v hv))
          have h8:=fun A9 c9 w hr k1 k2 k3 => whole_One f X C A1 n1 c1 ins A2 n2 c2 orc A9 k c9 (namedF F (D j).out) w (HX.out.2.1.1.l (by decide)) (HX.out.2.1.2.2.1.l (by decide)) (by unfold inL;omega) hr k1 k2 k3
          rw [← HV.out.2] at h8
          obtain ⟨o9,ho9⟩:∃ o9,(D j).out[x]? = some o9:=⟨_,List.getElem?_eq_getElem (by rw [HD.out.2.2.2.2.2.2.1 j];exact hxm)⟩
          have hset:=flat_setV (D j).out x vq (by rw [HD.out.2.2.2.2.2.2.1 j];exact hxm)
          have hnv2:((D j).out.set x vq)[x]? = some vq:=by rw [List.getElem?_set,if_pos rfl,if_pos (by rw [HD.out.2.2.2.2.2.2.1 j];exact hxm)]
          have HN:=Lib.hid (And.intro hsq (And.intro hnfl (And.intro hnfw (And.intro ho9 (And.intro hset hnv2)))))
          have HO6:=Lib.hid (And.intro hout6 (And.intro hown6 hm6))
          clear hsq hnfl hnfw ho9 hset hnv2 hout6 hown6 hm6
          refine wp_world ?_;intro y0' hy0'
          obtain ⟨y0,hy0⟩:∃ y,y = y0'.drew:=⟨_,rfl⟩
          have hY0:Below w6.heap.size w6 y0:=by rw [hy0,hy0'];exact (Below.refl _ _).drew
          have hSS:∀ y:World,Below w6.heap.size w6 y → (y.cell? ⟨wr.heap.size,0,none⟩ = some (.string f.name) ∧ (y.cell? ⟨wr.heap.size,1,none⟩ = some (.int .i64 f.kind) ∧ (y.cell? ⟨wr.heap.size,2,none⟩ = some (.int .i64 f.type) ∧ (y.cell? ⟨wr.heap.size,3,none⟩ = some (.int .i64 f.source.op) ∧ (y.cell? ⟨wr.heap.size,4,none⟩ = some (.int .i64 f.source.v.k) ∧ (y.cell? ⟨wr.heap.size,5,none⟩ = some (.int .i64 f.source.v.n) ∧ (y.cell? ⟨wr.heap.size,6,none⟩ = some (.string f.source.v.s) ∧ (y.cell? ⟨wr.heap.size,7,none⟩ = some (.string f.source.name) ∧ (y.cell? ⟨wr.heap.size,8,none⟩ = some (.slice X f.source.args.length C) ∧ y.cell? ⟨w.heap.size,0,none⟩ = some (.slice (some ⟨b2,o2,none⟩) k d)))))))))):=fun y h => ⟨cell_keep cb0 h,cell_keep cb1 h,cell_keep cb2 h,cell_keep cb3 h,cell_keep cb4 h,cell_keep cb5 h,cell_keep cb6 h,cell_keep cb7 h,cell_keep cb8 h,cell_keep r06 h⟩
          have HSS:=Lib.hid hSS
          have hS0:=hSS y0 hY0
          clear hSS cb0 cb1 cb2 cb3 cb4 cb5 cb6 cb7 cb8 r06
          refine wp_region_T (fun w' => w'.cell? ⟨wr.heap.size,0,none⟩ = some (.string f.name) ∧ (w'.cell? ⟨wr.heap.size,1,none⟩ = some (.int .i64 f.kind) ∧ (w'.cell? ⟨wr.heap.size,2,none⟩ = some (.int .i64 f.type) ∧ (w'.cell? ⟨wr.heap.size,3,none⟩ = some (.int .i64 f.source.op) ∧ (w'.cell? ⟨wr.heap.size,4,none⟩ = some (.int .i64 f.source.v.k) ∧ (w'.cell? ⟨wr.heap.size,5,none⟩ = some (.int .i64 f.source.v.n) ∧ (w'.cell? ⟨wr.heap.size,6,none⟩ = some (.string f.source.v.s) ∧ (w'.cell? ⟨wr.heap.size,7,none⟩ = some (.string f.source.name) ∧ (w'.cell? ⟨wr.heap.size,8,none⟩ = some (.slice X f.source.args.length C) ∧ w'.cell? ⟨w.heap.size,0,none⟩ = some (.slice (some ⟨b2,o2,none⟩) k d)))))))))) 11 (by kernel_rfl) ?_
          rw [← hy0]
          clear hy0' hy0
          refine wpAnyT_take (i:=0) (oi:=_) (v:=?_) rfl (by kernel_rfl) (fun _ _ _ h => h) hS0 (by rfl) ?_ ?_
          rotate_left
          ·intro w' hS';(try dsimp only at hS');(try go_split_ands);go_simp;(try rw [if_neg (by omega)]);try with_reducible rfl
          simp only [Act.put,List.setIfInBounds_toArray,List.set_cons_zero,List.set_cons_succ]
          refine wpAnyT_take (i:=1) (oi:=_) (v:=?_) rfl (by kernel_rfl) (fun _ _ _ h => h) hS0 (by rfl) ?_ ?_
          rotate_left
          ·intro w' hS';(try dsimp only at hS');(try go_split_ands);go_simp;(try rw [if_neg (by omega)]);try with_reducible rfl
          simp only [Act.put,List.setIfInBounds_toArray,List.set_cons_zero,List.set_cons_succ]
          refine wpAnyT_take (i:=2) (oi:=_) (v:=?_) rfl (by kernel_rfl) (fun _ _ _ h => h) hS0 (by rfl) ?_ ?_
          rotate_left
          ·intro w' hS';(try dsimp only at hS');(try go_split_ands);go_simp;(try rw [if_neg (by omega)]);try with_reducible rfl
          simp only [Act.put,List.setIfInBounds_toArray,List.set_cons_zero,List.set_cons_succ]
          refine wpAnyT_take (i:=3) (oi:=_) (v:=?_) rfl (by kernel_rfl) (fun _ _ _ h => h) hS0 (by rfl) ?_ ?_
          rotate_left
          ·intro w' hS';(try dsimp only at hS');(try go_split_ands);go_simp;(try rw [if_neg (by omega)]);try with_reducible rfl
          simp only [Act.put,List.setIfInBounds_toArray,List.set_cons_zero,List.set_cons_succ]
          refine wpAnyT_take (i:=4) (oi:=_) (v:=?_) rfl (by kernel_rfl) (fun _ _ _ h => h) hS0 (by rfl) ?_ ?_
          rotate_left
          ·intro w' hS';(try dsimp only at hS');(try go_split_ands);go_simp;(try rw [if_neg (by omega)]);try with_reducible rfl
          simp only [Act.put,List.setIfInBounds_toArray,List.set_cons_zero,List.set_cons_succ]
          refine wpAnyT_take (i:=5) (oi:=_) (v:=?_) rfl (by kernel_rfl) (fun _ _ _ h => h) hS0 (by rfl) ?_ ?_
          rotate_left
          ·intro w' hS';(try dsimp only at hS');(try go_split_ands);go_simp;(try rw [if_neg (by omega)]);try with_reducible rfl
          simp only [Act.put,List.setIfInBounds_toArray,List.set_cons_zero,List.set_cons_succ]
          refine wpAnyT_take (i:=6) (oi:=_) (v:=?_) rfl (by kernel_rfl) (fun _ _ _ h => h) hS0 (by rfl) ?_ ?_
          rotate_left
          ·intro w' hS';(try dsimp only at hS');(try go_split_ands);go_simp;(try rw [if_neg (by omega)]);try with_reducible rfl
          simp only [Act.put,List.setIfInBounds_toArray,List.set_cons_zero,List.set_cons_succ]
          refine wpAnyT_take (i:=7) (oi:=_) (v:=?_) rfl (by kernel_rfl) (fun _ _ _ h => h) hS0 (by rfl) ?_ ?_
          rotate_left
          ·intro w' hS';(try dsimp only at hS');(try go_split_ands);go_simp;(try rw [if_neg (by omega)]);try with_reducible rfl
          simp only [Act.put,List.setIfInBounds_toArray,List.set_cons_zero,List.set_cons_succ]
          refine wpAnyT_one (i:=8) (o:=_) rfl (by kernel_rfl) (fun K hK => ?_)
          go_simp
          go_at_call 90;refine (h6 _ _ _ _ (HX.out.1.2.2.2.2.1.nowN keeps_Fld (below_step hBw6 hY0 hBw6.size)) (HN.out.1.now hY0)).mono ?_;rintro e y1 ⟨v7,rfl,ho7,hb7⟩
          rw [HN.out.2.1] at ho7
          obtain ⟨A7,c7,rfl,_,hs7⟩:=ownFct ho7 HN.out.2.1 HN.out.2.2.1
          have hY1:=below_step hY0 hb7 hY0.size
          have hS1:=HSS.out _ hY1
          refine hK.out _ _ (fun _ => hS1) ?_
          clear hK K
          try simp only [Act.put,List.setIfInBounds_toArray,List.set_cons_zero,List.set_cons_succ]
          refine wpAnyT_one (i:=9) (o:=_) rfl (by kernel_rfl) (fun K hK => ?_)
          go_simp
          go_at_call 81;refine (h8 A7 c7 _ (HFF.out.2.2.2.2.2.2.now (below_step hBw6 hY1 hBw6.size)) (HX.out.2.1.2.2.2.2.1.now (below_step hBw6 hY1 hBw6.size)) (HX.out.2.1.2.2.2.2.2.now (below_step hBw6 hY1 hBw6.size)) hs7).mono ?_;rintro e y2 ⟨rfl,hb8⟩
          have hY2:=below_step hY1 hb8 hY1.size
          have hS2:=HSS.out _ hY2
          refine hK.out _ _ (fun _ => hS2) ?_
          clear hK K
          try simp only [Act.put,List.setIfInBounds_toArray,List.set_cons_zero,List.set_cons_succ]
          refine wpAnyT_take (i:=10) (oi:=_) (v:=?_) rfl (by kernel_rfl) (fun _ _ _ h => h) hS2 (by rfl) ?_ ?_
          rotate_left
          ·intro w' hS';(try dsimp only at hS');(try go_split_ands);go_simp;(try rw [if_neg (by omega)]);try with_reducible rfl
          simp only [Act.put,List.setIfInBounds_toArray,List.set_cons_zero,List.set_cons_succ]
          refine wpAnyT_one (i:=11) (o:=_) rfl (by kernel_rfl) (fun K hK => ?_)
          have ho2:=ownsRow_keep HO6.out.1 hY2
          obtain ⟨e0,e1,e2⟩:=cells_ownV ho2 HN.out.2.2.2.1 hxm
          have z0:=ho2.frozenAt (x * 3)
          have z1:=ho2.frozenAt (x * 3 + 1)
          have z2:=ho2.frozenAt (x * 3 + 2)
          have hgy:g < y2.heap.size:=block_lt_of_cell e0
          go_simp
          refine hK.out _ _ (fun h => absurd h (by decide)) ?_
          clear hK K
          refine wpAnyT_done (by kernel_rfl) ?_ _
          try simp only [Act.put,List.setIfInBounds_toArray,List.set_cons_zero,List.set_cons_succ]
          go_upto_region 31 with fail
          refine wp_world ?_;intro W8 hW8
          obtain ⟨bV,oV,ov,hVe,hblV,hlV,hwfV,q0,q1,q2⟩:=Val_at HX.out.2.2 hxm
          subst hVe
          have hbV:bV < w.heap.size:=hblV
          have hBw2:Below w.heap.size w y2:=below_step hBw6 hY2 hBw6.size
          replace q0:=cell_keep q0 hBw2
          replace q1:=cell_keep q1 hBw2
          replace q2:=cell_keep q2 hBw2
          have hbx2:=cell_keep hbx6 hY2
          have hcb2:=hS2.1
          have hst:=(((ho2.stored (x * 3) (.int .i64 vq.k)).1.stored (x * 3 + 1) (.int .i64 vq.n)).1.stored (x * 3 + 2) (.string vq.s)).1
          rw [HN.out.2.2.2.2.1,← hW8] at hst
          have hsn8:W8.ownsRow (w4.heap.size + 2) 9 1 v6 ((D j).seen.length + 1) ((D j).seen.flatMap strCs ++ [.string f.name]):=by
           rw [hW8]
           exact ownsRow_setCell_below (ownsRow_setCell_below (ownsRow_setCell_below (ownsRow_keep HO6.out.2.1 hY2) (by show g < _;omega) _) (by show g < _;omega) _) (by show g < _;omega) _
          have hm8:MapIs W8 Tryz.prog 9 w4.heap.size cnt gm:=by
           refine (HO6.out.2.2.below hY2 HO6.out.2.2.lt).same ?_
           rw [hW8,Below.heap_setCell _ _ _ _ (by show w4.heap.size ≠ g;omega),Below.heap_setCell _ _ _ _ (by show w4.heap.size ≠ g;omega),Below.heap_setCell _ _ _ _ (by show w4.heap.size ≠ g;omega)]
          obtain ⟨e0',e1',e2'⟩:=cells_ownV hst HN.out.2.2.2.2.2 hxm
          have hkeep:∀ (bb:Nat) (oo:Nat),bb ≠ g → W8.cell? ⟨bb,oo,none⟩ = y2.cell? ⟨bb,oo,none⟩:=fun bb oo hne => by
           rw [hW8]
           exact World.cell?_of_block (a:=⟨bb,oo,none⟩) (by rw [Below.heap_setCell _ _ _ _ (by exact hne),Below.heap_setCell _ _ _ _ (by exact hne),Below.heap_setCell _ _ _ _ (by exact hne)])
          have t0:=(hkeep (w4.heap.size + 1) 0 (by omega)).trans hbx2
          have t1:=(hkeep wr.heap.size 0 (by omega)).trans hcb2
          have t2:=(hkeep bV (oV + x * 3) (by omega)).trans q0
          have t3:=(hkeep bV (oV + x * 3 + 1) (by omega)).trans q1
          have t4:=(hkeep bV (oV + x * 3 + 2) (by omega)).trans q2
          have hbW8:Below w3.heap.size w3 W8:=by
           rw [hW8]
           exact below_set (below_set (below_set (below_step hb36 hY2 hb36.size) hg3) hg3) hg3
          have hz8:W8.heap.size = y2.heap.size:=by rw [hW8];simp
          have hzy:=hY2.size
          have HS8:=Lib.hid (And.intro hst (And.intro hsn8 (And.intro hm8 hlV)))
          have hov:V[x]?.getD noVal = ov:=by rw [hlV];rfl
          have HC:=Lib.hid hci
          have hneq:=fun w => run_neq_Val w vq.k vq.n ov.k ov.n vq.s ov.s
          rw [show (⟨vq.k,vq.n,vq.s⟩:Val) = vq from rfl,show (⟨ov.k,ov.n,ov.s⟩:Val) = ov from rfl] at hneq
          obtain ⟨bq,hbq⟩:∃ bq,bq = valEq vq ov:=⟨_,rfl⟩
          rw [← hbq] at hneq
          have HBQ:=Lib.hid (And.intro hbq hov)
          clear hW8 hst hsn8 hm8 hlV hci hkeep q0 q1 q2 hbx2 hcb2 e0 e1 e2 z0 z1 z2 ho2 hS2 hS1 hS0 HSS hbq hov h8 hwfV
          refine wp_world ?_;intro y3' hy3'
          obtain ⟨y3,hy3⟩:∃ y,y = y3'.drew:=⟨_,rfl⟩
          have hY3:Below W8.heap.size W8 y3:=by rw [hy3,hy3'];exact (Below.refl _ _).drew
          have hS3:y3.cell? ⟨w4.heap.size + 1,0,none⟩ = some (.map (some w4.heap.size)) ∧ (y3.cell? ⟨wr.heap.size,0,none⟩ = some (.string f.name) ∧ (y3.cell? ⟨g,x * 3,none⟩ = some (.int .i64 vq.k) ∧ (y3.cell? ⟨g,x * 3 + 1,none⟩ = some (.int .i64 vq.n) ∧ (y3.cell? ⟨g,x * 3 + 2,none⟩ = some (.string vq.s) ∧ (y3.cell? ⟨bV,oV + x * 3,none⟩ = some (.int .i64 ov.k) ∧ (y3.cell? ⟨bV,oV + x * 3 + 1,none⟩ = some (.int .i64 ov.n) ∧ y3.cell? ⟨bV,oV + x * 3 + 2,none⟩ = some (.string ov.s))))))):=⟨cell_keep t0 hY3,cell_keep t1 hY3,cell_keep e0' hY3,cell_keep e1' hY3,cell_keep e2' hY3,cell_keep t2 hY3,cell_keep t3 hY3,cell_keep t4 hY3⟩
          refine wp_region_T (fun w' => w'.cell? ⟨w4.heap.size + 1,0,none⟩ = some (.map (some w4.heap.size)) ∧ (w'.cell? ⟨wr.heap.size,0,none⟩ = some (.string f.name) ∧ (w'.cell? ⟨g,x * 3,none⟩ = some (.int .i64 vq.k) ∧ (w'.cell? ⟨g,x * 3 + 1,none⟩ = some (.int .i64 vq.n) ∧ (w'.cell? ⟨g,x * 3 + 2,none⟩ = some (.string vq.s) ∧ (w'.cell? ⟨bV,oV + x * 3,none⟩ = some (.int .i64 ov.k) ∧ (w'.cell? ⟨bV,oV + x * 3 + 1,none⟩ = some (.int .i64 ov.n) ∧ w'.cell? ⟨bV,oV + x * 3 + 2,none⟩ = some (.string ov.s)))))))) 12 (by kernel_rfl) ?_
          rw [← hy3]
          clear hy3' hy3
          refine wpAnyT_take (i:=0) (oi:=_) (v:=?_) rfl (by kernel_rfl) (fun _ _ _ h => h) hS3 (by rfl) ?_ ?_
          rotate_left
          ·intro w' hS';(try dsimp only at hS');(try go_split_ands);go_simp;(try rw [if_neg (by omega)]);try with_reducible rfl
          simp only [Act.put,List.setIfInBounds_toArray,List.set_cons_zero,List.set_cons_succ]
          refine wpAnyT_take (i:=1) (oi:=_) (v:=?_) rfl (by kernel_rfl) (fun _ _ _ h => h) hS3 (by rfl) ?_ ?_
          rotate_left
          ·intro w' hS';(try dsimp only at hS');(try go_split_ands);go_simp;(try rw [if_neg (by omega)]);try with_reducible rfl
          simp only [Act.put,List.setIfInBounds_toArray,List.set_cons_zero,List.set_cons_succ]
          refine wpAnyT_take (i:=2) (oi:=_) (v:=?_) rfl (by kernel_rfl) (fun _ _ _ h => h) hS3 (by rfl) ?_ ?_
          rotate_left
          ·intro w' hS';(try dsimp only at hS');(try go_split_ands);go_simp;(try rw [if_neg (by omega)]);try with_reducible rfl
          simp only [Act.put,List.setIfInBounds_toArray,List.set_cons_zero,List.set_cons_succ]
          refine wpAnyT_take (i:=3) (oi:=_) (v:=?_) rfl (by kernel_rfl) (fun _ _ _ h => h) hS3 (by rfl) ?_ ?_
          rotate_left
          ·intro w' hS';(try dsimp only at hS');(try go_split_ands);go_simp;(try rw [if_neg (by omega)]);try with_reducible rfl
          simp only [Act.put,List.setIfInBounds_toArray,List.set_cons_zero,List.set_cons_succ]
          refine wpAnyT_take (i:=4) (oi:=_) (v:=?_) rfl (by kernel_rfl) (fun _ _ _ h => h) hS3 (by rfl) ?_ ?_
          rotate_left
          ·intro w' hS';(try dsimp only at hS');(try go_split_ands);go_simp;(try rw [if_neg (by omega)]);try with_reducible rfl
          simp only [Act.put,List.setIfInBounds_toArray,List.set_cons_zero,List.set_cons_succ]
          refine wpAnyT_take (i:=5) (oi:=_) (v:=?_) rfl (by kernel_rfl) (fun _ _ _ h => h) hS3 (by rfl) ?_ ?_
          rotate_left
          ·intro w' hS';(try dsimp only at hS');(try go_split_ands);go_simp;(try rw [if_neg (by omega)]);try with_reducible rfl
          simp only [Act.put,List.setIfInBounds_toArray,List.set_cons_zero,List.set_cons_succ]
          refine wpAnyT_take (i:=6) (oi:=_) (v:=?_) rfl (by kernel_rfl) (fun _ _ _ h => h) hS3 (by rfl) ?_ ?_
          rotate_left
          ·intro w' hS';(try dsimp only at hS');(try go_split_ands);go_simp;(try rw [if_neg (by omega)]);try with_reducible rfl
          simp only [Act.put,List.setIfInBounds_toArray,List.set_cons_zero,List.set_cons_succ]
          refine wpAnyT_take (i:=7) (oi:=_) (v:=?_) rfl (by kernel_rfl) (fun _ _ _ h => h) hS3 (by rfl) ?_ ?_
          rotate_left
          ·intro w' hS';(try dsimp only at hS');(try go_split_ands);go_simp;(try rw [if_neg (by omega)]);try with_reducible rfl
          simp only [Act.put,List.setIfInBounds_toArray,List.set_cons_zero,List.set_cons_succ]
          refine wpAnyT_take (i:=8) (oi:=_) (v:=?_) rfl (by kernel_rfl) (fun _ _ _ h => h) hS3 (by rfl) ?_ ?_
          rotate_left
          ·intro w' hS';(try dsimp only at hS');(try go_split_ands);go_simp;(try rw [if_neg (by omega)]);try with_reducible rfl
          simp only [Act.put,List.setIfInBounds_toArray,List.set_cons_zero,List.set_cons_succ]
          refine wpAnyT_take (i:=9) (oi:=_) (v:=?_) rfl (by kernel_rfl) (fun _ _ _ h => h) hS3 (by rfl) ?_ ?_
          rotate_left
          ·intro w' hS';(try dsimp only at hS');(try go_split_ands);go_simp;(try rw [if_neg (by omega)]);try with_reducible rfl
          simp only [Act.put,List.setIfInBounds_toArray,List.set_cons_zero,List.set_cons_succ]
          refine wpAnyT_take (i:=10) (oi:=_) (v:=?_) rfl (by kernel_rfl) (fun _ _ _ h => h) hS3 (by rfl) ?_ ?_
          rotate_left
          ·intro w' hS';(try dsimp only at hS');(try go_split_ands);go_simp;(try rw [if_neg (by omega)]);try with_reducible rfl
          simp only [Act.put,List.setIfInBounds_toArray,List.set_cons_zero,List.set_cons_succ]
          refine wpAnyT_take (i:=11) (oi:=_) (v:=?_) rfl (by kernel_rfl) (fun _ _ _ h => h) hS3 (by rfl) ?_ ?_
          rotate_left
          ·intro w' hS';(try dsimp only at hS');(try go_split_ands);go_simp;(try rw [if_neg (by omega)]);try with_reducible rfl
          simp only [Act.put,List.setIfInBounds_toArray,List.set_cons_zero,List.set_cons_succ]
          refine wpAnyT_one (i:=12) (o:=_) rfl (by kernel_rfl) (fun K hK => ?_)
          refine step_mapUpdate rfl (.tmp 122) (.tmp 124) (.tmp 133) 120 rfl 9 4 (Maps.string_keyed Tryz.underlying9) Tryz.underlying120 w4.heap.size cnt gm rfl (HS8.out.2.2.1.below hY3 HS8.out.2.2.1.lt) (by unfold maxLen;omega) _ _ _ rfl rfl (Tryz.keyStr f.name HFF.out.2.2.2.2.1.1) ?_
          intro w9 hm9 hg9
          refine hK.out _ _ (fun h => absurd h (by decide)) ?_
          clear hK K
          refine wpAnyT_done (by kernel_rfl) ?_ _
          try simp only [Act.put]
          go_wp2_with fail
          go_roundw
          case rel =>
           have hz9:=hg9.size
           have hzq:=hY3.size
           have hch:=HC.out.put f.name (!bq) HFF.out.2.1
           refine ⟨j + 1,by omega,by go_num,Lib.hid ?_,Lib.hid ?_,Lib.hid ⟨_,cnt + 1,by omega,hm9,?_⟩,?_,by omega,(below_step hbW8 hY3 hbW8.size).grown hg9 (by omega) (fun b e => by cases e;exact hB34.size)⟩
           ·rw [HV.out.1]
            show w9.ownsRow _ _ 1 v6 ((D j).seen ++ [f.name]).length (((D j).seen ++ [f.name]).flatMap strCs)
            rw [List.length_append,List.flatMap_append]
            exact (ownsRow_keep HS8.out.2.1 hY3).kept hg9 (.inr fun e => by have:=(HS8.out.2.1.lt _ e).1;omega)
           ·rw [HV.out.1]
            exact (ownsRow_keep HS8.out.1 hY3).kept hg9 (.inr fun e => by have:g = w4.heap.size:=Option.some.inj e;omega)
           ·rw [HV.out.1,HBQ.out.2,← HBQ.out.1]
            cases bq
            ·exact hch
            ·exact hch
           ·exact (World.cell?_of_block (a:=⟨w4.heap.size + 1,0,none⟩) (hg9.block (w4.heap.size + 1) (by omega) (fun e => by have:=Option.some.inj e;omega))).trans (cell_keep t0 hY3)
          case measure => simp [intOf];omega
       ·have hke2:j = k:=by omega
        subst hke2
        have hD:=HD.out.1
        obtain ⟨A8,c8,e8,hc8,hs8⟩:=ownStr hown.out rfl (HD.out.2.2.2.2.2.2.2.2.2 j).1
        subst e8
        obtain ⟨A9,c9,e9,hc9,hs9⟩:=ownValR hout.out (HD.out.2.2.2.2.2.2.1 j) (fun v hv => val_wf (HD.out.2.2.2.2.2.2.2.1 j v hv))
        cases e9
        have HZ:=Lib.hid (And.intro hs8 (And.intro hs9 (And.intro hc8 hD)))
        clear hs8 hs9 hc8 hD hown hout hmap
        go_wp2_with fail
        refine bodyPost_ret (v:=.tuple #[.slice Ao j co,.slice A8 (D j).seen.length c8,.int .i64 0]) (by first | (simp [results,Tryz.results37,go_sem];done) | (simp [results,Tryz.results37,go_sem, *];done)) rfl ?_
        rw [HZ.out.2.2.2]
        refine ⟨Ao,co,A8,c8,by rw [HD.out.2.2.2.2.2.2.1 j],by rw [HD.out.2.2.2.2.2.2.1 j];exact hco,HZ.out.2.2.1,?_,HZ.out.1,hBr2⟩
        rw [HD.out.2.2.2.2.2.2.1 j]
        exact HZ.out.2.1
   ·have g0:((nv:Int) != (m:Int)) = true:=by simp;omega
    rw [deltaR_size he ha hl] at hrr
    subst hrr
    clear hX hY hO he ha hfr hnv hcv hV hl
    go_enter Tryz.func37,Tryz.ntmps37
    go_wp2_with (first
     | (go_at_call 32;refine (h1 _ (HX.out.1.now bel) (HX.out.2.1.now bel)).mono ?_;rintro e w1 ⟨rfl,hb1⟩;obtain ⟨hc1,hf1⟩:=bcell hb1;(try simp only [bqh,bqc,bqf] at hc1 hf1);have hz1:=hb1.size;(try simp at hz1);(try have hy1:=nl1 hz1);(try have hx1:=nl2 hy1);refine szz w1 w ?_;intros)
     | (go_at_call 57;refine (h2 _ (HX.out.1.now bel)).mono ?_;rintro e w2 ⟨rfl,hb2⟩;obtain ⟨hc2,hf2⟩:=bcell hb2;(try simp only [bqh,bqc,bqf] at hc2 hf2);have hz2:=hb2.size;(try simp at hz2);(try have hy2:=nl1 hz2);(try have hx2:=nl2 hy2);refine szz w2 w ?_;intros;refine szz w2 w1 ?_;intros))
    refine bodyPost_ret (v:=.tuple #[.slice none 0 0,.slice none 0 0,.int .i64 1]) (by first | (simp [results,Tryz.results37,go_sem];done) | (simp [results,Tryz.results37,go_sem, *];done)) rfl ?_
    exact RetVS.err _ rfl bel
 ·rw [deltaR_told he] at hrr
  subst hrr
  have g0:(toldErr F P ins orc != 0) = true:=by simpa using he
  generalize toldErr F P ins orc = er at *
  clear hX hY hO he hnv hcv hV h2
  go_enter Tryz.func37,Tryz.ntmps37
  go_wp2_with (go_at_call 32;refine (h1 _ (HX.out.1.now bel) (HX.out.2.1.now bel)).mono ?_;rintro e w1 ⟨rfl,hb1⟩;obtain ⟨hc1,hf1⟩:=bcell hb1;(try simp only [bqh,bqc,bqf] at hc1 hf1);have hz1:=hb1.size;(try simp at hz1);(try have hy1:=nl1 hz1);(try have hx1:=nl2 hy1);refine szz w1 w ?_;intros)
  refine bodyPost_ret (v:=.tuple #[.slice none 0 0,.slice none 0 0,.int .i64 er]) (by first | (simp [results,Tryz.results37,go_sem];done) | (simp [results,Tryz.results37,go_sem, *];done)) rfl ?_
  exact RetVS.err _ rfl bel
end Go.Proofs.YtbhkpepinogigaaGreat
