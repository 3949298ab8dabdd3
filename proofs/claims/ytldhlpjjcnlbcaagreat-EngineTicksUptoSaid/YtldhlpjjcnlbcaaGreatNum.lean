/- Texts merged (mergeh.py): Num. -/
import Derived.Test.YtldhlpjjcnlbcaaGreatTypes
import Derived.Deep.QuietTactic
import Derived.BigQuiet
/- Texts merged: PlainNum Num. -/
set_option maxRecDepth 100000
set_option maxHeartbeats 8000000
/- Plain facts on the division of integers. -/
namespace Go.Proofs.YtldhlpjjcnlbcaaGreat
theorem tdiv_bd (a b:Int):(a.tdiv b).natAbs<=a.natAbs:=by
 rw[Int.natAbs_tdiv];exact Nat.div_le_self _ _
theorem tmod_bd (a b:Int)(h:b≠0):(a.tmod b).natAbs<b.natAbs:=by
 rw[Int.natAbs_tmod];exact Nat.mod_lt _ (by omega)
theorem tmod_sign (a b:Int):(0<=a->0<=a.tmod b)/\(a<=0->a.tmod b<=0):=by
 refine⟨fun h=>Int.tmod_nonneg _ h,fun h=>?_⟩
 have:=Int.tmod_nonneg (a:=-a) b (by omega)
 rw[Int.neg_tmod] at this
 omega
theorem zbo (a b:Int)(h:b≠0)(h1:a.tmod b=0\/(decide (a.tmod b<0)==decide (b<0))=true):a.fdiv b=a.tdiv b/\a.fmod b=a.tmod b:=by
 have hs:=tmod_sign a b
 have hd:=@Int.dvd_iff_tmod_eq_zero b a
 have hsg:(0<b->b.sign=1)/\(b<0->b.sign=-1):=⟨Int.sign_eq_one_of_pos,Int.sign_eq_neg_one_of_neg⟩
 rw[Int.fdiv_eq_tdiv,Int.fmod_eq_tmod]
 by_cases hv:b ∣ a
 ·simp[hv]
 have hn:a.tmod b≠0:=fun e=>hv (hd.2 e)
 have h1':(a.tmod b<0↔b<0):=by rcases h1 with h1 | h1;exact absurd h1 hn;simpa using h1
 simp only[hv,if_false]
 have hb:=Int.lt_or_gt_of_ne h
 rcases hb with hb | hb<;>by_cases ha:0<=a<;>simp only[ha,if_true,if_false]
 ·omega
 ·have:¬ (0<=b):=by omega
  simp only[this,if_false,hsg.2 hb];omega
 ·have:(0<=b):=by omega
  simp only[this,if_true];omega
 omega
theorem zf5 (a b:Int)(h:b≠0)(h0:¬ a.tmod b=0)(h1:(!decide (a.tmod b<0)==decide (b<0))=true):a.fdiv b=a.tdiv b-1/\a.fmod b=a.tmod b+b:=by
 have hs:=tmod_sign a b
 have hd:=@Int.dvd_iff_tmod_eq_zero b a
 have hsg:(0<b->b.sign=1)/\(b<0->b.sign=-1):=⟨Int.sign_eq_one_of_pos,Int.sign_eq_neg_one_of_neg⟩
 have h1':¬ (a.tmod b<0↔b<0):=by
  by_cases x:a.tmod b<0<;>by_cases y:b<0<;>simp[x,y] at h1 ⊢
 have hv:¬ b ∣ a:=fun e=>h0 (hd.1 e)
 rw[Int.fdiv_eq_tdiv,Int.fmod_eq_tmod]
 simp only[hv,if_false]
 have hb:=Int.lt_or_gt_of_ne h
 rcases hb with hb | hb<;>by_cases ha:0<=a<;>simp only[ha,if_true,if_false]
 ·have:¬ (0<=b):=by omega
  simp[this]
 ·omega
 ·omega
 have:(0<=b):=by omega
 simp[this,hsg.1 hb];try omega
theorem mul_same (a b:Int)(h:(!decide (a<0)==decide (b<0))=false):a*b=(a.natAbs:Int)*(b.natAbs:Int):=by
 have h':(a<0↔b<0):=by simpa using h
 rcases (by omega:a<0\/0<=a) with ha | ha
 ·have hb:=h'.1 ha
  rw[show (a.natAbs:Int)=-a by omega,show (b.natAbs:Int)=-b by omega,Int.neg_mul_neg]
 have hb:¬ b<0:=fun e=>by have:=h'.2 e;omega
 rw[show (a.natAbs:Int)=a by omega,show (b.natAbs:Int)=b by omega]
theorem mul_other (a b:Int)(h:(!decide (a<0)==decide (b<0))=true):a*b=-((a.natAbs:Int)*(b.natAbs:Int)):=by
 have h':¬ (a<0↔b<0):=by
  by_cases x:a<0<;>by_cases y:b<0<;>simp[x,y] at h ⊢
 rcases (by omega:a<0\/0<=a) with ha | ha
 ·have hb:¬ b<0:=fun e=>h' ⟨fun _=>e,fun _=>ha⟩
  rw[show (a.natAbs:Int)=-a by omega,show (b.natAbs:Int)=b by omega,Int.neg_mul,Int.neg_neg]
 have hb:b<0:=by
  rcases (by omega:b<0\/0<=b) with e | e
  ·exact e
  exact absurd ⟨fun x=>by omega,fun x=>by omega⟩ h'
 rw[show (a.natAbs:Int)=a by omega,show (b.natAbs:Int)=-b by omega,Int.mul_neg,Int.neg_neg]
theorem mul_abs (a b:Int):a*b=(a.natAbs:Int)*(b.natAbs:Int)\/a*b=-((a.natAbs:Int)*(b.natAbs:Int)):=by
 cases h:(!decide (a<0)==decide (b<0))
 ·exact .inl (mul_same a b h)
 exact .inr (mul_other a b h)
theorem fdiv_of (a b:Int)(h:b≠0):a.tdiv b=a.fdiv b\/a.tdiv b=a.fdiv b+1:=by
 by_cases h0:a.tmod b=0
 ·exact .inl (zbo a b h (.inl h0)).1.symm
 cases h1:(decide (a.tmod b<0)==decide (b<0))
 ·have:=(zf5 a b h h0 (by simp[h1])).1
  omega
 exact .inl (zbo a b h (.inr h1)).1.symm
theorem fmod_bd (a b:Int):(0<b->0<=a.fmod b/\a.fmod b<b)/\(b<0->a.fmod b<=0/\b<a.fmod b):=by
 refine⟨fun h=>⟨?_,Int.fmod_lt_of_pos a h⟩,fun h=>?_⟩
 ·rw[Int.fmod_eq_emod_of_nonneg _ (by omega)];exact Int.emod_nonneg _ (by omega)
 have h1:a.fmod b=-((-a).fmod (-b)):=by rw[Int.neg_fmod_neg,Int.neg_neg]
 have h2:0<=(-a).fmod (-b):=by rw[Int.fmod_eq_emod_of_nonneg _ (by omega)];exact Int.emod_nonneg _ (by omega)
 have h3:=Int.fmod_lt_of_pos (-a) (b:=-b) (by omega)
 omega
theorem div_at (a b:Int):(0<b->a.fdiv b*b<=a/\a<a.fdiv b*b+b)/\(b<0->a<=a.fdiv b*b/\a.fdiv b*b+b<a):=by
 have h:=Int.mul_fdiv_add_fmod a b
 rw[Int.mul_comm] at h
 have:=fmod_bd a b
 constructor<;>intro hb<;>omega
theorem div_up (a b v:Int)(hv:v=a.fdiv b+1):(0<b->a<v*b/\v*b<=a+b)/\(b<0->v*b<a/\a+b<=v*b):=by
 have h:=div_at a b
 have e:v*b=a.fdiv b*b+b:=by rw[hv,Int.add_mul,Int.one_mul]
 constructor<;>intro hb<;>omega
theorem mod_of (a b:Int):a-a.fdiv b*b=a.fmod b:=by
 have h:=Int.mul_fdiv_add_fmod a b
 rw[Int.mul_comm] at h
 omega
theorem fdiv_bd (a b:Int)(h:b≠0)(h1:-1099511627776<=a)(h2:a<=1099511627776):-1099511627777<=a.fdiv b/\a.fdiv b<=1099511627776:=by
 have:=fdiv_of a b h
 have:=tdiv_bd a b
 omega
theorem fdiv_in (a b:Int)(h1:-1099511627776<=a)(h2:a<=1099511627776):-1099511627776<=a.fdiv b:=by
 by_cases h:b=0
 ·subst h;simp
 by_cases h0:a.tmod b=0
 ·have:=(zbo a b h (.inl h0)).1;have:=tdiv_bd a b;omega
 cases h1:(decide (a.tmod b<0)==decide (b<0))
 ·have e:=(zf5 a b h h0 (by simp[h1])).1
  have hb:(a.tdiv b).natAbs<a.natAbs\/b=1\/b=-1:=by
   by_cases hb:b.natAbs<=1
   ·omega
   rw[Int.natAbs_tdiv]
   by_cases ha:a.natAbs=0
   ·have:a=0:=by omega
    subst this;simp at h0
   exact .inl (Nat.div_lt_self (by omega) (by omega))
  rcases hb with hb | rfl | rfl
  ·omega
  ·simp at h0
  simp at h0
 have:=(zbo a b h (.inr h1)).1;have:=tdiv_bd a b;omega
end Go.Proofs.YtldhlpjjcnlbcaaGreat
/- The numbers of package num and of the references: what each function returns. No conditions but those named. -/
namespace Go.Proofs.YtldhlpjjcnlbcaaGreat
open Go.RowKit
def z0o (n:Int):Int:=if n < -1099511627776\/1099511627776<n then 7 else 0
theorem z11 {n:Int}(h:z0o n=0):-1099511627776<=n/\n<=1099511627776:=by
 unfold z0o at h;split at h<;>omega
theorem z9w {n:Int}(h:-1099511627776<=n)(h':n<=1099511627776):z0o n=0:=by
 unfold z0o;rw[if_neg (by omega)]
theorem z4h {n:Int}(h:¬ z0o n=0):z0o n=7:=by
 unfold z0o at *;split at h<;>simp_all
def z2m (n:Int):Int×Int:=if z0o n=0 then (n,0) else (0,7)
def z0x (a b:Int)(r:Int×Int):Int×Int:=if z0o a=0/\z0o b=0 then r else (0,7)
def z8q (a b:Int):Int×Int:=z0x a b (z2m (a+b))
def z7m (a b:Int):Int×Int:=z0x a b (z2m (a-b))
def z76 (a b:Int):Int×Int:=z0x a b (z2m (a*b))
def z4c (a b:Int):Int×Int:=if z0o a=0/\b=0 then (0,8) else z0x a b (z2m (Int.fdiv a b))
def z51 (a b:Int):Int×Int:=if z0o a=0/\b=0 then (0,8) else z0x a b (z2m (Int.fmod a b))
theorem z52 (n:Int)(w:World) :
  Calls Tryz.prog 171 #[.int .i64 n] w fun e w'=>e=.returned (.int .i64 (z0o n))/\w=w':=by
 go_enter Tryz.func171,Tryz.ntmps171
 go_wp2
 all_goals
  go_ret
  exact⟨z0n (by simp[z0o];try omega),rfl⟩
theorem z17 (n:Int)(w:World) :
  Calls Tryz.prog 165 #[.int .i64 n] w fun e w'=>e=.returned (.int .i64 (z0o n))/\w=w':=by
 go_enter Tryz.func165,Tryz.ntmps165
 go_wp2
 all_goals
  go_ret
  exact⟨z0n (by simp[z0o];try omega),rfl⟩
theorem z6o (f:FuncId)(g:Int->Int->Int)(a b:Int)(w:World)(hcf:∀ args w,(callFunc f args).run Tryz.prog w=.ok (.enter f args) w)(hf:z0o a=0->z0o b=0->∀ w,Calls Tryz.prog f #[.int .i64 a,.int .i64 b] w fun e w'=>e=.returned (.int .i64 (g a b))/\∃ n,w'=w.drewN n) :
  Calls Tryz.prog 206 #[.int .i64 a,.int .i64 b,.func (.func f) #[] #[]] w fun e w'=>e=.returned (.tuple #[.int .i64 (z0x a b (z2m (g a b))).1,.int .i64 (z0x a b (z2m (g a b))).2])/\∃ n,w'=w.drewN n:=by
 by_cases ha:z0o a=0
 ·by_cases hb:z0o b=0
  ·have HF:=zh (hf ha hb)
   clear hf
   go_enter Tryz.func206,Tryz.ntmps206
   go_wp2_with (first | (go_at_call 171;refine (z52 _ _).mono ?_;rintro e w' ⟨rfl,rfl⟩) | (refine (HF.out _).mono ?_;rintro e w' ⟨rfl,nq,rfl⟩))
   all_goals
    go_ret2
    exact⟨z2w (by simp_all [z0x,z2m]) (by simp_all [z0x,z2m,z4h]),_,rfl⟩
  clear hf
  have hb':(z0o b != 0)=true:=by simpa using hb
  go_enter Tryz.func206,Tryz.ntmps206
  go_wp2_with (first | (go_at_call 171;refine (z52 _ _).mono ?_;rintro e w' ⟨rfl,rfl⟩))
  go_ret2
  exact⟨z2w (by simp_all [z0x]) (by simp_all [z0x]),0,rfl⟩
 clear hf
 have ha':(z0o a != 0)=true:=by simpa using ha
 go_enter Tryz.func206,Tryz.ntmps206
 go_wp2_with (first | (go_at_call 171;refine (z52 _ _).mono ?_;rintro e w' ⟨rfl,rfl⟩))
 all_goals
  go_ret2
  exact⟨z2w (by simp_all [z0x]) (by simp_all [z0x]),0,rfl⟩
theorem cf (f : FuncId) (fn : Func) (h : Tryz.prog.funcs[f]? = some fn) (h1 : fn.body.isNone = false) (h2 : (fn.name == "runtime.NumGoroutine") = false) (args : Array Value) (w : World) :
  (callFunc f args).run Tryz.prog w=.ok (.enter f args) w:=by
 have hp:(program:Sem Program)=.program .pure:=rfl
 unfold callFunc
 simp only[Sem.run_bind,hp,Sem.run,Result.andThen,h,h1,h2]
 rfl
theorem cf_add (args:Array Value)(w:World):(callFunc 211 args).run Tryz.prog w=.ok (.enter 211 args) w :=
 cf _ _ Tryz.func211 (by kernel_rfl) (by kernel_rfl) args w
theorem num_Add1 (a b:Int)(w:World)(ha:z0o a=0)(hb:z0o b=0) :
  Calls Tryz.prog 211 #[.int .i64 a,.int .i64 b] w fun e w'=>e=.returned (.int .i64 (a+b))/\w=w':=by
 have ha':=z11 ha
 have hb':=z11 hb
 clear ha hb
 go_enter Tryz.func211,Tryz.ntmps211
 go_wp2
 go_ret
 exact⟨rfl,rfl⟩
theorem num_Add (a b:Int)(w:World) :
  Calls Tryz.prog 190 #[.int .i64 a,.int .i64 b] w fun e w'=>e=.returned (.tuple #[.int .i64 (z8q a b).1,.int .i64 (z8q a b).2])/\∃ n,w'=w.drewN n:=by
 go_enter Tryz.func190,Tryz.ntmps190
 go_wp2_with (go_at_call 206;refine (z6o 211 (·+·) a b _ cf_add (fun ha hb w=>(num_Add1 a b w ha hb).mono fun _ _ h=>⟨h.1,0,h.2.symm⟩)).mono ?_;rintro e w' ⟨rfl,nq,rfl⟩)
 go_ret2
 exact⟨rfl,_,rfl⟩
theorem tdiv_pos (a:Int)(h:0<a):Int.tdiv 1099511627776 a=1099511627776 / a/\0<=(1099511627776:Int) / a/\(1099511627776:Int) / a<=1099511627776:=by
 refine⟨Int.tdiv_eq_ediv_of_nonneg (by decide),Int.ediv_nonneg (by decide) (by omega),?_⟩
 exact Int.ediv_le_self _ (by decide)
def mulOk (a b:Int):Prop:=-1099511627776<=a*b/\a*b<=1099511627776
instance (a b:Int):Decidable (mulOk a b):=by unfold mulOk;infer_instance
def mulG (a b:Int):Int:=if mulOk a b then a*b else 1099511627777
theorem mulG_res (a b:Int):z2m (mulG a b)=z2m (a*b):=by
 unfold mulG
 split
 ·rfl
 rename_i h
 unfold mulOk at h
 have h1:¬ z0o (a*b)=0:=fun e=>by have:=z11 e;omega
 rw[z2m,z2m,if_neg h1,if_neg (by decide)]
theorem quo_pos (a b:Int)(h:0<a):wrap64 (-Int.tdiv 1099511627776 a)=-(1099511627776 / a)/\(b<=1099511627776 / a↔a*b<=1099511627776)/\(-(1099511627776 / a)<=b↔-1099511627776<=a*b):=by
 obtain⟨e,l,u⟩:=tdiv_pos a h
 have hb:b<=1099511627776 / a↔b*a<=1099511627776:=Int.le_ediv_iff_mul_le h
 have hb':-b<=1099511627776 / a↔-b*a<=1099511627776:=Int.le_ediv_iff_mul_le h
 rw[Int.neg_mul] at hb'
 rw[Int.mul_comm a b]
 refine⟨by rw[e];exact IntWalk.wrap64_in _ ⟨by omega,by omega⟩,hb,by omega⟩
theorem quo_neg (a b:Int)(h:a<0):wrap64 (-Int.tdiv 1099511627776 a)=1099511627776 / (-a)/\wrap64 (Int.tdiv 1099511627776 a)=-(1099511627776 / (-a))/\(b<=1099511627776 / (-a)↔-1099511627776<=a*b)/\(-(1099511627776 / (-a))<=b↔a*b<=1099511627776):=by
 obtain⟨e,l,u⟩:=tdiv_pos (-a) (by omega)
 rw[Int.tdiv_neg] at e
 obtain⟨-,hb,hb'⟩:=quo_pos (-a) b (by omega)
 rw[Int.neg_mul] at hb hb'
 have e':Int.tdiv 1099511627776 a=-(1099511627776 / (-a)):=by omega
 refine⟨by rw[e];exact IntWalk.wrap64_in _ ⟨by omega,by omega⟩,by rw[e'];exact IntWalk.wrap64_in _ ⟨by omega,by omega⟩,by omega,by omega⟩
theorem num_Mul1 (a b:Int)(w:World)(ha:z0o a=0)(hb:z0o b=0) :
  Calls Tryz.prog 207 #[.int .i64 a,.int .i64 b] w fun e w'=>e=.returned (.int .i64 (mulG a b))/\w=w':=by
 have ha':=z11 ha
 have hb':=z11 hb
 clear ha hb
 obtain⟨a1,a2⟩:=ha'
 obtain⟨b1,b2⟩:=hb'
 have W:mulOk a b->wrap64 (a*b)=a*b:=fun h=>IntWalk.wrap64_in _ ⟨by unfold mulOk at h;omega,by unfold mulOk at h;omega⟩
 have HW:=zh W
 clear W
 rcases Int.lt_trichotomy a 0 with h | h | h
 ·obtain⟨q1,q2,q3,q4⟩:=quo_neg a b h
  have H:=zh (ai q1 (ai q2 (ai q3 q4)))
  clear q1 q2 q3 q4
  go_enter Tryz.func207,Tryz.ntmps207
  go_wp2
  all_goals
   obtain⟨q1,q2,q3,q4⟩:=H.out
   simp only[q1,q2] at *
   go_ret
   refine⟨z0n ?_,rfl⟩
   first
    | (rw[mulG,if_neg (by unfold mulOk;omega)])
    |
     have ho:mulOk a b:=by unfold mulOk;have h0:(a != 0)=true:=(by simp;omega);simp[h0] at *;omega
     rw[mulG,if_pos ho,HW.out ho]
 ·subst h
  go_enter Tryz.func207,Tryz.ntmps207
  go_wp2
  go_ret
  exact⟨z0n (by simp[mulG,mulOk]),rfl⟩
 obtain⟨q1,q3,q4⟩:=quo_pos a b h
 have H:=zh (ai q1 (ai q3 q4))
 clear q1 q3 q4
 go_enter Tryz.func207,Tryz.ntmps207
 go_wp2
 all_goals
  obtain⟨q1,q3,q4⟩:=H.out
  simp only[q1] at *
  go_ret
  refine⟨z0n ?_,rfl⟩
  first
   | (rw[mulG,if_neg (by unfold mulOk;omega)])
   |
    have ho:mulOk a b:=by unfold mulOk;have h0:(a != 0)=true:=(by simp;omega);simp[h0] at *;omega
    rw[mulG,if_pos ho,HW.out ho]
theorem cf_sub (args:Array Value)(w:World):(callFunc 212 args).run Tryz.prog w=.ok (.enter 212 args) w :=
 cf _ _ Tryz.func212 (by kernel_rfl) (by kernel_rfl) args w
theorem cf_mul (args:Array Value)(w:World):(callFunc 207 args).run Tryz.prog w=.ok (.enter 207 args) w :=
 cf _ _ Tryz.func207 (by kernel_rfl) (by kernel_rfl) args w
theorem num_Sub1 (a b:Int)(w:World)(ha:z0o a=0)(hb:z0o b=0) :
  Calls Tryz.prog 212 #[.int .i64 a,.int .i64 b] w fun e w'=>e=.returned (.int .i64 (a-b))/\w=w':=by
 have ha':=z11 ha
 have hb':=z11 hb
 clear ha hb
 go_enter Tryz.func212,Tryz.ntmps212
 go_wp2
 go_ret
 exact⟨rfl,rfl⟩
theorem num_Sub (a b:Int)(w:World) :
  Calls Tryz.prog 191 #[.int .i64 a,.int .i64 b] w fun e w'=>e=.returned (.tuple #[.int .i64 (z7m a b).1,.int .i64 (z7m a b).2])/\∃ n,w'=w.drewN n:=by
 go_enter Tryz.func191,Tryz.ntmps191
 go_wp2_with (go_at_call 206;refine (z6o 212 (·-·) a b _ cf_sub (fun ha hb w=>(num_Sub1 a b w ha hb).mono fun _ _ h=>⟨h.1,0,h.2.symm⟩)).mono ?_;rintro e w' ⟨rfl,nq,rfl⟩)
 go_ret2
 exact⟨rfl,_,rfl⟩
theorem num_Mul (a b:Int)(w:World) :
  Calls Tryz.prog 187 #[.int .i64 a,.int .i64 b] w fun e w'=>e=.returned (.tuple #[.int .i64 (z76 a b).1,.int .i64 (z76 a b).2])/\∃ n,w'=w.drewN n:=by
 rw[show z76 a b=z0x a b (z2m (mulG a b)) from by rw[mulG_res];rfl]
 go_enter Tryz.func187,Tryz.ntmps187
 go_wp2_with (go_at_call 206;refine (z6o 207 mulG a b _ cf_mul (fun ha hb w=>(num_Mul1 a b w ha hb).mono fun _ _ h=>⟨h.1,0,h.2.symm⟩)).mono ?_;rintro e w' ⟨rfl,nq,rfl⟩)
 go_ret2
 exact⟨rfl,_,rfl⟩
theorem num_floor (a b:Int)(w:World)(a1:-1099511627776<=a)(a2:a<=1099511627776)(b1:-1099511627776<=b)(b2:b<=1099511627776)(h0:b≠0) :
  Calls Tryz.prog 209 #[.int .i64 a,.int .i64 b] w fun e w'=>e=.returned (.tuple #[.int .i64 (Int.fdiv a b),.int .i64 (Int.fmod a b)])/\∃ n,w'=w.drewN n:=by
 have h0':(b==0)=false:=by simpa using h0
 have t1:=tdiv_bd a b
 have t2:=tmod_bd a b h0
 go_enter Tryz.func209,Tryz.ntmps209
 go_wp2
 go_quiet (fail)
 go_wp2
 ·go_ret2
  obtain⟨e1,e2⟩:=zbo a b h0 (.inl ‹_›)
  exact⟨z2w e1.symm (by rw[e2];exact (by assumption:a.tmod b=0).symm),_,rfl⟩
 ·go_ret2
  have hs:¬ a.tmod b=0:=by assumption
  have hx:(a.tmod b != 0)=true/\(!decide (a.tmod b<0)==decide (b<0))=true:=by assumption
  obtain⟨e1,e2⟩:=zf5 a b h0 hs hx.2
  exact⟨z2w (by rw[e1]) (by rw[e2]),_,rfl⟩
 go_ret2
 have hs:¬ a.tmod b=0:=by assumption
 have hx:(a.tmod b != 0)=false\/(!decide (a.tmod b<0)==decide (b<0))=false:=by assumption
 obtain⟨e1,e2⟩:=zbo a b h0 (.inr (by rcases hx with hx | hx;exact absurd (by simpa using hx) hs;simpa using hx))
 exact⟨z2w e1.symm e2.symm,_,rfl⟩
theorem cf_div (args:Array Value)(w:World):(callFunc 208 args).run Tryz.prog w=.ok (.enter 208 args) w :=
 cf _ _ Tryz.func208 (by kernel_rfl) (by kernel_rfl) args w
theorem cf_mod (args:Array Value)(w:World):(callFunc 210 args).run Tryz.prog w=.ok (.enter 210 args) w :=
 cf _ _ Tryz.func210 (by kernel_rfl) (by kernel_rfl) args w
theorem num_Div1 (a b:Int)(w:World)(ha:z0o a=0)(hb:z0o b=0)(h0:b≠0) :
  Calls Tryz.prog 208 #[.int .i64 a,.int .i64 b] w fun e w'=>e=.returned (.int .i64 (Int.fdiv a b))/\∃ n,w'=w.drewN n:=by
 obtain⟨a1,a2⟩:=z11 ha
 obtain⟨b1,b2⟩:=z11 hb
 clear ha hb
 go_enter Tryz.func208,Tryz.ntmps208
 go_wp2_with (go_at_call 209;refine (num_floor a b _ a1 a2 b1 b2 h0).mono ?_;rintro e w' ⟨rfl,nq,rfl⟩)
 go_ret
 exact⟨rfl,_,rfl⟩
theorem num_Mod1 (a b:Int)(w:World)(ha:z0o a=0)(hb:z0o b=0)(h0:b≠0) :
  Calls Tryz.prog 210 #[.int .i64 a,.int .i64 b] w fun e w'=>e=.returned (.int .i64 (Int.fmod a b))/\∃ n,w'=w.drewN n:=by
 obtain⟨a1,a2⟩:=z11 ha
 obtain⟨b1,b2⟩:=z11 hb
 clear ha hb
 go_enter Tryz.func210,Tryz.ntmps210
 go_wp2_with (go_at_call 209;refine (num_floor a b _ a1 a2 b1 b2 h0).mono ?_;rintro e w' ⟨rfl,nq,rfl⟩)
 go_ret
 exact⟨rfl,_,rfl⟩
theorem num_Div (a b:Int)(w:World) :
  Calls Tryz.prog 188 #[.int .i64 a,.int .i64 b] w fun e w'=>e=.returned (.tuple #[.int .i64 (z4c a b).1,.int .i64 (z4c a b).2])/\∃ n,w'=w.drewN n:=by
 by_cases h0:b=0
 ·subst h0
  by_cases ha:z0o a=0
  ·go_enter Tryz.func188,Tryz.ntmps188
   go_wp2_with (go_at_call 171;refine (z52 _ _).mono ?_;rintro e w' ⟨rfl,rfl⟩)
   go_ret2
   exact⟨z2w (by simp[z4c,ha]) (by simp[z4c,ha]),0,rfl⟩
  have ha':(z0o a==0)=false:=by simpa using ha
  go_enter Tryz.func188,Tryz.ntmps188
  go_wp2_with (first | (go_at_call 171;refine (z52 _ _).mono ?_;rintro e w' ⟨rfl,rfl⟩) | (go_at_call 206;refine (z6o 208 Int.fdiv a 0 _ cf_div (fun x _ _=>absurd x ha)).mono ?_;rintro e w' ⟨rfl,nq,rfl⟩))
  go_ret2
  exact⟨z2w (by simp[z4c,ha]) (by simp[z4c,ha]),_,rfl⟩
 have h0':(b==0)=false:=by simpa using h0
 go_enter Tryz.func188,Tryz.ntmps188
 go_wp2_with (first | (go_at_call 171;refine (z52 _ _).mono ?_;rintro e w' ⟨rfl,rfl⟩) | (go_at_call 206;refine (z6o 208 Int.fdiv a b _ cf_div (fun ha hb w=>num_Div1 a b w ha hb h0)).mono ?_;rintro e w' ⟨rfl,nq,rfl⟩))
 go_ret2
 exact⟨z2w (by simp[z4c,h0]) (by simp[z4c,h0]),_,rfl⟩
theorem num_Mod (a b:Int)(w:World) :
  Calls Tryz.prog 189 #[.int .i64 a,.int .i64 b] w fun e w'=>e=.returned (.tuple #[.int .i64 (z51 a b).1,.int .i64 (z51 a b).2])/\∃ n,w'=w.drewN n:=by
 by_cases h0:b=0
 ·subst h0
  by_cases ha:z0o a=0
  ·go_enter Tryz.func189,Tryz.ntmps189
   go_wp2_with (go_at_call 171;refine (z52 _ _).mono ?_;rintro e w' ⟨rfl,rfl⟩)
   go_ret2
   exact⟨z2w (by simp[z51,ha]) (by simp[z51,ha]),0,rfl⟩
  have ha':(z0o a==0)=false:=by simpa using ha
  go_enter Tryz.func189,Tryz.ntmps189
  go_wp2_with (first | (go_at_call 171;refine (z52 _ _).mono ?_;rintro e w' ⟨rfl,rfl⟩) | (go_at_call 206;refine (z6o 210 Int.fmod a 0 _ cf_mod (fun x _ _=>absurd x ha)).mono ?_;rintro e w' ⟨rfl,nq,rfl⟩))
  go_ret2
  exact⟨z2w (by simp[z51,ha]) (by simp[z51,ha]),_,rfl⟩
 have h0':(b==0)=false:=by simpa using h0
 go_enter Tryz.func189,Tryz.ntmps189
 go_wp2_with (first | (go_at_call 171;refine (z52 _ _).mono ?_;rintro e w' ⟨rfl,rfl⟩) | (go_at_call 206;refine (z6o 210 Int.fmod a b _ cf_mod (fun ha hb w=>num_Mod1 a b w ha hb h0)).mono ?_;rintro e w' ⟨rfl,nq,rfl⟩))
 go_ret2
 exact⟨z2w (by simp[z51,h0]) (by simp[z51,h0]),_,rfl⟩
end Go.Proofs.YtldhlpjjcnlbcaaGreat
