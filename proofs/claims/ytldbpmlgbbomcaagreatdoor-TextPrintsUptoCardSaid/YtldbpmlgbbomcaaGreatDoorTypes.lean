/- Texts merged: Base Types Mp RegT Own Idx Held Kee Row. -/
import Derived.Test.YtldbpmlgbbomcaaGreatDoorProg
import Derived.WalkKit
import Derived.WalkSpells
import Derived.WalkLawsBesides
import Derived.Lib.Hide
import Derived.Deep.Draws
import Derived.Deep.RegionHeld3
import Derived.Deep.QuietTactic
import Derived.BigQuiet
import Derived.Maps.OwnIn
import Derived.OrdersHeld
import Derived.StillTail
import Derived.Deep.AppendLies
import Derived.Deep.RegionLaw
import Derived.Laws.AppendOwnNone
import Derived.Lib.SliceRun
namespace Go.Proofs.YtldbpmlgbbomcaaGreatDoor
open Go.RowKit
theorem szz6 {G:Prop} (a b:World) (h:b.heap.size + 6 < a.heap.size) (k:b.heap.size < a.heap.size → b.heap.size ≤ a.heap.size → b.heap.size + 1 < a.heap.size → b.heap.size + 1 ≤ a.heap.size → b.heap.size + 2 < a.heap.size → b.heap.size + 2 ≤ a.heap.size → b.heap.size + 3 < a.heap.size → b.heap.size + 3 ≤ a.heap.size → b.heap.size + 4 < a.heap.size → b.heap.size + 4 ≤ a.heap.size → b.heap.size + 5 < a.heap.size → b.heap.size + 5 ≤ a.heap.size → b.heap.size + 6 < a.heap.size → b.heap.size + 6 ≤ a.heap.size → G):G :=
 k (by omega) (by omega) (by omega) (by omega) (by omega) (by omega) (by omega) (by omega) (by omega) (by omega) (by omega) (by omega) (by omega) (by omega)
theorem szz5 {G:Prop} (a b:World) (h:b.heap.size + 5 < a.heap.size) (k:b.heap.size < a.heap.size → b.heap.size ≤ a.heap.size → b.heap.size + 1 < a.heap.size → b.heap.size + 1 ≤ a.heap.size → b.heap.size + 2 < a.heap.size → b.heap.size + 2 ≤ a.heap.size → b.heap.size + 3 < a.heap.size → b.heap.size + 3 ≤ a.heap.size → b.heap.size + 4 < a.heap.size → b.heap.size + 4 ≤ a.heap.size → b.heap.size + 5 < a.heap.size → b.heap.size + 5 ≤ a.heap.size → G):G :=
 k (by omega) (by omega) (by omega) (by omega) (by omega) (by omega) (by omega) (by omega) (by omega) (by omega) (by omega) (by omega)
theorem szz4 {G:Prop} (a b:World) (h:b.heap.size + 4 < a.heap.size) (k:b.heap.size < a.heap.size → b.heap.size ≤ a.heap.size → b.heap.size + 1 < a.heap.size → b.heap.size + 1 ≤ a.heap.size → b.heap.size + 2 < a.heap.size → b.heap.size + 2 ≤ a.heap.size → b.heap.size + 3 < a.heap.size → b.heap.size + 3 ≤ a.heap.size → b.heap.size + 4 < a.heap.size → b.heap.size + 4 ≤ a.heap.size → G):G :=
 k (by omega) (by omega) (by omega) (by omega) (by omega) (by omega) (by omega) (by omega) (by omega) (by omega)
theorem szz3 {G:Prop} (a b:World) (h:b.heap.size + 3 < a.heap.size) (k:b.heap.size < a.heap.size → b.heap.size ≤ a.heap.size → b.heap.size + 1 < a.heap.size → b.heap.size + 1 ≤ a.heap.size → b.heap.size + 2 < a.heap.size → b.heap.size + 2 ≤ a.heap.size → b.heap.size + 3 < a.heap.size → b.heap.size + 3 ≤ a.heap.size → G):G :=
 k (by omega) (by omega) (by omega) (by omega) (by omega) (by omega) (by omega) (by omega)
theorem szz2 {G:Prop} (a b:World) (h:b.heap.size + 2 < a.heap.size) (k:b.heap.size < a.heap.size → b.heap.size ≤ a.heap.size → b.heap.size + 1 < a.heap.size → b.heap.size + 1 ≤ a.heap.size → b.heap.size + 2 < a.heap.size → b.heap.size + 2 ≤ a.heap.size → G):G :=
 k (by omega) (by omega) (by omega) (by omega) (by omega) (by omega)
theorem szz1 {G:Prop} (a b:World) (h:b.heap.size + 1 < a.heap.size) (k:b.heap.size < a.heap.size → b.heap.size ≤ a.heap.size → b.heap.size + 1 < a.heap.size → b.heap.size + 1 ≤ a.heap.size → G):G :=
 k (by omega) (by omega) (by omega) (by omega)
theorem szz0 {G:Prop} (a b:World) (h:b.heap.size < a.heap.size) (k:b.heap.size < a.heap.size → b.heap.size ≤ a.heap.size → G):G :=
 k (by omega) (by omega)
theorem szzn {G:Prop} (a b:World) (h:b.heap.size ≤ a.heap.size) (k:b.heap.size ≤ a.heap.size → G):G:=k h
theorem bqh (w:World) (k:Nat):(w.drewN k).heap = w.heap:=by simp only [World.heap_drewN]
theorem bqc (w:World) (k:Nat) (p:Addr):(w.drewN k).cell? p = w.cell? p:=by simp only [World.cell?_drewN]
theorem bqf (w:World) (k:Nat) (p:Addr):(w.drewN k).frozen? p = w.frozen? p:=by simp only [World.frozen?_drewN]
theorem nl1 {a b:Nat} (h:a + 1 ≤ b):a < b:=h
theorem nl2 {a b:Nat} (h:a + 1 < b):a < b:=Nat.lt_of_succ_lt h
def Wz (_a _b:World) (Q G:Prop):Prop:=Q → G
theorem wz6 {a b:World} {G:Prop} (h:b.heap.size + 6 < a.heap.size):Wz a b (b.heap.size < a.heap.size → b.heap.size ≤ a.heap.size → b.heap.size + 1 < a.heap.size → b.heap.size + 1 ≤ a.heap.size → b.heap.size + 2 < a.heap.size → b.heap.size + 2 ≤ a.heap.size → b.heap.size + 3 < a.heap.size → b.heap.size + 3 ≤ a.heap.size → b.heap.size + 4 < a.heap.size → b.heap.size + 4 ≤ a.heap.size → b.heap.size + 5 < a.heap.size → b.heap.size + 5 ≤ a.heap.size → b.heap.size + 6 < a.heap.size → b.heap.size + 6 ≤ a.heap.size → G) G:=szz6 a b h
theorem wz5 {a b:World} {G:Prop} (h:b.heap.size + 5 < a.heap.size):Wz a b (b.heap.size < a.heap.size → b.heap.size ≤ a.heap.size → b.heap.size + 1 < a.heap.size → b.heap.size + 1 ≤ a.heap.size → b.heap.size + 2 < a.heap.size → b.heap.size + 2 ≤ a.heap.size → b.heap.size + 3 < a.heap.size → b.heap.size + 3 ≤ a.heap.size → b.heap.size + 4 < a.heap.size → b.heap.size + 4 ≤ a.heap.size → b.heap.size + 5 < a.heap.size → b.heap.size + 5 ≤ a.heap.size → G) G:=szz5 a b h
theorem wz4 {a b:World} {G:Prop} (h:b.heap.size + 4 < a.heap.size):Wz a b (b.heap.size < a.heap.size → b.heap.size ≤ a.heap.size → b.heap.size + 1 < a.heap.size → b.heap.size + 1 ≤ a.heap.size → b.heap.size + 2 < a.heap.size → b.heap.size + 2 ≤ a.heap.size → b.heap.size + 3 < a.heap.size → b.heap.size + 3 ≤ a.heap.size → b.heap.size + 4 < a.heap.size → b.heap.size + 4 ≤ a.heap.size → G) G:=szz4 a b h
theorem wz3 {a b:World} {G:Prop} (h:b.heap.size + 3 < a.heap.size):Wz a b (b.heap.size < a.heap.size → b.heap.size ≤ a.heap.size → b.heap.size + 1 < a.heap.size → b.heap.size + 1 ≤ a.heap.size → b.heap.size + 2 < a.heap.size → b.heap.size + 2 ≤ a.heap.size → b.heap.size + 3 < a.heap.size → b.heap.size + 3 ≤ a.heap.size → G) G:=szz3 a b h
theorem wz2 {a b:World} {G:Prop} (h:b.heap.size + 2 < a.heap.size):Wz a b (b.heap.size < a.heap.size → b.heap.size ≤ a.heap.size → b.heap.size + 1 < a.heap.size → b.heap.size + 1 ≤ a.heap.size → b.heap.size + 2 < a.heap.size → b.heap.size + 2 ≤ a.heap.size → G) G:=szz2 a b h
theorem wz1 {a b:World} {G:Prop} (h:b.heap.size + 1 < a.heap.size):Wz a b (b.heap.size < a.heap.size → b.heap.size ≤ a.heap.size → b.heap.size + 1 < a.heap.size → b.heap.size + 1 ≤ a.heap.size → G) G:=szz1 a b h
theorem wz0 {a b:World} {G:Prop} (h:b.heap.size < a.heap.size):Wz a b (b.heap.size < a.heap.size → b.heap.size ≤ a.heap.size → G) G:=szz0 a b h
theorem wzn {a b:World} {G:Prop} (h:b.heap.size ≤ a.heap.size):Wz a b (b.heap.size ≤ a.heap.size → G) G:=szzn a b h
theorem wzo {a b:World} {G:Prop}:Wz a b G G:=fun k => k
theorem szz {G Q:Prop} (a b:World) (k:Q) (h:Wz a b Q G:=by first | exact wz6 (by omega) | exact wz5 (by omega) | exact wz4 (by omega) | exact wz3 (by omega) | exact wz2 (by omega) | exact wz1 (by omega) | exact wz0 (by omega) | exact wzn (by omega) | exact wzo):G:=h k

theorem ret_int {k:IntKind} {a b:Int} (h:a = b):Ending.returned (.int k a) = .returned (.int k b):=by rw [h]

theorem ret_ii {k l:IntKind} {a b c d:Int} (h:a = c) (h':b = d):Ending.returned (.tuple #[.int k a,.int l b]) = .returned (.tuple #[.int k c,.int l d]):=by rw [h,h']
theorem ret_bool {a b:Bool} (h:a = b):Ending.returned (.bool a) = .returned (.bool b):=by rw [h]
theorem alloc_below {w w':World} {o:Obj} (h:Below (w.heap.size + 1) (w.alloc o) w'):Below w.heap.size w w' :=
 ((Below.refl w.heap.size w).alloc (Nat.le_refl _) o).trans (h.mono (by omega))
theorem below_step {n m:Nat} {a b c:World} (h:Below n a b) (k:Below m b c) (hn:n ≤ m):Below n a c:=h.trans (k.mono hn)
theorem below_chain {a b c:World} (h:Below a.heap.size a b) (k:Below b.heap.size b c):Below a.heap.size a c:=h.trans (k.mono h.size)
theorem below_alloc0 {a b:World} {o:Obj} (h:Below a.heap.size a b):Below a.heap.size a (b.alloc o):=h.alloc h.size o
theorem below_alloc {n:Nat} {a b:World} {o:Obj} (h:Below n a b) (hn:n ≤ b.heap.size):Below n a (b.alloc o):=h.alloc hn o
theorem below_set {n:Nat} {a b:World} {p:Addr} {u:Value} (h:Below n a b) (hn:n ≤ p.block):Below n a (b.setCell p u):=h.setCell hn u
theorem below_drewN {n:Nat} {a b:World} (h:Below n a b) (k:Nat):Below n a (b.drewN k):=⟨h.os,h.tape,h.output,h.size,h.block⟩

theorem bel {n:Nat} {a b:World} (h:Below n a b:=by repeat (first | with_reducible exact Below.refl _ _ | with_reducible assumption | with_reducible refine below_drewN ?_ _ | with_reducible refine Below.drew ?_ | with_reducible refine below_alloc0 ?_ | with_reducible refine below_alloc ?_ (by simp;try omega) | with_reducible refine below_set ?_ (by simp;try omega) | with_reducible refine below_chain ?_ (by assumption) | (with_reducible refine below_step ?_ (by assumption) (by simp;try omega)))):Below n a b:=h
theorem bcell {W w1:World} (hb:Below W.heap.size W w1):(∀ b o,b < W.heap.size → w1.cell? ⟨b,o,none⟩ = W.cell? ⟨b,o,none⟩) ∧ (∀ b o,b < W.heap.size → w1.frozen? ⟨b,o,none⟩ = W.frozen? ⟨b,o,none⟩) :=
 ⟨fun b o h => hb.cell (p:=⟨b,o,none⟩) h,fun b o h => hb.frozen (p:=⟨b,o,none⟩) h⟩

theorem block_of_add (a:Addr) (n:Nat):(a.add n).block = a.block:=by unfold Addr.add;split <;> rfl
theorem add_of_add (a:Addr) (i j:Nat):(a.add i).add j = a.add (i + j):=by
 unfold Addr.add
 by_cases hi:i = 0 <;> by_cases hj:j = 0 <;> simp [hi,hj,Nat.add_assoc]

def Reads (w:World) (B size:Nat) (A:Option Addr) (n:Nat) (xs:List (List Value)):Prop :=
 xs.length = n ∧ (0 < n → ∃ b o,A = some ⟨b,o,none⟩ ∧ b < B ∧ ∀ i c,xs[i]? = some c → c.length = size ∧ ∀ j u,c[j]? = some u → w.cell? ⟨b,o + (i * size + j),none⟩ = some u)

theorem cell_keep {w w1:World} {p:Addr} {v:Value} (h:w.cell? p = some v) (hb:Below w.heap.size w w1):w1.cell? p = some v:=(hb.cell (block_lt_of_cell h)).trans h
theorem wp_world {P:Program} {c:Code} {Q:Exit → Act → World → Prop} {a:Act} {W:World} (h:∀ W0,W0 = W → c.wp P Q a W0):c.wp P Q a W:=h W rfl
theorem wp_quietC {P:Program} {C:World → Prop} {id:Nat} {Q:Exit → Act → World → Prop} {a:Act} {w:World} {l:List Oper} (hm:P.follows .mixedOrders = true) (hB:Region.lexB .any l.toArray = true) (hC:C w.drew)
  (h:wpQuiet P l.toArray C (fun a' => ∀ w',C w' → Q .normal a' w') l a):(Code.region id l.toArray true).wp P Q a w :=
 wp_region_quiet (C:=C) hm hB hC (by simpa using h)
theorem held0 {w0 w' w1:World} {N:Nat} (h:Below N w0 w' ∧ N ≤ w'.heap.size) (hb:Below w'.heap.size w' w1):Below N w0 w1 ∧ N ≤ w1.heap.size:=by
 obtain ⟨hb0,hl⟩:=h
 exact ⟨below_step hb0 hb hl,Nat.le_trans hl hb.size⟩
theorem held0d {w0 w':World} {N:Nat} (h:Below N w0 w' ∧ N ≤ w'.heap.size):Below N w0 w'.drew ∧ N ≤ w'.drew.heap.size:=by
 obtain ⟨hb0,hl⟩:=h
 exact ⟨hb0.drew,hl⟩
theorem held0b {w0 w':World} {N:Nat} (h:Below N w0 w' ∧ N ≤ w'.heap.size):Below N w0 w':=h.1
theorem held0i {w0 w':World} {N:Nat} (h:Below N w0 w' ∧ N ≤ w'.heap.size):Below N w0 w' ∧ N ≤ w'.heap.size:=h
theorem held1 {w0 w' w1:World} {N:Nat} {p0:Addr} {v0:Value} (h:w'.cell? p0 = some v0 ∧ Below N w0 w' ∧ N ≤ w'.heap.size) (hb:Below w'.heap.size w' w1):w1.cell? p0 = some v0 ∧ Below N w0 w1 ∧ N ≤ w1.heap.size:=by
 obtain ⟨h0,hb0,hl⟩:=h
 exact ⟨cell_keep h0 hb,below_step hb0 hb hl,Nat.le_trans hl hb.size⟩
theorem held1d {w0 w':World} {N:Nat} {p0:Addr} {v0:Value} (h:w'.cell? p0 = some v0 ∧ Below N w0 w' ∧ N ≤ w'.heap.size):w'.drew.cell? p0 = some v0 ∧ Below N w0 w'.drew ∧ N ≤ w'.drew.heap.size:=by
 obtain ⟨h0,hb0,hl⟩:=h
 exact ⟨h0,hb0.drew,hl⟩
theorem held1b {w0 w':World} {N:Nat} {p0:Addr} {v0:Value} (h:w'.cell? p0 = some v0 ∧ Below N w0 w' ∧ N ≤ w'.heap.size):Below N w0 w':=h.2.1
theorem held1i {w0 w':World} {N:Nat} {p0:Addr} {v0:Value} (h:w'.cell? p0 = some v0 ∧ Below N w0 w' ∧ N ≤ w'.heap.size):w'.cell? p0 = some v0 ∧ Below N w0 w' ∧ N ≤ w'.heap.size:=h
theorem held2 {w0 w' w1:World} {N:Nat} {p0 p1:Addr} {v0 v1:Value} (h:w'.cell? p0 = some v0 ∧ w'.cell? p1 = some v1 ∧ Below N w0 w' ∧ N ≤ w'.heap.size) (hb:Below w'.heap.size w' w1):w1.cell? p0 = some v0 ∧ w1.cell? p1 = some v1 ∧ Below N w0 w1 ∧ N ≤ w1.heap.size:=by
 obtain ⟨h0,h1,hb0,hl⟩:=h
 exact ⟨cell_keep h0 hb,cell_keep h1 hb,below_step hb0 hb hl,Nat.le_trans hl hb.size⟩
theorem held2d {w0 w':World} {N:Nat} {p0 p1:Addr} {v0 v1:Value} (h:w'.cell? p0 = some v0 ∧ w'.cell? p1 = some v1 ∧ Below N w0 w' ∧ N ≤ w'.heap.size):w'.drew.cell? p0 = some v0 ∧ w'.drew.cell? p1 = some v1 ∧ Below N w0 w'.drew ∧ N ≤ w'.drew.heap.size:=by
 obtain ⟨h0,h1,hb0,hl⟩:=h
 exact ⟨h0,h1,hb0.drew,hl⟩
theorem held2b {w0 w':World} {N:Nat} {p0 p1:Addr} {v0 v1:Value} (h:w'.cell? p0 = some v0 ∧ w'.cell? p1 = some v1 ∧ Below N w0 w' ∧ N ≤ w'.heap.size):Below N w0 w':=h.2.2.1
theorem held2i {w0 w':World} {N:Nat} {p0 p1:Addr} {v0 v1:Value} (h:w'.cell? p0 = some v0 ∧ w'.cell? p1 = some v1 ∧ Below N w0 w' ∧ N ≤ w'.heap.size):w'.cell? p0 = some v0 ∧ w'.cell? p1 = some v1 ∧ Below N w0 w' ∧ N ≤ w'.heap.size:=h
theorem held3 {w0 w' w1:World} {N:Nat} {p0 p1 p2:Addr} {v0 v1 v2:Value} (h:w'.cell? p0 = some v0 ∧ w'.cell? p1 = some v1 ∧ w'.cell? p2 = some v2 ∧ Below N w0 w' ∧ N ≤ w'.heap.size) (hb:Below w'.heap.size w' w1):w1.cell? p0 = some v0 ∧ w1.cell? p1 = some v1 ∧ w1.cell? p2 = some v2 ∧ Below N w0 w1 ∧ N ≤ w1.heap.size:=by
 obtain ⟨h0,h1,h2,hb0,hl⟩:=h
 exact ⟨cell_keep h0 hb,cell_keep h1 hb,cell_keep h2 hb,below_step hb0 hb hl,Nat.le_trans hl hb.size⟩
theorem held3d {w0 w':World} {N:Nat} {p0 p1 p2:Addr} {v0 v1 v2:Value} (h:w'.cell? p0 = some v0 ∧ w'.cell? p1 = some v1 ∧ w'.cell? p2 = some v2 ∧ Below N w0 w' ∧ N ≤ w'.heap.size):w'.drew.cell? p0 = some v0 ∧ w'.drew.cell? p1 = some v1 ∧ w'.drew.cell? p2 = some v2 ∧ Below N w0 w'.drew ∧ N ≤ w'.drew.heap.size:=by
 obtain ⟨h0,h1,h2,hb0,hl⟩:=h
 exact ⟨h0,h1,h2,hb0.drew,hl⟩
theorem held3b {w0 w':World} {N:Nat} {p0 p1 p2:Addr} {v0 v1 v2:Value} (h:w'.cell? p0 = some v0 ∧ w'.cell? p1 = some v1 ∧ w'.cell? p2 = some v2 ∧ Below N w0 w' ∧ N ≤ w'.heap.size):Below N w0 w':=h.2.2.2.1
theorem held3i {w0 w':World} {N:Nat} {p0 p1 p2:Addr} {v0 v1 v2:Value} (h:w'.cell? p0 = some v0 ∧ w'.cell? p1 = some v1 ∧ w'.cell? p2 = some v2 ∧ Below N w0 w' ∧ N ≤ w'.heap.size):w'.cell? p0 = some v0 ∧ w'.cell? p1 = some v1 ∧ w'.cell? p2 = some v2 ∧ Below N w0 w' ∧ N ≤ w'.heap.size:=h
theorem held4 {w0 w' w1:World} {N:Nat} {p0 p1 p2 p3:Addr} {v0 v1 v2 v3:Value} (h:w'.cell? p0 = some v0 ∧ w'.cell? p1 = some v1 ∧ w'.cell? p2 = some v2 ∧ w'.cell? p3 = some v3 ∧ Below N w0 w' ∧ N ≤ w'.heap.size) (hb:Below w'.heap.size w' w1):w1.cell? p0 = some v0 ∧ w1.cell? p1 = some v1 ∧ w1.cell? p2 = some v2 ∧ w1.cell? p3 = some v3 ∧ Below N w0 w1 ∧ N ≤ w1.heap.size:=by
 obtain ⟨h0,h1,h2,h3,hb0,hl⟩:=h
 exact ⟨cell_keep h0 hb,cell_keep h1 hb,cell_keep h2 hb,cell_keep h3 hb,below_step hb0 hb hl,Nat.le_trans hl hb.size⟩
theorem held4d {w0 w':World} {N:Nat} {p0 p1 p2 p3:Addr} {v0 v1 v2 v3:Value} (h:w'.cell? p0 = some v0 ∧ w'.cell? p1 = some v1 ∧ w'.cell? p2 = some v2 ∧ w'.cell? p3 = some v3 ∧ Below N w0 w' ∧ N ≤ w'.heap.size):w'.drew.cell? p0 = some v0 ∧ w'.drew.cell? p1 = some v1 ∧ w'.drew.cell? p2 = some v2 ∧ w'.drew.cell? p3 = some v3 ∧ Below N w0 w'.drew ∧ N ≤ w'.drew.heap.size:=by
 obtain ⟨h0,h1,h2,h3,hb0,hl⟩:=h
 exact ⟨h0,h1,h2,h3,hb0.drew,hl⟩
theorem held4b {w0 w':World} {N:Nat} {p0 p1 p2 p3:Addr} {v0 v1 v2 v3:Value} (h:w'.cell? p0 = some v0 ∧ w'.cell? p1 = some v1 ∧ w'.cell? p2 = some v2 ∧ w'.cell? p3 = some v3 ∧ Below N w0 w' ∧ N ≤ w'.heap.size):Below N w0 w':=h.2.2.2.2.1
theorem held4i {w0 w':World} {N:Nat} {p0 p1 p2 p3:Addr} {v0 v1 v2 v3:Value} (h:w'.cell? p0 = some v0 ∧ w'.cell? p1 = some v1 ∧ w'.cell? p2 = some v2 ∧ w'.cell? p3 = some v3 ∧ Below N w0 w' ∧ N ≤ w'.heap.size):w'.cell? p0 = some v0 ∧ w'.cell? p1 = some v1 ∧ w'.cell? p2 = some v2 ∧ w'.cell? p3 = some v3 ∧ Below N w0 w' ∧ N ≤ w'.heap.size:=h
theorem ownsRow_drewN {w:World} {base:Nat} {e:TypeId} {size:Nat} {v:Value} {n:Nat} {xs:List Value} (h:w.ownsRow base e size v n xs) (k:Nat):(w.drewN k).ownsRow base e size v n xs:=h
theorem news_new (w:World) (cs:List Value) (t:TypeId):∀ j u,cs[j]? = some u → (w.alloc (.cells cs.toArray t)).cell? ((⟨w.heap.size,0,none⟩:Addr).add j) = some u:=by
 intro j u hj
 have e:((⟨w.heap.size,0,none⟩:Addr).add j) = ⟨w.heap.size,j,none⟩:=by
  unfold Addr.add;split <;> simp_all
 rw [e,World.cell?_alloc_new]
 simpa using hj

theorem wpList_append1 {P:Program} {ops:Array Oper} {rest:List Oper} {o:Oper} {a:Act} {Q:Exit → Act → World → Prop} {w W:World} (hgd:o.guard = none) (s x:Operand) (t:TypeId)
  (ho:o.op = .call { callee:=.builtin .append,args:=#[s,x],argTypes:=#[t,t] })
  (base:Nat) (e:TypeId) (i:TypeInfo) (z:Value) (size bytes:Nat) (ht:P.underlying t = some (.slice e)) (hi:P.info? e = some i) (hz:i.zero = some z)
  (hsize:i.size = size) (hby:i.bytes = bytes) (hzs:z.cells.size = size) (hsz:0 < size)
  (v:Value) (n:Nat) (xs:List Value) (hs:a.eval s = v) (hown:w.ownsRow base e size v n xs)
  (cs:List Value) (t':TypeId) (hW:W = w.alloc (.cells cs.toArray t')) (g:Nat) (hx:a.eval x = .slice (some ⟨g,0,none⟩) 1 1) (hg0:g = w.heap.size) (hl:cs.length = size) (h1:∀ u ∈ cs,u.oneCell' = true)
  (hbytes:(n + 1) * bytes ≤ 140737488355328) (h63:n + 1 ≤ maxLen) (hbase:base ≤ w.heap.size)
  (h:∀ v' w',w'.ownsRow base e size v' (n + 1) (xs ++ cs) → Below base w w' → w.heap.size ≤ w'.heap.size → (∀ k,k < w.heap.size → some k ≠ v.ownBlock → w'.heap[k]? = w.heap[k]?) → wpList P ops Q rest (a.put o.dst v') w') :
  wpList P ops Q (o :: rest) a W:=by
 subst hW
 subst hg0
 refine wpList_append_own _ hgd s x t ho base e i z size bytes ht hi hz hsize hby hzs hsz v n xs hs (hown.alloc _) _ 1 1 cs hx (by rw [hl,Nat.one_mul]) (news_new w cs t') h1 h63 hbytes (by simp;omega) ?_
 intro v' w' hown' hg _
 have hlt:=hown.lt
 have hz':w.heap.size ≤ w'.heap.size:=by have:=hg.size;simp at this;omega
 refine h v' w' hown' ?_ hz' ?_
 ·exact ((Below.refl base w).alloc hbase _).grown hg (by simp;omega) (fun k hk => (hlt k hk).1)
 ·intro k hk hne
  rw [hg.block k (by simp;omega) hne]
  exact Below.heap_alloc w _ k hk
end Go.Proofs.YtldbpmlgbbomcaaGreatDoor
/- The data of the program as plain types, and how each lies in memory. Plain definitions and laws; no program text is walked here. -/
namespace Go.Proofs.YtldbpmlgbbomcaaGreatDoor
open Go.RowKit

def inI (n:Int):Prop:=(Lit.int .i64 n).wf = true
def old (w:World):Nat → Prop:=fun b => b < w.heap.size
theorem inI_bd {n:Int} (h:inI n):-9223372036854775808 ≤ n ∧ n ≤ 9223372036854775807:=by
 have h':IntKind.i64.min ≤ n ∧ n ≤ 9223372036854775807:=by simpa [inI,Lit.wf] using h
 have e:IntKind.i64.min = -9223372036854775808:=by decide
 omega
def inS (s:ByteArray):Prop:=s.size ≤ 140737488351232
theorem inS_max {s:ByteArray} (h:inS s):s.size ≤ maxLen:=by unfold inS at h;unfold maxLen;omega

theorem take_snoc (s:ByteArray) (k:Nat) (h:k < s.size):s.data.toList.take (k + 1) = s.data.toList.take k ++ [s[k]]:=by
 rw [List.take_succ_eq_append_getElem (by simpa using h)];rfl

structure Val where (k n:Int) (s:ByteArray)
 deriving DecidableEq
structure Pol where (tries base cap:Int)
 deriving DecidableEq
structure Cll where (state id tries:Int) (key has:Val) (next:Int)
 deriving DecidableEq
structure Ltr where (field:ByteArray) (id:Int) (key answer:Val)
 deriving DecidableEq
structure Fct where (name:ByteArray) (key has:Val)
 deriving DecidableEq
structure Tmr where (id at_:Int)
 deriving DecidableEq
structure Tkn where (kind at_:Int) (s:ByteArray) (v:Val)
 deriving DecidableEq
structure Evt where (kind n:Int) (name:ByteArray) (value:Val)
 deriving DecidableEq
structure Rpl where (err page:Int)
 deriving DecidableEq

abbrev Val.cs (v:Val):List Value:=[.int .i64 v.k,.int .i64 v.n,.string v.s]
abbrev Pol.cs (p:Pol):List Value:=[.int .i64 p.tries,.int .i64 p.base,.int .i64 p.cap]
abbrev Cll.cs (c:Cll):List Value:=[.int .i64 c.state,.int .i64 c.id,.int .i64 c.tries,.int .i64 c.key.k,.int .i64 c.key.n,.string c.key.s,.int .i64 c.has.k,.int .i64 c.has.n,.string c.has.s,.int .i64 c.next]
abbrev Ltr.cs (l:Ltr):List Value:=[.string l.field,.int .i64 l.id,.int .i64 l.key.k,.int .i64 l.key.n,.string l.key.s,.int .i64 l.answer.k,.int .i64 l.answer.n,.string l.answer.s]
abbrev Fct.cs (f:Fct):List Value:=[.string f.name,.int .i64 f.key.k,.int .i64 f.key.n,.string f.key.s,.int .i64 f.has.k,.int .i64 f.has.n,.string f.has.s]
abbrev Tmr.cs (t:Tmr):List Value:=[.int .i64 t.id,.int .i64 t.at_]
abbrev Tkn.cs (t:Tkn):List Value:=[.int .i64 t.kind,.int .i64 t.at_,.string t.s,.int .i64 t.v.k,.int .i64 t.v.n,.string t.v.s]
abbrev Evt.cs (e:Evt):List Value:=[.int .i64 e.kind,.int .i64 e.n,.string e.name,.int .i64 e.value.k,.int .i64 e.value.n,.string e.value.s]
abbrev Rpl.cs (r:Rpl):List Value:=[.int .i64 r.err,.int .i64 r.page]

def Val.wf (v:Val):Prop:=inI v.k ∧ inI v.n ∧ inS v.s
def Pol.wf (p:Pol):Prop:=inI p.tries ∧ inI p.base ∧ inI p.cap
def Cll.wf (c:Cll):Prop:=inI c.state ∧ inI c.id ∧ inI c.tries ∧ c.key.wf ∧ c.has.wf ∧ inI c.next
def Ltr.wf (l:Ltr):Prop:=inS l.field ∧ inI l.id ∧ l.key.wf ∧ l.answer.wf
def Fct.wf (f:Fct):Prop:=inS f.name ∧ f.key.wf ∧ f.has.wf
def Tmr.wf (t:Tmr):Prop:=inI t.id ∧ inI t.at_
def Evt.wf (e:Evt):Prop:=inI e.kind ∧ inI e.n ∧ inS e.name ∧ e.value.wf

def RVal (cs:List Value) (v:Val):Prop:=cs = v.cs ∧ v.wf
def RPol (cs:List Value) (v:Pol):Prop:=cs = v.cs ∧ v.wf
def RCll (cs:List Value) (v:Cll):Prop:=cs = v.cs ∧ v.wf
def RLtr (cs:List Value) (v:Ltr):Prop:=cs = v.cs ∧ v.wf
def RFct (cs:List Value) (v:Fct):Prop:=cs = v.cs ∧ v.wf
def RTmr (cs:List Value) (v:Tmr):Prop:=cs = v.cs ∧ v.wf
def REvt (cs:List Value) (v:Evt):Prop:=cs = v.cs ∧ v.wf
def RStr (cs:List Value) (s:ByteArray):Prop:=cs = [.string s] ∧ inS s
def RInt (cs:List Value) (n:Int):Prop:=cs = [.int .i64 n] ∧ inI n

def Sl {α:Type} (w:World) (S:Nat → Prop) (size:Nat) (R:List Value → α → Prop) (A:Option Addr) (n:Nat) (l:List α):Prop :=
 l.length = n ∧ (0 < n → ∃ b o,A = some ⟨b,o,none⟩ ∧ S b ∧ ∀ i v,l[i]? = some v → ∃ cs,R cs v ∧ cs.length = size ∧ ∀ j,j < size → w.cell? ⟨b,o + (i * size + j),none⟩ = cs[j]?)

section
variable {α:Type} {w w':World} {S S':Nat → Prop} {size n:Nat} {R R':List Value → α → Prop} {A:Option Addr} {l:List α}
theorem Sl.nil:Sl w S size R A 0 ([]:List α):=⟨rfl,fun h => absurd h (by omega)⟩
theorem Sl.len (h:Sl w S size R A n l):l.length = n:=h.1
theorem Sl.at_ (h:Sl w S size R A n l) {k:Nat} (hk:k < n):∃ b o v cs,A = some ⟨b,o,none⟩ ∧ S b ∧ l[k]? = some v ∧ R cs v ∧ cs.length = size ∧ ∀ j,j < size → w.cell? ⟨b,o + (k * size + j),none⟩ = cs[j]?:=by
 obtain ⟨b,o,e,hs,hc⟩:=h.2 (by omega)
 have hl:k < l.length:=by have:=h.1;omega
 obtain ⟨cs,h1,h2,h3⟩:=hc k l[k] (List.getElem?_eq_getElem hl)
 exact ⟨b,o,l[k],cs,e,hs,List.getElem?_eq_getElem hl,h1,h2,h3⟩
theorem Sl.keep (h:Sl w S size R A n l) (hk:∀ b,S b → w'.heap[b]? = w.heap[b]?) (hR:∀ cs v,R cs v → R' cs v):Sl w' S size R' A n l :=
 ⟨h.1,fun hn => by
  obtain ⟨b,o,e,hs,hc⟩:=h.2 hn
  refine ⟨b,o,e,hs,fun i v hv => ?_⟩
  obtain ⟨cs,h1,h2,h3⟩:=hc i v hv
  exact ⟨cs,hR _ _ h1,h2,fun j hj => (World.cell?_of_block (w:=w) (a:=⟨b,_,none⟩) (hk b hs)).trans (h3 j hj)⟩⟩
theorem Sl.below {B:Nat} (h:Sl w S size R A n l) (hb:Below B w w') (hS:∀ b,S b → b < B):Sl w' S size R A n l :=
 h.keep (fun b hs => hb.block b (hS b hs)) fun _ _ h => h
theorem Sl.now (h:Sl w (old w) size R A n l) (hb:Below w.heap.size w w'):Sl w' (old w') size R A n l :=
 ⟨h.1,fun hn => by
  obtain ⟨b,o,e,hs,hc⟩:=h.2 hn
  exact ⟨b,o,e,Nat.lt_of_lt_of_le hs hb.size,((h.below hb (fun _ h => h)).2 hn).elim fun b' x => by
   obtain ⟨o',e',hs',hc'⟩:=x
   rw [e] at e'
   cases e'
   exact hc'⟩⟩
theorem Sl.mono (h:Sl w S size R A n l) (hS:∀ b,S b → S' b):Sl w S' size R A n l :=
 ⟨h.1,fun hn => by
  obtain ⟨b,o,e,hs,hc⟩:=h.2 hn
  exact ⟨b,o,e,hS b hs,hc⟩⟩
end

-- AT
theorem Val_at {w:World} {S:Nat → Prop} {A:Option Addr} {n k:Nat} {l:List Val} (h:Sl w S 3 RVal A n l) (hk:k < n) :
  ∃ b o c,A = some ⟨b,o,none⟩ ∧ S b ∧ l[k]? = some c ∧ c.wf ∧ w.cell? ⟨b,o + k * 3,none⟩ = some (.int .i64 c.k) ∧ w.cell? ⟨b,o + k * 3 + 1,none⟩ = some (.int .i64 c.n) ∧ w.cell? ⟨b,o + k * 3 + 2,none⟩ = some (.string c.s):=by
 obtain ⟨b,o,c,cs,rfl,hs,hl,⟨rfl,hw⟩,_,hc⟩:=h.at_ hk
 exact ⟨b,o,c,rfl,hs,hl,hw,hc 0 (by decide),hc 1 (by decide),hc 2 (by decide)⟩
theorem Pol_at {w:World} {S:Nat → Prop} {A:Option Addr} {n k:Nat} {l:List Pol} (h:Sl w S 3 RPol A n l) (hk:k < n) :
  ∃ b o c,A = some ⟨b,o,none⟩ ∧ S b ∧ l[k]? = some c ∧ c.wf ∧ w.cell? ⟨b,o + k * 3,none⟩ = some (.int .i64 c.tries) ∧ w.cell? ⟨b,o + k * 3 + 1,none⟩ = some (.int .i64 c.base) ∧ w.cell? ⟨b,o + k * 3 + 2,none⟩ = some (.int .i64 c.cap):=by
 obtain ⟨b,o,c,cs,rfl,hs,hl,⟨rfl,hw⟩,_,hc⟩:=h.at_ hk
 exact ⟨b,o,c,rfl,hs,hl,hw,hc 0 (by decide),hc 1 (by decide),hc 2 (by decide)⟩
theorem Cll_at {w:World} {S:Nat → Prop} {A:Option Addr} {n k:Nat} {l:List Cll} (h:Sl w S 10 RCll A n l) (hk:k < n) :
  ∃ b o c,A = some ⟨b,o,none⟩ ∧ S b ∧ l[k]? = some c ∧ c.wf ∧ w.cell? ⟨b,o + k * 10,none⟩ = some (.int .i64 c.state) ∧ w.cell? ⟨b,o + k * 10 + 1,none⟩ = some (.int .i64 c.id) ∧ w.cell? ⟨b,o + k * 10 + 2,none⟩ = some (.int .i64 c.tries) ∧ w.cell? ⟨b,o + k * 10 + 3,none⟩ = some (.int .i64 c.key.k) ∧ w.cell? ⟨b,o + k * 10 + 4,none⟩ = some (.int .i64 c.key.n) ∧ w.cell? ⟨b,o + k * 10 + 5,none⟩ = some (.string c.key.s) ∧ w.cell? ⟨b,o + k * 10 + 6,none⟩ = some (.int .i64 c.has.k) ∧ w.cell? ⟨b,o + k * 10 + 7,none⟩ = some (.int .i64 c.has.n) ∧ w.cell? ⟨b,o + k * 10 + 8,none⟩ = some (.string c.has.s) ∧ w.cell? ⟨b,o + k * 10 + 9,none⟩ = some (.int .i64 c.next):=by
 obtain ⟨b,o,c,cs,rfl,hs,hl,⟨rfl,hw⟩,_,hc⟩:=h.at_ hk
 exact ⟨b,o,c,rfl,hs,hl,hw,hc 0 (by decide),hc 1 (by decide),hc 2 (by decide),hc 3 (by decide),hc 4 (by decide),hc 5 (by decide),hc 6 (by decide),hc 7 (by decide),hc 8 (by decide),hc 9 (by decide)⟩
theorem Ltr_at {w:World} {S:Nat → Prop} {A:Option Addr} {n k:Nat} {l:List Ltr} (h:Sl w S 8 RLtr A n l) (hk:k < n) :
  ∃ b o c,A = some ⟨b,o,none⟩ ∧ S b ∧ l[k]? = some c ∧ c.wf ∧ w.cell? ⟨b,o + k * 8,none⟩ = some (.string c.field) ∧ w.cell? ⟨b,o + k * 8 + 1,none⟩ = some (.int .i64 c.id) ∧ w.cell? ⟨b,o + k * 8 + 2,none⟩ = some (.int .i64 c.key.k) ∧ w.cell? ⟨b,o + k * 8 + 3,none⟩ = some (.int .i64 c.key.n) ∧ w.cell? ⟨b,o + k * 8 + 4,none⟩ = some (.string c.key.s) ∧ w.cell? ⟨b,o + k * 8 + 5,none⟩ = some (.int .i64 c.answer.k) ∧ w.cell? ⟨b,o + k * 8 + 6,none⟩ = some (.int .i64 c.answer.n) ∧ w.cell? ⟨b,o + k * 8 + 7,none⟩ = some (.string c.answer.s):=by
 obtain ⟨b,o,c,cs,rfl,hs,hl,⟨rfl,hw⟩,_,hc⟩:=h.at_ hk
 exact ⟨b,o,c,rfl,hs,hl,hw,hc 0 (by decide),hc 1 (by decide),hc 2 (by decide),hc 3 (by decide),hc 4 (by decide),hc 5 (by decide),hc 6 (by decide),hc 7 (by decide)⟩
theorem Fct_at {w:World} {S:Nat → Prop} {A:Option Addr} {n k:Nat} {l:List Fct} (h:Sl w S 7 RFct A n l) (hk:k < n) :
  ∃ b o c,A = some ⟨b,o,none⟩ ∧ S b ∧ l[k]? = some c ∧ c.wf ∧ w.cell? ⟨b,o + k * 7,none⟩ = some (.string c.name) ∧ w.cell? ⟨b,o + k * 7 + 1,none⟩ = some (.int .i64 c.key.k) ∧ w.cell? ⟨b,o + k * 7 + 2,none⟩ = some (.int .i64 c.key.n) ∧ w.cell? ⟨b,o + k * 7 + 3,none⟩ = some (.string c.key.s) ∧ w.cell? ⟨b,o + k * 7 + 4,none⟩ = some (.int .i64 c.has.k) ∧ w.cell? ⟨b,o + k * 7 + 5,none⟩ = some (.int .i64 c.has.n) ∧ w.cell? ⟨b,o + k * 7 + 6,none⟩ = some (.string c.has.s):=by
 obtain ⟨b,o,c,cs,rfl,hs,hl,⟨rfl,hw⟩,_,hc⟩:=h.at_ hk
 exact ⟨b,o,c,rfl,hs,hl,hw,hc 0 (by decide),hc 1 (by decide),hc 2 (by decide),hc 3 (by decide),hc 4 (by decide),hc 5 (by decide),hc 6 (by decide)⟩
theorem Tmr_at {w:World} {S:Nat → Prop} {A:Option Addr} {n k:Nat} {l:List Tmr} (h:Sl w S 2 RTmr A n l) (hk:k < n) :
  ∃ b o c,A = some ⟨b,o,none⟩ ∧ S b ∧ l[k]? = some c ∧ c.wf ∧ w.cell? ⟨b,o + k * 2,none⟩ = some (.int .i64 c.id) ∧ w.cell? ⟨b,o + k * 2 + 1,none⟩ = some (.int .i64 c.at_):=by
 obtain ⟨b,o,c,cs,rfl,hs,hl,⟨rfl,hw⟩,_,hc⟩:=h.at_ hk
 exact ⟨b,o,c,rfl,hs,hl,hw,hc 0 (by decide),hc 1 (by decide)⟩
theorem Evt_at {w:World} {S:Nat → Prop} {A:Option Addr} {n k:Nat} {l:List Evt} (h:Sl w S 6 REvt A n l) (hk:k < n) :
  ∃ b o c,A = some ⟨b,o,none⟩ ∧ S b ∧ l[k]? = some c ∧ c.wf ∧ w.cell? ⟨b,o + k * 6,none⟩ = some (.int .i64 c.kind) ∧ w.cell? ⟨b,o + k * 6 + 1,none⟩ = some (.int .i64 c.n) ∧ w.cell? ⟨b,o + k * 6 + 2,none⟩ = some (.string c.name) ∧ w.cell? ⟨b,o + k * 6 + 3,none⟩ = some (.int .i64 c.value.k) ∧ w.cell? ⟨b,o + k * 6 + 4,none⟩ = some (.int .i64 c.value.n) ∧ w.cell? ⟨b,o + k * 6 + 5,none⟩ = some (.string c.value.s):=by
 obtain ⟨b,o,c,cs,rfl,hs,hl,⟨rfl,hw⟩,_,hc⟩:=h.at_ hk
 exact ⟨b,o,c,rfl,hs,hl,hw,hc 0 (by decide),hc 1 (by decide),hc 2 (by decide),hc 3 (by decide),hc 4 (by decide),hc 5 (by decide)⟩
theorem Str_at {w:World} {S:Nat → Prop} {A:Option Addr} {n k:Nat} {l:List ByteArray} (h:Sl w S 1 RStr A n l) (hk:k < n) :
  ∃ b o c,A = some ⟨b,o,none⟩ ∧ S b ∧ l[k]? = some c ∧ inS c ∧ w.cell? ⟨b,o + k,none⟩ = some (.string c):=by
 obtain ⟨b,o,c,cs,rfl,hs,hl,⟨rfl,hw⟩,_,hc⟩:=h.at_ hk
 have h0:=hc 0 (by decide)
 rw [Nat.mul_one] at h0
 exact ⟨b,o,c,rfl,hs,hl,hw,h0⟩
theorem Int_at {w:World} {S:Nat → Prop} {A:Option Addr} {n k:Nat} {l:List Int} (h:Sl w S 1 RInt A n l) (hk:k < n) :
  ∃ b o c,A = some ⟨b,o,none⟩ ∧ S b ∧ l[k]? = some c ∧ inI c ∧ w.cell? ⟨b,o + k,none⟩ = some (.int .i64 c):=by
 obtain ⟨b,o,c,cs,rfl,hs,hl,⟨rfl,hw⟩,_,hc⟩:=h.at_ hk
 have h0:=hc 0 (by decide)
 rw [Nat.mul_one] at h0
 exact ⟨b,o,c,rfl,hs,hl,hw,h0⟩
-- AT END

inductive Exp where
 | mk (op:Int) (v:Val) (name:ByteArray) (args:List Exp)
def Exp.op:Exp → Int | .mk op _ _ _ => op
def Exp.v:Exp → Val | .mk _ v _ _ => v
def Exp.name:Exp → ByteArray | .mk _ _ n _ => n
def Exp.args:Exp → List Exp | .mk _ _ _ a => a
structure Fld where (name:ByteArray) (kind type:Int) (source:Exp)
structure Pag where (name:ByteArray) (fields:List ByteArray) (skip:Exp)
structure Frm where (fields:List Fld) (pages:List Pag)

def inL (n:Nat):Prop:=n ≤ 140737488351232
def inB (b n:Nat):Prop:=n * b ≤ 140737488351232
theorem inB.l {b n:Nat} (h:inB b n) (hb:0 < b):inL n:=Nat.le_trans (Nat.le_mul_of_pos_right n hb) h

inductive XRep (w:World) (S:Nat → Prop):List Value → Exp → Prop
 | mk (op:Int) (v:Val) (name:ByteArray) (args:List Exp) (A:Option Addr) (c b o:Nat) (cf:Nat → List Value) :
   inI op → v.wf → inS name → inB 80 args.length → args.length ≤ c → (∀ i a,args[i]? = some a → XRep w S (cf i) a) →
   (0 < args.length → A = some ⟨b,o,none⟩ ∧ S b ∧ ∀ i,i < args.length → (cf i).length = 6 ∧ ∀ j,j < 6 → w.cell? ⟨b,o + (i * 6 + j),none⟩ = (cf i)[j]?) →
   XRep w S [.int .i64 op,.int .i64 v.k,.int .i64 v.n,.string v.s,.string name,.slice A args.length c] (.mk op v name args)

theorem XRep.open_ {w:World} {S:Nat → Prop} {cs:List Value} {x:Exp} (h:XRep w S cs x) :
  ∃ A c,cs = [.int .i64 x.op,.int .i64 x.v.k,.int .i64 x.v.n,.string x.v.s,.string x.name,.slice A x.args.length c] ∧ inI x.op ∧ x.v.wf ∧ inS x.name ∧ inB 80 x.args.length ∧ x.args.length ≤ c ∧
   Sl w S 6 (XRep w S) A x.args.length x.args:=by
 cases h with
 | mk op v name args A c b o cf h1 h2 h3 h4 h5 h6 h7 =>
  refine ⟨A,c,rfl,h1,h2,h3,h4,h5,rfl,fun hn => ?_⟩
  obtain ⟨e,hs,hc⟩:=h7 hn
  refine ⟨b,o,e,hs,fun i a ha => ?_⟩
  have hi:i < args.length:=(List.getElem?_eq_some_iff.1 ha).1
  exact ⟨cf i,h6 i a ha,(hc i hi).1,(hc i hi).2⟩
theorem XRep.shut {w:World} {S:Nat → Prop} {op:Int} {v:Val} {name:ByteArray} {args:List Exp} {A:Option Addr} {n c:Nat} (h1:inI op) (h2:v.wf) (h3:inS name) (h4:inB 80 n) (h5:n ≤ c)
  (h:Sl w S 6 (XRep w S) A n args):XRep w S [.int .i64 op,.int .i64 v.k,.int .i64 v.n,.string v.s,.string name,.slice A n c] (.mk op v name args):=by
 obtain ⟨rfl,h⟩:=h
 rcases Nat.eq_zero_or_pos args.length with h0 | h0
 ·exact .mk op v name args A c 0 0 (fun _ => []) h1 h2 h3 h4 h5 (fun i a ha => by have:=(List.getElem?_eq_some_iff.1 ha).1;omega) (fun hn => by omega)
 ·obtain ⟨b,o,e,hs,hc⟩:=h h0
  have hc':∀ i,∃ cs,∀ a,args[i]? = some a → XRep w S cs a ∧ cs.length = 6 ∧ ∀ j,j < 6 → w.cell? ⟨b,o + (i * 6 + j),none⟩ = cs[j]?:=by
   intro i
   cases ha:args[i]? with
   | none => exact ⟨[],fun a h => by cases h⟩
   | some a =>
    obtain ⟨cs,r⟩:=hc i a ha
    exact ⟨cs,fun a' h => by cases h;exact r⟩
  refine .mk op v name args A c b o (fun i => (hc' i).choose) h1 h2 h3 h4 h5 (fun i a ha => ((hc' i).choose_spec a ha).1) (fun _ => ⟨e,hs,fun i hi => ?_⟩)
  have:=(hc' i).choose_spec _ (List.getElem?_eq_getElem hi)
  exact ⟨this.2.1,this.2.2⟩
theorem XRep.keep {w w':World} {S S':Nat → Prop} {cs:List Value} {x:Exp} (h:XRep w S cs x) (hk:∀ b,S b → S' b ∧ w'.heap[b]? = w.heap[b]?):XRep w' S' cs x:=by
 induction h with
 | mk op v name args A c b o cf h1 h2 h3 h4 h5 _ h7 ih =>
  refine .mk op v name args A c b o cf h1 h2 h3 h4 h5 ih (fun hn => ?_)
  obtain ⟨e,hs,hc⟩:=h7 hn
  refine ⟨e,(hk b hs).1,fun i hi => ⟨(hc i hi).1,fun j hj => ?_⟩⟩
  exact (World.cell?_of_block (w:=w) (a:=⟨b,_,none⟩) (hk b hs).2).trans ((hc i hi).2 j hj)
theorem XRep.under {w w':World} {S:Nat → Prop} {cs:List Value} {x:Exp} {B:Nat} (h:XRep w S cs x) (hb:Below B w w') (hS:∀ b,S b → b < B):XRep w' S cs x :=
 h.keep fun b hs => ⟨hs,hb.block b (hS b hs)⟩

def RFld (w:World) (S:Nat → Prop) (cs:List Value) (f:Fld):Prop :=
 inS f.name ∧ inI f.kind ∧ inI f.type ∧ ∃ xs,cs = .string f.name :: .int .i64 f.kind :: .int .i64 f.type :: xs ∧ XRep w S xs f.source
def RPag (w:World) (S:Nat → Prop) (cs:List Value) (p:Pag):Prop :=
 inS p.name ∧ ∃ A n c xs,cs = .string p.name :: .slice A n c :: xs ∧ inB 16 n ∧ n ≤ c ∧ Sl w S 1 RStr A n p.fields ∧ XRep w S xs p.skip
theorem RFld.keep {w w':World} {S S':Nat → Prop} {cs:List Value} {x:Fld} (h:RFld w S cs x) (hk:∀ b,S b → S' b ∧ w'.heap[b]? = w.heap[b]?):RFld w' S' cs x:=by
 obtain ⟨h1,h2,h3,xs,e,h4⟩:=h
 exact ⟨h1,h2,h3,xs,e,h4.keep hk⟩
theorem RPag.keep {w w':World} {S S':Nat → Prop} {cs:List Value} {x:Pag} (h:RPag w S cs x) (hk:∀ b,S b → S' b ∧ w'.heap[b]? = w.heap[b]?):RPag w' S' cs x:=by
 obtain ⟨h1,A,n,c,xs,e,hl,hc,h2,h4⟩:=h
 exact ⟨h1,A,n,c,xs,e,hl,hc,(h2.keep (fun b hb => (hk b hb).2) fun _ _ h => h).mono fun b hb => (hk b hb).1,h4.keep hk⟩


def Keeps {α:Type} (R:World → (Nat → Prop) → List Value → α → Prop):Prop :=
 ∀ (w w':World) (S S':Nat → Prop) (cs:List Value) (x:α),R w S cs x → (∀ b,S b → S' b ∧ w'.heap[b]? = w.heap[b]?) → R w' S' cs x
theorem keeps_flat {α:Type} (R:List Value → α → Prop):Keeps (fun _ _ => R):=fun _ _ _ _ _ _ h _ => h
theorem keeps_Exp:Keeps XRep:=fun _ _ _ _ _ _ h hk => h.keep hk
theorem keeps_Fld:Keeps RFld:=fun _ _ _ _ _ _ h hk => h.keep hk
theorem keeps_Pag:Keeps RPag:=fun _ _ _ _ _ _ h hk => h.keep hk
theorem Sl.keepN {α:Type} {R:World → (Nat → Prop) → List Value → α → Prop} (K:Keeps R) {w w':World} {S S':Nat → Prop} {size n:Nat} {A:Option Addr} {l:List α}
  (h:Sl w S size (R w S) A n l) (hk:∀ b,S b → S' b ∧ w'.heap[b]? = w.heap[b]?):Sl w' S' size (R w' S') A n l :=
 (h.keep (fun b hb => (hk b hb).2) (fun _ _ h => K _ _ _ _ _ _ h hk)).mono fun b hb => (hk b hb).1
theorem old_keep {w w':World} (hb:Below w.heap.size w w'):∀ b,old w b → old w' b ∧ w'.heap[b]? = w.heap[b]? :=
 fun b h => ⟨Nat.lt_of_lt_of_le h hb.size,hb.block b h⟩
theorem Sl.nowN {α:Type} {R:World → (Nat → Prop) → List Value → α → Prop} (K:Keeps R) {w w':World} {size n:Nat} {A:Option Addr} {l:List α}
  (h:Sl w (old w) size (R w (old w)) A n l) (hb:Below w.heap.size w w'):Sl w' (old w') size (R w' (old w')) A n l:=h.keepN K (old_keep hb)

theorem Fld_at {w:World} {S:Nat → Prop} {A:Option Addr} {n k:Nat} {l:List Fld} (h:Sl w S 9 (RFld w S) A n l) (hk:k < n) :
  ∃ b o f X C,A = some ⟨b,o,none⟩ ∧ S b ∧ l[k]? = some f ∧
   RFld w S [.string f.name,.int .i64 f.kind,.int .i64 f.type,.int .i64 f.source.op,.int .i64 f.source.v.k,.int .i64 f.source.v.n,.string f.source.v.s,.string f.source.name,.slice X f.source.args.length C] f ∧
   w.cell? ⟨b,o + k * 9,none⟩ = some (.string f.name) ∧ w.cell? ⟨b,o + k * 9 + 1,none⟩ = some (.int .i64 f.kind) ∧ w.cell? ⟨b,o + k * 9 + 2,none⟩ = some (.int .i64 f.type) ∧
   w.cell? ⟨b,o + k * 9 + 3,none⟩ = some (.int .i64 f.source.op) ∧ w.cell? ⟨b,o + k * 9 + 4,none⟩ = some (.int .i64 f.source.v.k) ∧ w.cell? ⟨b,o + k * 9 + 5,none⟩ = some (.int .i64 f.source.v.n) ∧
   w.cell? ⟨b,o + k * 9 + 6,none⟩ = some (.string f.source.v.s) ∧ w.cell? ⟨b,o + k * 9 + 7,none⟩ = some (.string f.source.name) ∧ w.cell? ⟨b,o + k * 9 + 8,none⟩ = some (.slice X f.source.args.length C):=by
 obtain ⟨b,o,f,cs,rfl,hs,hl,hr,_,hc⟩:=h.at_ hk
 obtain ⟨r1,r2,r3,xs,rfl,hx⟩:=hr
 have hx':=hx
 obtain ⟨X,C,rfl,_⟩:=hx.open_
 exact ⟨b,o,f,X,C,rfl,hs,hl,⟨r1,r2,r3,_,rfl,hx'⟩,hc 0 (by decide),hc 1 (by decide),hc 2 (by decide),hc 3 (by decide),hc 4 (by decide),hc 5 (by decide),hc 6 (by decide),hc 7 (by decide),hc 8 (by decide)⟩


def valEq (x y:Val):Bool:=x.k == y.k && (x.n == y.n && x.s.toList == y.s.toList)
theorem toList_inj {a b:ByteArray} (h:a.toList = b.toList):a = b:=by
 rw [ByteArray.toList_eq,ByteArray.toList_eq] at h
 exact ByteArray.ext (Array.toList_inj.1 h)
theorem valEq_iff (x y:Val):valEq x y = true ↔ x = y:=by
 obtain ⟨k,n,s⟩:=x
 obtain ⟨k',n',s'⟩:=y
 simp only [valEq,Bool.and_eq_true,beq_iff_eq,Val.mk.injEq]
 exact ⟨fun ⟨a,b,c⟩ => ⟨a,b,toList_inj c⟩,fun ⟨a,b,c⟩ => ⟨a,b,by rw [c]⟩⟩
theorem run_eql_Val (w:World) (k n k' n':Int) (s s':ByteArray):(binOp .eql 23 (.agg #[.int .i64 k,.int .i64 n,.string s]) (.agg #[.int .i64 k',.int .i64 n',.string s'])).run Tryz.prog w = .ok (.bool (valEq ⟨k,n,s⟩ ⟨k',n',s'⟩)) w:=by
 go_simp
 unfold valEq
 by_cases h1:k = k' <;> by_cases h2:n = n' <;> by_cases h3:s.toList = s'.toList <;> simp [h1,h2,h3]
theorem run_neq_Val (w:World) (k n k' n':Int) (s s':ByteArray):(binOp .neq 23 (.agg #[.int .i64 k,.int .i64 n,.string s]) (.agg #[.int .i64 k',.int .i64 n',.string s'])).run Tryz.prog w = .ok (.bool (!valEq ⟨k,n,s⟩ ⟨k',n',s'⟩)) w:=by
 go_simp
 unfold valEq
 by_cases h1:k = k' <;> by_cases h2:n = n' <;> by_cases h3:s.toList = s'.toList <;> simp [h1,h2,h3]


theorem flat_at {α β:Type} (enc:α → List β) (size:Nat) (hsz:∀ a,(enc a).length = size):∀ (l:List α) (i j:Nat) (a:α),l[i]? = some a → j < size → (l.flatMap enc)[i * size + j]? = (enc a)[j]?
 | [],i,j,a,h,_ => by simp at h
 | b :: l,0,j,a,h,hj => by
  simp at h;subst h
  rw [List.flatMap_cons,Nat.zero_mul,Nat.zero_add,List.getElem?_append_left (by rw [hsz];exact hj)]
 | b :: l,i + 1,j,a,h,hj => by
  rw [List.flatMap_cons,List.getElem?_append_right (by rw [hsz,Nat.add_mul];omega),hsz]
  have e:(i + 1) * size + j - size = i * size + j:=by rw [Nat.add_mul];omega
  rw [e]
  exact flat_at enc size hsz l i j a (by simpa using h) hj
theorem own_sl {α:Type} (enc:α → List Value) {size:Nat} (hsz:∀ a,(enc a).length = size) {w:World} {base:Nat} {e:TypeId} {v:Value} {n:Nat} {l:List α}
  (h:w.ownsRow base e size v n (l.flatMap enc)) (hl:l.length = n) :
  ∃ A c,v = .slice A n c ∧ n ≤ c ∧ Sl w (fun b => base ≤ b ∧ b < w.heap.size) size (fun cs a => cs = enc a) A n l:=by
 obtain ⟨h1,h2⟩:=h
 rcases h2 with ⟨rfl,rfl⟩ | ⟨g,cap,cur,rfl,hg,hh,hc,hm,hs,ht⟩
 ·exact ⟨none,0,rfl,Nat.le_refl _,hl,fun h => absurd h (by omega)⟩
 ·refine ⟨some ⟨g,0,none⟩,cap,rfl,hc,hl,fun hn => ⟨g,0,rfl,⟨hg,?_⟩,fun i a hi => ⟨_,rfl,hsz a,fun j hj => ?_⟩⟩⟩
  ·rcases Nat.lt_or_ge g w.heap.size with h | h
   ·exact h
   ·rw [Array.getElem?_eq_none h] at hh;cases hh
  ·rw [Nat.zero_add,cell_of_row w g (i * size + j) cur e (0,0) hh]
   have hi':i < l.length:=(List.getElem?_eq_some_iff.1 hi).1
   have hlt:i * size + j < n * size:=by
    have:(i + 1) * size ≤ n * size:=Nat.mul_le_mul_right _ (by omega)
    rw [Nat.add_mul] at this
    omega
   rw [← flat_at enc size hsz l i j a hi hj,← ht,List.getElem?_take_of_lt hlt]
   simp

theorem chunk_at {β:Type} (size:Nat):∀ (C:List (List β)),(∀ c ∈ C,c.length = size) → ∀ (i j:Nat) (c:List β),C[i]? = some c → j < size → C.flatten[i * size + j]? = c[j]?
 | [],_,i,j,c,h,_ => by simp at h
 | b :: l,hC,0,j,c,h,hj => by
  simp at h;subst h
  rw [List.flatten_cons,Nat.zero_mul,Nat.zero_add,List.getElem?_append_left (by rw [hC b (by simp)];exact hj)]
 | b :: l,hC,i + 1,j,c,h,hj => by
  have hb:=hC b (by simp)
  rw [List.flatten_cons,List.getElem?_append_right (by rw [hb,Nat.add_mul];omega),hb]
  have e:(i + 1) * size + j - size = i * size + j:=by rw [Nat.add_mul];omega
  rw [e]
  exact chunk_at size l (fun c hc => hC c (by simp [hc])) i j c (by simpa using h) hj
theorem own_rows {α:Type} {w:World} {base:Nat} {e:TypeId} {size:Nat} {v:Value} {n:Nat} {C:List (List Value)} {l:List α} {S:Nat → Prop} {R:List Value → α → Prop}
  (h:w.ownsRow base e size v n C.flatten) (hC:∀ c ∈ C,c.length = size) (hl:C.length = n) (hl':l.length = n) (hS:∀ g,v.ownBlock = some g → S g)
  (hR:∀ (i:Nat) (c:List Value) (a:α),C[i]? = some c → l[i]? = some a → R c a):∃ A c,v = .slice A n c ∧ n ≤ c ∧ Sl w S size R A n l:=by
 obtain ⟨h1,h2⟩:=h
 rcases h2 with ⟨rfl,rfl⟩ | ⟨g,cap,cur,rfl,hg,hh,hc,hm,hs,ht⟩
 ·exact ⟨none,0,rfl,Nat.le_refl _,hl',fun h => absurd h (by omega)⟩
 ·refine ⟨some ⟨g,0,none⟩,cap,rfl,hc,hl',fun hn => ⟨g,0,rfl,hS g rfl,fun i a hi => ?_⟩⟩
  have hi':i < n:=by rw [← hl'];exact (List.getElem?_eq_some_iff.1 hi).1
  have hCi:C[i]? = some (C[i]'(by omega)):=List.getElem?_eq_getElem (by omega)
  refine ⟨_,hR i _ a hCi hi,hC _ (List.getElem_mem _),fun j hj => ?_⟩
  rw [Nat.zero_add,cell_of_row w g (i * size + j) cur e (0,0) hh]
  have hlt:i * size + j < n * size:=by
   have:(i + 1) * size ≤ n * size:=Nat.mul_le_mul_right _ (by omega)
   rw [Nat.add_mul] at this
   omega
  rw [← chunk_at size C hC i j _ hCi hj,← ht,List.getElem?_take_of_lt hlt]
  simp
end Go.Proofs.YtldbpmlgbbomcaaGreatDoor
/- Maps that a call makes, told by what stands at each key. Plain laws; no program text is walked here. -/
namespace Go.Proofs.YtldbpmlgbbomcaaGreatDoor
open Go.RowKit Go.Maps

abbrev rdV:Value → Option (DataW Value × List MemPlace):=fun v => some (.held v,[])
def MapIs (w:World) (P:Program) (k:TypeId) (b n:Nat) (f:Lit → Option Value):Prop :=
 ∃ D:DataW Value,w.ownsMap P k rdV b n D ∧ (∀ kl,Maps.has D kl = (f kl).isSome) ∧ ∀ kl v,f kl = some v → ∀ z,D.atKey kl z = .held v
def putAt (f:Lit → Option Value) (kl:Lit) (v:Value):Lit → Option Value:=fun k' => if k'.sameKey kl then some v else f k'
theorem putAt_same {f:Lit → Option Value} {kl:Lit} {v:Value} (h:WideAt.IsKeyLit kl):putAt f kl v kl = some v:=by simp [putAt,WideAt.sameKey_self h]
theorem putAt_other {f:Lit → Option Value} {kl k':Lit} {v:Value} (h:k' ≠ kl):putAt f kl v k' = f k':=by simp [putAt,Maps.sameKey_ne h]

section
variable {P:Program} {k e t:TypeId} {w w':World} {b n:Nat} {f:Lit → Option Value}
theorem MapIs.made (w:World) (P:Program) (k:TypeId):MapIs (w.alloc (.map #[] 0)) P k w.heap.size 0 (fun _ => none) :=
 ⟨.map [],World.ownsMap_made _ _ _ _,fun kl => by simp [Maps.has],fun kl v h => by cases h⟩
theorem MapIs.lt (h:MapIs w P k b n f):b < w.heap.size:=by obtain ⟨D,h1,_⟩:=h;exact h1.lt
theorem MapIs.kept {row:Option Nat} (h:MapIs w P k b n f) (hg:w.grownBy w' row) (hne:some b ≠ row):MapIs w' P k b n f:=by
 obtain ⟨D,h1,h2⟩:=h;exact ⟨D,h1.kept hg hne,h2⟩
theorem MapIs.same (h:MapIs w P k b n f) (hb:w'.heap[b]? = w.heap[b]?):MapIs w' P k b n f:=by
 obtain ⟨D,⟨es,clock,h1,h2⟩,h3⟩:=h;exact ⟨D,⟨es,clock,hb.trans h1,h2⟩,h3⟩
theorem MapIs.below {B:Nat} (h:MapIs w P k b n f) (hb:Below B w w') (hl:b < B):MapIs w' P k b n f:=h.same (hb.block b hl)
theorem MapIs.mono {n':Nat} (h:MapIs w P k b n f) (hn:n ≤ n'):MapIs w P k b n' f:=by
 obtain ⟨D,h1,h2⟩:=h;exact ⟨D,h1.mono hn,h2⟩
theorem MapIs.congr {g:Lit → Option Value} (h:MapIs w P k b n f) (e:∀ kl,f kl = g kl):MapIs w P k b n g:=by
 rwa [show f = g from funext e] at h
theorem MapIs.look {key z:Value} {kl:Lit} (h:MapIs w P k b n f) (K:Keyed P k) (ht:P.underlying t = some (.map k e)) (hz:(zeroValue e).run P w = .ok z w) (hkey:keyOf P k key = some kl) :
  (Instr.lookup t (.map (some b)) key true).run P w = .ok (.tuple #[(f kl).getD z,.bool (f kl).isSome]) w:=by
 obtain ⟨D,h1,h2,h3⟩:=h
 obtain ⟨v,ps,hrun,hv⟩:=h1.look_ok K ht hz (zd:=.held z) (zp:=[]) rfl hkey
 rw [hrun,h2 kl]
 cases hf:f kl with
 | some u =>
  rw [h3 kl u hf] at hv
  simp only [rdV,Option.some.injEq,Prod.mk.injEq,DataW.held.injEq] at hv
  rw [hv.1];rfl
 | none =>
  have h4:Maps.has D kl = false:=by rw [h2,hf];rfl
  rw [Maps.atKey_of_not_has h4] at hv
  simp only [rdV,Option.some.injEq,Prod.mk.injEq,DataW.held.injEq] at hv
  rw [hv.1];rfl
theorem MapIs.look1 {key z:Value} {kl:Lit} (h:MapIs w P k b n f) (K:Keyed P k) (ht:P.underlying t = some (.map k e)) (hz:(zeroValue e).run P w = .ok z w) (hkey:keyOf P k key = some kl) :
  (Instr.lookup t (.map (some b)) key false).run P w = .ok ((f kl).getD z) w:=by
 obtain ⟨D,h1,h2,h3⟩:=h
 obtain ⟨v,ps,hrun,hv⟩:=h1.lookup K ht hz (zd:=.held z) (zp:=[]) rfl hkey
 rw [hrun]
 cases hf:f kl with
 | some u =>
  rw [h3 kl u hf] at hv
  simp only [rdV,Option.some.injEq,Prod.mk.injEq,DataW.held.injEq] at hv
  rw [hv.1];rfl
 | none =>
  have h4:Maps.has D kl = false:=by rw [h2,hf];rfl
  rw [Maps.atKey_of_not_has h4] at hv
  simp only [rdV,Option.some.injEq,Prod.mk.injEq,DataW.held.injEq] at hv
  rw [hv.1];rfl
theorem MapIs.put {kl:Lit} {v:Value} {D:DataW Value} (K:WideAt.IsKeyLit kl) (h1:w.ownsMap P k rdV b n D) (h2:∀ kl,Maps.has D kl = (f kl).isSome) (h3:∀ kl v,f kl = some v → ∀ z,D.atKey kl z = .held v)
  (h4:w'.ownsMap P k rdV b (n + 1) (D.put kl (.held v))):MapIs w' P k b (n + 1) (putAt f kl v):=by
 refine ⟨_,h4,fun k' => ?_,fun k' u hu z => ?_⟩
 ·by_cases hk:k' = kl
  ·subst hk;rw [Maps.has_put_same h1.isMap K,putAt_same K];rfl
  ·rw [Maps.has_put_other hk,h2,putAt_other hk]
 ·by_cases hk:k' = kl
  ·subst hk;rw [Maps.atKey_put_same h1.isMap K];rw [putAt_same K] at hu;cases hu;rfl
  ·rw [Maps.atKey_put_other hk];rw [putAt_other hk] at hu;exact h3 k' u hu z
end
section
variable {P:Program} (w:World) {ops:Array Oper} {rest:List Oper} {o:Oper} {a:Act} {Q:Exit → Act → World → Prop}
theorem wpList_lookup_Is (hg:o.guard = none) (m x:Operand) (t:TypeId) (hop:o.op = Op.lookup t m x true) (k e:TypeId) (K:Keyed P k) (ht:P.underlying t = some (.map k e)) {z:Value} (hz:(zeroValue e).run P w = .ok z w)
  (b n:Nat) (f:Lit → Option Value) (hm:a.eval m = .map (some b)) (hown:MapIs w P k b n f) (key:Value) (kl:Lit) (hx:a.eval x = key) (hkey:keyOf P k key = some kl)
  (hK:wpList P ops Q rest (a.put o.dst (.tuple #[(f kl).getD z,.bool (f kl).isSome])) w):wpList P ops Q (o :: rest) a w:=by
 refine wpList_plain hg fun K' hK' => ?_
 unfold Oper.wp
 simp [execOp,hop,hm,hx,hown.look K ht hz hkey,Result.andThen]
 exact hK' _ _ hK
theorem wpList_lookup1_Is (hg:o.guard = none) (m x:Operand) (t:TypeId) (hop:o.op = Op.lookup t m x false) (k e:TypeId) (K:Keyed P k) (ht:P.underlying t = some (.map k e)) {z:Value} (hz:(zeroValue e).run P w = .ok z w)
  (b n:Nat) (f:Lit → Option Value) (hm:a.eval m = .map (some b)) (hown:MapIs w P k b n f) (key:Value) (kl:Lit) (hx:a.eval x = key) (hkey:keyOf P k key = some kl)
  (hK:wpList P ops Q rest (a.put o.dst ((f kl).getD z)) w):wpList P ops Q (o :: rest) a w:=by
 refine wpList_plain hg fun K' hK' => ?_
 unfold Oper.wp
 simp [execOp,hop,hm,hx,hown.look1 K ht hz hkey,Result.andThen]
 exact hK' _ _ hK
theorem wpList_mapUpdate_Is (hg:o.guard = none) (m x v:Operand) (t:TypeId) (hop:o.op = Op.mapUpdate t m x v) (k e:TypeId) (K:Keyed P k) (ht:P.underlying t = some (.map k e))
  (b n:Nat) (f:Lit → Option Value) (hm:a.eval m = .map (some b)) (hown:MapIs w P k b n f) (hn:n < maxLen) (key val:Value) (kl:Lit) (hx:a.eval x = key) (hv:a.eval v = val) (hkey:keyOf P k key = some kl)
  (hK:∀ w',MapIs w' P k b (n + 1) (putAt f kl val) → w.grownBy w' (some b) → wpList P ops Q rest (a.put o.dst undef) w'):wpList P ops Q (o :: rest) a w:=by
 obtain ⟨D,h1,h2,h3⟩:=hown
 exact wpList_mapUpdate_own w hg m x v t hop k e K ht rdV b n D hm h1 hn key val kl hx hv hkey (.held val) [] rfl fun w' h4 h5 => hK w' (MapIs.put (K.key hkey) h1 h2 h3 h4) h5
theorem wp_insert_Is {w:World} {o:Oper} {a:Act} {K:Act → World → Prop} (m x v:Operand) (t:TypeId) (hop:o.op = Op.insert t m x v) (k e:TypeId) (K1:Keyed P k) (ht:P.underlying t = some (.map k e))
  (b n:Nat) (f:Lit → Option Value) (hm:a.eval m = .map (some b)) (hown:MapIs w P k b n f) (hn:n < maxLen) (key val:Value) (kl:Lit) (hx:a.eval x = key) (hv:a.eval v = val) (hkey:keyOf P k key = some kl)
  (hK:∀ w',MapIs w' P k b (n + 1) (putAt f kl val) → w.grownBy w' (some b) → K (a.put o.dst undef) w'):o.wp P a w K Q:=by
 obtain ⟨D,h1,h2,h3⟩:=hown
 obtain ⟨w',hrun,r1,r2⟩:=h1.update K1 ht hn hkey (val:=val) (d:=.held val) (ps:=[]) rfl
 unfold Oper.wp
 simp [execOp,hop,hm,hx,hv,hrun,Result.andThen]
 exact hK w' (MapIs.put (K1.key hkey) h1 h2 h3 r1) r2
end
section
variable {F:Fence} {nF:Nat} {P:Program} (w:World) {ops:Array Oper} {rest:List Oper} {o:Oper} {a:Act} {Q:Exit → Act → World → Prop}
theorem wpListIn_mapUpdate_Is (hg:o.guard = none) (m x v:Operand) (t:TypeId) (hop:o.op = Op.mapUpdate t m x v) (k e:TypeId) (K:Keyed P k) (ht:P.underlying t = some (.map k e))
  (b n:Nat) (f:Lit → Option Value) (hm:a.eval m = .map (some b)) (hown:MapIs w P k b n f) (hn:n < maxLen) (key val:Value) (kl:Lit) (hx:a.eval x = key) (hv:a.eval v = val) (hkey:keyOf P k key = some kl)
  (hK:∀ w',MapIs w' P k b (n + 1) (putAt f kl val) → w.grownBy w' (some b) → wpListIn F nF P ops Q rest (a.put o.dst undef) w'):wpListIn F nF P ops Q (o :: rest) a w:=by
 obtain ⟨D,h1,h2,h3⟩:=hown
 exact wpListIn_mapUpdate_own w hg m x v t hop k e K ht rdV b n D hm h1 hn key val kl hx hv hkey (.held val) [] rfl fun w' h4 h5 => hK w' (MapIs.put (K.key hkey) h1 h2 h3 h4) h5
end
end Go.Proofs.YtldbpmlgbbomcaaGreatDoor
/- A region that draws its order and whose last operation writes a cell that the region loads: loads are taken first under a condition S that holds behind each operation BUT the last (number n); the last waits for all others. -/
namespace Go.Proofs.YtldbpmlgbbomcaaGreatDoor
open Go.RowKit

section
variable {P:Program} {ops:Array Oper} {Q:Exit → Act → World → Prop} {S:World → Prop} {n:Nat}

def wpAnyT (P:Program) (ops:Array Oper) (Q:Exit → Act → World → Prop) (S:World → Prop) (n:Nat):Nat → Array Bool → Act → World → Prop
 | 0,listed,a,w => Region.ready .any ops listed = [] ∧ Q .normal a w
 | fuel + 1,listed,a,w => (Region.ready .any ops listed = [] → Q .normal a w) ∧
  ∀ i ∈ Region.ready .any ops listed,wpOp P ops Q i (fun a' w' => (i < n → S w') ∧ wpAnyT P ops Q S n fuel (listed.setIfInBounds i true) a' w') a w
theorem wpAny_of_T:∀ (fuel:Nat) (listed:Array Bool) (a:Act) (w:World),wpAnyT P ops Q S n fuel listed a w → wpAny P .any ops Q fuel listed a w
 | 0,_,_,_,h => h
 | fuel + 1,_,_,_,h => ⟨h.1,fun i hi => wpOp_mono (fun _ _ h' => wpAny_of_T fuel _ _ _ h'.2) (h.2 i hi)⟩
theorem wpAnyT_first {i:Nat} {oi:Oper} {v:Value} (hi:ops[i]? = some oi) (hsel:∀ (j:Nat) (o:Oper) cs b,ops[j]? = some o → o.op ≠ .select cs b)
  (hQ:∀ c a w,Q (.panic c) (a.put oi.dst v) w → Q (.panic c) a w) (hs:Region.sinkB .any ops n = true) (hc:Region.chainB .any ops n = true) (hn:n < ops.size) (hin:i < n) :
  ∀ (fuel:Nat) (listed:Array Bool) (a:Act) (w:World),HeadInv .any ops n listed →
   (∀ j oj,ops[j]? = some oj → j ≠ i → listed.getD j true = false → (∀ e ∈ oj.after,Region.binds .any e = true → e.on ≠ i) → oi.apart ops oj = true) →
   i ∈ Region.ready .any ops listed → YieldsIf P ops S oi v a → S w →
   wpAnyT P ops Q S n fuel (listed.setIfInBounds i true) (a.put oi.dst v) w → wpAnyT P ops Q S n (fuel + 1) listed a w:=by
 intro fuel
 induction fuel with
 | zero =>
  intro listed a w _ _ hr hy hS H
  refine ⟨fun h => (by rw [h] at hr;cases hr),fun j hj => ?_⟩
  by_cases hji:j = i
  ·subst hji;exact hy.wpOp hi hS ⟨fun _ => hS,H⟩
  ·have h1:=ready_mono hj hji
   rw [H.1] at h1
   cases h1
 | succ fuel ih =>
  intro listed a w inv hfree hr hy hS H
  refine ⟨fun h => (by rw [h] at hr;cases hr),fun j hj => ?_⟩
  by_cases hji:j = i
  ·subst hji;exact hy.wpOp hi hS ⟨fun _ => hS,H⟩
  ·have hun:=(mem_ready.1 hr).1
   have hjn:j < n:=by
    rcases Nat.lt_or_ge j n with h | h
    ·exact h
    ·exact absurd hj (tail_waits hs hc hn inv _ i rfl hin hun j h)
   have h1:=H.2 j (ready_mono hj hji)
   obtain ⟨hjun,oj,hoj,hall⟩:=mem_ready.1 hj
   have hnot:∀ e ∈ oj.after,Region.binds .any e = true → e.on ≠ i:=fun e he hb heq => by
    have h2:=hall e he hb
    rw [heq,getD_both hun] at h2
    cases h2
   have h2:=wpOp_putIf hoj (hfree j oj hoj hji hjun hnot) (fun cs b => hsel i oi cs b hi) (fun cs b => hsel j oj cs b hoj) hQ hy h1
   have hfree':∀ k ok,ops[k]? = some ok → k ≠ i → (listed.setIfInBounds j true).getD k true = false →
     (∀ e ∈ ok.after,Region.binds .any e = true → e.on ≠ i) → oi.apart ops ok = true:=fun k ok hk hki hku hno => by
    refine hfree k ok hk hki ?_ hno
    by_cases hjk:j = k
    ·subst hjk;exact hjun
    ·rw [getD_set_ne true hjk] at hku;exact hku
   refine wpOp_mono (fun a' w' h3 => ⟨fun _ => h3.2.1 hjn,ih (listed.setIfInBounds j true) a' w' (inv.set hj hjn) hfree' (ready_mono hr (Ne.symm hji)) h3.1 (h3.2.1 hjn) ?_⟩) h2
   rw [Array.setIfInBounds_comm _ _ hji]
   exact h3.2.2
def headInvB (ops:Array Oper) (n:Nat) (listed:Array Bool):Bool :=
 listed.size == ops.size && ((List.range ops.size).all fun j => match ops[j]? with
  | some oj => !listed.getD j false || oj.after.all fun e => !Region.binds .any e || listed.getD e.on false
  | none => true) && (List.range ops.size).all fun t => decide (t < n) || !listed.getD t true
theorem headInv_of {listed:Array Bool} (h:headInvB ops n listed = true):HeadInv .any ops n listed:=by
 simp only [headInvB,Bool.and_eq_true,beq_iff_eq,List.all_eq_true,List.mem_range] at h
 obtain ⟨⟨h1,h2⟩,h3⟩:=h
 refine ⟨h1,fun j oj hj hl e he hb => ?_,fun t ht ht' => ?_⟩
 ·have:=h2 j (Array.getElem?_eq_some_iff.1 hj).1
  rw [hj] at this
  simp only [hl,Bool.not_true,Bool.false_or] at this
  have h4:=(Array.all_eq_true_iff_forall_mem.1 this) e he
  simpa [hb] using h4
 ·have:=h3 t ht'
  simp only [Bool.or_eq_true,decide_eq_true_eq,Bool.not_eq_true'] at this
  rcases this with h | h
  ·omega
  ·exact h
def takeB (ops:Array Oper) (n i:Nat) (listed:Array Bool):Bool :=
 Region.noSelect ops && Region.free .any ops listed i && (Region.ready .any ops listed).contains i && headInvB ops n listed && decide (i < n) && Region.sinkB .any ops n && Region.chainB .any ops n && decide (n < ops.size)
theorem wpAnyT_take {i:Nat} {oi:Oper} {v:Value} {fuel:Nat} {listed:Array Bool} {a:Act} {w:World} (hi':ops.toList[i]? = some oi) (hB:takeB ops n i listed = true)
  (hQ:∀ c a w,Q (.panic c) (a.put oi.dst v) w → Q (.panic c) a w) (hS:S w) (hw:Region.wanted oi (yielded ops a.tmps) = true) (hy:∀ w,S w → (execOp a.eval oi).run P w = .ok (.value v) w)
  (h:wpAnyT P ops Q S n fuel (listed.setIfInBounds i true) (a.put oi.dst v) w):wpAnyT P ops Q S n (fuel + 1) listed a w:=by
 have hi:ops[i]? = some oi:=by simpa using hi'
 simp only [takeB,Bool.and_eq_true,decide_eq_true_eq] at hB
 obtain ⟨⟨⟨⟨⟨⟨⟨b1,b2⟩,b3⟩,b4⟩,b5⟩,b6⟩,b7⟩,b8⟩:=hB
 exact wpAnyT_first hi (Region.noSelect_spec b1) hQ b6 b7 b8 b5 fuel listed a w (headInv_of b4) (Region.free_spec hi b2) (by simpa using b3) (.inl ⟨hw,hy⟩) hS h
theorem wpAnyT_one {i:Nat} {o:Oper} {fuel:Nat} {listed:Array Bool} {a:Act} {w:World} (ho':ops.toList[i]? = some o) (hr:Region.ready .any ops listed = [i])
  (h:∀ K:Act → World → Prop,Hid (∀ a w,(i < n → S w) → wpAnyT P ops Q S n fuel (listed.setIfInBounds i true) a w → K a w) → if Region.wanted o (yielded ops a.tmps) = true then Oper.wp P o a w K Q else K (a.put o.dst undef) w) :
  wpAnyT P ops Q S n (fuel + 1) listed a w:=by
 have ho:ops[i]? = some o:=by simpa using ho'
 refine ⟨fun h0 => (by rw [h0] at hr;cases hr),fun j hj => ?_⟩
 rw [hr] at hj
 have:j = i:=by simpa using hj
 subst this
 exact wpOp_step ho (fun K' hK => h K' (Lib.hid fun a w h1 h2 => hK a w ⟨h1,h2⟩))
theorem wpAnyT_done {listed:Array Bool} {a:Act} {w:World} (hr:Region.ready .any ops listed = []) (h:Q .normal a w):∀ fuel,wpAnyT P ops Q S n fuel listed a w
 | 0 => ⟨hr,h⟩
 | _ + 1 => ⟨fun _ => h,by rw [hr];simp⟩
def mkL (size m:Nat) (rem:List Nat):Array Bool:=((List.range size).map fun j => decide (j < m) && !rem.contains j).toArray
theorem mkL_get {size m:Nat} (rem:List Nat) (j:Nat) (d:Bool) (h:j < size):(mkL size m rem).getD j d = (decide (j < m) && !rem.contains j):=by
 simp [mkL,Array.getD,h]
theorem mkL_set {size m:Nat} (rem:List Nat) (i:Nat) (hn:rem.Nodup) (hi:i < m):(mkL size m rem).setIfInBounds i true = mkL size m (rem.erase i):=by
 apply Array.ext
 ·simp [mkL]
 ·intro j h1 h2
  simp only [mkL,Array.size_setIfInBounds,List.size_toArray,List.length_map,List.length_range] at h1
  rw [Array.getElem_setIfInBounds (by simpa [mkL] using h1)]
  by_cases hij:i = j
  ·subst hij
   have:i ∉ rem.erase i:=fun h => by rw [hn.mem_erase_iff] at h;exact h.1 rfl
   simp [mkL,this,hi]
  ·have:(j ∈ rem.erase i) ↔ j ∈ rem:=by rw [hn.mem_erase_iff];exact ⟨fun h => h.2,fun h => ⟨fun e => hij e.symm,h⟩⟩
   simp [mkL,hij,this]
theorem wpOp_plain {i:Nat} {o:Oper} {K:Act → World → Prop} {a:Act} {w:World} (ho':ops.toList[i]? = some o) (hg:o.guard = none)
  (h:∀ K':Act → World → Prop,(∀ a w,K a w → K' a w) → Oper.wp P o a w K' Q):wpOp P ops Q i K a w:=by
 have ho:ops[i]? = some o:=by simpa using ho'
 refine wpOp_step ho fun K' hK => ?_
 have hw:Region.wanted o (yielded ops a.tmps) = true:=by simp [Region.wanted,hg]
 rw [if_pos hw]
 exact h K' hK
def bagB (ops:Array Oper) (m:Nat) (bag:List Nat):Bool :=
 (bag.all fun j => decide (j < m) && match ops[j]? with
  | some o => o.after.all fun e => !Region.binds .any e || (decide (e.on < m) && decide (e.on < ops.size) && !bag.contains e.on)
  | none => false) &&
 (List.range ops.size).all fun i => decide (i < m) || bag.all fun r => match ops[i]? with
  | some o => o.after.any fun e => Region.binds .any e && e.on == r
  | none => true
theorem bag_ready {bag rem:List Nat} {m:Nat} (hB:bagB ops m bag = true) (hs:∀ j ∈ rem,j ∈ bag) (hne:rem ≠ []) {i:Nat}:i ∈ Region.ready .any ops (mkL ops.size m rem) ↔ i ∈ rem:=by
 simp only [bagB,Bool.and_eq_true,List.all_eq_true,List.mem_range] at hB
 obtain ⟨h1,h2⟩:=hB
 rw [mem_ready]
 constructor
 ·rintro ⟨h3,o,ho,h4⟩
  have hi:i < ops.size:=(Array.getElem?_eq_some_iff.1 ho).1
  rw [mkL_get _ _ _ hi] at h3
  by_cases him:i < m
  ·simpa [him] using h3
  ·obtain ⟨r,hr⟩:=List.exists_mem_of_ne_nil _ hne
   have h5:=h2 i hi
   simp only [him,decide_false,Bool.false_or,List.all_eq_true] at h5
   have h6:=h5 r (hs r hr)
   rw [ho] at h6
   obtain ⟨e,he,h7⟩:=Array.any_eq_true'.1 h6
   simp only [Bool.and_eq_true,beq_iff_eq] at h7
   have h8:=h4 e he h7.1
   rw [h7.2] at h8
   have h9:=(h1 r (hs r hr))
   cases hor:ops[r]? with
   | none => rw [hor] at h9;simp at h9
   | some or_ =>
    have hrs:r < ops.size:=(Array.getElem?_eq_some_iff.1 hor).1
    rw [mkL_get _ _ _ hrs] at h8
    simp [hr] at h8
 ·intro hi
  have h9:=h1 i (hs i hi)
  cases ho:ops[i]? with
  | none => rw [ho] at h9;simp at h9
  | some o =>
   rw [ho] at h9
   have hlt:i < ops.size:=(Array.getElem?_eq_some_iff.1 ho).1
   refine ⟨by rw [mkL_get _ _ _ hlt];simp [hi],o,rfl,fun e he hb => ?_⟩
   have h10:=(Array.all_eq_true_iff_forall_mem.1 h9.2) e he
   simp only [hb,Bool.not_true,Bool.false_or,Bool.and_eq_true,decide_eq_true_eq,Bool.not_eq_true'] at h10
   rw [mkL_get _ _ _ h10.1.2]
   have:e.on ∉ rem:=fun h => by have:=hs _ h;simp [this] at h10
   simp [h10.1.1,this]
theorem wpAnyT_bag {bag:List Nat} {m:Nat} (hB:bagB ops m bag = true) (a:Act) (J:List Nat → World → Prop) (f0:Nat)
  (hstep:∀ rem w i,i ∈ rem → i ∈ bag → rem.Nodup → J rem w → wpOp P ops Q i (fun a' w' => a' = a ∧ (i < n → S w') ∧ J (rem.erase i) w') a w)
  (hend:∀ w,J [] w → wpAnyT P ops Q S n f0 (mkL ops.size m []) a w) :
  ∀ (k:Nat) (rem:List Nat) (w:World),rem.length = k → (∀ j ∈ rem,j ∈ bag) → rem.Nodup → J rem w → wpAnyT P ops Q S n (f0 + k) (mkL ops.size m rem) a w:=by
 intro k
 induction k with
 | zero =>
  intro rem w hl _ _ h
  obtain rfl:rem = []:=List.eq_nil_of_length_eq_zero hl
  exact hend w h
 | succ k ih =>
  intro rem w hl hs hn h
  have hne:rem ≠ []:=fun e => by rw [e] at hl;simp at hl
  refine ⟨fun h0 => ?_,fun i hi => ?_⟩
  ·obtain ⟨r,hr⟩:=List.exists_mem_of_ne_nil _ hne
   rw [← bag_ready hB hs hne,h0] at hr
   cases hr
  ·have hir:i ∈ rem:=(bag_ready hB hs hne).1 hi
   have him:i < m:=by
    simp only [bagB,Bool.and_eq_true,List.all_eq_true] at hB
    have:=(hB.1 i (hs i hir)).1
    simpa using this
   refine wpOp_mono (fun a' w' h' => ?_) (hstep rem w i hir (hs i hir) hn h)
   obtain ⟨rfl,h1,h2⟩:=h'
   refine ⟨h1,?_⟩
   rw [mkL_set _ _ hn him]
   exact ih (rem.erase i) w' (by rw [List.length_erase_of_mem hir,hl];rfl) (fun j hj => hs j (List.mem_of_mem_erase hj)) (hn.erase i) h2
theorem wpAnyT_listed {f:Nat} {L L':Array Bool} {a:Act} {w:World} (e:L' = L) (h:wpAnyT P ops Q S n f L' a w):wpAnyT P ops Q S n f L a w:=e ▸ h
theorem wp_region_T {id:Nat} {a:Act} {w:World} (S:World → Prop) (n:Nat) (hm:P.follows .mixedOrders = true) (h:wpAnyT P ops Q S n ops.size (Array.replicate ops.size false) a w.drew):(Code.region id ops true).wp P Q a w :=
 wp_region_any hm (wpAny_of_T _ _ _ _ h)
end
end Go.Proofs.YtldbpmlgbbomcaaGreatDoor
/- Rows of a call's own whose elements hold memory of their own: how they begin, stand and grow. -/
namespace Go.Proofs.YtldbpmlgbbomcaaGreatDoor
open Go.RowKit

def beside (base:Nat) (v:Value) (w:World):Nat → Prop:=fun b => base ≤ b ∧ b < w.heap.size ∧ some b ≠ v.ownBlock
def since (base:Nat) (w:World):Nat → Prop:=fun b => base ≤ b ∧ b < w.heap.size
def Own {α:Type} (w:World) (base:Nat) (e:TypeId) (size:Nat) (R:World → (Nat → Prop) → List Value → α → Prop) (v:Value) (l:List α):Prop :=
 ∃ C:List (List Value),w.ownsRow base e size v l.length C.flatten ∧ C.length = l.length ∧ (∀ c ∈ C,c.length = size) ∧
  ∀ (i:Nat) (c:List Value) (a:α),C[i]? = some c → l[i]? = some a → R w (beside base v w) c a

section
variable {α:Type} {w:World} {base:Nat} {e:TypeId} {size:Nat} {R:World → (Nat → Prop) → List Value → α → Prop} {v:Value} {l:List α}

theorem Own.nil:Own w base e size R (.slice none 0 0) ([]:List α) :=
 ⟨[],⟨by simp,.inl ⟨rfl,rfl⟩⟩,rfl,fun _ h => absurd h (by simp),fun i c a h _ => by simp at h⟩


theorem Own.keep (K:Keeps R) {w':World} (h:Own w base e size R v l) (hb:Below w.heap.size w w'):Own w' base e size R v l:=by
 obtain ⟨C,h1,h2,h3,h4⟩:=h
 refine ⟨C,?_,h2,h3,fun i c a hc ha => K _ _ _ _ _ _ (h4 i c a hc ha) fun b hb' => ⟨⟨hb'.1,Nat.lt_of_lt_of_le hb'.2.1 hb.size,hb'.2.2⟩,hb.block b hb'.2.1⟩⟩
 obtain ⟨a1,a2⟩:=h1
 refine ⟨a1,?_⟩
 rcases a2 with a2 | ⟨g,cap,cur,rfl,hg,hh,r⟩
 ·exact .inl a2
 ·refine .inr ⟨g,cap,cur,rfl,hg,?_,r⟩
  have hlt:g < w.heap.size:=by
   rcases Nat.lt_or_ge g w.heap.size with h | h
   ·exact h
   ·rw [Array.getElem?_eq_none h] at hh;cases hh
  rw [hb.block g hlt];exact hh

theorem Own.form (h:Own w base e size R v l):∃ A c,v = .slice A l.length c ∧ l.length ≤ c:=by
 obtain ⟨C,⟨_,h2⟩,_⟩:=h
 rcases h2 with ⟨rfl,h0⟩ | ⟨g,cap,cur,rfl,hg,hh,hc,_⟩
 ·rw [h0];exact ⟨none,0,rfl,Nat.le_refl _⟩
 ·exact ⟨_,cap,rfl,hc⟩

theorem Own.sl (K:Keeps R) (h:Own w base e size R v l):∃ A c,v = .slice A l.length c ∧ l.length ≤ c ∧ Sl w (since base w) size (R w (since base w)) A l.length l:=by
 obtain ⟨C,h1,h2,h3,h4⟩:=h
 refine own_rows h1 h3 h2 rfl (fun g hg => h1.lt g hg) fun i c a hc ha => K _ _ _ _ _ _ (h4 i c a hc ha) fun b hb => ⟨⟨hb.1,hb.2.1⟩,rfl⟩

theorem Own.push (K:Keeps R) {C:List (List Value)} {c:List Value} {a:α} {w1:World} {v':Value} (h2:C.length = l.length) (h3:∀ c ∈ C,c.length = size)
  (h4:∀ (i:Nat) (c:List Value) (a:α),C[i]? = some c → l[i]? = some a → R w (beside base v w) c a)
  (hc:c.length = size) (ha:R w (beside base v w) c a) (hown:w1.ownsRow base e size v' (l.length + 1) (C.flatten ++ c))
  (hk:∀ k,k < w.heap.size → some k ≠ v.ownBlock → w1.heap[k]? = w.heap[k]?) (hz:w.heap.size ≤ w1.heap.size) (hv:v'.ownBlock = v.ownBlock ∨ ∃ g,v'.ownBlock = some g ∧ w.heap.size ≤ g):Own w1 base e size R v' (l ++ [a]):=by
 have hS:∀ b,beside base v w b → beside base v' w1 b ∧ w1.heap[b]? = w.heap[b]?:=by
  intro b hb
  refine ⟨⟨hb.1,Nat.lt_of_lt_of_le hb.2.1 hz,?_⟩,hk b hb.2.1 hb.2.2⟩
  rcases hv with hv | ⟨g,hg,hge⟩
  ·rw [hv];exact hb.2.2
  ·rw [hg];intro h;cases h;exact absurd hb.2.1 (Nat.not_lt.2 hge)
 refine ⟨C ++ [c],?_,by simp [h2],?_,?_⟩
 ·rw [List.length_append,List.flatten_append];simpa using hown
 ·intro x hx
  rcases List.mem_append.1 hx with hx | hx
  ·exact h3 x hx
  ·simp at hx;subst hx;exact hc
 ·intro i x y hx hy
  rcases Nat.lt_or_ge i l.length with hi | hi
  ·rw [List.getElem?_append_left (by omega)] at hx
   rw [List.getElem?_append_left hi] at hy
   exact K _ _ _ _ _ _ (h4 i x y hx hy) hS
  ·rw [List.getElem?_append_right (by omega)] at hx
   rw [List.getElem?_append_right hi] at hy
   have hi0:i - l.length = 0:=by
    rcases Nat.eq_zero_or_pos (i - l.length) with h | h
    ·exact h
    ·rw [List.getElem?_eq_none (by simp;omega)] at hy;cases hy
   rw [h2,hi0] at hx
   rw [hi0] at hy
   simp at hx hy
   subst hx;subst hy
   exact K _ _ _ _ _ _ ha hS
end

theorem wp_append_Own {α:Type} {P:Program} {R:World → (Nat → Prop) → List Value → α → Prop} (KR:Keeps R) {o:Oper} {act:Act} {K:Act → World → Prop} {Q:Exit → Act → World → Prop} {w W:World} (s x:Operand) (t:TypeId)
  (ho:o.op = .call { callee:=.builtin .append,args:=#[s,x],argTypes:=#[t,t] })
  (base:Nat) (e:TypeId) (i:TypeInfo) (z:Value) (size bytes:Nat) (ht:P.underlying t = some (.slice e)) (hi:P.info? e = some i) (hz:i.zero = some z)
  (hsize:i.size = size) (hby:i.bytes = bytes) (hzs:z.cells.size = size) (hsz:0 < size)
  (v:Value) (l:List α) (hs:act.eval s = v) (hown:Own w base e size R v l)
  (cs:List Value) (t':TypeId) (hW:W = w.alloc (.cells cs.toArray t')) (g:Nat) (hx:act.eval x = .slice (some ⟨g,0,none⟩) 1 1) (hg0:g = w.heap.size) (hl:cs.length = size) (h1:∀ u ∈ cs,u.oneCell' = true)
  (hbytes:(l.length + 1) * bytes ≤ 140737488355328) (h63:l.length + 1 ≤ maxLen) (hbase:base ≤ w.heap.size) (a:α) (hR:R w (beside base v w) cs a)
  (h:∀ g' cap w',Own w' base e size R (.slice (some ⟨g',0,none⟩) (l.length + 1) cap) (l ++ [a]) → Below base w w' → w.heap.size ≤ w'.heap.size → (∀ k,k < w.heap.size → some k ≠ v.ownBlock → w'.heap[k]? = w.heap[k]?) → (v.ownBlock = some g' ∨ w.heap.size ≤ g') → K (act.put o.dst (.slice (some ⟨g',0,none⟩) (l.length + 1) cap)) w') :
  o.wp P act W K Q:=by
 subst hW
 subst hg0
 obtain ⟨C,c1,c2,c3,c4⟩:=hown
 refine wp_append_lies _ s x t ho base e i z size bytes ht hi hz hsize hby hzs hsz v l.length C.flatten hs (c1.alloc _) _ 1 1 cs hx (by rw [hl,Nat.one_mul]) (news_new w cs t') h1 (by decide) h63 hbytes (by simp;omega) _ rfl ?_
 intro g' cap w' hown' hg hat hlt
 have hz':w.heap.size ≤ w'.heap.size:=by have:=hg.size;simp at this;omega
 have hat':v.ownBlock = some g' ∨ w.heap.size ≤ g':=by
  rcases hat with h | h
  ·exact .inl h
  ·right;simp at h;omega
 have hkeep:∀ k,k < w.heap.size → some k ≠ v.ownBlock → w'.heap[k]? = w.heap[k]?:=by
  intro k hk hne
  rw [hg.block k (by simp;omega) hne]
  exact Below.heap_alloc w _ k hk
 refine h g' cap w' (Own.push KR c2 c3 c4 hl hR hown' hkeep hz' ?_) ?_ hz' hkeep hat'
 ·rcases hat' with h | h
  ·exact .inl h.symm
  ·exact .inr ⟨g',rfl,h⟩
 ·exact ((Below.refl base w).alloc hbase _).grown hg (by simp;omega) (fun k hk => (c1.lt k hk).1)
theorem step_append_Own {α:Type} {P:Program} {R:World → (Nat → Prop) → List Value → α → Prop} (KR:Keeps R) {E:Prop} {ops:Array Oper} {o:Oper} {act:Act} {K:Act → World → Prop} {Q:Exit → Act → World → Prop} {w W:World} (hgd:o.guard = none) (s x:Operand) (t:TypeId)
  (ho:o.op = .call { callee:=.builtin .append,args:=#[s,x],argTypes:=#[t,t] })
  (base:Nat) (e:TypeId) (i:TypeInfo) (z:Value) (size bytes:Nat) (ht:P.underlying t = some (.slice e)) (hi:P.info? e = some i) (hz:i.zero = some z)
  (hsize:i.size = size) (hby:i.bytes = bytes) (hzs:z.cells.size = size) (hsz:0 < size)
  (v:Value) (l:List α) (hs:act.eval s = v) (hown:Own w base e size R v l)
  (cs:List Value) (t':TypeId) (hW:W = w.alloc (.cells cs.toArray t')) (g:Nat) (hx:act.eval x = .slice (some ⟨g,0,none⟩) 1 1) (hg0:g = w.heap.size) (hl:cs.length = size) (h1:∀ u ∈ cs,u.oneCell' = true)
  (hbytes:(l.length + 1) * bytes ≤ 140737488355328) (h63:l.length + 1 ≤ maxLen) (hbase:base ≤ w.heap.size) (a:α) (hR:R w (beside base v w) cs a)
  (h:∀ g' cap w',Own w' base e size R (.slice (some ⟨g',0,none⟩) (l.length + 1) cap) (l ++ [a]) → Below base w w' → w.heap.size ≤ w'.heap.size → (∀ k,k < w.heap.size → some k ≠ v.ownBlock → w'.heap[k]? = w.heap[k]?) → (v.ownBlock = some g' ∨ w.heap.size ≤ g') → K (act.put o.dst (.slice (some ⟨g',0,none⟩) (l.length + 1) cap)) w') :
  if Region.wanted o (yielded ops act.tmps) = true then Oper.wp P o act W K Q else E:=by
 have hw:Region.wanted o (yielded ops act.tmps) = true:=by simp [Region.wanted,hgd]
 rw [if_pos hw]
 exact wp_append_Own KR s x t ho base e i z size bytes ht hi hz hsize hby hzs hsz v l hs hown cs t' hW g hx hg0 hl h1 hbytes h63 hbase a hR h
theorem wpList_append_Own {α:Type} {P:Program} {R:World → (Nat → Prop) → List Value → α → Prop} (KR:Keeps R) {ops:Array Oper} {rest:List Oper} {o:Oper} {act:Act} {Q:Exit → Act → World → Prop} {w W:World} (hgd:o.guard = none) (s x:Operand) (t:TypeId)
  (ho:o.op = .call { callee:=.builtin .append,args:=#[s,x],argTypes:=#[t,t] })
  (base:Nat) (e:TypeId) (i:TypeInfo) (z:Value) (size bytes:Nat) (ht:P.underlying t = some (.slice e)) (hi:P.info? e = some i) (hz:i.zero = some z)
  (hsize:i.size = size) (hby:i.bytes = bytes) (hzs:z.cells.size = size) (hsz:0 < size)
  (v:Value) (l:List α) (hs:act.eval s = v) (hown:Own w base e size R v l)
  (cs:List Value) (t':TypeId) (hW:W = w.alloc (.cells cs.toArray t')) (g:Nat) (hx:act.eval x = .slice (some ⟨g,0,none⟩) 1 1) (hg0:g = w.heap.size) (hl:cs.length = size) (h1:∀ u ∈ cs,u.oneCell' = true)
  (hbytes:(l.length + 1) * bytes ≤ 140737488355328) (h63:l.length + 1 ≤ maxLen) (hbase:base ≤ w.heap.size) (a:α) (hR:R w (beside base v w) cs a)
  (h:∀ g' cap w',Own w' base e size R (.slice (some ⟨g',0,none⟩) (l.length + 1) cap) (l ++ [a]) → Below base w w' → w.heap.size ≤ w'.heap.size → (∀ k,k < w.heap.size → some k ≠ v.ownBlock → w'.heap[k]? = w.heap[k]?) → (v.ownBlock = some g' ∨ w.heap.size ≤ g') → wpList P ops Q rest (act.put o.dst (.slice (some ⟨g',0,none⟩) (l.length + 1) cap)) w') :
  wpList P ops Q (o :: rest) act W :=
 wpList_plain hgd fun _ hK => wp_append_Own KR s x t ho base e i z size bytes ht hi hz hsize hby hzs hsz v l hs hown cs t' hW g hx hg0 hl h1 hbytes h63 hbase a hR fun g' cap w' b1 b2 b3 b4 b5 => hK _ _ (h g' cap w' b1 b2 b3 b4 b5)
end Go.Proofs.YtldbpmlgbbomcaaGreatDoor
/- The first place at which a test holds; the first error of a row of tests; prefixes of slices. Plain laws. -/
namespace Go.Proofs.YtldbpmlgbbomcaaGreatDoor
open Go.RowKit

def firstAt {α:Type} (p:α → Bool):List α → Nat
 | [] => 0
 | a :: l => if p a then 0 else firstAt p l + 1
theorem firstAt_le {α:Type} (p:α → Bool):∀ l:List α,firstAt p l ≤ l.length
 | [] => Nat.le_refl _
 | a :: l => by simp only [firstAt];split <;> simp [firstAt_le p l]
theorem firstAt_hit {α:Type} (p:α → Bool):∀ (l:List α) (k:Nat) (a:α),l[k]? = some a → p a = true → (l.take k).any p = false → firstAt p l = k
 | [],k,a,h,_,_ => by simp at h
 | b :: l,0,a,h,hp,_ => by simp at h;subst h;simp [firstAt,hp]
 | b :: l,k + 1,a,h,hp,hn => by
  simp only [List.take_succ_cons,List.any_cons,Bool.or_eq_false_iff] at hn
  simp [firstAt,hn.1,firstAt_hit p l k a (by simpa using h) hp hn.2]
theorem firstAt_none {α:Type} (p:α → Bool):∀ (l:List α),l.any p = false → firstAt p l = l.length
 | [],_ => rfl
 | b :: l,hn => by
  simp only [List.any_cons,Bool.or_eq_false_iff] at hn
  simp [firstAt,hn.1,firstAt_none p l hn.2]
theorem firstAt_lt {α:Type} (p:α → Bool) (l:List α) (h:firstAt p l < l.length):l.any p = true:=by
 cases hh:l.any p
 ·rw [firstAt_none p l hh] at h;omega
 ·rfl
def idxOf {α:Type} (p:α → Bool) (l:List α):Int:=if l.any p then (firstAt p l:Int) else -1
theorem find_at {α:Type} (p:α → Bool):∀ (l:List α),l.any p = true → ∃ a,l[firstAt p l]? = some a ∧ l.find? p = some a ∧ firstAt p l < l.length
 | [],h => by simp at h
 | b :: l,h => by
  cases hb:p b
  ·simp only [List.any_cons,hb,Bool.false_or] at h
   obtain ⟨a,h1,h2,h3⟩:=find_at p l h
   exact ⟨a,by simp [firstAt,hb,h1],by simp [hb,h2],by simp [firstAt,hb,h3]⟩
  ·exact ⟨b,by simp [firstAt,hb],by simp [hb],by simp [firstAt,hb]⟩
theorem find_none {α:Type} (p:α → Bool) (l:List α) (h:l.any p = false):l.find? p = none:=by
 rw [List.find?_eq_none]
 intro x hx hp
 rw [List.any_eq_false] at h
 exact h x hx hp
def firstErr (g:Nat → Int):Nat → Int
 | 0 => 0
 | n + 1 => if firstErr g n = 0 then g n else firstErr g n
theorem firstErr_next {g:Nat → Int} {k:Nat} (h:firstErr g k = 0) (hk:g k = 0):firstErr g (k + 1) = 0:=by rw [firstErr,if_pos h];exact hk
theorem firstErr_hit {g:Nat → Int} {k:Nat} (h:firstErr g k = 0) (hk:g k ≠ 0):∀ n,k < n → firstErr g n = g k
 | 0,hn => absurd hn (by omega)
 | n + 1,hn => by
  rcases Nat.lt_or_ge k n with h' | h'
  ·rw [firstErr,firstErr_hit h hk n h',if_neg hk]
  ·have:k = n:=by omega
   subst this
   rw [firstErr,if_pos h]
theorem firstErr_all {g:Nat → Int}:∀ {n:Nat},firstErr g n = 0 → ∀ k,k < n → g k = 0
 | 0,_,k,hk => absurd hk (by omega)
 | n + 1,h,k,hk => by
  rw [firstErr] at h
  by_cases h0:firstErr g n = 0
  ·rw [if_pos h0] at h
   rcases Nat.lt_or_ge k n with h' | h'
   ·exact firstErr_all h0 k h'
   ·have:k = n:=by omega
    subst this
    exact h
  ·rw [if_neg h0] at h;exact absurd h h0
def RetI (w:World) (x:Int) (e:Ending) (w':World):Prop:=e = .returned (.int .i64 x) ∧ Below w.heap.size w w'
end Go.Proofs.YtldbpmlgbbomcaaGreatDoor
/- Facts on cells that stand wherever old memory stands. -/
namespace Go.Proofs.YtldbpmlgbbomcaaGreatDoor
open Go.RowKit

theorem held1o {w0 w1:World} {p0:Addr} {v0:Value} (h:w0.cell? p0 = some v0 ∧ Below w0.heap.size w0 w0 ∧ w0.heap.size ≤ w0.heap.size) (hb:Below w0.heap.size w0 w1):w1.cell? p0 = some v0 ∧ Below w0.heap.size w0 w1 ∧ w0.heap.size ≤ w1.heap.size:=by
 obtain ⟨h0,_,_⟩:=h
 exact ⟨cell_keep h0 hb,hb,hb.size⟩
theorem held2o {w0 w1:World} {p0 p1:Addr} {v0 v1:Value} (h:w0.cell? p0 = some v0 ∧ w0.cell? p1 = some v1 ∧ Below w0.heap.size w0 w0 ∧ w0.heap.size ≤ w0.heap.size) (hb:Below w0.heap.size w0 w1):w1.cell? p0 = some v0 ∧ w1.cell? p1 = some v1 ∧ Below w0.heap.size w0 w1 ∧ w0.heap.size ≤ w1.heap.size:=by
 obtain ⟨h0,h1,_,_⟩:=h
 exact ⟨cell_keep h0 hb,cell_keep h1 hb,hb,hb.size⟩
theorem held3o {w0 w1:World} {p0 p1 p2:Addr} {v0 v1 v2:Value} (h:w0.cell? p0 = some v0 ∧ w0.cell? p1 = some v1 ∧ w0.cell? p2 = some v2 ∧ Below w0.heap.size w0 w0 ∧ w0.heap.size ≤ w0.heap.size) (hb:Below w0.heap.size w0 w1):w1.cell? p0 = some v0 ∧ w1.cell? p1 = some v1 ∧ w1.cell? p2 = some v2 ∧ Below w0.heap.size w0 w1 ∧ w0.heap.size ≤ w1.heap.size:=by
 obtain ⟨h0,h1,h2,_,_⟩:=h
 exact ⟨cell_keep h0 hb,cell_keep h1 hb,cell_keep h2 hb,hb,hb.size⟩
theorem held4o {w0 w1:World} {p0 p1 p2 p3:Addr} {v0 v1 v2 v3:Value} (h:w0.cell? p0 = some v0 ∧ w0.cell? p1 = some v1 ∧ w0.cell? p2 = some v2 ∧ w0.cell? p3 = some v3 ∧ Below w0.heap.size w0 w0 ∧ w0.heap.size ≤ w0.heap.size) (hb:Below w0.heap.size w0 w1):w1.cell? p0 = some v0 ∧ w1.cell? p1 = some v1 ∧ w1.cell? p2 = some v2 ∧ w1.cell? p3 = some v3 ∧ Below w0.heap.size w0 w1 ∧ w0.heap.size ≤ w1.heap.size:=by
 obtain ⟨h0,h1,h2,h3,_,_⟩:=h
 exact ⟨cell_keep h0 hb,cell_keep h1 hb,cell_keep h2 hb,cell_keep h3 hb,hb,hb.size⟩
end Go.Proofs.YtldbpmlgbbomcaaGreatDoor
/- Cells of one block that stay: conjunctions of k equations, carried into another world. -/
namespace Go.Proofs.YtldbpmlgbbomcaaGreatDoor
open Go.RowKit

theorem rows6b {w w1:World} {b:Nat} {v0 v1 v2 v3 v4 v5:Value} (h:w.cell? ⟨b,0,none⟩ = some v0 ∧ w.cell? ⟨b,1,none⟩ = some v1 ∧ w.cell? ⟨b,2,none⟩ = some v2 ∧ w.cell? ⟨b,3,none⟩ = some v3 ∧ w.cell? ⟨b,4,none⟩ = some v4 ∧ w.cell? ⟨b,5,none⟩ = some v5) (hk:w1.heap[b]? = w.heap[b]?):w1.cell? ⟨b,0,none⟩ = some v0 ∧ w1.cell? ⟨b,1,none⟩ = some v1 ∧ w1.cell? ⟨b,2,none⟩ = some v2 ∧ w1.cell? ⟨b,3,none⟩ = some v3 ∧ w1.cell? ⟨b,4,none⟩ = some v4 ∧ w1.cell? ⟨b,5,none⟩ = some v5:=by
 obtain ⟨h0,h1,h2,h3,h4,h5⟩:=h
 exact ⟨(World.cell?_of_block (w:=w) (a:=⟨b,0,none⟩) hk).trans h0,(World.cell?_of_block (w:=w) (a:=⟨b,1,none⟩) hk).trans h1,(World.cell?_of_block (w:=w) (a:=⟨b,2,none⟩) hk).trans h2,(World.cell?_of_block (w:=w) (a:=⟨b,3,none⟩) hk).trans h3,(World.cell?_of_block (w:=w) (a:=⟨b,4,none⟩) hk).trans h4,(World.cell?_of_block (w:=w) (a:=⟨b,5,none⟩) hk).trans h5⟩
theorem rows6c {w w1:World} {b:Nat} {v0 v1 v2 v3 v4 v5:Value} (h:w.cell? ⟨b,0,none⟩ = some v0 ∧ w.cell? ⟨b,1,none⟩ = some v1 ∧ w.cell? ⟨b,2,none⟩ = some v2 ∧ w.cell? ⟨b,3,none⟩ = some v3 ∧ w.cell? ⟨b,4,none⟩ = some v4 ∧ w.cell? ⟨b,5,none⟩ = some v5) (hb:Below w.heap.size w w1):w1.cell? ⟨b,0,none⟩ = some v0 ∧ w1.cell? ⟨b,1,none⟩ = some v1 ∧ w1.cell? ⟨b,2,none⟩ = some v2 ∧ w1.cell? ⟨b,3,none⟩ = some v3 ∧ w1.cell? ⟨b,4,none⟩ = some v4 ∧ w1.cell? ⟨b,5,none⟩ = some v5 :=
 rows6b h (hb.block b (block_lt_of_cell (a:=⟨b,0,none⟩) h.1))
theorem rows8b {w w1:World} {b:Nat} {v0 v1 v2 v3 v4 v5 v6 v7:Value} (h:w.cell? ⟨b,0,none⟩ = some v0 ∧ w.cell? ⟨b,1,none⟩ = some v1 ∧ w.cell? ⟨b,2,none⟩ = some v2 ∧ w.cell? ⟨b,3,none⟩ = some v3 ∧ w.cell? ⟨b,4,none⟩ = some v4 ∧ w.cell? ⟨b,5,none⟩ = some v5 ∧ w.cell? ⟨b,6,none⟩ = some v6 ∧ w.cell? ⟨b,7,none⟩ = some v7) (hk:w1.heap[b]? = w.heap[b]?):w1.cell? ⟨b,0,none⟩ = some v0 ∧ w1.cell? ⟨b,1,none⟩ = some v1 ∧ w1.cell? ⟨b,2,none⟩ = some v2 ∧ w1.cell? ⟨b,3,none⟩ = some v3 ∧ w1.cell? ⟨b,4,none⟩ = some v4 ∧ w1.cell? ⟨b,5,none⟩ = some v5 ∧ w1.cell? ⟨b,6,none⟩ = some v6 ∧ w1.cell? ⟨b,7,none⟩ = some v7:=by
 obtain ⟨h0,h1,h2,h3,h4,h5,h6,h7⟩:=h
 exact ⟨(World.cell?_of_block (w:=w) (a:=⟨b,0,none⟩) hk).trans h0,(World.cell?_of_block (w:=w) (a:=⟨b,1,none⟩) hk).trans h1,(World.cell?_of_block (w:=w) (a:=⟨b,2,none⟩) hk).trans h2,(World.cell?_of_block (w:=w) (a:=⟨b,3,none⟩) hk).trans h3,(World.cell?_of_block (w:=w) (a:=⟨b,4,none⟩) hk).trans h4,(World.cell?_of_block (w:=w) (a:=⟨b,5,none⟩) hk).trans h5,(World.cell?_of_block (w:=w) (a:=⟨b,6,none⟩) hk).trans h6,(World.cell?_of_block (w:=w) (a:=⟨b,7,none⟩) hk).trans h7⟩
theorem rows8c {w w1:World} {b:Nat} {v0 v1 v2 v3 v4 v5 v6 v7:Value} (h:w.cell? ⟨b,0,none⟩ = some v0 ∧ w.cell? ⟨b,1,none⟩ = some v1 ∧ w.cell? ⟨b,2,none⟩ = some v2 ∧ w.cell? ⟨b,3,none⟩ = some v3 ∧ w.cell? ⟨b,4,none⟩ = some v4 ∧ w.cell? ⟨b,5,none⟩ = some v5 ∧ w.cell? ⟨b,6,none⟩ = some v6 ∧ w.cell? ⟨b,7,none⟩ = some v7) (hb:Below w.heap.size w w1):w1.cell? ⟨b,0,none⟩ = some v0 ∧ w1.cell? ⟨b,1,none⟩ = some v1 ∧ w1.cell? ⟨b,2,none⟩ = some v2 ∧ w1.cell? ⟨b,3,none⟩ = some v3 ∧ w1.cell? ⟨b,4,none⟩ = some v4 ∧ w1.cell? ⟨b,5,none⟩ = some v5 ∧ w1.cell? ⟨b,6,none⟩ = some v6 ∧ w1.cell? ⟨b,7,none⟩ = some v7 :=
 rows8b h (hb.block b (block_lt_of_cell (a:=⟨b,0,none⟩) h.1))
end Go.Proofs.YtldbpmlgbbomcaaGreatDoor
/- Slices of flat elements as rows of cells: how they are read in order, and how a call's own row grows by another slice or loses a part. No program text is walked here. -/
namespace Go.Proofs.YtldbpmlgbbomcaaGreatDoor
open Go.RowKit

theorem flat_len {α β:Type} (enc:α → List β) (size:Nat) (hsz:∀ a,(enc a).length = size):∀ l:List α,(l.flatMap enc).length = l.length * size
 | [] => by simp
 | a :: l => by rw [List.flatMap_cons,List.length_append,hsz,flat_len enc size hsz l,List.length_cons,Nat.add_mul];omega
theorem flat_take {α β:Type} (enc:α → List β) (size:Nat) (hsz:∀ a,(enc a).length = size) (l:List α) (i:Nat) (hi:i ≤ l.length):(l.flatMap enc).take (i * size) = (l.take i).flatMap enc:=by
 have h:l.flatMap enc = (l.take i).flatMap enc ++ (l.drop i).flatMap enc:=by rw [← List.flatMap_append,List.take_append_drop]
 rw [h]
 exact List.take_left' (by rw [flat_len enc size hsz,List.length_take,Nat.min_eq_left hi])
theorem flat_drop {α β:Type} (enc:α → List β) (size:Nat) (hsz:∀ a,(enc a).length = size) (l:List α) (i:Nat) (hi:i ≤ l.length):(l.flatMap enc).drop (i * size) = (l.drop i).flatMap enc:=by
 have h:l.flatMap enc = (l.take i).flatMap enc ++ (l.drop i).flatMap enc:=by rw [← List.flatMap_append,List.take_append_drop]
 rw [h]
 exact List.drop_left' (by rw [flat_len enc size hsz,List.length_take,Nat.min_eq_left hi])

theorem Sl.cells {α:Type} {enc:α → List Value} {size:Nat} {w:World} {S:Nat → Prop} {R:List Value → α → Prop} {A:Option Addr} {n:Nat} {l:List α} (hsz:0 < size) (hlen:∀ a,(enc a).length = size) (hR:∀ cs a,R cs a → cs = enc a)
  (h:Sl w S size R A n l) (p:Addr) (hp:A = some p):∀ j u,(l.flatMap enc)[j]? = some u → w.cell? (p.add j) = some u:=by
 intro j u hj
 have hjl:j < l.length * size:=by
  have:=(List.getElem?_eq_some_iff.1 hj).1
  rwa [flat_len enc size hlen] at this
 have hl:0 < l.length:=by
  rcases Nat.eq_zero_or_pos l.length with h0 | h0
  ·rw [h0] at hjl;omega
  ·exact h0
 obtain ⟨b,o,e,_,hc⟩:=h.2 (by rw [← h.1];exact hl)
 rw [e] at hp
 cases hp
 have hi:j / size < l.length:=Nat.div_lt_of_lt_mul (by rw [Nat.mul_comm];exact hjl)
 obtain ⟨cs,hr,_,hcell⟩:=hc (j / size) _ (List.getElem?_eq_getElem hi)
 have hm:=Nat.mod_lt j hsz
 have e1:=hcell (j % size) hm
 have e2:j / size * size + j % size = j:=Nat.div_add_mod' j size
 rw [e2] at e1
 rw [Addr.add_lit,e1,hR _ _ hr,← flat_at enc size hlen l _ _ _ (List.getElem?_eq_getElem hi) hm,e2]
 exact hj
theorem Sl.take' {α:Type} {w:World} {S:Nat → Prop} {size:Nat} {R:List Value → α → Prop} {A:Option Addr} {n k:Nat} {l:List α} (h:Sl w S size R A n l) (hk:k ≤ n):Sl w S size R A k (l.take k):=by
 refine ⟨by rw [List.length_take,h.1];omega,fun h0 => ?_⟩
 obtain ⟨b,o,e,hs,hc⟩:=h.2 (by omega)
 refine ⟨b,o,e,hs,fun i v hv => ?_⟩
 have hi:i < k:=by
  have:=(List.getElem?_eq_some_iff.1 hv).1
  rw [List.length_take] at this
  omega
 rw [List.getElem?_take_of_lt hi] at hv
 exact hc i v hv
theorem Sl.drop' {α:Type} {w:World} {S:Nat → Prop} {size:Nat} {R:List Value → α → Prop} {b o:Nat} {n k:Nat} {l:List α} (h:Sl w S size R (some ⟨b,o,none⟩) n l):Sl w S size R (some ⟨b,o + k * size,none⟩) (n - k) (l.drop k):=by
 refine ⟨by rw [List.length_drop,h.1],fun h0 => ?_⟩
 obtain ⟨b',o',e,hs,hc⟩:=h.2 (by omega)
 cases e
 refine ⟨b,o + k * size,rfl,hs,fun i v hv => ?_⟩
 rw [List.getElem?_drop] at hv
 obtain ⟨cs,h1,h2,h3⟩:=hc (k + i) v hv
 refine ⟨cs,h1,h2,fun j hj => ?_⟩
 have:=h3 j hj
 rw [show o + ((k + i) * size + j) = o + k * size + (i * size + j) by rw [Nat.add_mul];omega] at this
 exact this
theorem Sl.cut {α:Type} {w:World} {S:Nat → Prop} {size:Nat} {R:List Value → α → Prop} {A:Option Addr} {n k c:Nat} {l:List α} (h:Sl w S size R A n l) (hk:k ≤ n) (hc:n ≤ c) :
  ∃ A',(if c = k then A else A.map (fun x => x.add (k * size))) = A' ∧ Sl w S size R A' (n - k) (l.drop k):=by
 refine ⟨_,rfl,?_⟩
 rcases Nat.lt_or_ge k n with h0 | h0
 ·obtain ⟨b,o,e,_⟩:=h.2 (by omega)
  subst e
  rw [if_neg (by omega),Option.map_some,Addr.add_lit]
  exact h.drop'
 ·have e:l.drop k = []:=List.drop_eq_nil_of_le (by rw [h.1];exact h0)
  rw [e,show n - k = 0 by omega]
  exact Sl.nil
theorem Sl.all_wf {α:Type} {wf:α → Prop} {w:World} {S:Nat → Prop} {size:Nat} {R:List Value → α → Prop} {A:Option Addr} {n:Nat} {l:List α} (h:Sl w S size R A n l) (hR:∀ cs a,R cs a → wf a):∀ a ∈ l,wf a:=by
 intro a ha
 obtain ⟨i,hi,rfl⟩:=List.mem_iff_getElem.1 ha
 have hn:0 < n:=by rw [← h.1];omega
 obtain ⟨b,o,e,hs,hc⟩:=h.2 hn
 obtain ⟨cs,h1,_⟩:=hc i l[i] (List.getElem?_eq_getElem hi)
 exact hR _ _ h1
theorem Sl.of_none {α:Type} {w:World} {S:Nat → Prop} {size:Nat} {R:List Value → α → Prop} {n:Nat} {l:List α} (h:Sl w S size R none n l):n = 0 ∧ l = []:=by
 rcases Nat.eq_zero_or_pos n with h0 | h0
 ·subst h0;exact ⟨rfl,List.eq_nil_of_length_eq_zero h.1⟩
 ·obtain ⟨b,o,e,_⟩:=h.2 h0;cases e

theorem own_slw {α:Type} (enc:α → List Value) (wf:α → Prop) {size:Nat} (hsz:∀ a,(enc a).length = size) {w:World} {base:Nat} {e:TypeId} {v:Value} {n:Nat} {l:List α}
  (h:w.ownsRow base e size v n (l.flatMap enc)) (hl:l.length = n) (hw:∀ a ∈ l,wf a) :
  ∃ A c,v = .slice A n c ∧ n ≤ c ∧ Sl w (old w) size (fun cs a => cs = enc a ∧ wf a) A n l:=by
 obtain ⟨A,c,rfl,hc,hs⟩:=own_sl enc hsz h hl
 refine ⟨A,c,rfl,hc,hs.1,fun hn => ?_⟩
 obtain ⟨b,o,e,hS,hcc⟩:=hs.2 hn
 refine ⟨b,o,e,hS.2,fun i v hv => ?_⟩
 obtain ⟨cs,rfl,hl',h'⟩:=hcc i v hv
 exact ⟨_,⟨rfl,hw v (List.mem_of_getElem? hv)⟩,hl',h'⟩
theorem ownsRow_keep {w w':World} {base:Nat} {e:TypeId} {size:Nat} {v:Value} {n:Nat} {xs:List Value} (h:w.ownsRow base e size v n xs) (hb:Below w.heap.size w w'):w'.ownsRow base e size v n xs:=by
 refine ⟨h.1,?_⟩
 rcases h.2 with hn | ⟨g,cap,cur,rfl,hbg,hgg,rest⟩
 ·exact .inl hn
 ·refine .inr ⟨g,cap,cur,rfl,hbg,?_,rest⟩
  rw [hb.block g (Array.getElem?_eq_some_iff.1 hgg).1]
  exact hgg
theorem ownsRow_base {w:World} {base base':Nat} {e:TypeId} {size:Nat} {v:Value} {n:Nat} {xs:List Value} (h:w.ownsRow base e size v n xs) (hb:base' ≤ base):w.ownsRow base' e size v n xs:=by
 refine ⟨h.1,?_⟩
 rcases h.2 with hn | ⟨g,cap,cur,rfl,hbg,rest⟩
 ·exact .inl hn
 ·exact .inr ⟨g,cap,cur,rfl,by omega,rest⟩

def OwnRow {α:Type} (enc:α → List Value) (e:TypeId) (size:Nat) (w:World) (l:List α) (E:Ending) (w':World):Prop :=
 ∃ v,E = .returned v ∧ w'.ownsRow w.heap.size e size v l.length (l.flatMap enc) ∧ Below w.heap.size w w'
def OwnRowC {α:Type} (enc:α → List Value) (e:TypeId) (size:Nat) (w:World) (l:List α) (c:Int) (E:Ending) (w':World):Prop :=
 ∃ v,E = .returned (.tuple #[v,.int .i64 c]) ∧ w'.ownsRow w.heap.size e size v l.length (l.flatMap enc) ∧ Below w.heap.size w w'
def NilC (w:World) (c:Int) (E:Ending) (w':World):Prop:=E = .returned (.tuple #[.slice none 0 0,.int .i64 c]) ∧ Below w.heap.size w w'
theorem NilC.own {α:Type} (enc:α → List Value) (e:TypeId) (size:Nat) {w w':World} {c:Int} {E:Ending} (h:NilC w c E w'):OwnRowC enc e size w [] c E w' :=
 ⟨_,h.1,by simpa using World.ownsRow_nil _ _ _ _,h.2⟩
def RetB (w:World) (b:Bool) (E:Ending) (w':World):Prop:=E = .returned (.bool b) ∧ Below w.heap.size w w'

theorem news2 {W:World} {g:Nat} {x y:Value} (h0:W.cell? ⟨g,0,none⟩ = some x) (h1:W.cell? ⟨g,1,none⟩ = some y):∀ p,some (⟨g,0,none⟩:Addr) = some p → ∀ j u,[x,y][j]? = some u → W.cell? (p.add j) = some u:=by
 intro p hp j u hj
 cases hp
 rw [Addr.add_lit,Nat.zero_add]
 match j with
 | 0 => simp at hj;subst hj;exact h0
 | 1 => simp at hj;subst hj;exact h1
 | k + 2 => simp at hj
section
variable {P:Program}
theorem run_append_sl (w:World) (base:Nat) (t ty e:TypeId) (i:TypeInfo) (z:Value) (size bytes:Nat) (ht:P.underlying t = some (.slice e)) (hi:P.info? e = some i) (hz:i.zero = some z)
  (hsize:i.size = size) (hby:i.bytes = bytes) (hzs:z.cells.size = size) (hsz:0 < size)
  (v:Value) (n:Nat) (xs:List Value) (hown:w.ownsRow base e size v n xs)
  (A:Option Addr) (m c:Nat) (news:List Value) (hl:news.length = m * size) (hnews:∀ p,A = some p → ∀ j u,news[j]? = some u → w.cell? (p.add j) = some u) (hnone:A = none → m = 0) (h1:∀ u ∈ news,u.oneCell' = true)
  (h63:n + m ≤ maxLen) (hbytes:(n + m) * bytes ≤ 140737488355328) (hbase:base ≤ w.heap.size) :
  ∃ v' w',(Builtin.append_ #[t,t] ty #[v,.slice A m c]).run P w = .ok v' w' ∧ w'.ownsRow base e size v' (n + m) (xs ++ news) ∧ w.grownBy w' v.ownBlock ∧ (v'.ownBlock = v.ownBlock ∨ v'.ownBlock = some w.heap.size):=by
 cases A with
 | none =>
  have h0:=hnone rfl
  subst h0
  have hn0:news = []:=List.eq_nil_of_length_eq_zero (by simpa using hl)
  subst hn0
  refine ⟨v,w,?_,by simpa using hown,⟨rfl,rfl,rfl,Nat.le_refl _,fun _ _ _ => rfl⟩,.inl rfl⟩
  rcases hown.2 with ⟨rfl,rfl⟩ | ⟨g,cap,cur,rfl,_,_,hnc,_⟩
  ·simp [Builtin.append_,run_underlying ht,sizeOf,typeInfo,hi,Builtin.lenOf,Builtin.firstCells]
  ·simp [Builtin.append_,run_underlying ht,sizeOf,typeInfo,hi,Builtin.lenOf,Builtin.firstCells,hnc,storeCells]
 | some p =>
  obtain ⟨v',w',hr,h2,h3,_,h5⟩:=run_append_own_at (P:=P) w base t ty e i z size bytes ht hi hz hsize hby hzs hsz v n xs hown p m c news hl (hnews p rfl) h1 h63 hbytes hbase
  exact ⟨v',w',hr,h2,h3,h5⟩
theorem wp_append_sl {w:World} {o:Oper} {a:Act} {K:Act → World → Prop} {Q:Exit → Act → World → Prop} (s x:Operand) (t:TypeId)
  (ho:o.op = .call { callee:=.builtin .append,args:=#[s,x],argTypes:=#[t,t] })
  (base:Nat) (e:TypeId) (i:TypeInfo) (z:Value) (size bytes:Nat) (ht:P.underlying t = some (.slice e)) (hi:P.info? e = some i) (hz:i.zero = some z)
  (hsize:i.size = size) (hby:i.bytes = bytes) (hzs:z.cells.size = size) (hsz:0 < size)
  (v:Value) (n:Nat) (xs:List Value) (hs:a.eval s = v) (hown:w.ownsRow base e size v n xs)
  (A:Option Addr) (m c:Nat) (news:List Value) (hx:a.eval x = .slice A m c) (hl:news.length = m * size) (hnews:∀ p,A = some p → ∀ j u,news[j]? = some u → w.cell? (p.add j) = some u) (hnone:A = none → m = 0) (h1:∀ u ∈ news,u.oneCell' = true)
  (h63:n + m ≤ maxLen) (hbytes:(n + m) * bytes ≤ 140737488355328) (hbase:base ≤ w.heap.size)
  (h:∀ v' w',w'.ownsRow base e size v' (n + m) (xs ++ news) → Below base w w' → w.heap.size ≤ w'.heap.size → K (a.put o.dst v') w'):o.wp P a w K Q:=by
 obtain ⟨v',w',hr,h2,h3,_⟩:=run_append_sl (P:=P) w base t o.type e i z size bytes ht hi hz hsize hby hzs hsz v n xs hown A m c news hl hnews hnone h1 h63 hbytes hbase
 unfold Oper.wp execOp
 simp only [ho,resolve,invoke,builtin,Sem.run_bind,Sem.run_pure,Result.andThen_ok,List.map_toArray,List.map_cons,List.map_nil,hs,hx,hr]
 exact h v' w' h2 ((Below.refl base w).grown h3 hbase fun k hk => (hown.lt k hk).1) h3.size
theorem wpList_append_sl {w:World} {ops:Array Oper} {rest:List Oper} {o:Oper} {a:Act} {Q:Exit → Act → World → Prop} (hgd:o.guard = none) (s x:Operand) (t:TypeId)
  (ho:o.op = .call { callee:=.builtin .append,args:=#[s,x],argTypes:=#[t,t] })
  (base:Nat) (e:TypeId) (i:TypeInfo) (z:Value) (size bytes:Nat) (ht:P.underlying t = some (.slice e)) (hi:P.info? e = some i) (hz:i.zero = some z)
  (hsize:i.size = size) (hby:i.bytes = bytes) (hzs:z.cells.size = size) (hsz:0 < size)
  (v:Value) (n:Nat) (xs:List Value) (hs:a.eval s = v) (hown:w.ownsRow base e size v n xs)
  (A:Option Addr) (m c:Nat) (news:List Value) (hx:a.eval x = .slice A m c) (hl:news.length = m * size) (hnews:∀ p,A = some p → ∀ j u,news[j]? = some u → w.cell? (p.add j) = some u) (hnone:A = none → m = 0) (h1:∀ u ∈ news,u.oneCell' = true)
  (h63:n + m ≤ maxLen) (hbytes:(n + m) * bytes ≤ 140737488355328) (hbase:base ≤ w.heap.size)
  (h:∀ v' w',w'.ownsRow base e size v' (n + m) (xs ++ news) → Below base w w' → w.heap.size ≤ w'.heap.size → wpList P ops Q rest (a.put o.dst v') w'):wpList P ops Q (o :: rest) a w :=
 wpList_plain hgd fun _ hK => wp_append_sl s x t ho base e i z size bytes ht hi hz hsize hby hzs hsz v n xs hs hown A m c news hx hl hnews hnone h1 h63 hbytes hbase fun v' w' h2 h3 h4 => hK _ _ (h v' w' h2 h3 h4)
theorem step_append_sl {w:World} {ops:Array Oper} {o:Oper} {a:Act} {K:Act → World → Prop} {Q:Exit → Act → World → Prop} {E:Prop} (hgd:o.guard = none) (s x:Operand) (t:TypeId)
  (ho:o.op = .call { callee:=.builtin .append,args:=#[s,x],argTypes:=#[t,t] })
  (base:Nat) (e:TypeId) (i:TypeInfo) (z:Value) (size bytes:Nat) (ht:P.underlying t = some (.slice e)) (hi:P.info? e = some i) (hz:i.zero = some z)
  (hsize:i.size = size) (hby:i.bytes = bytes) (hzs:z.cells.size = size) (hsz:0 < size)
  (v:Value) (n:Nat) (xs:List Value) (hs:a.eval s = v) (hown:w.ownsRow base e size v n xs)
  (A:Option Addr) (m c:Nat) (news:List Value) (hx:a.eval x = .slice A m c) (hl:news.length = m * size) (hnews:∀ p,A = some p → ∀ j u,news[j]? = some u → w.cell? (p.add j) = some u) (hnone:A = none → m = 0) (h1:∀ u ∈ news,u.oneCell' = true)
  (h63:n + m ≤ maxLen) (hbytes:(n + m) * bytes ≤ 140737488355328) (hbase:base ≤ w.heap.size)
  (h:∀ v' w',w'.ownsRow base e size v' (n + m) (xs ++ news) → Below base w w' → w.heap.size ≤ w'.heap.size → K (a.put o.dst v') w') :
  if Region.wanted o (yielded ops a.tmps) = true then Oper.wp P o a w K Q else E:=by
 have hw:Region.wanted o (yielded ops a.tmps) = true:=by simp [Region.wanted,hgd]
 rw [if_pos hw]
 exact wp_append_sl s x t ho base e i z size bytes ht hi hz hsize hby hzs hsz v n xs hs hown A m c news hx hl hnews hnone h1 h63 hbytes hbase h

theorem step_append_row {w:World} {ops:Array Oper} {o:Oper} {a:Act} {K:Act → World → Prop} {Q:Exit → Act → World → Prop} {E:Prop} (hgd:o.guard = none) (s x:Operand) (t:TypeId)
  (ho:o.op = .call { callee:=.builtin .append,args:=#[s,x],argTypes:=#[t,t] })
  (e:TypeId) (i:TypeInfo) (size:Nat) (ht:P.underlying t = some (.slice e)) (hi:P.info? e = some i) (hsize:i.size = size)
  (g k cap:Nat) (cur:Array Value) (hg:w.heap[g]? = some (.cells cur e (0,0))) (hs:a.eval s = .slice (some ⟨g,0,none⟩) k cap)
  (p:Addr) (m c:Nat) (news:List Value) (hx:a.eval x = .slice (some p) m c) (hl:news.length = m * size) (hnews:∀ j u,news[j]? = some u → w.cell? (p.add j) = some u) (h1:∀ u ∈ news,u.oneCell' = true)
  (hroom:k + m ≤ cap) (hfit:k * size + news.length ≤ cur.size)
  (h:K (a.put o.dst (.slice (some ⟨g,0,none⟩) (k + m) cap)) (w.setRow g (cur.toList.take (k * size) ++ news ++ cur.toList.drop (k * size + news.length)).toArray)) :
  if Region.wanted o (yielded ops a.tmps) = true then Oper.wp P o a w K Q else E:=by
 have hw:Region.wanted o (yielded ops a.tmps) = true:=by simp [Region.wanted,hgd]
 rw [if_pos hw]
 subst hsize
 have hr:=run_append_room (P:=P) w t o.type e i ht hi g k cap cur hg p m c news hl hnews h1 hroom hfit
 unfold Oper.wp execOp
 simp only [ho,resolve,invoke,builtin,Sem.run_bind,Sem.run_pure,Result.andThen_ok,List.map_toArray,List.map_cons,List.map_nil,hs,hx,hr]
 exact h
theorem run_clear_row (w:World) (t ty e:TypeId) (z:Value) (ht:P.underlying t = some (.slice e)) (hv:∀ w,(zeroValue e).run P w = .ok z w) (hz:∀ u ∈ (z.cells).toList,u.oneCell' = true) (hz0:0 < z.cells.size)
  (g o k c:Nat) (cur:Array Value) (hg:w.heap[g]? = some (.cells cur e (0,0))) (hk:0 < k) (hfit:o + k * z.cells.size ≤ cur.size) :
  ∃ zs:List Value,zs.length = k * z.cells.size ∧ (Builtin.clear_ #[t] ty #[.slice (some ⟨g,o,none⟩) k c]).run P w = .ok (.tuple #[]) (w.setRow g (cur.toList.take o ++ zs ++ cur.toList.drop (o + zs.length)).toArray):=by
 have hlen:(Builtin.zeroCells z.cells k).toList.length = k * z.cells.size:=by simp [Builtin.zeroCells]
 refine ⟨(Builtin.zeroCells z.cells k).toList,hlen,?_⟩
 have hst:=run_storeCells_at P g o e (Builtin.zeroCells z.cells k).toList 0 cur w hg (by rw [hlen];omega) (by
  intro u hu
  simp only [Builtin.zeroCells,Array.toList_map,List.mem_map] at hu
  obtain ⟨j,_,rfl⟩:=hu
  have hj:=Nat.mod_lt j hz0
  rw [getElem!_pos z.cells _ hj]
  exact hz _ (by simp))
 simp only [Nat.add_zero] at hst
 obtain ⟨k,rfl⟩:∃ m,k = m + 1:=⟨k - 1,by omega⟩
 simp [Builtin.clear_,run_underlying ht,hv,hst]
end
end Go.Proofs.YtldbpmlgbbomcaaGreatDoor
