/- workpieceref03: trim, order: the walks. A block of the call's own, whole: plain facts for walks over variables that lie in memory. errors.Is on the planner's own error; check, must, the deferred closu. -/
import Derived.Test.YtociicfjhgfgpaaGreatDoorProg
import Derived.Test.YtociicfjhgfgpaaGreatDoorR01
import Derived.KernelRfl
import Derived.WalkKit
import Derived.LaidEql
import Derived.Stop.Asserts
import Derived.RowKitTokens
import Derived.Recover
import Derived.WalkSmall
import Derived.Defers
import Derived.RangeFuncNested
import Derived.RangeFuncBound
import Derived.RangeFuncCalls
import Derived.RangeFuncLeaves
import Derived.RangeFuncBox
import Derived.Shelf.Abstract
import Derived.OwnWalkIn
import Derived.TacticsInMore
import Derived.LoopNIn
import Derived.LoopIn
import Derived.Maps.AppendAt
set_option linter.unusedVariables false
set_option linter.unusedSimpArgs false
set_option maxHeartbeats 1000000
set_option maxRecDepth 100000
namespace Go.Proofs.YtociicfjhgfgpaaGreatDoor
open Go.RowKit Go.Proofs.YtociicfjhgfgpaaGreatDoorW.PrintWords
def Rd (w : World) (v : Value) (xs : List Int) : Prop := ∃ A c, v = .slice A xs.length c ∧ xs.length ≤ c ∧ (Kd.int .i64).C w A xs.length xs
theorem Rd.below {w w' : World} {v : Value} {xs : List Int} (h : Rd w v xs) (hb : Below w.heap.size w w') : Rd w' v xs := by
 obtain ⟨A, c, e, hc, hr⟩ := h
 exact ⟨A, c, e, hc, Kd.C_below hr hb⟩
def trimN (l : List Int) : Nat → Nat
 | 0 => 0
 | n + 1 => if rd l (n : Int) = 0 then trimN l n else n + 1
def trimL (l : List Int) : List Int := l.take (trimN l l.length)
theorem trimN_le (l : List Int) : ∀ n, trimN l n ≤ n
 | 0 => Nat.le_refl _
 | n + 1 => by
  unfold trimN
  split
  ·exact Nat.le_succ_of_le (trimN_le l n)
  ·exact Nat.le_refl _
theorem rd_of_take {w : World} {A : Option Addr} {c n : Nat} {xs : List Int} (h : (Kd.int .i64).C w A xs.length xs) (hc : xs.length ≤ c) (hn : n ≤ xs.length) : Rd w (.slice A n c) (xs.take n) := by
 have hl : (xs.take n).length = n := by rw [List.length_take]; omega
 exact ⟨A, c, by rw [hl], by omega, Kd.C_take h hn⟩
theorem info3 : (Tryz.prog.info? 3).map (fun i => (i.zero, i.size, i.bytes)) = some (some (.int .i64 0), 1, 8) := by kernel_rfl
theorem ref03_trim (v : Value) (xs : List Int) (w : World) (h : Rd w v xs) :
  Calls Tryz.prog 190 #[v] w fun e w' => ∃ v', e = .returned v' ∧ Rd w' v' (trimL xs) ∧ Below w.heap.size w w' ∧ v'.ownBlock = v.ownBlock := by
 obtain ⟨A, c, rfl, hc, hr⟩ := h
 go_enter Tryz.func190, Tryz.ntmps190
 go_wp2
 go_loopg [0] xs.length (fun k v0 w' => v0 = .slice A k c ∧ k ≤ xs.length ∧ trimN xs k = trimN xs xs.length ∧ w' = w)
 case atStart => exact ⟨rfl, Nat.le_refl _, rfl, rfl⟩
 obtain ⟨rfl, hk, ht, rfl⟩ := hrel
 cases gk with
 | zero =>
  go_wp2
  go_ret
  exact ⟨_, rfl, by unfold trimL; rw [← ht]; exact rd_of_take hr hc hk, Below.refl _ _, by cases A <;> rfl⟩
 | succ m =>
  have hm : (m : Int) < (xs.length : Int) := by omega
  obtain ⟨ad, rfl, hx⟩ := Kd.at_int hr (m : Int) (by omega) hm
  rw [Int.toNat_natCast] at hx
  have hw : wrap64 (m : Int) = (m : Int) := by have := hr.2.1; unfold wrap64; omega
  have T := Aside0.mk ht
  clear ht
  by_cases hz : rd xs (m : Int) = 0
  ·rw [hz] at hx
   go_wp2
   go_roundg m
   case measure => omega
   case rel => exact ⟨rfl, by omega, by rw [← T.out]; conv => rhs; unfold trimN; rw [if_pos hz], rfl⟩
  ·have hb : (rd xs (m : Int) == 0) = false := beq_eq_false_iff_ne.2 hz
   go_wp2
   go_ret
   exact ⟨_, rfl, by unfold trimL; rw [← T.out]; unfold trimN; rw [if_neg hz]; exact rd_of_take hr hc hk, Below.refl _ _, rfl⟩
def ordN (a b : List Int) : Nat → Int
 | 0 => 0
 | n + 1 => if rd a (n : Int) = rd b (n : Int) then ordN a b n else if rd a (n : Int) < rd b (n : Int) then -1 else 1
def ordL (a b : List Int) : Int := if a.length = b.length then ordN a b a.length else if a.length < b.length then -1 else 1
theorem ref03_order (v u : Value) (xs ys : List Int) (w : World) (h : Rd w v xs) (h2 : Rd w u ys) :
  Calls Tryz.prog 142 #[v, u] w fun e w' => e = .returned (.int .i64 (ordL xs ys)) ∧ Below w.heap.size w w' := by
 obtain ⟨A, c, rfl, hc, hr⟩ := h
 obtain ⟨B, d, rfl, hd, hs⟩ := h2
 go_enter Tryz.func142, Tryz.ntmps142
 by_cases hl : xs.length = ys.length
 ·have hb : ((xs.length : Int) != (ys.length : Int)) = false := bne_eq_false_iff_eq.2 (by omega)
  have hw : wrap64 ((xs.length : Int) - 1) = (xs.length : Int) - 1 := by have := hr.2.1; unfold wrap64; omega
  go_wp2
  go_loopg [5] xs.length (fun k v0 w' => v0 = .int .i64 ((k : Int) - 1) ∧ k ≤ xs.length ∧ ordN xs ys k = ordN xs ys xs.length ∧ (Kd.int .i64).C w' A xs.length xs ∧ (Kd.int .i64).C w' B ys.length ys ∧ Below w.heap.size w w')
  case atStart => exact ⟨by rw [hl] at hw ⊢; rw [hw], Nat.le_refl _, rfl, hr, hs, Below.refl _ _⟩
  clear hr hs
  obtain ⟨rfl, hk, ht, hr, hs, HB⟩ := hrel
  clear hw
  cases gk with
  | zero =>
   go_wp2
   go_ret
   exact ⟨by unfold ordL; rw [if_pos hl, ← ht]; rfl, HB⟩
  | succ m =>
   obtain ⟨ad, rfl, hx⟩ := Kd.at_int hr (m : Int) (by omega) (by omega)
   obtain ⟨bd, rfl, hy⟩ := Kd.at_int hs (m : Int) (by omega) (by omega)
   rw [Int.toNat_natCast] at hx hy
   have hi : (m : Int) < (xs.length : Int) := by omega
   have hi2 : (m : Int) < (ys.length : Int) := by omega
   have hw : wrap64 ((m : Int) - 1) = (m : Int) - 1 := by have := hr.2.1; unfold wrap64; omega
   rw [show ((m + 1 : Nat) : Int) - 1 = (m : Int) by omega]
   have T := Aside0.mk ht
   have HL := Aside0.mk hl
   clear ht hl hb
   by_cases hz : rd xs (m : Int) = rd ys (m : Int)
   ·have hb : (rd xs (m : Int) != rd ys (m : Int)) = false := bne_eq_false_iff_eq.2 hz
    have HZ := Aside0.mk hz
    clear hz
    go_wp2
    go_region
    go_wp2
    go_roundg m
    case measure => omega
    case rel => exact ⟨by rw [hw], by omega, by rw [← T.out]; conv => rhs; unfold ordN; rw [if_pos HZ.out], Kd.C_drew hr, Kd.C_drew hs, bZd HB⟩
   ·have hb : (rd xs (m : Int) != rd ys (m : Int)) = true := bne_iff_ne.2 hz
    by_cases hlt : rd xs (m : Int) < rd ys (m : Int)
    ·go_wp2
     go_region
     go_wp2
     go_region
     go_wp2
     go_ret
     exact ⟨by unfold ordL; rw [if_pos HL.out, ← T.out]; unfold ordN; rw [if_neg hz, if_pos hlt]; rfl, bZd (bZd HB)⟩
    ·go_wp2
     go_region
     go_wp2
     go_region
     go_wp2
     go_ret
     exact ⟨by unfold ordL; rw [if_pos HL.out, ← T.out]; unfold ordN; rw [if_neg hz, if_neg (by omega)]; rfl, bZd (bZd HB)⟩
 ·have hb : ((xs.length : Int) != (ys.length : Int)) = true := bne_iff_ne.2 (by omega)
  by_cases hlt : (xs.length : Int) < (ys.length : Int)
  ·go_wp2
   go_ret
   exact ⟨by unfold ordL; rw [if_neg hl, if_pos (by omega)]; rfl, Below.refl _ _⟩
  ·go_wp2
   go_ret
   exact ⟨by unfold ordL; rw [if_neg hl, if_neg (by omega)]; rfl, Below.refl _ _⟩
def Blk (w : World) (b : Nat) (cs : Array Value) (t : TypeId) : Prop := w.heap[b]? = some (.cells cs t (0, 0))
theorem Blk.new (w : World) (cs : Array Value) (t : TypeId) : Blk (w.alloc (.cells cs t)) w.heap.size cs t := heap_alloc_new w _
theorem Blk.lt {w : World} {b : Nat} {cs : Array Value} {t : TypeId} (h : Blk w b cs t) : b < w.heap.size := (Array.getElem?_eq_some_iff.1 h).1
theorem Blk.below {w w' : World} {b : Nat} {cs : Array Value} {t : TypeId} (h : Blk w b cs t) (hb : Below w.heap.size w w') : Blk w' b cs t := (hb.block b h.lt).trans h
theorem Blk.alloc {w : World} {b : Nat} {cs : Array Value} {t : TypeId} (h : Blk w b cs t) (o : Obj) : Blk (w.alloc o) b cs t := (Below.heap_alloc w o b h.lt).trans h
theorem news1 (w : World) (c0 : Array Value) (t0 : TypeId) : Below w.heap.size w (w.alloc (.cells c0 t0)) ∧ Blk (w.alloc (.cells c0 t0)) w.heap.size c0 t0 := ⟨bZa (Below.refl _ _) _, Blk.new w c0 t0⟩
theorem news2 (w : World) (c0 : Array Value) (t0 : TypeId) (c1 : Array Value) (t1 : TypeId) : Below w.heap.size w ((w.alloc (.cells c0 t0)).alloc (.cells c1 t1)) ∧ Blk ((w.alloc (.cells c0 t0)).alloc (.cells c1 t1)) w.heap.size c0 t0 ∧ Blk ((w.alloc (.cells c0 t0)).alloc (.cells c1 t1)) (w.heap.size + 1) c1 t1 := by
 obtain ⟨h, k0⟩ := news1 w c0 t0
 exact ⟨bZa h _, k0.alloc _, by have := Blk.new (w.alloc (.cells c0 t0)) c1 t1; rwa [World.size_alloc] at this⟩
theorem news3 (w : World) (c0 : Array Value) (t0 : TypeId) (c1 : Array Value) (t1 : TypeId) (c2 : Array Value) (t2 : TypeId) : Below w.heap.size w (((w.alloc (.cells c0 t0)).alloc (.cells c1 t1)).alloc (.cells c2 t2)) ∧ Blk (((w.alloc (.cells c0 t0)).alloc (.cells c1 t1)).alloc (.cells c2 t2)) w.heap.size c0 t0 ∧ Blk (((w.alloc (.cells c0 t0)).alloc (.cells c1 t1)).alloc (.cells c2 t2)) (w.heap.size + 1) c1 t1 ∧ Blk (((w.alloc (.cells c0 t0)).alloc (.cells c1 t1)).alloc (.cells c2 t2)) (w.heap.size + 2) c2 t2 := by
 obtain ⟨h, k0, k1⟩ := news2 w c0 t0 c1 t1
 exact ⟨bZa h _, k0.alloc _, k1.alloc _, by have := Blk.new ((w.alloc (.cells c0 t0)).alloc (.cells c1 t1)) c2 t2; rwa [World.size_alloc, World.size_alloc] at this⟩
theorem news4 (w : World) (c0 : Array Value) (t0 : TypeId) (c1 : Array Value) (t1 : TypeId) (c2 : Array Value) (t2 : TypeId) (c3 : Array Value) (t3 : TypeId) : Below w.heap.size w ((((w.alloc (.cells c0 t0)).alloc (.cells c1 t1)).alloc (.cells c2 t2)).alloc (.cells c3 t3)) ∧ Blk ((((w.alloc (.cells c0 t0)).alloc (.cells c1 t1)).alloc (.cells c2 t2)).alloc (.cells c3 t3)) w.heap.size c0 t0 ∧ Blk ((((w.alloc (.cells c0 t0)).alloc (.cells c1 t1)).alloc (.cells c2 t2)).alloc (.cells c3 t3)) (w.heap.size + 1) c1 t1 ∧ Blk ((((w.alloc (.cells c0 t0)).alloc (.cells c1 t1)).alloc (.cells c2 t2)).alloc (.cells c3 t3)) (w.heap.size + 2) c2 t2 ∧ Blk ((((w.alloc (.cells c0 t0)).alloc (.cells c1 t1)).alloc (.cells c2 t2)).alloc (.cells c3 t3)) (w.heap.size + 3) c3 t3 := by
 obtain ⟨h, k0, k1, k2⟩ := news3 w c0 t0 c1 t1 c2 t2
 exact ⟨bZa h _, k0.alloc _, k1.alloc _, k2.alloc _, by have := Blk.new (((w.alloc (.cells c0 t0)).alloc (.cells c1 t1)).alloc (.cells c2 t2)) c3 t3; rwa [World.size_alloc, World.size_alloc, World.size_alloc] at this⟩
theorem news5 (w : World) (c0 : Array Value) (t0 : TypeId) (c1 : Array Value) (t1 : TypeId) (c2 : Array Value) (t2 : TypeId) (c3 : Array Value) (t3 : TypeId) (c4 : Array Value) (t4 : TypeId) : Below w.heap.size w (((((w.alloc (.cells c0 t0)).alloc (.cells c1 t1)).alloc (.cells c2 t2)).alloc (.cells c3 t3)).alloc (.cells c4 t4)) ∧ Blk (((((w.alloc (.cells c0 t0)).alloc (.cells c1 t1)).alloc (.cells c2 t2)).alloc (.cells c3 t3)).alloc (.cells c4 t4)) w.heap.size c0 t0 ∧ Blk (((((w.alloc (.cells c0 t0)).alloc (.cells c1 t1)).alloc (.cells c2 t2)).alloc (.cells c3 t3)).alloc (.cells c4 t4)) (w.heap.size + 1) c1 t1 ∧ Blk (((((w.alloc (.cells c0 t0)).alloc (.cells c1 t1)).alloc (.cells c2 t2)).alloc (.cells c3 t3)).alloc (.cells c4 t4)) (w.heap.size + 2) c2 t2 ∧ Blk (((((w.alloc (.cells c0 t0)).alloc (.cells c1 t1)).alloc (.cells c2 t2)).alloc (.cells c3 t3)).alloc (.cells c4 t4)) (w.heap.size + 3) c3 t3 ∧ Blk (((((w.alloc (.cells c0 t0)).alloc (.cells c1 t1)).alloc (.cells c2 t2)).alloc (.cells c3 t3)).alloc (.cells c4 t4)) (w.heap.size + 4) c4 t4 := by
 obtain ⟨h, k0, k1, k2, k3⟩ := news4 w c0 t0 c1 t1 c2 t2 c3 t3
 exact ⟨bZa h _, k0.alloc _, k1.alloc _, k2.alloc _, k3.alloc _, by have := Blk.new ((((w.alloc (.cells c0 t0)).alloc (.cells c1 t1)).alloc (.cells c2 t2)).alloc (.cells c3 t3)) c4 t4; rwa [World.size_alloc, World.size_alloc, World.size_alloc, World.size_alloc] at this⟩
theorem news6 (w : World) (c0 : Array Value) (t0 : TypeId) (c1 : Array Value) (t1 : TypeId) (c2 : Array Value) (t2 : TypeId) (c3 : Array Value) (t3 : TypeId) (c4 : Array Value) (t4 : TypeId) (c5 : Array Value) (t5 : TypeId) : Below w.heap.size w ((((((w.alloc (.cells c0 t0)).alloc (.cells c1 t1)).alloc (.cells c2 t2)).alloc (.cells c3 t3)).alloc (.cells c4 t4)).alloc (.cells c5 t5)) ∧ Blk ((((((w.alloc (.cells c0 t0)).alloc (.cells c1 t1)).alloc (.cells c2 t2)).alloc (.cells c3 t3)).alloc (.cells c4 t4)).alloc (.cells c5 t5)) w.heap.size c0 t0 ∧ Blk ((((((w.alloc (.cells c0 t0)).alloc (.cells c1 t1)).alloc (.cells c2 t2)).alloc (.cells c3 t3)).alloc (.cells c4 t4)).alloc (.cells c5 t5)) (w.heap.size + 1) c1 t1 ∧ Blk ((((((w.alloc (.cells c0 t0)).alloc (.cells c1 t1)).alloc (.cells c2 t2)).alloc (.cells c3 t3)).alloc (.cells c4 t4)).alloc (.cells c5 t5)) (w.heap.size + 2) c2 t2 ∧ Blk ((((((w.alloc (.cells c0 t0)).alloc (.cells c1 t1)).alloc (.cells c2 t2)).alloc (.cells c3 t3)).alloc (.cells c4 t4)).alloc (.cells c5 t5)) (w.heap.size + 3) c3 t3 ∧ Blk ((((((w.alloc (.cells c0 t0)).alloc (.cells c1 t1)).alloc (.cells c2 t2)).alloc (.cells c3 t3)).alloc (.cells c4 t4)).alloc (.cells c5 t5)) (w.heap.size + 4) c4 t4 ∧ Blk ((((((w.alloc (.cells c0 t0)).alloc (.cells c1 t1)).alloc (.cells c2 t2)).alloc (.cells c3 t3)).alloc (.cells c4 t4)).alloc (.cells c5 t5)) (w.heap.size + 5) c5 t5 := by
 obtain ⟨h, k0, k1, k2, k3, k4⟩ := news5 w c0 t0 c1 t1 c2 t2 c3 t3 c4 t4
 exact ⟨bZa h _, k0.alloc _, k1.alloc _, k2.alloc _, k3.alloc _, k4.alloc _, by have := Blk.new (((((w.alloc (.cells c0 t0)).alloc (.cells c1 t1)).alloc (.cells c2 t2)).alloc (.cells c3 t3)).alloc (.cells c4 t4)) c5 t5; rwa [World.size_alloc, World.size_alloc, World.size_alloc, World.size_alloc, World.size_alloc] at this⟩
theorem Blk.drew {w : World} {b : Nat} {cs : Array Value} {t : TypeId} (h : Blk w b cs t) : Blk w.drew b cs t := h
theorem Blk.far {w : World} {b : Nat} {cs : Array Value} {t : TypeId} (h : Blk w b cs t) {p : Addr} (hp : b ≠ p.block) (v : Value) : Blk (w.setCell p v) b cs t := (Below.heap_setCell w p v b hp).trans h
theorem Blk.cell {w : World} {b : Nat} {cs : Array Value} {t : TypeId} (h : Blk w b cs t) (i : Nat) : w.cell? ⟨b, i, none⟩ = cs[i]? := by
 unfold World.cell?
 rw [h]
 rfl
theorem Blk.frozen {w : World} {b : Nat} {cs : Array Value} {t : TypeId} (h : Blk w b cs t) (i : Nat) : w.frozen? ⟨b, i, none⟩ = false := by
 unfold World.frozen?
 rw [h]
 simp
theorem Blk.set {w : World} {b : Nat} {cs : Array Value} {t : TypeId} (h : Blk w b cs t) (i : Nat) (v : Value) : Blk (w.setCell ⟨b, i, none⟩ v) b (cs.setIfInBounds i v) t := by
 have hl := h.lt
 unfold Blk at *
 rw [Array.getElem?_eq_getElem hl, Option.some.injEq] at h
 unfold World.setCell
 simp only [Array.getElem?_modify, if_true]
 rw [Array.getElem?_eq_getElem hl, h]
 rfl
theorem Blk.two {w : World} {b : Nat} {x y : Value} {t : TypeId} (h : Blk w b #[x, y] t) : w.cell? ⟨b, 0, none⟩ = some x ∧ w.cell? ⟨b, 1, none⟩ = some y ∧ w.frozen? ⟨b, 0, none⟩ = false ∧ w.frozen? ⟨b, 1, none⟩ = false := ⟨h.cell 0, h.cell 1, h.frozen 0, h.frozen 1⟩
theorem Blk.one {w : World} {b : Nat} {x : Value} {t : TypeId} (h : Blk w b #[x] t) : w.cell? ⟨b, 0, none⟩ = some x ∧ w.frozen? ⟨b, 0, none⟩ = false := ⟨h.cell 0, h.frozen 0⟩
theorem Blk.le {w W : World} {cs : Array Value} {t : TypeId} {w' : World} (h : Below w.heap.size w W) (hb : Below (W.alloc (.cells cs t)).heap.size (W.alloc (.cells cs t)) w') : Blk w' W.heap.size cs t ∧ Below w.heap.size w w' :=
 ⟨(Blk.new W cs t).below hb, bZs (bZa h _) hb⟩
end Go.Proofs.YtociicfjhgfgpaaGreatDoor
namespace Go.Proofs.YtociicfjhgfgpaaGreatDoor
open Go.RowKit Go.Extern.Stop Go.Stop Go.Extern Go.Proofs.YtociicfjhgfgpaaGreatDoorW.PrintWords
theorem er_typeOf (v : Value) (w : World) : (Extern.ReflectliteType.typeOf #[.iface 331 v]).run Tryz.prog w = .ok (.iface 243 (.agg #[.pointer (some ⟨10, 331, none⟩)])) w := by kernel_rfl
theorem er_info : (Tryz.prog.info? 331).map (·.comparable) = some true := by kernel_rfl
theorem er_size : (Tryz.prog.info? 333).map (·.size) = some 1 := by kernel_rfl
theorem er_is1 (a : Addr) (w : World) :
  Calls Tryz.prog 136 #[.iface 331 (.pointer (some a)), .iface 331 (.pointer (some a)), .bool true] w fun e w' => e = .returned (.bool true) ∧ w' = w := by
 obtain ⟨i, hi, hcmp⟩ := Option.map_eq_some_iff.1 er_info
 obtain ⟨j, hj, hjs⟩ := Option.map_eq_some_iff.1 er_size
 have heq := run_eql_iface_ptr_same (P := Tryz.prog) w a Tryz.underlying126 Tryz.underlying331 hi hcmp hj
 go_enter Tryz.func136, Tryz.ntmps136
 go_wp2
 refine wp_loop_rounds 1 ?_
 rw [rounds_succ]
 go_wp2
 go_ret
 exact ⟨rfl, rfl⟩
theorem er_is (a : Addr) (w : World) :
  Calls Tryz.prog 65 #[.iface 331 (.pointer (some a)), .iface 331 (.pointer (some a))] w fun e w' => e = .returned (.bool true) ∧ w' = w := by
 have h8 := @run_callFunc_extern Tryz.prog 135 _ Extern.ReflectliteType.typeOf Tryz.func135 (by kernel_rfl) (by kernel_rfl) (by kernel_rfl) (by kernel_rfl)
 have h32 : ∀ w : World, (callFunc 319 #[.agg #[.pointer (some ⟨10, 331, none⟩)]]).run Tryz.prog w = .ok (.value (.bool true)) w := fun _ => by kernel_rfl
 have hmt : ∀ w : World, (method 476 243 (.agg #[.pointer (some ⟨10, 331, none⟩)]) "Comparable").run Tryz.prog w = .ok (319, .agg #[.pointer (some ⟨10, 331, none⟩)]) w := fun _ => by kernel_rfl
 have tT := er_typeOf
 have hn1 : ∀ w : World, (binOp BinOp.eql 126 (.iface 331 (.pointer (some a))) .nilIface).run Tryz.prog w = .ok (.bool false) w := fun _ => by kernel_rfl
 have I1 := fun W => er_is1 a W
 go_enter Tryz.func65, Tryz.ntmps65
 go_wp2_with (go_at_call 136; refine (I1 _).mono ?_; rintro e w2 ⟨rfl, rfl⟩)
 go_ret
 exact ⟨rfl, rfl⟩
def Plan (w : World) (a : Addr) : Prop := w.cell? ⟨0, 0, none⟩ = some (.iface 331 (.pointer (some a)))
theorem Plan.below {w w' : World} {a : Addr} {n : Nat} (h : Plan w a) (hb : Below n w w') (hn : 0 < n) : Plan w' a := by
 unfold Plan at *
 rw [World.cell?_of_block (w := w) (a := ⟨0, 0, none⟩)]
 ·exact h
 ·exact hb.block 0 hn
def chain (a : Addr) (r : Bool) : List PanicEntry := [{ v := .iface 331 (.pointer (some a)), recovered := r }]
theorem pl_check_ok (w : World) : Calls Tryz.prog 67 #[.bool true] w fun e w' => e = .returned (.tuple #[]) ∧ w' = w := by
 go_enter Tryz.func67, Tryz.ntmps67
 go_wp2
 go_end0
 exact ⟨rfl, rfl⟩
theorem pl_check_bad (a : Addr) (w : World) (h : Plan w a) : Calls Tryz.prog 67 #[.bool false] w fun e w' => e = .panicked (chain a false) ∧ w' = w := by
 unfold Plan at h
 go_enter Tryz.func67, Tryz.ntmps67
 go_wp2
 exact ⟨rfl, rfl, rfl⟩
end Go.Proofs.YtociicfjhgfgpaaGreatDoor
namespace Go.Proofs.YtociicfjhgfgpaaGreatDoor
open Go.RowKit Go.Shelf
def stPost (B : Nat) (N : World → Prop) (Jx : Code → World → Prop) (W : World) : Exit → Act → World → Prop
 | .normal, _, W' => KeepsFrom B W W' ∧ N W'
 | .ret, _, W' => KeepsFrom B W W' ∧ Jx .ret W'
 | .exit id, _, W' => KeepsFrom B W W' ∧ Jx (.exit id) W'
 | .goto t, _, W' => KeepsFrom B W W' ∧ Jx (.goto t) W'
 | .panic _, _, _ => False
 | .outgrown, _, _ => False
variable {F : Fence} {n : Nat} {P : Program}
theorem wpIn_rangeFunc_st {σ α : Type} {g : Operand} {ps : Array Tmp} {assign body : Code} {Q : Exit → Act → World → Prop} {a : Act} {w : World}
  (hro : F.round = none) (h1 : 1 ≤ n) {gf : Nat} {lb : Array Value} (hg : a.eval g = .func (.func gf) #[] lb) (hFg : F.fn gf) (eg : ∀ args w, (callFunc gf args).run P w = .ok (.enter gf args) w)
  {encs : α → Array Value} (hps : ∀ x, (encs x).size = ps.size)
  (J : σ → World → Prop) (Jx : Code → World → Prop) (Wants : σ → α → Prop) (nx : σ → α → σ) (Done : σ → Prop) (s0 : σ)
  (hJ : OwnFrom w.heap.size J) (hJx : OwnFrom w.heap.size Jx) (h0 : J s0 w) (a₁ : α → Act)
  (hassign : ∀ (l : Nat) (x : α) (W : World) (K : Act → World → Prop), K (a₁ x) W →
   assign.wpIn (F.inRound l) (n - 1 - 1) P (Exit.then K (fun _ _ _ => False)) { tmps := (ps.zip (encs x)).foldl (fun t (p, v) => t.setIfInBounds p v) a.tmps, defers := [] } W)
  (hbody : ∀ (l : Nat) (s : σ) (x : α) (W : World), J s W → Wants s x → body.wpIn (F.inRound l) (n - 1 - 1) P (stPost w.heap.size (J (nx s x)) Jx W) (a₁ x) W)
  (iter : ∀ (l : Nat) (J' : σ → World → Prop) (Jx' : World → Prop) (W1 : World), Below w.heap.size w W1 →
   (∀ s W, J' s W → J s W) → (∀ s s' W W', J' s W → KeepsFrom w.heap.size W W' → J s' W' → J' s' W') →
   (∀ s x W, J' s W → Wants s x → YieldAt F (n - 1 - 1) P l (encs x) W fun e W' =>
    (e = .returned (.bool true) ∧ J' (nx s x) W') ∨ (e = .returned (.bool false) ∧ Jx' W')) →
   J' s0 W1 → CallsIn F (n - 1) P gf (#[.func (.yield l) #[] #[]] ++ lb) W1 fun e W' => (∃ v, e = .returned v) ∧ ((∃ s, Done s ∧ J' s W') ∨ Jx' W'))
  (hdone : ∀ (D : Nat) (s : σ) (W : World), w.heap.size ≤ D → Done s → J s W → W.heap[D]? = some (.deferred (some [])) → Q .normal { a with defers := { target := .collected D, args := #[] } :: a.defers } W)
  (hstop : ∀ (D : Nat) (c : Code) (W : World), w.heap.size ≤ D → Jx c W → W.heap[D]? = some (.deferred (some [])) → c.wpIn F n P Q { a with defers := { target := .collected D, args := #[] } :: a.defers } W) :
  (Code.rangeFunc g ps assign body).wpIn F n P Q a w := by
 refine wpIn_rangeFunc fun fn hfn => ?_
 rw [hro]
 -- the loop's record, in each of its states
 obtain ⟨rec, hrec⟩ : ∃ rec : LoopState → Option Code → Loop, rec = fun st pe => { state := st, pending := pe, fn, tmps := a.tmps, params := ps, assign, body, defers := w.heap.size } := ⟨_, rfl⟩
 obtain ⟨V, hV⟩ : ∃ V, (w.alloc (.deferred (some []))).alloc (.loop (rec .ready none)) = V := ⟨_, rfl⟩
 have rL : V.heap[w.heap.size + 1]? = some (.loop (rec .ready none)) := by
  rw [← hV]
  have := World.alloc_heap_new (w.alloc (.deferred (some []))) (.loop (rec .ready none))
  rwa [World.size_alloc] at this
 have rD : V.heap[w.heap.size]? = some (.deferred (some [])) := by
  rw [← hV]
  exact (Below.heap_alloc _ _ _ (by simp)).trans (World.alloc_heap_new w _)
 have rJ : J s0 V := by rw [← hV]; exact hJ.alloc _ (hJ.alloc _ h0)
 have rB : Below w.heap.size w V := by rw [← hV]; exact ((Below.refl _ w).alloc (Nat.le_refl _) _).alloc (by simp) _
 refine ⟨w.heap.size + 1, [{ target := .collected w.heap.size, args := #[] }], V, { target := .fn (.func gf) lb, args := #[.func (.yield (w.heap.size + 1)) #[] #[]] }, V, gf,
  #[.func (.yield (w.heap.size + 1)) #[] #[]] ++ lb, V, ?_, ?_, ?_, ?_, fun _ => h1, ?_⟩
 ·rw [← hV, hrec]
  exact run_enterLoop_outer _ _ _ _ _
 ·simp only [resolve, hg]
  simp [go_sem]
 ·intro f' hf'
  simp [Target.leads] at hf'
  subst hf'
  exact hFg
 ·simp [invoke, go_sem, eg]
 ·-- the iterator runs, at J beside the two blocks of the statement's own
  let J' : σ → World → Prop := fun s W => J s W ∧ W.heap[w.heap.size + 1]? = some (.loop (rec .ready none)) ∧ W.heap[w.heap.size]? = some (.deferred (some []))
  let Jx' : World → Prop := fun W => ∃ c, Jx c W ∧ W.heap[w.heap.size + 1]? = some (.loop (rec .done (some c))) ∧ W.heap[w.heap.size]? = some (.deferred (some []))
  refine (iter (w.heap.size + 1) J' Jx' V rB (fun s W h => h.1) (fun s s' W W' h hk h' => ⟨h', hk.same _ _ (by omega) h.2.1 rfl, hk.same _ _ (Nat.le_refl _) h.2.2 rfl⟩) ?_ ⟨rJ, rL, rD⟩).mono ?_
  ·-- one round
   rintro s x W ⟨hj, hl, hd⟩ hx
   have hy := run_yield (P := P) (args := encs x) hl (by rw [hrec]; exact hps x)
   rw [hrec] at hy
   refine ⟨fn, _, assign, body, hy, roundIn_of_wpIn hfn (hassign _ x W _ ⟨_, run_beginRound hl (by rw [hrec]), ?_⟩)⟩
   obtain ⟨W2, hW2⟩ : ∃ W2, W.putObj (w.heap.size + 1) (.loop { rec .ready none with state := .busy }) = W2 := ⟨_, rfl⟩
   have hl2 : W2.heap[w.heap.size + 1]? = some (.loop { rec .ready none with state := .busy }) := by
    rw [← hW2]
    exact World.putObj_heap_same (Array.getElem?_eq_some_iff.1 hl).1
   have hd2 : W2.heap[w.heap.size]? = some (.deferred (some [])) := by
    rw [← hW2]
    exact (World.putObj_heap_other (by omega)).trans hd
   have hj2 : J s W2 := by rw [← hW2]; exact hJ.putObj _ hj (by omega) hl rfl
   rw [hrec] at hW2
   dsimp only at hW2
   rw [hrec]
   dsimp only
   rw [hW2]
   have ends : ∀ (jump : Option Code) (W3 : World), KeepsFrom w.heap.size W2 W3 →
     (Instr.endRound (w.heap.size + 1) jump).run P W3 = .ok (.bool jump.isNone) (W3.putObj (w.heap.size + 1) (.loop (rec (if jump.isNone then .ready else .done) jump))) ∧
     W3.heap[w.heap.size + 1]? = some (.loop { rec .ready none with state := .busy }) ∧
     (W3.putObj (w.heap.size + 1) (.loop (rec (if jump.isNone then .ready else .done) jump))).heap[w.heap.size + 1]? = some (.loop (rec (if jump.isNone then .ready else .done) jump)) ∧
     (W3.putObj (w.heap.size + 1) (.loop (rec (if jump.isNone then .ready else .done) jump))).heap[w.heap.size]? = some (.deferred (some [])) := by
    intro jump W3 hk3
    have hl3 := hk3.same _ _ (by omega) hl2 rfl
    have he := run_endRound (P := P) jump hl3
    rw [hrec] at he ⊢
    refine ⟨he, by rw [hrec] at hl3; exact hl3, World.putObj_heap_same (Array.getElem?_eq_some_iff.1 hl3).1, (World.putObj_heap_other (by omega)).trans (hk3.same _ _ (Nat.le_refl _) hd2 rfl)⟩
   refine wpIn_mono (hbody _ s x W2 hj2 hx) ?_
   rintro e a3 W3 hp
   cases e with
   | normal =>
    obtain ⟨hk3, hj3⟩ := hp
    obtain ⟨hr, hl3, hl4, hd4⟩ := ends none W3 hk3
    exact ⟨_, _, hr, .inl ⟨rfl, hJ.putObj _ hj3 (by omega) hl3 rfl, hl4, hd4⟩⟩
   | ret =>
    obtain ⟨hk3, hj3⟩ := hp
    obtain ⟨hr, hl3, hl4, hd4⟩ := ends (some .ret) W3 hk3
    exact ⟨_, _, hr, .inr ⟨rfl, .ret, hJx.putObj _ hj3 (by omega) hl3 rfl, hl4, hd4⟩⟩
   | exit id =>
    obtain ⟨hk3, hj3⟩ := hp
    obtain ⟨hr, hl3, hl4, hd4⟩ := ends (some (.exit id)) W3 hk3
    exact ⟨_, _, hr, .inr ⟨rfl, .exit id, hJx.putObj _ hj3 (by omega) hl3 rfl, hl4, hd4⟩⟩
   | goto t =>
    obtain ⟨hk3, hj3⟩ := hp
    obtain ⟨hr, hl3, hl4, hd4⟩ := ends (some (.goto t)) W3 hk3
    exact ⟨_, _, hr, .inr ⟨rfl, .goto t, hJx.putObj _ hj3 (by omega) hl3 rfl, hl4, hd4⟩⟩
   | panic ch => exact hp.elim
   | outgrown => exact hp.elim
  ·-- behind the iterator
   rintro e W2 ⟨⟨v, rfl⟩, (⟨s, hS, hj, hl, hd⟩ | ⟨c, hj, hl, hd⟩)⟩
   ·exact ⟨none, _, by have h := run_endLoop (P := P) hl (by rw [hrec]; simp); rw [hrec] at h; exact h, hdone _ s _ (Nat.le_refl _) hS (hJ.putObj _ hj (by omega) hl rfl) ((World.putObj_heap_other (by omega)).trans hd)⟩
   ·exact ⟨some c, _, by have h := run_endLoop (P := P) hl (by rw [hrec]; simp); rw [hrec] at h; exact h, hstop _ c _ (Nat.le_refl _) (hJx.putObj _ hj (by omega) hl rfl) ((World.putObj_heap_other (by omega)).trans hd)⟩
end Go.Proofs.YtociicfjhgfgpaaGreatDoor
namespace Go.Proofs.YtociicfjhgfgpaaGreatDoor
open Go.RowKit Go.Proofs.YtociicfjhgfgpaaGreatDoorW.PrintWords
def digs (b : Nat) (n : Nat) : List Int := if h : n = 0 ∨ b ≤ 1 then [] else ((n % b : Nat) : Int) :: digs b (n / b)
 termination_by n
 decreasing_by exact Nat.div_lt_self (by omega) (by omega)
theorem digs_zero (b : Nat) : digs b 0 = [] := by rw [digs]; simp
theorem digs_pos {b n : Nat} (hb : 2 ≤ b) (hn : 0 < n) : digs b n = ((n % b : Nat) : Int) :: digs b (n / b) := by
 rw [digs, dif_neg (by omega)]
theorem digs_at {b : Nat} (hb : 2 ≤ b) : ∀ (n i : Nat), (digs b n).getD i 0 = ((n / b ^ i % b : Nat) : Int) ∧ (i < (digs b n).length ↔ 0 < n / b ^ i) := by
 intro n
 induction n using Nat.strongRecOn with
 | _ n ih =>
  intro i
  by_cases hn : n = 0
  ·subst hn
   rw [digs_zero]
   simp
  ·rw [digs_pos hb (by omega)]
   cases i with
   | zero =>
    simp
    omega
   | succ i =>
    have hlt : n / b < n := Nat.div_lt_self (by omega) (by omega)
    obtain ⟨h1, h2⟩ := ih (n / b) hlt i
    have e : n / b ^ (i + 1) = n / b / b ^ i := by rw [Nat.pow_succ, Nat.mul_comm, Nat.div_div_eq_div_mul]
    rw [e, List.getD_cons_succ, List.length_cons]
    exact ⟨h1, by rw [← h2]; omega⟩
theorem digs_rd {b : Nat} (hb : 2 ≤ b) (n i : Nat) : rd (digs b n) (i : Int) = ((n / b ^ i % b : Nat) : Int) := by
 unfold rd
 rw [Int.toNat_natCast]
 exact (digs_at hb n i).1
theorem digs_lt {b : Nat} (hb : 2 ≤ b) (n i : Nat) : i < (digs b n).length ↔ 0 < n / b ^ i := (digs_at hb n i).2
def low (b n i : Nat) : List Int := (List.range i).map fun j => ((n / b ^ j % b : Nat) : Int)
theorem low_len (b n i : Nat) : (low b n i).length = i := by simp [low]
theorem low_zero (b n : Nat) : low b n 0 = [] := rfl
theorem low_succ (b n i : Nat) : low b n (i + 1) = low b n i ++ [((n / b ^ i % b : Nat) : Int)] := by
 unfold low
 rw [List.range_succ, List.map_append]
 rfl
theorem low_digs {b : Nat} (hb : 2 ≤ b) (n : Nat) : low b n (digs b n).length = digs b n := by
 apply List.ext_getElem?
 intro j
 unfold low
 by_cases hj : j < (digs b n).length
 ·rw [List.getElem?_map, List.getElem?_range hj]
  have h := (digs_at hb n j).1
  rw [List.getD_eq_getElem?_getD, List.getElem?_eq_getElem hj] at h
  rw [List.getElem?_eq_getElem hj]
  simp only [Option.map_some, Option.getD_some] at h ⊢
  rw [h]
 ·rw [List.getElem?_eq_none (by simp; omega), List.getElem?_eq_none (by omega)]
theorem low_end {b : Nat} (hb : 2 ≤ b) (n i : Nat) (h0 : n / b ^ i = 0) (h1 : ∀ j, j < i → 0 < n / b ^ j) : low b n i = digs b n := by
 have h : (digs b n).length = i := by
  have h2 : ¬ i < (digs b n).length := by rw [digs_lt hb]; omega
  rcases Nat.lt_or_ge (digs b n).length i with h3 | h3
  ·have := (digs_lt hb n _).2 (h1 _ h3)
   omega
  ·omega
 rw [← low_digs hb, h]
end Go.Proofs.YtociicfjhgfgpaaGreatDoor
