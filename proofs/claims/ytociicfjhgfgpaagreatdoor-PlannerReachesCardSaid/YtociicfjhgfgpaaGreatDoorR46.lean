/- PlannerReaches: the passes' numbers are small; the track of a pass as a region: plain facts. PlannerReaches, where there is no room for the passes: the walk. solid: check, must, isValid, Valid of one prism: the walks. -/
import Derived.Test.YtociicfjhgfgpaaGreatDoorR39
import Derived.Test.YtociicfjhgfgpaaGreatDoorR45
import Derived.Deep.CutRange
import Derived.Test.YtociicfjhgfgpaaGreatDoorR35
import Derived.Test.YtociicfjhgfgpaaGreatDoorR34
set_option linter.unusedVariables false
set_option linter.unusedSimpArgs false
set_option maxHeartbeats 64000000
set_option maxRecDepth 100000
namespace Go.Proofs.YtociicfjhgfgpaaGreatDoor
open Go.Proofs.YtociicfjhgfgpaaGreatDoorW.PrintWords
def Qt (n : Nat) (q : Rat) : Prop := ∃ m : Int, q = mkRat m 4 ∧ m.natAbs ≤ n
theorem q4 (m : Int) : mkRat m 4 = (m : Rat) * (4 : Rat)⁻¹ := by
 rw [Rat.mkRat_eq_div, Rat.div_def]
 rfl
theorem Qt.add {i j : Nat} {p q : Rat} (h : Qt i p) (k : Qt j q) : Qt (i + j) (p + q) := by
 obtain ⟨m, rfl, hm⟩ := h
 obtain ⟨n, rfl, hn⟩ := k
 refine ⟨m + n, ?_, by omega⟩
 rw [q4, q4, q4, Rat.intCast_add]
 grind
theorem Qt.sub {i j : Nat} {p q : Rat} (h : Qt i p) (k : Qt j q) : Qt (i + j) (p - q) := by
 obtain ⟨m, rfl, hm⟩ := h
 obtain ⟨n, rfl, hn⟩ := k
 refine ⟨m - n, ?_, by omega⟩
 rw [q4, q4, q4, Rat.intCast_sub]
 grind
theorem Qt.le {i j : Nat} {p : Rat} (h : Qt i p) (hij : i ≤ j) : Qt j p := by
 obtain ⟨m, rfl, hm⟩ := h
 exact ⟨m, rfl, by omega⟩
theorem Qt.sm {n : Nat} {q : Rat} (h : Qt n q) (hn : n < 1000) : Sm 3 q := by
 obtain ⟨m, rfl, hm⟩ := h
 exact sm_mk (by omega) (by decide) (by decide)
theorem Qt.row {i j : Nat} {b s : Rat} (h : Qt i b) (k : Qt j s) : ∀ n, Qt (i + n * j) (rowAt b s n)
 | 0 => by rw [Nat.zero_mul]; exact h
 | n + 1 => by
  show Qt _ (rowAt b s n + s)
  refine ((Qt.row h k n).add k).le ?_
  rw [Nat.succ_mul]
  omega
theorem rows_at {d s : Rat} : ∀ {n : Nat} {b v : Rat}, v ∈ rowsF d s n b → ∃ k, k < n ∧ v = rowAt b s k
 | 0, _, _, h => by simp [rowsF] at h
 | n + 1, b, v, h => by
  unfold rowsF at h
  split at h
  ·rcases List.mem_cons.1 h with rfl | h
   ·exact ⟨0, by omega, rfl⟩
   ·obtain ⟨k, hk, rfl⟩ := rows_at h
    exact ⟨k + 1, by omega, (rowAt_shift b s k).symm⟩
  ·simp at h
structure Qp (p : Pkt) : Prop where
 a : Qt 100 p.a
 b : Qt 100 p.b
 c : Qt 100 p.c
 d : Qt 100 p.d
 r : Qt 10 p.r
theorem Qp.rows {p : Pkt} (h : Qp p) : Rows p where
 rr := ((h.r.add h.r).sm (by decide)).le (by decide)
 y := fun k hk => ((Qt.row h.b (h.r.add h.r) k).sm (by omega)).le (by decide)
structure okQ (q : Pss) : Prop where
 a : Qt 400 q.1
 b : Qt 400 q.2.1
 c : Qt 400 q.2.2.1
 d : Qt 400 q.2.2.2
 sh : (q.1 = q.2.2.1 ∧ q.2.1 ≤ q.2.2.2) ∨ (q.2.1 = q.2.2.2 ∧ q.1 < q.2.2.1)
theorem pass_ok {p : Pkt} (h : okP p) (hq : Qp p) {q : Pss} (hm : q ∈ passL p 13) : okQ q := by
 have a := hq.a.le (j := 400) (by decide)
 have b := hq.b.le (j := 400) (by decide)
 have c := hq.c.le (j := 400) (by decide)
 have d := hq.d.le (j := 400) (by decide)
 unfold passL at hm
 rcases List.mem_cons.1 hm with rfl | hm
 ·exact ⟨a, b, a, d, .inl ⟨rfl, h.bd⟩⟩
 ·split at hm
  ·rename_i hw
   rcases List.mem_cons.1 hm with rfl | hm
   ·exact ⟨c, b, c, d, .inl ⟨rfl, h.bd⟩⟩
   ·rcases List.mem_append.1 hm with hm | hm
    ·obtain ⟨v, hv, rfl⟩ := List.mem_map.1 hm
     obtain ⟨k, hk, rfl⟩ := rows_at hv
     have y := (Qt.row hq.b (hq.r.add hq.r) k).le (j := 400) (by omega)
     exact ⟨a, y, c, y, .inr ⟨rfl, hw⟩⟩
    ·obtain rfl := List.mem_singleton.1 hm
     exact ⟨a, d, c, d, .inr ⟨rfl, hw⟩⟩
  ·simp at hm
def boxR (q : Pss) (r : Rat) : Rg := if q.2.1 = q.2.2.2 then rectR q.1 (q.2.1 - r) q.2.2.1 (q.2.1 + r) else rectR (q.1 - r) q.2.1 (q.1 + r) q.2.2.2
def trackR (q : Pss) (r : Rat) : Rg := if q.2.1 = q.2.2.2 ∧ q.1 = q.2.2.1 then discR q.1 q.2.1 r else cmb 2 (cmb 2 (boxR q r) (discR q.1 q.2.1 r)) (discR q.2.2.1 q.2.2.2 r)
theorem box_sz (q : Pss) (r : Rat) : szR 4 7 (boxR q r) := by
 unfold boxR
 split
 ·exact sz_rect _ _ _ _
 ·exact sz_rect _ _ _ _
theorem track_sz (q : Pss) {r : Rat} (h : 0 < r) : szR 6 11 (trackR q r) := by
 unfold trackR
 split
 ·have := sz_disc q.1 q.2.1 h
  exact ⟨this.1, Nat.le_trans this.2.1 (by decide), Nat.le_trans this.2.2 (by decide)⟩
 ·exact cmb_sz (op := 2) (.inl rfl) (cmb_sz (op := 2) (.inl rfl) (box_sz q r) (sz_disc _ _ h) (by decide) (by decide)) (sz_disc _ _ h) (by decide) (by decide)
theorem sm0 : Sm 10 (0 : Rat) := ⟨by decide, by decide⟩
theorem sm1 : Sm 10 (1 : Rat) := ⟨by decide, by decide⟩
theorem smm1 : Sm 10 (-1 : Rat) := ⟨by decide, by decide⟩
theorem box_sm {q : Pss} {r : Rat} (h : okQ q) (hr : Qt 10 r) : ∀ c ∈ (boxR q r).1, smCv 10 c := by
 have S := fun {n : Nat} {t : Rat} (k : Qt n t) (hn : n < 1000) => (k.sm hn).le (k := 10) (by decide)
 unfold boxR
 split
 ·exact sm_rectR sm0 sm1 smm1 (sm_neg (S h.a (by decide))) (S h.c (by decide)) (sm_neg (S (h.b.sub hr) (by decide))) (S (h.b.add hr) (by decide))
 ·exact sm_rectR sm0 sm1 smm1 (sm_neg (S (h.a.sub hr) (by decide))) (S (h.a.add hr) (by decide)) (sm_neg (S h.b (by decide))) (S h.d (by decide))
theorem track_sm {q : Pss} {r : Rat} (h : okQ q) (hr : Qt 10 r) : ∀ c ∈ (trackR q r).1, smCv 10 c := by
 have S := fun {n : Nat} {t : Rat} (k : Qt n t) (hn : n < 1000) => (k.sm hn).le (k := 10) (by decide)
 have rr : Sm 10 (r * r) := (sm_mul (by decide) (hr.sm (by decide)) (hr.sm (by decide))).le (by decide)
 have d1 := sm_discR (k := 10) (S h.a (by decide)) (S h.b (by decide)) rr
 have d2 := sm_discR (k := 10) (S h.c (by decide)) (S h.d (by decide)) rr
 unfold trackR
 split
 ·exact d1
 ·intro c hc
  rcases cmb_mem hc with hc | hc
  ·rcases cmb_mem hc with hc | hc
   ·exact box_sm h hr c hc
   ·exact d1 c hc
  ·exact d2 c hc
theorem sqR_of {r : Rg} (h : ∀ c ∈ r.1, smCv 10 c) : SqR r := fun c hc => ⟨(h c hc).1.le (by decide), (h c hc).2.1.le (by decide), (h c hc).2.2.le (by decide)⟩
theorem inR_track {q : Pss} {r : Rat} (h : 0 < r) (x y : Rat) : inR (sideR x y) (trackR q r) = true ↔ trackP q r x y := by
 have o1 := ok_discR q.1 q.2.1 h
 have o2 := ok_discR q.2.2.1 q.2.2.2 h
 have ob := (box_sz q r).1
 have oc := (cmb_sz (op := 2) (.inl rfl) (box_sz q r) (sz_disc q.1 q.2.1 h) (by decide) (by decide)).1
 unfold trackR trackP
 split
 ·rename_i hh
  rw [inR_disc]
  simp only [decide_eq_true_eq]
  constructor
  ·exact fun k => .inl k
  ·rintro (k | k | ⟨k, -⟩)
   ·exact k
   ·unfold discB at k
    rw [← hh.1, ← hh.2] at k
    exact k
   ·exact absurd hh k
 ·rename_i hh
  rw [inR_cmb _ (.inl rfl) oc o2, inR_cmb _ (.inl rfl) ob o1, inR_disc, inR_disc]
  unfold boxR
  split
  ·rename_i e
   rw [inR_rect]
   simp only [opV, if_true, Bool.or_eq_true, decide_eq_true_eq]
   unfold discB
   constructor
   ·rintro ((k | k) | k)
    ·exact .inr (.inr ⟨hh, k⟩)
    ·exact .inl k
    ·exact .inr (.inl k)
   ·rintro (k | k | ⟨-, k⟩)
    ·exact .inl (.inr k)
    ·exact .inr k
    ·exact .inl (.inl k)
  ·rename_i e
   rw [inR_rect]
   simp only [opV, if_true, Bool.or_eq_true, decide_eq_true_eq]
   unfold discB
   constructor
   ·rintro ((k | k) | k)
    ·exact .inr (.inr ⟨hh, k⟩)
    ·exact .inl k
    ·exact .inr (.inl k)
   ·rintro (k | k | ⟨-, k⟩)
    ·exact .inl (.inr k)
    ·exact .inr k
    ·exact .inl (.inl k)
def swept (f : Pss → Bool) (L : List Pss) : Nat → Bool
 | 0 => false
 | n + 1 => swept f L n || f (L.getD n (0, 0, 0, 0))
theorem swept_iff (f : Pss → Bool) (L : List Pss) : ∀ n, n ≤ L.length → (swept f L n = true ↔ ∃ q ∈ L.take n, f q = true)
 | 0, _ => by simp [swept]
 | n + 1, h => by
  unfold swept
  rw [Bool.or_eq_true, swept_iff f L n (by omega), List.take_add_one, List.getElem?_eq_getElem (by omega), List.getD_eq_getElem?_getD, List.getElem?_eq_getElem (by omega)]
  simp only [Option.getD_some, Option.toList_some, List.mem_append, List.mem_singleton]
  constructor
  ·rintro (⟨q, hq, h⟩ | h)
   ·exact ⟨q, .inl hq, h⟩
   ·exact ⟨_, .inr rfl, h⟩
  ·rintro ⟨q, hq | rfl, h⟩
   ·exact .inl ⟨q, hq, h⟩
   ·exact .inr h
theorem swept_all {p : Pkt} (h : okP p) (hfit : (passL p 13).length ≤ 12) (x y : Rat) : swept (fun q => inR (sideR x y) (trackR q p.r)) (passL p 13) (passL p 13).length = inR (sideR x y) (reachR p) := by
 rw [Bool.eq_iff_iff, swept_iff _ _ _ (Nat.le_refl _), List.take_length, reach_near h]
 simp only [inR_track h.r0]
 refine swept_near h (fun hw => ?_) x y
 rw [passL_wide hw] at hfit
 simp at hfit
 omega
end Go.Proofs.YtociicfjhgfgpaaGreatDoor
namespace Go.Proofs.YtociicfjhgfgpaaGreatDoor
open Go.RowKit Go.Shelf Go.Lib Go.Proofs.YtociicfjhgfgpaaGreatDoorW.PrintWords
theorem bey_sm {i j : Nat} {x a b : Rat} (hx : Sm i x) (ha : Sm j a) (hb : Sm j b) (h0 : 0 < i) : Sm (i + j + 1) (beyR x a b) := by
 unfold beyR
 split
 ·exact sm_sub hx hb
 ·split
  ·exact (sm_sub ha hx).le (by omega)
  ·exact Sm.le (show Sm 1 (0 : Rat) from ⟨by decide, by decide⟩) (by omega)
theorem fits_okP' {x0 y0 x1 y1 r : Rat} (hI : Inp x0 y0 x1 y1 r) (hf : fitsP x0 y0 x1 y1 r = true) : okP (Pkt.of x0 y0 x1 y1 r) := by
 unfold fitsP at hf
 simp only [Bool.and_eq_true, Bool.not_eq_true', decide_eq_false_iff_not] at hf
 exact ⟨hI.hr, hI.hx, hI.hy, Rat.not_lt.1 hf.1, Rat.not_lt.1 hf.2, rfl, rfl, rfl, rfl⟩
theorem qp_of {x y wd dp rr : Int} : Qp (Pkt.of (mkRat (cX x) 4) (mkRat (cX y) 4) (mkRat (cW x wd) 4) (mkRat (cW y dp) 4) (mkRat (cR rr) 4)) := by
 have bx := pickI_bound (c := x) (n := 41) (by decide)
 have by' := pickI_bound (c := y) (n := 41) (by decide)
 have bw := pickI_bound (c := wd) (n := 32) (by decide)
 have bd := pickI_bound (c := dp) (n := 32) (by decide)
 have br := pickI_bound (c := rr) (n := 10) (by decide)
 have r : Qt 10 (mkRat (cR rr) 4) := ⟨_, rfl, by unfold cR; omega⟩
 have x0 : Qt 90 (mkRat (cX x) 4) := ⟨_, rfl, by unfold cX; omega⟩
 have y0 : Qt 90 (mkRat (cX y) 4) := ⟨_, rfl, by unfold cX; omega⟩
 have x1 : Qt 90 (mkRat (cW x wd) 4) := ⟨_, rfl, by unfold cW; omega⟩
 have y1 : Qt 90 (mkRat (cW y dp) 4) := ⟨_, rfl, by unfold cW; omega⟩
 exact ⟨x0.add r, y0.add r, x1.sub r, y1.sub r, r⟩
theorem lr_full (x y wd dp rr v0 v1 v2 : Int) (pa : Addr) (w : World) (hp : Pow w) (hP : Plan w pa) (hx : i64 x) (hy : i64 y) (hw : i64 wd) (hd : i64 dp) (hr : i64 rr) (h0 : i64 v0) (h1 : i64 v1) (h2 : i64 v2) (hf : fitsP (mkRat (cX x) 4) (mkRat (cX y) 4) (mkRat (cW x wd) 4) (mkRat (cW y dp) 4) (mkRat (cR rr) 4) = true) (hfit : ¬ (passL (Pkt.of (mkRat (cX x) 4) (mkRat (cX y) 4) (mkRat (cW x wd) 4) (mkRat (cW y dp) 4) (mkRat (cR rr) 4)) 13).length ≤ 12) :
  Calls Tryz.prog 5 #[.agg #[.int .i64 x, .int .i64 y, .int .i64 wd, .int .i64 dp, .int .i64 rr], .agg #[.int .i64 v0, .int .i64 v1, .int .i64 v2]] w fun e w' => e = .returned (.bool true) ∧ Below w.heap.size w w' := by
 have SN := fun W hp hP => lw_sane pa W hp hP
 have hh0 : 0 < w.heap.size := World.block_lt_of_cell? _ _ hP
 have CN := fun W => lw_corners x y wd dp rr W hx hy hw hd hr
 have RZ := fun W => lw_ratio 0 1 W (by decide) (by decide) (by decide) (by decide)
 rw [show mkRat 0 (1 : Int).toNat = 0 from rfl, rv_zero] at RZ
 obtain ⟨hI, hM⟩ := inp_of' (x := x) (y := y) (wd := wd) (dp := dp) (rr := rr)
 have hQ := qp_of (x := x) (y := y) (wd := wd) (dp := dp) (rr := rr)
 have hOK := fits_okP' hI hf
 have PO := fun W hp hP => pl_Pocket_full (mkRat (cX x) 4) (mkRat (cX y) 4) (mkRat (cW x wd) 4) (mkRat (cW y dp) 4) 0 (mkRat (cR rr) 4) pa W hp hP hI sq_zero hQ.rows hf hfit
 rw [rv_zero] at PO
 have RE := fun W hp hP => pl_Reachable_ok (mkRat (cX x) 4) (mkRat (cX y) 4) (mkRat (cW x wd) 4) (mkRat (cW y dp) 4) (mkRat (cR rr) 4) pa W hp hP hI hf
 have bd := pickI_bound (c := v2) (n := 3) (by decide)
 have bx := pickI_bound (c := v0) (n := 161) (by decide)
 have by' := pickI_bound (c := v1) (n := 161) (by decide)
 have P2 := fun W => lw_pick v2 3 W h2 (by decide) (by decide)
 have P0 := fun W => lw_pick v0 161 W h0 (by decide) (by decide)
 have P1 := fun W => lw_pick v1 161 W h1 (by decide) (by decide)
 have RX := fun W => lw_ratio (pickI v0 161 - 60) (4 + pickI v2 3) W (by omega) (by omega) (by omega) (by omega)
 have RY := fun W => lw_ratio (pickI v1 161 - 60) (4 + pickI v2 3) W (by omega) (by omega) (by omega) (by omega)
 have sX : Sm 3 (mkRat (pickI v0 161 - 60) (4 + pickI v2 3).toNat) := sm_mk (by omega) (by omega) (by decide)
 have sY : Sm 3 (mkRat (pickI v1 161 - 60) (4 + pickI v2 3).toNat) := sm_mk (by omega) (by omega) (by decide)
 have CT := fun v W hp hv => rg_Contains 10 v (reachR (Pkt.of (mkRat (cX x) 4) (mkRat (cX y) 4) (mkRat (cW x wd) 4) (mkRat (cW y dp) 4) (mkRat (cR rr) 4))) (mkRat (pickI v0 161 - 60) (4 + pickI v2 3).toNat) (mkRat (pickI v1 161 - 60) (4 + pickI v2 3).toNat) W hp (by decide) (by decide) hv (reach_sz hI.hr).1 (reach_sm hM) (sX.le (by decide)) (sY.le (by decide))
 have j1 : wrap64 (4 + pickI v2 3) = 4 + pickI v2 3 := wrap_small (by omega)
 have j2 : wrap64 (pickI v0 161 - 60) = pickI v0 161 - 60 := wrap_small (by omega)
 have j3 : wrap64 (pickI v1 161 - 60) = pickI v1 161 - 60 := wrap_small (by omega)
 have qa := hQ.a.sm (by decide)
 have qb := hQ.b.sm (by decide)
 have qc := hQ.c.sm (by decide)
 have qd := hQ.d.sm (by decide)
 have qr := hQ.r.sm (by decide)
 have bX := bey_sm sX qa qc (by decide)
 have bY := bey_sm sY qb qd (by decide)
 have mX := sm_mul (by decide) bX bX
 have mY := sm_mul (by decide) bY bY
 have NR := fun W hp => lw_near (mkRat (cX x) 4) (mkRat (cX y) 4) (mkRat (cW x wd) 4) (mkRat (cW y dp) 4) (mkRat (cR rr) 4) (mkRat (pickI v0 161 - 60) (4 + pickI v2 3).toNat) (mkRat (pickI v1 161 - 60) (4 + pickI v2 3).toNat) W hp (hI.h0.le (by decide)) (hI.h1.le (by decide)) (hI.h2.le (by decide)) (hI.h3.le (by decide)) (hI.h4.le (by decide)) (sX.le (by decide)) (sY.le (by decide)) (qa.le (by decide)) (qb.le (by decide)) (qc.le (by decide)) (qd.le (by decide)) (bX.le (by decide)) (bY.le (by decide)) (mX.le (by decide)) (mY.le (by decide)) ((sm_add mX mY).le (by decide)) ((sm_mul (by decide) qr qr).le (by decide))
 have WN : decide (beyR (mkRat (pickI v0 161 - 60) (4 + pickI v2 3).toNat) (mkRat (cX x) 4 + mkRat (cR rr) 4) (mkRat (cW x wd) 4 - mkRat (cR rr) 4) * beyR (mkRat (pickI v0 161 - 60) (4 + pickI v2 3).toNat) (mkRat (cX x) 4 + mkRat (cR rr) 4) (mkRat (cW x wd) 4 - mkRat (cR rr) 4) + beyR (mkRat (pickI v1 161 - 60) (4 + pickI v2 3).toNat) (mkRat (cX y) 4 + mkRat (cR rr) 4) (mkRat (cW y dp) 4 - mkRat (cR rr) 4) * beyR (mkRat (pickI v1 161 - 60) (4 + pickI v2 3).toNat) (mkRat (cX y) 4 + mkRat (cR rr) 4) (mkRat (cW y dp) 4 - mkRat (cR rr) 4) ≤ mkRat (cR rr) 4 * mkRat (cR rr) 4) = inR (sideR (mkRat (pickI v0 161 - 60) (4 + pickI v2 3).toNat) (mkRat (pickI v1 161 - 60) (4 + pickI v2 3).toNat)) (reachR (Pkt.of (mkRat (cX x) 4) (mkRat (cX y) 4) (mkRat (cW x wd) 4) (mkRat (cW y dp) 4) (mkRat (cR rr) 4))) := by
  rw [Bool.eq_iff_iff, decide_eq_true_iff]
  exact (reach_near hOK _ _).symm
 rw [WN] at NR
 have INS : inR (sideR (mkRat (pickI v0 161 - 60) (4 + pickI v2 3).toNat) (mkRat (pickI v1 161 - 60) (4 + pickI v2 3).toNat)) (reachR (Pkt.of (mkRat (cX x) 4) (mkRat (cX y) 4) (mkRat (cW x wd) 4) (mkRat (cW y dp) 4) (mkRat (cR rr) 4))) = true → mkRat (cX x) 4 ≤ (mkRat (pickI v0 161 - 60) (4 + pickI v2 3).toNat) ∧ (mkRat (pickI v0 161 - 60) (4 + pickI v2 3).toNat) ≤ mkRat (cW x wd) 4 ∧ mkRat (cX y) 4 ≤ (mkRat (pickI v1 161 - 60) (4 + pickI v2 3).toNat) ∧ (mkRat (pickI v1 161 - 60) (4 + pickI v2 3).toNat) ≤ mkRat (cW y dp) 4 := fun h => near_inside hOK ((reach_near hOK (mkRat (pickI v0 161 - 60) (4 + pickI v2 3).toNat) (mkRat (pickI v1 161 - 60) (4 + pickI v2 3).toNat)).1 h)
 have sU0 : Sm 10 (mkRat (cX x) 4) := hM.x0
 have sU1 : Sm 10 (mkRat (cX y) 4) := hM.y0
 have sU2 : Sm 10 (mkRat (cW x wd) 4) := hM.x1
 have sU3 : Sm 10 (mkRat (cW y dp) 4) := hM.y1
 have sU4 : Sm 10 (mkRat (cR rr) 4) := hM.r
 rw [fits_iff] at hf
 have hf1 := of_decide_eq_true (Bool.and_eq_true_iff.1 hf).1
 have hf2 := of_decide_eq_true (Bool.and_eq_true_iff.1 hf).2
 have qX : Sm 10 (mkRat (pickI v0 161 - 60) (4 + pickI v2 3).toNat) := sX.le (by decide)
 have qY : Sm 10 (mkRat (pickI v1 161 - 60) (4 + pickI v2 3).toNat) := sY.le (by decide)
 clear hI hM hf bd bx by' sX sY hx hy hw hd hr h0 h1 h2 WN qa qb qc qd qr bX bY mX mY hOK hQ hfit
 generalize reachR (Pkt.of (mkRat (cX x) 4) (mkRat (cX y) 4) (mkRat (cW x wd) 4) (mkRat (cW y dp) 4) (mkRat (cR rr) 4)) = RG at *
 generalize (mkRat (pickI v0 161 - 60) (4 + pickI v2 3).toNat) = X at *
 generalize (mkRat (pickI v1 161 - 60) (4 + pickI v2 3).toNat) = Y at *
 generalize pickI v0 161 = i0 at *
 generalize pickI v1 161 = i1 at *
 generalize pickI v2 3 = i2 at *
 generalize mkRat (cX x) 4 = ru0 at *
 generalize mkRat (cX y) 4 = ru1 at *
 generalize mkRat (cW x wd) 4 = ru2 at *
 generalize mkRat (cW y dp) 4 = ru3 at *
 generalize mkRat (cR rr) 4 = ru4 at *
 have AD := fun W hp => rat_Add ru4 ru4 W hp (sU4.le (by decide)) (sU4.le (by decide))
 have S1 := fun W hp => rat_Sub ru2 ru0 W hp (sU2.le (by decide)) (sU0.le (by decide))
 have S2 := fun W hp => rat_Sub ru3 ru1 W hp (sU3.le (by decide)) (sU1.le (by decide))
 have C1 := fun W hp => rat_Compare (ru4 + ru4) (ru2 - ru0) W hp ((sm_add sU4 sU4).le (by decide)) ((sm_sub sU2 sU0).le (by decide))
 have C2 := fun W hp => rat_Compare (ru4 + ru4) (ru3 - ru1) W hp ((sm_add sU4 sU4).le (by decide)) ((sm_sub sU3 sU1).le (by decide))
 have M1 := fun W hp => rat_Compare ru0 X W hp (sU0.le (by decide)) (qX.le (by decide))
 have M2 := fun W hp => rat_Compare X ru2 W hp (qX.le (by decide)) (sU2.le (by decide))
 have M3 := fun W hp => rat_Compare ru1 Y W hp (sU1.le (by decide)) (qY.le (by decide))
 have M4 := fun W hp => rat_Compare Y ru3 W hp (qY.le (by decide)) (sU3.le (by decide))
 have le0 := fun {p q : Rat} (h : p ≤ q) => (of_decide_eq_true (by rw [cmp_le0]; exact decide_eq_true h) : cmpR p q ≤ 0)
 have g1 := eq_true (le0 hf1)
 have g2 := eq_true (le0 hf2)
 have I1 := Aside0.mk (fun h => le0 (INS h).1)
 have I2 := Aside0.mk (fun h => le0 (INS h).2.1)
 have I3 := Aside0.mk (fun h => le0 (INS h).2.2.1)
 have I4 := Aside0.mk (fun h => le0 (INS h).2.2.2)
 clear INS le0 hf1 hf2 sU0 sU1 sU2 sU3 sU4 qX qY
 generalize inR (sideR X Y) RG = IS at *
 generalize cmpR (ru4 + ru4) (ru2 - ru0) = m1 at *
 generalize cmpR (ru4 + ru4) (ru3 - ru1) = m2 at *
 generalize cmpR ru0 X = k1 at *
 generalize cmpR X ru2 = k2 at *
 generalize cmpR ru1 Y = k3 at *
 generalize cmpR Y ru3 = k4 at *
 unfold rv rcv at *
 generalize ru4 + ru4 = tt at *
 generalize ru2 - ru0 = ss at *
 generalize ru3 - ru1 = uu at *
 generalize itx ru0.num = a1 at *
 generalize itx (ru0.den : Int) = a2 at *
 generalize itx ru1.num = b1 at *
 generalize itx (ru1.den : Int) = b2 at *
 generalize itx ru2.num = c1 at *
 generalize itx (ru2.den : Int) = c2 at *
 generalize itx ru3.num = d1 at *
 generalize itx (ru3.den : Int) = d2 at *
 generalize itx ru4.num = e1 at *
 generalize itx (ru4.den : Int) = e2 at *
 generalize itx tt.num = t1 at *
 generalize itx (tt.den : Int) = t2 at *
 generalize itx ss.num = s1 at *
 generalize itx (ss.den : Int) = s2 at *
 generalize itx uu.num = u1 at *
 generalize itx (uu.den : Int) = u2 at *
 generalize itx X.num = p1 at *
 generalize itx (X.den : Int) = p2 at *
 generalize itx Y.num = o1 at *
 generalize itx (Y.den : Int) = o2 at *
 obtain ⟨hB0, k0_, k1_⟩ := news2 w #[.int .i64 x, .int .i64 y, .int .i64 wd, .int .i64 dp, .int .i64 rr] 23 #[.int .i64 v0, .int .i64 v1, .int .i64 v2] 47
 have K0 := k0_
 have K1 := k1_
 have HB := hB0
 clear k0_ k1_ hB0
 have K0c0 := K0.c0
 have K0c1 := K0.c1
 have K0c2 := K0.c2
 have K0c3 := K0.c3
 have K0c4 := K0.c4
 have K1c0 := K1.c0
 have K1c1 := K1.c1
 have K1c2 := K1.c2
 have TK1 : True := trivial
 have TK2 : True := trivial
 have TK3 : True := trivial
 have TK4 : True := trivial
 have TK5 : True := trivial
 go_enter Tryz.func5, Tryz.ntmps5
 go_upto_region 17 with ((first | (go_at_call 6; refine (SN _ (hp.below HB) (hP.below HB hh0)).mono ?_; clear SN; rintro e _ ⟨rfl, hb⟩) | (go_at_call 7; refine (CN _).mono ?_; clear CN; rintro e w2 ⟨rfl, hb⟩; replace hb := bZa hb (.cells #[.string a1, .string a2, .string b1, .string b2, .string c1, .string c2, .string d1, .string d2] 28); replace hb := bZa hb (.cells #[.string e1, .string e2] 25); have KC := (Blk.new w2 #[.string a1, .string a2, .string b1, .string b2, .string c1, .string c2, .string d1, .string d2] 28).alloc (.cells #[.string e1, .string e2] 25); have KR := Blk.new2 w2 #[.string a1, .string a2, .string b1, .string b2, .string c1, .string c2, .string d1, .string d2] #[.string e1, .string e2] 28 25) | (go_at_call 8; refine (RZ _).mono ?_; clear RZ; rintro e w3 ⟨rfl, hb⟩; replace hb := bZa hb (.cells #[.string ⟨#[48]⟩, .string ⟨#[49]⟩] 25); have KZ := Blk.new w3 #[.string ⟨#[48]⟩, .string ⟨#[49]⟩] 25) | (go_at_call 11; refine (PO _ (hp.below HB) (hP.below HB hh0)).mono ?_; clear PO; rintro e _ ⟨rfl, hb⟩) | (go_at_call 14; refine (RE _ (hp.below HB) (hP.below HB hh0)).mono ?_; clear RE; rintro e w5 ⟨v, rfl, ⟨xx, yy, rfl, HX, HY⟩, hb⟩; obtain ⟨XA, xc, ex⟩ := Kd.R_slice HX; obtain ⟨YA, yc, ey⟩ := Kd.R_slice HY; subst ex ey; have HG : RdR (w5.alloc (.cells #[.slice XA RG.1.length xc, .slice YA RG.2.length yc] 42)) (.agg #[.slice XA RG.1.length xc, .slice YA RG.2.length yc]) RG := RdR.below (w := w5) ⟨_, _, rfl, HX.rd, HY.rd⟩ (bZa (Below.refl _ _) _); clear HX HY; replace hb := bZa hb (.cells #[.slice XA RG.1.length xc, .slice YA RG.2.length yc] 42); have KG := Blk.new w5 #[.slice XA RG.1.length xc, .slice YA RG.2.length yc] 42) | (go_at_call 19; refine (AD _ (hp.below HB)).mono ?_; clear AD; rintro e w6 ⟨rfl, hb⟩; replace hb := bZa hb (.cells #[.string t1, .string t2] 25); have KT := Blk.new w6 #[.string t1, .string t2] 25) | (go_at_call 20; refine (S1 _ (hp.below HB)).mono ?_; clear S1; rintro e w7 ⟨rfl, hb⟩; replace hb := bZa hb (.cells #[.string s1, .string s2] 25); have KW := Blk.new w7 #[.string s1, .string s2] 25) | (go_at_call 20; refine (S2 _ (hp.below HB)).mono ?_; clear S2; rintro e w8 ⟨rfl, hb⟩; replace hb := bZa hb (.cells #[.string u1, .string u2] 25); have KE := Blk.new w8 #[.string u1, .string u2] 25) | (go_at_call 18; refine (C1 _ (hp.below HB)).mono ?_; clear C1; rintro e _ ⟨rfl, hb⟩) | (go_at_call 18; refine (C2 _ (hp.below HB)).mono ?_; clear C2; rintro e _ ⟨rfl, hb⟩) | (go_at_call 9; clear TK1; refine (P2 _).mono ?_; clear P2; rintro e _ ⟨rfl, rfl⟩) | (go_at_call 9; clear TK2; refine (P0 _).mono ?_; clear P0; rintro e _ ⟨rfl, rfl⟩) | (go_at_call 8; clear TK3; refine (RX _).mono ?_; clear RX; rintro e w12 ⟨rfl, hb⟩; replace hb := bZa hb (.cells #[.string p1, .string p2] 25); have KX := Blk.new w12 #[.string p1, .string p2] 25) | (go_at_call 9; clear TK4; refine (P1 _).mono ?_; clear P1; rintro e _ ⟨rfl, rfl⟩) | (go_at_call 8; clear TK5; refine (RY _).mono ?_; clear RY; rintro e w14 ⟨rfl, hb⟩; replace hb := bZa hb (.cells #[.string o1, .string o2] 25); have KY := Blk.new w14 #[.string o1, .string o2] 25) | (go_at_call 17; refine (CT _ _ (hp.below HB) HG).mono ?_; clear CT; rintro e _ ⟨rfl, hb⟩) | (go_at_call 21; refine (NR _ (hp.below HB)).mono ?_; clear NR; rintro e _ ⟨rfl, hb⟩)); (try replace K0 := K0.below hb); (try replace K1 := K1.below hb); (try replace KC := KC.below hb); (try replace KR := KR.below hb); (try replace KZ := KZ.below hb); (try replace KG := KG.below hb); (try replace KT := KT.below hb); (try replace KW := KW.below hb); (try replace KE := KE.below hb); (try replace KX := KX.below hb); (try replace KY := KY.below hb); (try replace HG := RdR.below HG hb); (try replace HB := bZs HB hb); (try replace K0c0 := K0.c0); (try replace K0c1 := K0.c1); (try replace K0c2 := K0.c2); (try replace K0c3 := K0.c3); (try replace K0c4 := K0.c4); (try replace K1c0 := K1.c0); (try replace K1c1 := K1.c1); (try replace K1c2 := K1.c2); (try replace KCc0 := KC.c0); (try replace KCc1 := KC.c1); (try replace KCc2 := KC.c2); (try replace KCc3 := KC.c3); (try replace KCc4 := KC.c4); (try replace KCc5 := KC.c5); (try replace KCc6 := KC.c6); (try replace KCc7 := KC.c7); (try replace KRc0 := KR.c0); (try replace KRc1 := KR.c1); (try replace KZc0 := KZ.c0); (try replace KZc1 := KZ.c1); (try replace KGc0 := KG.c0); (try replace KGc1 := KG.c1); (try replace KTc0 := KT.c0); (try replace KTc1 := KT.c1); (try replace KWc0 := KW.c0); (try replace KWc1 := KW.c1); (try replace KEc0 := KE.c0); (try replace KEc1 := KE.c1); (try replace KXc0 := KX.c0); (try replace KXc1 := KX.c1); (try replace KYc0 := KY.c0); (try replace KYc1 := KY.c1); (try clear hb))
 clear HG K0c0 K0c1 K0c2 K0c3 K0c4 K1c0 K1c1 K1c2 K0 K1 KZ KT KW KE KG KZc0 KZc1 KTc0 KTc1 KWc0 KWc1 KEc0 KEc1 KGc0 KGc1
 go_cut [26] from 146 to 171 (fun c wx => ∃ b : Bool, c = .bool b ∧ Aside0 (IS = true → b = true) ∧ Blk wx (w2.heap.size + 1) #[.string e1, .string e2] 25 ∧ Blk wx (w12.heap.size) #[.string p1, .string p2] 25 ∧ Blk wx (w14.heap.size) #[.string o1, .string o2] 25 ∧ Below w.heap.size w wx)
 case first =>
  rcases Classical.em (k1 ≤ 0) with l1 | l1
  rotate_left
  ·have n1 := Aside0.mk (Int.not_le.1 l1)
   replace l1 := eq_false l1
   go_wp2_with (first | (go_at_call 18; refine (M1 _ (hp.below HB)).mono ?_; clear M1; rintro e y1 ⟨rfl, hb⟩; replace KC := KC.below hb; replace KR := KR.below hb; replace KX := KX.below hb; replace KY := KY.below hb; replace HB := bZs HB hb; replace KCc0 := KC.c0; replace KCc1 := KC.c1; replace KCc2 := KC.c2; replace KCc3 := KC.c3; replace KCc4 := KC.c4; replace KCc5 := KC.c5; replace KCc6 := KC.c6; replace KCc7 := KC.c7; replace KRc0 := KR.c0; replace KRc1 := KR.c1; replace KXc0 := KX.c0; replace KXc1 := KX.c1; replace KYc0 := KY.c0; replace KYc1 := KY.c1; clear hb))
   go_meet
   exact ⟨false, rfl, Aside0.mk (fun h => ((Int.not_lt.2 (I1.out h)) n1.out).elim), KR, KX, KY, HB⟩
  replace l1 := eq_true l1
  rcases Classical.em (k2 ≤ 0) with l2 | l2
  rotate_left
  ·have n2 := Aside0.mk (Int.not_le.1 l2)
   replace l2 := eq_false l2
   go_wp2_with ((first | (go_at_call 18; refine (M1 _ (hp.below HB)).mono ?_; clear M1; rintro e y1 ⟨rfl, hb⟩) | (go_at_call 18; refine (M2 _ (hp.below HB)).mono ?_; clear M2; rintro e y2 ⟨rfl, hb⟩)); replace KC := KC.below hb; replace KR := KR.below hb; replace KX := KX.below hb; replace KY := KY.below hb; replace HB := bZs HB hb; replace KCc0 := KC.c0; replace KCc1 := KC.c1; replace KCc2 := KC.c2; replace KCc3 := KC.c3; replace KCc4 := KC.c4; replace KCc5 := KC.c5; replace KCc6 := KC.c6; replace KCc7 := KC.c7; replace KRc0 := KR.c0; replace KRc1 := KR.c1; replace KXc0 := KX.c0; replace KXc1 := KX.c1; replace KYc0 := KY.c0; replace KYc1 := KY.c1; clear hb)
   go_meet
   exact ⟨false, rfl, Aside0.mk (fun h => ((Int.not_lt.2 (I2.out h)) n2.out).elim), KR, KX, KY, HB⟩
  replace l2 := eq_true l2
  rcases Classical.em (k3 ≤ 0) with l3 | l3
  rotate_left
  ·have n3 := Aside0.mk (Int.not_le.1 l3)
   replace l3 := eq_false l3
   go_wp2_with ((first | (go_at_call 18; refine (M1 _ (hp.below HB)).mono ?_; clear M1; rintro e y1 ⟨rfl, hb⟩) | (go_at_call 18; refine (M2 _ (hp.below HB)).mono ?_; clear M2; rintro e y2 ⟨rfl, hb⟩) | (go_at_call 18; refine (M3 _ (hp.below HB)).mono ?_; clear M3; rintro e y3 ⟨rfl, hb⟩)); replace KC := KC.below hb; replace KR := KR.below hb; replace KX := KX.below hb; replace KY := KY.below hb; replace HB := bZs HB hb; replace KCc0 := KC.c0; replace KCc1 := KC.c1; replace KCc2 := KC.c2; replace KCc3 := KC.c3; replace KCc4 := KC.c4; replace KCc5 := KC.c5; replace KCc6 := KC.c6; replace KCc7 := KC.c7; replace KRc0 := KR.c0; replace KRc1 := KR.c1; replace KXc0 := KX.c0; replace KXc1 := KX.c1; replace KYc0 := KY.c0; replace KYc1 := KY.c1; clear hb)
   go_meet
   exact ⟨false, rfl, Aside0.mk (fun h => ((Int.not_lt.2 (I3.out h)) n3.out).elim), KR, KX, KY, HB⟩
  replace l3 := eq_true l3
  rcases Classical.em (k4 ≤ 0) with l4 | l4
  rotate_left
  ·have n4 := Aside0.mk (Int.not_le.1 l4)
   replace l4 := eq_false l4
   go_wp2_with ((first | (go_at_call 18; refine (M1 _ (hp.below HB)).mono ?_; clear M1; rintro e y1 ⟨rfl, hb⟩) | (go_at_call 18; refine (M2 _ (hp.below HB)).mono ?_; clear M2; rintro e y2 ⟨rfl, hb⟩) | (go_at_call 18; refine (M3 _ (hp.below HB)).mono ?_; clear M3; rintro e y3 ⟨rfl, hb⟩) | (go_at_call 18; refine (M4 _ (hp.below HB)).mono ?_; clear M4; rintro e y4 ⟨rfl, hb⟩)); replace KC := KC.below hb; replace KR := KR.below hb; replace KX := KX.below hb; replace KY := KY.below hb; replace HB := bZs HB hb; replace KCc0 := KC.c0; replace KCc1 := KC.c1; replace KCc2 := KC.c2; replace KCc3 := KC.c3; replace KCc4 := KC.c4; replace KCc5 := KC.c5; replace KCc6 := KC.c6; replace KCc7 := KC.c7; replace KRc0 := KR.c0; replace KRc1 := KR.c1; replace KXc0 := KX.c0; replace KXc1 := KX.c1; replace KYc0 := KY.c0; replace KYc1 := KY.c1; clear hb)
   go_meet
   exact ⟨false, rfl, Aside0.mk (fun h => ((Int.not_lt.2 (I4.out h)) n4.out).elim), KR, KX, KY, HB⟩
  replace l4 := eq_true l4
  go_wp2_with ((first | (go_at_call 18; refine (M1 _ (hp.below HB)).mono ?_; clear M1) | (go_at_call 18; refine (M2 _ (hp.below HB)).mono ?_; clear M2) | (go_at_call 18; refine (M3 _ (hp.below HB)).mono ?_; clear M3) | (go_at_call 18; refine (M4 _ (hp.below HB)).mono ?_; clear M4)); rintro e _ ⟨rfl, hb⟩; replace KC := KC.below hb; replace KR := KR.below hb; replace KX := KX.below hb; replace KY := KY.below hb; replace HB := bZs HB hb; replace KCc0 := KC.c0; replace KCc1 := KC.c1; replace KCc2 := KC.c2; replace KCc3 := KC.c3; replace KCc4 := KC.c4; replace KCc5 := KC.c5; replace KCc6 := KC.c6; replace KCc7 := KC.c7; replace KRc0 := KR.c0; replace KRc1 := KR.c1; replace KXc0 := KX.c0; replace KXc1 := KX.c1; replace KYc0 := KY.c0; replace KYc1 := KY.c1; clear hb)
  go_meet
  exact ⟨true, rfl, Aside0.mk (fun _ => rfl), KR, KX, KY, HB⟩
 case rest =>
  obtain ⟨b, rfl, hb1, KR, KX, KY, HB⟩ := hcut
  cases IS with
  | true =>
   have hb2 : b = true := hb1.out rfl
   subst hb2
   go_wp2
   go_ret
   exact ⟨rfl, HB⟩
  | false =>
   go_wp2
   go_ret
   exact ⟨rfl, HB⟩
theorem sd_check (w : World) : Calls Tryz.prog 58 #[.bool true] w fun e w' => e = .returned (.tuple #[]) ∧ w' = w := by
 go_enter Tryz.func58, Tryz.ntmps58
 go_wp2
 go_end0
 exact ⟨rfl, rfl⟩
theorem sd_must (b : Bool) (w : World) : Calls Tryz.prog 61 #[.bool b, .int .i64 0] w fun e w' => e = .returned (.bool b) ∧ w' = w := by
 go_enter Tryz.func61, Tryz.ntmps61
 go_wp2
 go_ret
 exact ⟨rfl, rfl⟩
theorem sd_isValid (XA : Option Addr) (XAc : Nat) (YA : Option Addr) (YAc : Nat) (T : Rg) (z t : Rat) (w : World) (hp : Pow w) (HR : RdR w (.agg #[.slice XA T.1.length XAc, .slice YA T.2.length YAc]) T) (hok : okR T) (hsq : SqR T) (hz : Sq z) (ht : Sq t) (hzt : z < t) :
  Calls Tryz.prog 129 #[.agg #[.slice XA T.1.length XAc, .slice YA T.2.length YAc, .string (itx z.num), .string (itx (z.den : Int)), .string (itx t.num), .string (itx (t.den : Int)), .bool false, .int .i64 0]] w fun e w' => e = .returned (.bool true) ∧ Below w.heap.size w w' := by
 have V := fun W hp hv => rg_Valid (.agg #[.slice XA T.1.length XAc, .slice YA T.2.length YAc]) T W hp hv hok hsq
 have V1 := fun W hp => rat_Valid z W hp hz
 have V2 := fun W hp => rat_Valid t W hp ht
 have C := fun W hp => rat_Compare z t W hp hz ht
 have hlt : decide (cmpR z t < 0) = true := by
  rw [cmp_lt]
  exact decide_eq_true hzt
 have hlt' : (cmpR z t < 0) = True := eq_true (of_decide_eq_true hlt)
 clear hok hsq hz ht hzt
 unfold rv at *
 generalize cmpR z t = cz at *
 generalize itx z.num = z1 at *
 generalize itx (z.den : Int) = z2 at *
 generalize itx t.num = t1 at *
 generalize itx (t.den : Int) = t2 at *
 obtain ⟨hB0, k0⟩ := news1 w #[.slice XA T.1.length XAc, .slice YA T.2.length YAc, .string z1, .string z2, .string t1, .string t2, .bool false, .int .i64 0] 113
 have c0 := k0.c0
 have c1 := k0.c1
 have c2 := k0.c2
 have c3 := k0.c3
 have c4 := k0.c4
 have c5 := k0.c5
 have c6 := k0.c6
 have c7 := k0.c7
 go_enter Tryz.func129, Tryz.ntmps129
 go_wp2_with ((first | (go_at_call 40; refine (V _ (hp.below hB0) (HR.below hB0)).mono ?_; clear V) | (go_at_call 44; refine (V1 _ (hp.below hB0)).mono ?_; clear V1) | (go_at_call 44; refine (V2 _ (hp.below hB0)).mono ?_; clear V2) | (go_at_call 18; refine (C _ (hp.below hB0)).mono ?_; clear C)); rintro e _ ⟨rfl, hb⟩; replace k0 := k0.below hb; replace hB0 := bZs hB0 hb; clear hb; replace c0 := k0.c0; replace c1 := k0.c1; replace c2 := k0.c2; replace c3 := k0.c3; replace c4 := k0.c4; replace c5 := k0.c5; replace c6 := k0.c6; replace c7 := k0.c7)
 go_ret
 exact ⟨rfl, hB0⟩
theorem sd_bad (XA : Option Addr) (XAc : Nat) (YA : Option Addr) (YAc : Nat) (T : Rg) (z t : Rat) (w : World) (hp : Pow w) (HR : RdR w (.agg #[.slice XA T.1.length XAc, .slice YA T.2.length YAc]) T) (hok : okR T) (hsq : SqR T) (hz : Sq z) (ht : Sq t) (hzt : z < t) :
  Calls Tryz.prog 128 #[.agg #[.slice XA T.1.length XAc, .slice YA T.2.length YAc, .string (itx z.num), .string (itx (z.den : Int)), .string (itx t.num), .string (itx (t.den : Int)), .bool false, .int .i64 0]] w fun e w' => e = .returned (.bool false) ∧ Below w.heap.size w w' := by
 have V := fun W hp HR => sd_isValid XA XAc YA YAc T z t W hp HR hok hsq hz ht hzt
 clear hok hsq hz ht hzt
 generalize itx z.num = z1 at *
 generalize itx (z.den : Int) = z2 at *
 generalize itx t.num = t1 at *
 generalize itx (t.den : Int) = t2 at *
 obtain ⟨hB0, k0⟩ := news1 w #[.slice XA T.1.length XAc, .slice YA T.2.length YAc, .string z1, .string z2, .string t1, .string t2, .bool false, .int .i64 0] 113
 go_enter Tryz.func128, Tryz.ntmps128
 go_wp2_with (go_at_call 129; refine (V _ (hp.below hB0) (HR.below hB0)).mono ?_; clear V; rintro e w1 ⟨rfl, hb⟩)
 go_ret
 exact ⟨rfl, bZs hB0 hb⟩
theorem sd_idx (XA : Option Addr) (XAc : Nat) (YA : Option Addr) (YAc : Nat) (T : Rg) (z t : Rat) (w : World) (hp : Pow w) (g : Nat) (hk : Blk w g #[.slice XA T.1.length XAc, .slice YA T.2.length YAc, .string (itx z.num), .string (itx (z.den : Int)), .string (itx t.num), .string (itx (t.den : Int)), .bool false, .int .i64 0] 113) (HR : RdR w (.agg #[.slice XA T.1.length XAc, .slice YA T.2.length YAc]) T) (hok : okR T) (hsq : SqR T) (hz : Sq z) (ht : Sq t) (hzt : z < t) :
  Calls Tryz.prog 186 #[.slice (some ⟨g, 0, none⟩) 1 1, .func (.func 128) #[] #[]] w fun e w' => e = .returned (.int .i64 (-1)) ∧ Below w.heap.size w w' := by
 have V := sd_bad XA XAc YA YAc T z t w hp HR hok hsq hz ht hzt
 clear hok hsq hz ht hzt HR
 generalize itx z.num = z1 at *
 generalize itx (z.den : Int) = z2 at *
 generalize itx t.num = t1 at *
 generalize itx (t.den : Int) = t2 at *
 have c0 := hk.c0
 have c1 := hk.c1
 have c2 := hk.c2
 have c3 := hk.c3
 have c4 := hk.c4
 have c5 := hk.c5
 have c6 := hk.c6
 have c7 := hk.c7
 go_enter Tryz.func186, Tryz.ntmps186
 go_wp2
 refine wp_loop_rounds 2 ?_
 rw [rounds_succ]
 go_wp2_with (go_at_call 128; refine V.mono ?_; clear V; rintro e w2 ⟨rfl, hb2⟩)
 rw [rounds_succ]
 go_wp2
 go_ret
 exact ⟨rfl, hb2⟩
theorem sd_ctn (XA : Option Addr) (XAc : Nat) (YA : Option Addr) (YAc : Nat) (T : Rg) (z t : Rat) (w : World) (hp : Pow w) (g : Nat) (hk : Blk w g #[.slice XA T.1.length XAc, .slice YA T.2.length YAc, .string (itx z.num), .string (itx (z.den : Int)), .string (itx t.num), .string (itx (t.den : Int)), .bool false, .int .i64 0] 113) (HR : RdR w (.agg #[.slice XA T.1.length XAc, .slice YA T.2.length YAc]) T) (hok : okR T) (hsq : SqR T) (hz : Sq z) (ht : Sq t) (hzt : z < t) :
  Calls Tryz.prog 130 #[.slice (some ⟨g, 0, none⟩) 1 1, .func (.func 128) #[] #[]] w fun e w' => e = .returned (.bool false) ∧ Below w.heap.size w w' := by
 have V := sd_idx XA XAc YA YAc T z t w hp g hk HR hok hsq hz ht hzt
 clear hok hsq hz ht hzt HR hk
 go_enter Tryz.func130, Tryz.ntmps130
 go_wp2_with (go_at_call 186; refine V.mono ?_; clear V; rintro e w2 ⟨rfl, hb2⟩)
 go_ret
 exact ⟨rfl, hb2⟩
theorem sd_Valid (XA : Option Addr) (XAc : Nat) (YA : Option Addr) (YAc : Nat) (T : Rg) (z t : Rat) (w : World) (hp : Pow w) (g : Nat) (hk : Blk w g #[.slice XA T.1.length XAc, .slice YA T.2.length YAc, .string (itx z.num), .string (itx (z.den : Int)), .string (itx t.num), .string (itx (t.den : Int)), .bool false, .int .i64 0] 113) (HR : RdR w (.agg #[.slice XA T.1.length XAc, .slice YA T.2.length YAc]) T) (hok : okR T) (hsq : SqR T) (hz : Sq z) (ht : Sq t) (hzt : z < t) :
  Calls Tryz.prog 59 #[.agg #[.slice (some ⟨g, 0, none⟩) 1 1]] w fun e w' => e = .returned (.bool true) ∧ Below w.heap.size w w' := by
 have V := fun W hp hk HR => sd_ctn XA XAc YA YAc T z t W hp g hk HR hok hsq hz ht hzt
 clear hok hsq hz ht hzt
 generalize itx z.num = z1 at *
 generalize itx (z.den : Int) = z2 at *
 generalize itx t.num = t1 at *
 generalize itx (t.den : Int) = t2 at *
 have hB0 : Below w.heap.size w (w.alloc (.cells #[.slice (some ⟨g, 0, none⟩) 1 1] 57)) := bZa (Below.refl _ _) _
 go_enter Tryz.func59, Tryz.ntmps59
 go_wp2_with (go_at_call 130; refine (V _ (hp.below hB0) (hk.below hB0) (HR.below hB0)).mono ?_; clear V; rintro e w2 ⟨rfl, hb2⟩)
 go_ret
 exact ⟨rfl, bZs hB0 hb2⟩
end Go.Proofs.YtociicfjhgfgpaaGreatDoor
