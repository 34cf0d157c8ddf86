/- PlannerReaches: the point is reached exactly if it is near the inner rectangle, and exactly if a pass sweeps it: plain facts. -/
import Derived.Test.YtociicfjhgfgpaaGreatDoorR22
set_option linter.unusedVariables false
set_option linter.unusedSimpArgs false
namespace Go.Proofs.YtociicfjhgfgpaaGreatDoor
open Go.Proofs.YtociicfjhgfgpaaGreatDoorW.PrintWords
def beyR (x a b : Rat) : Rat := if b < x then x - b else if x < a then a - x else 0
theorem bey_lo {x a b : Rat} (h : a ≤ b) (hx : x < a) : beyR x a b = a - x := by
 unfold beyR
 rw [if_neg (by grind), if_pos hx]
theorem bey_hi {x a b : Rat} (hx : b < x) : beyR x a b = x - b := by
 unfold beyR
 rw [if_pos hx]
theorem bey_in {x a b : Rat} (h0 : a ≤ x) (h1 : x ≤ b) : beyR x a b = 0 := by
 unfold beyR
 rw [if_neg (by grind), if_neg (by grind)]
theorem rcase (x a b : Rat) : x < a ∨ (a ≤ x ∧ x ≤ b) ∨ b < x := by
 rcases Classical.em (x < a) with h | h
 ·exact .inl h
 ·rcases Classical.em (b < x) with h2 | h2
  ·exact .inr (.inr h2)
  ·exact .inr (.inl ⟨Rat.not_lt.1 h, Rat.not_lt.1 h2⟩)
theorem sq0 (t : Rat) : 0 ≤ t * t := by
 rcases Classical.em (0 ≤ t) with h | h
 ·exact Rat.mul_nonneg h h
 ·have h : 0 ≤ -t := by grind
  have := Rat.mul_nonneg h h
  grind
theorem mul_le {s t : Rat} (h0 : 0 ≤ s) (h : s ≤ t) : s * s ≤ t * t := by
 have := Rat.mul_nonneg (a := t - s) (b := t + s) (by grind) (by grind)
 grind
theorem bey_le {x a b u : Rat} (h0 : a ≤ u) (h1 : u ≤ b) : beyR x a b * beyR x a b ≤ (x - u) * (x - u) := by
 rcases rcase x a b with h | ⟨h, h'⟩ | h
 ·rw [bey_lo (by grind) h]
  have := mul_le (s := a - x) (t := u - x) (by grind) (by grind)
  grind
 ·rw [bey_in h h']
  have := sq0 (x - u)
  grind
 ·rw [bey_hi h]
  exact mul_le (by grind) (by grind)
theorem le_of_sq {t r : Rat} (hr : 0 ≤ r) (h : t * t ≤ r * r) : t ≤ r := by
 rcases Classical.em (t ≤ r) with h1 | h1
 ·exact h1
 ·exfalso
  have h2 : r < t := Rat.not_le.1 h1
  have := Rat.mul_nonneg (a := t - r) (b := r) (by grind) hr
  have := Rat.mul_pos (a := t - r) (b := t) (by grind) (by grind)
  grind
def nearP (p : Pkt) (x y : Rat) : Prop := beyR x p.a p.c * beyR x p.a p.c + beyR y p.b p.d * beyR y p.b p.d ≤ p.r * p.r
theorem near_x {p : Pkt} {x y : Rat} (hr : 0 ≤ p.r) (h : nearP p x y) : beyR x p.a p.c ≤ p.r := by
 unfold nearP at h
 have := sq0 (beyR y p.b p.d)
 exact le_of_sq hr (by grind)
theorem near_y {p : Pkt} {x y : Rat} (hr : 0 ≤ p.r) (h : nearP p x y) : beyR y p.b p.d ≤ p.r := by
 unfold nearP at h
 have := sq0 (beyR x p.a p.c)
 exact le_of_sq hr (by grind)
theorem near_of {p : Pkt} {x y u v : Rat} (h0 : p.a ≤ u) (h1 : u ≤ p.c) (h2 : p.b ≤ v) (h3 : v ≤ p.d) (h : (x - u) * (x - u) + (y - v) * (y - v) ≤ p.r * p.r) : nearP p x y := by
 have := bey_le (x := x) h0 h1
 have := bey_le (x := y) h2 h3
 unfold nearP
 grind
def discB (u v r x y : Rat) : Prop := (x - u) * (x - u) + (y - v) * (y - v) ≤ r * r
theorem disc_v {u v r x y : Rat} (e : x = u) (h1 : v - r ≤ y) (h2 : y ≤ v + r) : discB u v r x y := by
 have := sq_le (t := y - v) (r := r) (by grind) (by grind)
 unfold discB
 subst e
 grind
theorem disc_h {u v r x y : Rat} (e : y = v) (h1 : u - r ≤ x) (h2 : x ≤ u + r) : discB u v r x y := by
 have := sq_le (t := x - u) (r := r) (by grind) (by grind)
 unfold discB
 subst e
 grind
theorem near_left {p : Pkt} {x y : Rat} (ac : p.a ≤ p.c) (bd : p.b ≤ p.d) (hr : 0 < p.r) (h : nearP p x y) (hx : x < p.a ∨ p.a = p.c ∧ x ≤ p.a) : discB p.a p.b p.r x y ∨ discB p.a p.d p.r x y ∨ (p.a - p.r ≤ x ∧ x ≤ p.a + p.r ∧ p.b ≤ y ∧ y ≤ p.d) := by
 have hx1 := near_x (Rat.le_of_lt hr) h
 have ex : beyR x p.a p.c = p.a - x := by
  rcases hx with hx | ⟨e, hx⟩
  ·exact bey_lo ac hx
  ·rcases Classical.em (x < p.a) with h' | h'
   ·exact bey_lo ac h'
   ·have e2 : x = p.a := by grind
    rw [bey_in (by grind) (by grind), e2]
    grind
 unfold nearP at h
 rw [ex] at h hx1
 rcases rcase y p.b p.d with hy | ⟨hy, hy'⟩ | hy
 ·rw [bey_lo bd hy] at h
  left
  unfold discB
  grind
 ·exact .inr (.inr ⟨by grind, by grind, hy, hy'⟩)
 ·rw [bey_hi hy] at h
  right
  left
  unfold discB
  grind
theorem near_right {p : Pkt} {x y : Rat} (ac : p.a ≤ p.c) (bd : p.b ≤ p.d) (hr : 0 < p.r) (h : nearP p x y) (hx : p.c < x) : discB p.c p.b p.r x y ∨ discB p.c p.d p.r x y ∨ (p.c - p.r ≤ x ∧ x ≤ p.c + p.r ∧ p.b ≤ y ∧ y ≤ p.d) := by
 have hx1 := near_x (Rat.le_of_lt hr) h
 unfold nearP at h
 rw [bey_hi hx] at h hx1
 rcases rcase y p.b p.d with hy | ⟨hy, hy'⟩ | hy
 ·rw [bey_lo bd hy] at h
  left
  unfold discB
  grind
 ·exact .inr (.inr ⟨by grind, by grind, hy, hy'⟩)
 ·rw [bey_hi hy] at h
  right
  left
  unfold discB
  grind
theorem near_mid {p : Pkt} {x y : Rat} (bd : p.b ≤ p.d) (hr : 0 < p.r) (h : nearP p x y) : p.b - p.r ≤ y ∧ y ≤ p.d + p.r := by
 have hy1 := near_y (Rat.le_of_lt hr) h
 rcases rcase y p.b p.d with hy | ⟨hy, hy'⟩ | hy
 ·rw [bey_lo bd hy] at hy1
  exact ⟨by grind, by grind⟩
 ·exact ⟨by grind, by grind⟩
 ·rw [bey_hi hy] at hy1
  exact ⟨by grind, by grind⟩
theorem near_box {p : Pkt} {x y u v : Rat} (h0 : p.a ≤ u) (h1 : u ≤ p.c) (h2 : p.b ≤ v) (h3 : v ≤ p.d) (hd : discB u v p.r x y) : nearP p x y := near_of h0 h1 h2 h3 hd
theorem reach_near {p : Pkt} (h : okP p) (x y : Rat) : inR (sideR x y) (reachR p) = true ↔ nearP p x y := by
 have r0 := h.r0
 have ac := h.ac
 have bd := h.bd
 rw [reach_in _ r0]
 simp only [inR_rect, inR_disc, Pkt.wide, Pkt.high, Bool.or_eq_true, Bool.and_eq_true, decide_eq_true_eq]
 have ea := h.ea
 have eb := h.eb
 have ec := h.ec
 have ed := h.ed
 constructor
 ·rintro (((((⟨hw, h0, h1, h2, h3⟩ | ⟨hh, h0, h1, h2, h3⟩) | h1) | ⟨-, h1⟩) | ⟨-, h1⟩) | ⟨-, h1⟩)
  ·rcases rcase y p.b p.d with hy | ⟨hy, hy'⟩ | hy
   ·exact near_box (u := x) (v := p.b) h0 h1 (by grind) bd (disc_v rfl (by grind) (by grind))
   ·exact near_box (u := x) (v := y) h0 h1 hy hy' (disc_v rfl (by grind) (by grind))
   ·exact near_box (u := x) (v := p.d) h0 h1 bd (by grind) (disc_v rfl (by grind) (by grind))
  ·rcases rcase x p.a p.c with hx | ⟨hx, hx'⟩ | hx
   ·exact near_box (u := p.a) (v := y) (by grind) ac h2 h3 (disc_h rfl (by grind) (by grind))
   ·exact near_box (u := x) (v := y) hx hx' h2 h3 (disc_h rfl (by grind) (by grind))
   ·exact near_box (u := p.c) (v := y) ac (by grind) h2 h3 (disc_h rfl (by grind) (by grind))
  ·exact near_box (u := p.a) (v := p.b) (by grind) ac (by grind) bd h1
  ·exact near_box (u := p.c) (v := p.b) ac (by grind) (by grind) bd h1
  ·exact near_box (u := p.a) (v := p.d) (by grind) ac bd (by grind) h1
  ·exact near_box (u := p.c) (v := p.d) ac (by grind) bd (by grind) h1
 ·intro hn
  have left : (discB p.a p.b p.r x y ∨ discB p.a p.d p.r x y ∨ (p.a - p.r ≤ x ∧ x ≤ p.a + p.r ∧ p.b ≤ y ∧ y ≤ p.d)) → ((((p.a < p.c ∧ p.a ≤ x ∧ x ≤ p.c ∧ p.y0 ≤ y ∧ y ≤ p.y1 ∨ p.b < p.d ∧ p.x0 ≤ x ∧ x ≤ p.x1 ∧ p.b ≤ y ∧ y ≤ p.d) ∨ discB p.a p.b p.r x y) ∨ p.a < p.c ∧ discB p.c p.b p.r x y) ∨ p.b < p.d ∧ discB p.a p.d p.r x y) ∨ (p.a < p.c ∧ p.b < p.d) ∧ discB p.c p.d p.r x y := by
   rintro (h1 | h1 | ⟨h1, h2, h3, h4⟩)
   ·exact .inl (.inl (.inl (.inr h1)))
   ·rcases Classical.em (p.b < p.d) with hb | hb
    ·exact .inl (.inr ⟨hb, h1⟩)
    ·have e : p.d = p.b := by grind
     rw [e] at h1
     exact .inl (.inl (.inl (.inr h1)))
   ·rcases Classical.em (p.b < p.d) with hb | hb
    ·exact .inl (.inl (.inl (.inl (.inr ⟨hb, by grind, by grind, h3, h4⟩))))
    ·exact .inl (.inl (.inl (.inr (disc_h (by grind) h1 h2))))
  have right : p.a < p.c → (discB p.c p.b p.r x y ∨ discB p.c p.d p.r x y ∨ (p.c - p.r ≤ x ∧ x ≤ p.c + p.r ∧ p.b ≤ y ∧ y ≤ p.d)) → ((((p.a < p.c ∧ p.a ≤ x ∧ x ≤ p.c ∧ p.y0 ≤ y ∧ y ≤ p.y1 ∨ p.b < p.d ∧ p.x0 ≤ x ∧ x ≤ p.x1 ∧ p.b ≤ y ∧ y ≤ p.d) ∨ discB p.a p.b p.r x y) ∨ p.a < p.c ∧ discB p.c p.b p.r x y) ∨ p.b < p.d ∧ discB p.a p.d p.r x y) ∨ (p.a < p.c ∧ p.b < p.d) ∧ discB p.c p.d p.r x y := by
   rintro hw (h1 | h1 | ⟨h1, h2, h3, h4⟩)
   ·exact .inl (.inl (.inr ⟨hw, h1⟩))
   ·rcases Classical.em (p.b < p.d) with hb | hb
    ·exact .inr ⟨⟨hw, hb⟩, h1⟩
    ·have e : p.d = p.b := by grind
     rw [e] at h1
     exact .inl (.inl (.inr ⟨hw, h1⟩))
   ·rcases Classical.em (p.b < p.d) with hb | hb
    ·exact .inl (.inl (.inl (.inl (.inr ⟨hb, by grind, by grind, h3, h4⟩))))
    ·exact .inl (.inl (.inr ⟨hw, disc_h (by grind) h1 h2⟩))
  rcases rcase x p.a p.c with hx | ⟨hx, hx'⟩ | hx
  ·exact left (near_left ac bd r0 hn (.inl hx))
  ·rcases Classical.em (p.a < p.c) with hw | hw
   ·have := near_mid bd r0 hn
    exact .inl (.inl (.inl (.inl (.inl ⟨hw, hx, hx', by grind, by grind⟩))))
   ·exact left (near_left ac bd r0 hn (.inr ⟨by grind, by grind⟩))
  ·rcases Classical.em (p.a < p.c) with hw | hw
   ·exact right hw (near_right ac bd r0 hn hx)
   ·have e : p.c = p.a := by grind
    have := near_right ac bd r0 hn hx
    rw [e] at this
    exact left this
theorem near_inside {p : Pkt} (h : okP p) {x y : Rat} (hn : nearP p x y) : p.x0 ≤ x ∧ x ≤ p.x1 ∧ p.y0 ≤ y ∧ y ≤ p.y1 := by
 have r0 := h.r0
 have ac := h.ac
 have bd := h.bd
 have ea := h.ea
 have eb := h.eb
 have ec := h.ec
 have ed := h.ed
 have hy := near_mid bd r0 hn
 have hx1 := near_x (Rat.le_of_lt r0) hn
 refine ⟨?_, ?_, by grind, by grind⟩
 ·rcases rcase x p.a p.c with hx | ⟨hx, hx'⟩ | hx
  ·rw [bey_lo ac hx] at hx1
   grind
  ·grind
  ·grind
 ·rcases rcase x p.a p.c with hx | ⟨hx, hx'⟩ | hx
  ·grind
  ·grind
  ·rw [bey_hi hx] at hx1
   grind
def rowsF (d s : Rat) : Nat → Rat → List Rat
 | 0, _ => []
 | n + 1, y => if y < d then y :: rowsF d s n (y + s) else []
abbrev Pss := Rat × Rat × Rat × Rat
def passL (p : Pkt) (n : Nat) : List Pss :=
 (p.a, p.b, p.a, p.d) :: if p.a < p.c then (p.c, p.b, p.c, p.d) :: ((rowsF p.d (p.r + p.r) n p.b).map (fun y => (p.a, y, p.c, y)) ++ [(p.a, p.d, p.c, p.d)]) else []
def trackP (q : Pss) (r x y : Rat) : Prop :=
 discB q.1 q.2.1 r x y ∨ discB q.2.2.1 q.2.2.2 r x y ∨ (¬ (q.2.1 = q.2.2.2 ∧ q.1 = q.2.2.1) ∧ if q.2.1 = q.2.2.2 then q.1 ≤ x ∧ x ≤ q.2.2.1 ∧ q.2.1 - r ≤ y ∧ y ≤ q.2.1 + r else q.1 - r ≤ x ∧ x ≤ q.1 + r ∧ q.2.1 ≤ y ∧ y ≤ q.2.2.2)
theorem track_v {a b d r x y : Rat} (h : b ≤ d) : trackP (a, b, a, d) r x y ↔ (discB a b r x y ∨ discB a d r x y ∨ (a - r ≤ x ∧ x ≤ a + r ∧ b ≤ y ∧ y ≤ d)) := by
 unfold trackP
 simp only
 rcases Classical.em (b = d) with e | e
 ·subst e
  constructor
  ·rintro (h | h | ⟨h, -⟩)
   ·exact .inl h
   ·exact .inl h
   ·exact absurd ⟨rfl, trivial⟩ h
  ·rintro (h | h | ⟨h1, h2, h3, h4⟩)
   ·exact .inl h
   ·exact .inl h
   ·exact .inl (disc_h (by grind) h1 h2)
 ·rw [if_neg e]
  constructor
  ·rintro (h | h | ⟨-, h⟩)
   ·exact .inl h
   ·exact .inr (.inl h)
   ·exact .inr (.inr h)
  ·rintro (h | h | h)
   ·exact .inl h
   ·exact .inr (.inl h)
   ·exact .inr (.inr ⟨fun k => e k.1, h⟩)
theorem track_h {a c v r x y : Rat} (h : a < c) : trackP (a, v, c, v) r x y ↔ (discB a v r x y ∨ discB c v r x y ∨ (a ≤ x ∧ x ≤ c ∧ v - r ≤ y ∧ y ≤ v + r)) := by
 unfold trackP
 simp only
 rw [if_pos trivial]
 have ne : a ≠ c := by grind
 simp [ne]
theorem rows_mem {d s : Rat} (hs : 0 ≤ s) : ∀ {n : Nat} {y v : Rat}, v ∈ rowsF d s n y → y ≤ v ∧ v < d
 | 0, _, _, h => by simp [rowsF] at h
 | n + 1, y, v, h => by
  unfold rowsF at h
  split at h
  ·rename_i hy
   rcases List.mem_cons.1 h with rfl | h
   ·exact ⟨Rat.le_refl, hy⟩
   ·have := rows_mem hs h
    exact ⟨by grind, this.2⟩
  ·simp at h
theorem rows_near {d r : Rat} (hr : 0 < r) {t : Rat} (ht : t ≤ d) : ∀ {n : Nat} {y : Rat}, (rowsF d (r + r) n y).length < n → y ≤ t → (∃ v ∈ rowsF d (r + r) n y, v - r ≤ t ∧ t ≤ v + r) ∨ d - r ≤ t
 | 0, _, h, _ => by omega
 | n + 1, y, h, hy => by
  unfold rowsF at h ⊢
  split at h
  ·rename_i hd
   rw [if_pos hd]
   rcases Classical.em (t ≤ y + r) with h1 | h1
   ·exact .inl ⟨y, by simp, by grind, h1⟩
   ·rcases Classical.em (y + (r + r) ≤ t) with h2 | h2
    ·rcases rows_near hr ht (n := n) (y := y + (r + r)) (by simpa using h) h2 with ⟨v, hv, h3⟩ | h3
     ·exact .inl ⟨v, by simp [hv], h3⟩
     ·exact .inr h3
    ·rcases Classical.em (y + (r + r) < d) with h3 | h3
     ·cases n with
      | zero => simp [rowsF] at h
      | succ n =>
       refine .inl ⟨y + (r + r), ?_, by grind, by grind⟩
       unfold rowsF
       rw [if_pos h3]
       simp
     ·right
      grind
  ·right
   grind
theorem swept_near {p : Pkt} (h : okP p) {n : Nat} (hn : p.a < p.c → (rowsF p.d (p.r + p.r) n p.b).length < n) (x y : Rat) : (∃ q ∈ passL p n, trackP q p.r x y) ↔ nearP p x y := by
 have r0 := h.r0
 have ac := h.ac
 have bd := h.bd
 constructor
 ·rintro ⟨q, hq, ht⟩
  have vert : ∀ u, p.a ≤ u → u ≤ p.c → trackP (u, p.b, u, p.d) p.r x y → nearP p x y := by
   intro u h0 h1 ht
   rcases (track_v bd).1 ht with h2 | h2 | ⟨h2, h3, h4, h5⟩
   ·exact near_box h0 h1 (by grind) bd h2
   ·exact near_box h0 h1 bd (by grind) h2
   ·exact near_box (u := u) (v := y) h0 h1 h4 h5 (disc_h rfl h2 h3)
  have hori : ∀ v, p.a < p.c → p.b ≤ v → v ≤ p.d → trackP (p.a, v, p.c, v) p.r x y → nearP p x y := by
   intro v hw h0 h1 ht
   rcases (track_h hw).1 ht with h2 | h2 | ⟨h2, h3, h4, h5⟩
   ·exact near_box (by grind) ac h0 h1 h2
   ·exact near_box ac (by grind) h0 h1 h2
   ·exact near_box (u := x) (v := v) h2 h3 h0 h1 (disc_v rfl h4 h5)
  unfold passL at hq
  rcases List.mem_cons.1 hq with rfl | hq
  ·exact vert _ (by grind) ac ht
  ·split at hq
   ·rename_i hw
    rcases List.mem_cons.1 hq with rfl | hq
    ·exact vert _ ac (by grind) ht
    ·rcases List.mem_append.1 hq with hq | hq
     ·obtain ⟨v, hv, rfl⟩ := List.mem_map.1 hq
      have := rows_mem (by grind) hv
      exact hori v hw this.1 (Rat.le_of_lt this.2) ht
     ·obtain rfl := List.mem_singleton.1 hq
      exact hori _ hw bd (by grind) ht
   ·simp at hq
 ·intro hn'
  have m0 : (p.a, p.b, p.a, p.d) ∈ passL p n := by simp [passL]
  have left : (discB p.a p.b p.r x y ∨ discB p.a p.d p.r x y ∨ (p.a - p.r ≤ x ∧ x ≤ p.a + p.r ∧ p.b ≤ y ∧ y ≤ p.d)) → ∃ q ∈ passL p n, trackP q p.r x y := fun k => ⟨_, m0, (track_v bd).2 k⟩
  rcases rcase x p.a p.c with hx | ⟨hx, hx'⟩ | hx
  ·exact left (near_left ac bd r0 hn' (.inl hx))
  ·rcases Classical.em (p.a < p.c) with hw | hw
   ·have hm := near_mid bd r0 hn'
    have mr : ∀ v ∈ rowsF p.d (p.r + p.r) n p.b, (p.a, v, p.c, v) ∈ passL p n := by
     intro v hv
     unfold passL
     rw [if_pos hw]
     simp [hv]
    have ml : (p.a, p.d, p.c, p.d) ∈ passL p n := by
     unfold passL
     rw [if_pos hw]
     simp
    rcases Classical.em (p.d - p.r ≤ y) with h1 | h1
    ·exact ⟨_, ml, (track_h hw).2 (.inr (.inr ⟨hx, hx', h1, hm.2⟩))⟩
    ·rcases Classical.em (p.b ≤ y) with h2 | h2
     ·rcases rows_near r0 (t := y) (by grind) (hn hw) h2 with ⟨v, hv, h3, h4⟩ | h3
      ·exact ⟨_, mr v hv, (track_h hw).2 (.inr (.inr ⟨hx, hx', h3, h4⟩))⟩
      ·exact absurd h3 h1
     ·have hb : p.b < p.d := by grind
      have : p.b ∈ rowsF p.d (p.r + p.r) n p.b := by
       cases n with
       | zero =>
        have := hn hw
        omega
       | succ n =>
        unfold rowsF
        rw [if_pos hb]
        simp
      exact ⟨_, mr _ this, (track_h hw).2 (.inr (.inr ⟨hx, hx', hm.1, by grind⟩))⟩
   ·exact left (near_left ac bd r0 hn' (.inr ⟨by grind, by grind⟩))
  ·rcases Classical.em (p.a < p.c) with hw | hw
   ·have m1 : (p.c, p.b, p.c, p.d) ∈ passL p n := by
     unfold passL
     rw [if_pos hw]
     simp
    exact ⟨_, m1, (track_v bd).2 (near_right ac bd r0 hn' hx)⟩
   ·have e : p.c = p.a := by grind
    have := near_right ac bd r0 hn' hx
    rw [e] at this
    exact left this
end Go.Proofs.YtociicfjhgfgpaaGreatDoor
