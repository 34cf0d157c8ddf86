/- WireSumBurst over plain numbers and lists: what a burst adds to the checksum's register is the burst itself, shifted; it is nothing only if the burst is. -/
import Derived.Test.YtodaajokphoioaaDoorLx8
import Derived.Test.YtodaajokphoioaaDoorPureWireSumAffine
namespace Go.Proofs.YtodaajokphoioaaDoor.Pure
open Go.RowKit Go.Proofs.YtodaajokphoioaaDoor Go.Proofs.YtodaajokphoioaaDoor.L Go.Proofs.YtodaajokphoioaaDoorW.PrintWords

theorem rbits_pow : ∀ i, rbits i (2 ^ i) = 1
  | 0 => rfl
  | i + 1 => by
    rw [rbits_add i 1]
    show rbits i (rbit (2 ^ (i + 1))) = 1
    rw [Nat.pow_succ, Nat.mul_comm, rbit_even, rbits_pow i]
theorem rbits_shift (n i : Nat) (h : i ≤ n) : rbits n (2 ^ i) = rbits (n - i) 1 := by
  have := rbits_add (n - i) i (2 ^ i)
  rw [show n - i + i = n by omega, rbits_pow] at this
  exact this
theorem rbit_zero {r : Nat} (hr : r < 4294967296) (h : rbit r = 0) : r = 0 := by
  unfold rbit at h
  split at h
  · exfalso
    have h1 : r / 2 = 2197175160 := by
      have h2 : (r / 2 ^^^ 2197175160) ^^^ 2197175160 = 0 ^^^ 2197175160 := by rw [h]
      rw [Nat.xor_assoc, Nat.xor_self, Nat.xor_zero, Nat.zero_xor] at h2
      exact h2
    omega
  · omega
theorem rbits_zero {r : Nat} (hr : r < 4294967296) : ∀ n, rbits n r = 0 → r = 0
  | 0, h => h
  | n + 1, h => rbits_zero hr n (rbit_zero (rbits_lt hr n) h)

theorem ncrc_reg : ∀ (l : List Nat) (x y : Nat), ncrc l (x ^^^ y) = ncrc l x ^^^ rbits (8 * l.length) y
  | [], x, y => rfl
  | b :: l, x, y => by
    have e : nstep (x ^^^ y) b = nstep x b ^^^ rbits 8 y := by
      unfold nstep
      rw [← rbits_xor, Nat.xor_assoc, Nat.xor_assoc, Nat.xor_comm y b]
    show ncrc l (nstep (x ^^^ y) b) = ncrc l (nstep x b) ^^^ _
    rw [e, ncrc_reg l, ← rbits_add]
    rfl

/-- One bit of a row of bytes, turned over. -/
def flip (l : List Nat) (k : Nat) : List Nat := l.set (k / 8) (l.getD (k / 8) 0 ^^^ 2 ^ (k % 8))
theorem ncrc_flip : ∀ (l : List Nat) (k r : Nat), k < 8 * l.length → ncrc (flip l k) r = ncrc l r ^^^ rbits (8 * l.length - k) 1
  | [], k, r, h => by simp at h
  | b :: l, k, r, h => by
    rw [List.length_cons] at h ⊢
    by_cases hk : k < 8
    · have e : flip (b :: l) k = (b ^^^ 2 ^ k) :: l := by
        unfold flip
        rw [show k / 8 = 0 by omega, show k % 8 = k by omega]
        rfl
      have e2 : nstep r (b ^^^ 2 ^ k) = nstep r b ^^^ rbits (8 - k) 1 := by
        unfold nstep
        rw [← rbits_shift 8 k (by omega), ← rbits_xor, Nat.xor_assoc]
      rw [e]
      show ncrc l (nstep r (b ^^^ 2 ^ k)) = ncrc l (nstep r b) ^^^ _
      rw [e2, ncrc_reg, ← rbits_add, show 8 * l.length + (8 - k) = 8 * (l.length + 1) - k by omega]
    · have e : flip (b :: l) k = b :: flip l (k - 8) := by
        unfold flip
        obtain ⟨j, hj⟩ : ∃ j, k / 8 = j + 1 := ⟨k / 8 - 1, by omega⟩
        rw [hj, show (k - 8) / 8 = j by omega, show (k - 8) % 8 = k % 8 by omega]
        rfl
      rw [e]
      show ncrc (flip l (k - 8)) (nstep r b) = ncrc l (nstep r b) ^^^ _
      rw [ncrc_flip l (k - 8) _ (by omega), show 8 * l.length - (k - 8) = 8 * (l.length + 1) - k by omega]

/-- Behind i rounds: what has been changed is a pattern P of i bits at most. -/
def BInv (l0 : List Nat) (f i : Nat) (l : List Nat) (ch : Bool) : Prop :=
  l.length = l0.length ∧ (∀ v ∈ l, v < 256) ∧ ∃ P, P < 2 ^ i ∧ ncrc l 4294967295 = ncrc l0 4294967295 ^^^ rbits (8 * l0.length - f) P ∧ (ch = true ↔ P ≠ 0)

theorem binv_skip {l0 : List Nat} {f i : Nat} {l : List Nat} {ch : Bool} (h : BInv l0 f i l ch) : BInv l0 f (i + 1) l ch := by
  obtain ⟨h1, h2, P, h3, h4⟩ := h
  exact ⟨h1, h2, P, by rw [Nat.pow_succ]; omega, h4⟩
theorem binv_flip {l0 : List Nat} {f i : Nat} {l : List Nat} {ch : Bool} (h : BInv l0 f i l ch) (hi : f + i < 8 * l0.length) : BInv l0 f (i + 1) (flip l (f + i)) true := by
  obtain ⟨h1, h2, P, h3, h4, h5⟩ := h
  have hx : P ^^^ 2 ^ i = P + 2 ^ i := by
    have := Nat.two_pow_add_eq_or_of_lt h3 1
    rw [Nat.mul_one] at this
    apply Nat.eq_of_testBit_eq
    intro j
    rw [Nat.add_comm, this, Nat.testBit_xor, Nat.testBit_or]
    by_cases hj : j = i
    · subst hj
      rw [Nat.testBit_lt_two_pow h3]
      simp
    · rw [Nat.testBit_two_pow_of_ne (Ne.symm hj)]
      simp
  refine ⟨by unfold flip; rw [List.length_set, h1], ?_, P ^^^ 2 ^ i, by rw [hx, Nat.pow_succ]; omega, ?_, ?_⟩
  · intro v hv
    unfold flip at hv
    rcases List.mem_or_eq_of_mem_set hv with hv | rfl
    · exact h2 v hv
    · refine Nat.xor_lt_two_pow (n := 8) ?_ ?_
      · have hl : (f + i) / 8 < l.length := by omega
        rw [List.getD_eq_getElem?_getD, List.getElem?_eq_getElem hl]
        exact h2 _ (List.getElem_mem hl)
      · exact Nat.pow_lt_pow_right (by decide) (Nat.mod_lt _ (by decide))
  · rw [ncrc_flip l _ _ (by omega), h4, rbits_xor, Nat.xor_assoc, h1, rbits_shift (8 * l0.length - f) i (by omega), show 8 * l0.length - (f + i) = 8 * l0.length - f - i by omega]
  · have : 0 < 2 ^ i := Nat.two_pow_pos i
    simp
    omega
theorem binv_end {l0 : List Nat} {f i : Nat} {l : List Nat} {ch : Bool} (h : BInv l0 f i l ch) (hi : i ≤ 32) : (ch = true ↔ ncrc l 4294967295 ≠ ncrc l0 4294967295) := by
  obtain ⟨h1, h2, P, h3, h4, h5⟩ := h
  have hP : P < 4294967296 := Nat.lt_of_lt_of_le h3 (Nat.pow_le_pow_right (by decide) hi : 2 ^ i ≤ 2 ^ 32)
  rw [h5, h4]
  constructor
  · intro hne he
    refine hne (rbits_zero hP (8 * l0.length - f) ?_)
    have h6 : ncrc l0 4294967295 ^^^ (ncrc l0 4294967295 ^^^ rbits (8 * l0.length - f) P) = ncrc l0 4294967295 ^^^ ncrc l0 4294967295 := by rw [he]
    rw [← Nat.xor_assoc, Nat.xor_self, Nat.zero_xor] at h6
    exact h6
  · rintro hne rfl
    refine hne ?_
    have : ∀ n, rbits n 0 = 0 := fun n => by
      induction n with
      | zero => rfl
      | succ n ih => simp only [rbits, ih]; rfl
    rw [this, Nat.xor_zero]

theorem sb_shl (e : Nat) (h : e < 8) : shl .u8 1 (e : Int) = ((2 ^ e : Nat) : Int) := by
  rcases (show e = 0 ∨ e = 1 ∨ e = 2 ∨ e = 3 ∨ e = 4 ∨ e = 5 ∨ e = 6 ∨ e = 7 by omega) with rfl | rfl | rfl | rfl | rfl | rfl | rfl | rfl <;> decide
theorem sb_rd (l : List Nat) (j : Nat) : rd (l.map fun b : Nat => (b : Int)) (j : Int) = ((l.getD j 0 : Nat) : Int) := by
  unfold rd
  rw [Int.toNat_natCast, List.getD_eq_getElem?_getD, List.getD_eq_getElem?_getD, List.getElem?_map]
  cases l[j]? <;> rfl

theorem sb_end (a0 : ByteArray) (m f i : Nat) (l : List Nat) (ch : Bool) (hm : m ≤ a0.size) (hm3 : m ≤ 300) (h : BInv (bys (a0.extract 0 m) 0) f i l ch) (hi : i ≤ 32) :
    ((wire_Sum.f (strOfNums (l.map fun b : Nat => (b : Int)))).bind fun t140 => (if 0 ≤ ((l.map fun b : Nat => (b : Int)).length : Int) then (if ((l.map fun b : Nat => (b : Int)).length : Int) ≤ (a0.size : Int) then ((wire_Sum.f (a0.extract 0 (((l.map fun b : Nat => (b : Int)).length : Int) : Int).toNat)).bind fun t141 => (some (ch == (t140 != t141)))) else (none)) else (none))) = some true := by
  have hl0 : (bys (a0.extract 0 m) 0).length = m := by rw [bys_length, ByteArray.size_extract]; omega
  have hl : l.length = m := by rw [h.1, hl0]
  have he := binv_end h hi
  have ex : wire_Sum.f (a0.extract 0 m) = some ((4294967295 - ncrc (bys (a0.extract 0 m) 0) 4294967295 : Nat) : Int) := sum_of _ _ rfl (by rw [ByteArray.size_extract]; omega)
  have lt : ∀ s : ByteArray, ncrc (bys s 0) 4294967295 < 4294967296 := by
    intro s
    have := rcrc_lt s.data.toList
    rw [rcrc_n, ← bys_zero] at this
    exact this
  have hb := bys_num l h.2.1
  have la := lt (strOfNums (l.map fun b : Nat => (b : Int)))
  rw [hb] at la
  have lb := lt (a0.extract 0 m)
  rw [sum_of _ l hb (by rw [strOfNums_size, List.length_map, hl]; omega)]
  simp only [Option.bind_some, List.length_map, hl, Int.toNat_natCast]
  rw [if_pos (show 0 ≤ (m : Int) by omega), if_pos (show (m : Int) ≤ (a0.size : Int) by omega), ex]
  simp only [Option.bind_some]
  generalize ncrc l 4294967295 = x at he la ⊢
  generalize ncrc (bys (a0.extract 0 m) 0) 4294967295 = y at he lb ⊢
  congr 1
  by_cases hc : ch = true
  · have hne := he.1 hc
    rw [hc, beq_iff_eq]
    exact (bne_iff_ne.2 (by omega)).symm
  · have hq : x = y := Decidable.not_not.1 fun hne => hc (he.2 hne)
    rw [Bool.eq_false_iff.2 hc, hq, bne_self_eq_false]
    rfl

theorem sb_l0 (a0 : ByteArray) (a2 : Int) (m f : Nat) (hm : m ≤ a0.size) (hm3 : m ≤ 300) (hf : f < 8 * m) (k : Nat) (d : Nat) : ∀ (i : Nat) (l : List Nat) (ch : Bool), i + d = 32 → BInv (bys (a0.extract 0 m) 0) f i l ch →
    workpiecelaw01_WireSumBurst.l0 (k + 2 + 2 * d) a0 a2 true (l.map fun b : Nat => (b : Int)) (f : Int) ch (i : Int) = some true := by
  induction d with
  | zero =>
    intro i l ch hi h
    rw [show k + 2 + 2 * 0 = (k + 1) + 1 by omega]
    simp only [workpiecelaw01_WireSumBurst.l0, workpiecelaw01_WireSumBurst.j2]
    rw [if_neg (show ¬ (i : Int) < 32 by omega), if_neg (show ¬ (false = true) by decide), if_pos trivial]
    exact sb_end a0 m f i l ch hm hm3 h (by omega)
  | succ d ih =>
    intro i l ch hi h
    have hl0 : (bys (a0.extract 0 m) 0).length = m := by rw [bys_length, ByteArray.size_extract]; omega
    have hl : l.length = m := by rw [h.1, hl0]
    rw [show k + 2 + 2 * (d + 1) = ((k + 2 + 2 * d) + 1) + 1 by omega]
    have ek : wrap64 ((f : Int) + (i : Int)) = ((f + i : Nat) : Int) := by unfold wrap64; omega
    have em : wrap64 (8 * (((l.map fun b : Nat => (b : Int)).length : Nat) : Int)) = ((8 * m : Nat) : Int) := by rw [List.length_map, hl]; unfold wrap64; omega
    have e1 : wrap64 ((i : Int) + 1) = ((i + 1 : Nat) : Int) := by unfold wrap64; omega
    have eq : wrap64 (Int.tdiv ((f + i : Nat) : Int) 8) = (((f + i) / 8 : Nat) : Int) := by
      rw [show Int.tdiv ((f + i : Nat) : Int) 8 = (((f + i) / 8 : Nat) : Int) from rfl]
      unfold wrap64
      omega
    have er : Int.tmod ((f + i : Nat) : Int) 8 = (((f + i) % 8 : Nat) : Int) := rfl
    simp only [workpiecelaw01_WireSumBurst.l0, workpiecelaw01_WireSumBurst.j2]
    rw [if_pos (show (i : Int) < 32 by omega), ek, em, eq, er, e1]
    by_cases hk : f + i < 8 * m
    · rw [if_pos (decide_eq_true (by omega)), if_pos (show 0 ≤ (i : Int) by omega)]
      by_cases hb : Int.tmod (shr .u32 a2 (i : Int)) 2 = 1
      · rw [if_pos hb, if_pos (show 0 ≤ (((f + i) / 8 : Nat) : Int) by omega), if_pos (show (((f + i) / 8 : Nat) : Int) < (((l.map fun b : Nat => (b : Int)).length : Nat) : Int) by rw [List.length_map]; omega), if_pos (show 0 ≤ (((f + i) % 8 : Nat) : Int) by omega)]
        have hg : l.getD ((f + i) / 8) 0 < 256 := by
          have hll : (f + i) / 8 < l.length := by omega
          rw [List.getD_eq_getElem?_getD, List.getElem?_eq_getElem hll]
          exact h.2.1 _ (List.getElem_mem hll)
        rw [sb_rd, sb_shl _ (Nat.mod_lt _ (by decide)), u8_xor_nat _ _ hg (show 2 ^ ((f + i) % 8) < 2 ^ 8 from Nat.pow_lt_pow_right (by decide) (Nat.mod_lt _ (by decide))), Int.toNat_natCast, ← List.map_set]
        exact ih (i + 1) (flip l (f + i)) true (by omega) (binv_flip h (by omega))
      · rw [if_neg hb]
        exact ih (i + 1) l ch (by omega) (binv_skip h)
    · rw [if_neg (by rw [decide_eq_true_eq]; omega), if_pos trivial]
      exact sb_end a0 m f i l ch hm hm3 h (by omega)

theorem WireSumBurst : workpiecelaw01_WireSumBurst.Pure := by
  intro a0 a1 a2 w0 w1 w2
  obtain ⟨m, h1, h1a, h1b⟩ := af_mn a0.size 300
  have h1' : mn (a0.size : Int) 300 = (m : Int) := h1
  obtain ⟨K, hK⟩ : ∃ K : Nat, K = 50 + 2 + 2 * 32 := ⟨_, rfl⟩
  refine ⟨K + 1, ?_⟩
  unfold workpiecelaw01_WireSumBurst.f
  rw [sane_spec _ (by omega), h1']
  simp only [Option.bind_some]
  have hl : (bytesOf (a0.extract 0 m)).length = m := by rw [bytesOf_length, ByteArray.size_extract]; omega
  rw [if_pos (show 0 ≤ (m : Int) by omega), if_pos (show (m : Int) ≤ (a0.size : Int) by omega), Int.toNat_natCast, if_pos (by omega), hl]
  simp only [workpiecelaw01_WireSumBurst.j0]
  by_cases hm : (m : Int) = 0
  · rw [if_pos hm, if_pos trivial]
  · rw [if_neg hm]
    by_cases hz : (a2 == 0) = true
    · rw [if_pos hz]
    · rw [if_neg hz, hl]
      obtain ⟨p, hp, hp0, hp1⟩ := pick_spec a1 (wrap64 (8 * (m : Int))) (wf_bd w1) (by unfold wrap64; omega)
      rw [hp]
      simp only [Option.bind_some]
      obtain ⟨f, rfl⟩ := Int.eq_ofNat_of_zero_le hp0
      have e : bytesOf (a0.extract 0 m) = (bys (a0.extract 0 m) 0).map fun b : Nat => (b : Int) := by
        rw [bys_zero, List.map_map]
        rfl
      rw [e, hK]
      refine sb_l0 a0 a2 m f h1a h1b (by unfold wrap64 at hp1; omega) 50 32 0 _ false rfl ⟨rfl, ?_, 0, by decide, ?_, by simp⟩
      · intro v hv
        rw [bys_zero] at hv
        obtain ⟨b, _, rfl⟩ := List.mem_map.1 hv
        exact b.toNat_lt
      · have : ∀ n, rbits n 0 = 0 := fun n => by
          induction n with
          | zero => rfl
          | succ n ih => simp only [rbits, ih]; rfl
        rw [this, Nat.xor_zero]
end Go.Proofs.YtodaajokphoioaaDoor.Pure
