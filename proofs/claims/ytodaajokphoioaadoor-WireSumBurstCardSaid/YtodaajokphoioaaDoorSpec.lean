/- The codes of integers as lists of bytes, and what Int, PutInt, String, PutString of the program and of the reference come to in these words. Plain lists and numbers. -/
import Derived.Test.YtodaajokphoioaaDoorLx2
namespace Go.Proofs.YtodaajokphoioaaDoor.L
open Go.RowKit Go.Proofs.YtodaajokphoioaaDoor Go.Proofs.YtodaajokphoioaaDoorW.PrintWords

/-! ### Bytes of a string -/
def bys (s : ByteArray) (p : Nat) : List Nat := (s.data.toList.drop p).map UInt8.toNat

theorem bt_nat (s : ByteArray) (p : Nat) : ∃ b : Nat, bt s (p : Int) = (b : Int) ∧ b < 256 := by
  have h := bt_range s (p : Int)
  exact ⟨(bt s (p : Int)).toNat, by omega, by omega⟩

theorem bys_nil {s : ByteArray} {p : Nat} (h : s.size ≤ p) : bys s p = [] := by
  unfold bys
  rw [List.drop_of_length_le (by rw [data_length]; exact h)]
  rfl

theorem bys_cons {s : ByteArray} {p b : Nat} (h : p < s.size) (hb : bt s (p : Int) = (b : Int)) : bys s p = b :: bys s (p + 1) := by
  unfold bys
  have hl : p < s.data.toList.length := by rw [data_length]; exact h
  rw [List.drop_eq_getElem_cons hl, List.map_cons]
  congr 1
  have e := bt_at s (p : Int) (by simpa using h)
  rw [hb] at e
  simp only [Int.toNat_natCast] at e
  have e2 : s.data.toList[p] = s[p] := rfl
  rw [e2]
  omega

theorem bys_lt (s : ByteArray) (p : Nat) : ∀ b ∈ bys s p, b < 256 := by
  intro b hb
  unfold bys at hb
  obtain ⟨u, _, rfl⟩ := List.mem_map.1 hb
  exact u.toNat_lt

theorem bys_length (s : ByteArray) (p : Nat) : (bys s p).length = s.size - p := by
  unfold bys
  rw [List.length_map, List.length_drop, data_length]

/-! ### Digits -/
def val : List Nat → Nat
  | [] => 0
  | b :: l => b % 128 + 128 * val l

theorem val_snoc (l : List Nat) (b : Nat) : val (l ++ [b]) = val l + 128 ^ l.length * (b % 128) := by
  induction l with
  | nil => simp [val]
  | cons a l ih =>
    simp only [List.cons_append, val, ih, List.length_cons, Nat.pow_succ]
    rw [Nat.mul_add, ← Nat.add_assoc, ← Nat.mul_assoc, Nat.mul_comm 128 (128 ^ l.length)]

theorem val_lt (l : List Nat) : val l < 128 ^ l.length := by
  induction l with
  | nil => simp [val]
  | cons a l ih =>
    simp only [val, List.length_cons, Nat.pow_succ]
    omega

/-- The code of z: groups of seven bits, 128 added to all but the last. -/
def lebN (z : Nat) : List Nat := if z < 128 then [z] else (z % 128 + 128) :: lebN (z / 128)
  termination_by z
  decreasing_by omega

theorem leb_eq (z : Nat) : leb z = (lebN z).map fun b : Nat => (b : Int) := by
  induction z using Nat.strongRecOn with
  | _ z ih =>
    rw [leb, lebN]
    split
    · rfl
    · rw [ih (z / 128) (by omega)]
      rfl

theorem lebN_ne (z : Nat) : lebN z ≠ [] := by
  rw [lebN]
  split <;> simp

theorem lebN_lt (z : Nat) : ∀ b ∈ lebN z, b < 256 := by
  induction z using Nat.strongRecOn with
  | _ z ih =>
    rw [lebN]
    split
    · intro b hb
      simp at hb
      omega
    · intro b hb
      rcases List.mem_cons.1 hb with h | h
      · omega
      · exact ih (z / 128) (by omega) b h

theorem lebN_length (z : Nat) : (lebN z).length = (leb z).length := by rw [leb_eq, List.length_map]
theorem lebN_le9 {z : Nat} (h : z < 9223372036854775808) : (lebN z).length ≤ 9 := by
  rw [lebN_length]
  exact leb_len 8 z (by omega)

/-- The first byte below 128, and what stands ahead of it, among the first so many. -/
def scan : Nat → List Nat → Option (List Nat × Nat)
  | 0, _ => none
  | _ + 1, [] => none
  | f + 1, b :: l => if b < 128 then some ([], b) else (scan f l).map fun q => (b :: q.1, q.2)

theorem scan_some {f : Nat} : ∀ {l p : List Nat} {b : Nat}, scan f l = some (p, b) → ∃ r, l = p ++ b :: r ∧ (∀ x ∈ p, 128 ≤ x) ∧ b < 128 ∧ p.length < f := by
  induction f with
  | zero => intro l p b h; simp [scan] at h
  | succ f ih =>
    intro l p b h
    cases l with
    | nil => simp [scan] at h
    | cons a l =>
      simp only [scan] at h
      split at h
      · simp only [Option.some.injEq, Prod.mk.injEq] at h
        obtain ⟨rfl, rfl⟩ := h
        exact ⟨l, rfl, by simp, by assumption, by simp⟩
      · obtain ⟨⟨p', b'⟩, hs, he⟩ := Option.map_eq_some_iff.1 h
        simp only [Prod.mk.injEq] at he
        obtain ⟨rfl, rfl⟩ := he
        obtain ⟨r, rfl, h1, h2, h3⟩ := ih hs
        refine ⟨r, rfl, ?_, h2, by simp; omega⟩
        intro x hx
        rcases List.mem_cons.1 hx with h | h
        · omega
        · exact h1 x h

theorem scan_leb (z : Nat) : ∀ (f : Nat) (r : List Nat), (lebN z).length ≤ f → ∃ p b, lebN z = p ++ [b] ∧ scan f (lebN z ++ r) = some (p, b) ∧ (b ≠ 0 ∨ p = []) ∧ val (p ++ [b]) = z := by
  induction z using Nat.strongRecOn with
  | _ z ih =>
    intro f r hf
    rw [lebN] at hf ⊢
    by_cases hz : z < 128
    · rw [if_pos hz] at hf ⊢
      obtain ⟨f, rfl⟩ : ∃ m, f = m + 1 := ⟨f - 1, by simp at hf; omega⟩
      refine ⟨[], z, rfl, ?_, Or.inr rfl, by simp [val]; omega⟩
      simp [scan, hz]
    · rw [if_neg hz] at hf ⊢
      obtain ⟨f, rfl⟩ : ∃ m, f = m + 1 := ⟨f - 1, by simp at hf; omega⟩
      obtain ⟨p, b, h1, h2, h3, h4⟩ := ih (z / 128) (by omega) f r (by simp at hf; omega)
      refine ⟨(z % 128 + 128) :: p, b, by rw [h1]; rfl, ?_, ?_, ?_⟩
      · simp only [List.cons_append, scan]
        rw [if_neg (by omega), h2]
        rfl
      · rcases h3 with h3 | h3
        · exact Or.inl h3
        · subst h3
          left
          intro hb
          subst hb
          simp [val] at h4
          omega
      · simp only [List.cons_append, val, h4]
        omega

/-- The code of the value is what stands there, if there is no superfluous zero. -/
theorem lebN_val (p : List Nat) : ∀ (b : Nat), (∀ x ∈ p, 128 ≤ x ∧ x < 256) → b < 128 → (b ≠ 0 ∨ p = []) → lebN (val (p ++ [b])) = p ++ [b] := by
  induction p with
  | nil =>
    intro b _ hb _
    rw [lebN, if_pos (by simp [val]; omega)]
    simp [val]
    omega
  | cons a p ih =>
    intro b hp hb h0
    have hb0 : b ≠ 0 := by
      rcases h0 with h | h
      · exact h
      · cases h
    have ha := hp a (by simp)
    have e := ih b (fun x hx => hp x (List.mem_cons_of_mem _ hx)) hb (Or.inl hb0)
    have hpos : 1 ≤ val (p ++ [b]) := by
      rw [val_snoc]
      have h1 : 1 ≤ 128 ^ p.length := Nat.pow_pos (by decide)
      have h2 : 128 ^ p.length * 1 ≤ 128 ^ p.length * (b % 128) := Nat.mul_le_mul_left _ (by omega)
      omega
    simp only [List.cons_append, val]
    rw [lebN, if_neg (by omega)]
    have e1 : (a % 128 + 128 * val (p ++ [b])) % 128 + 128 = a := by omega
    have e2 : (a % 128 + 128 * val (p ++ [b])) / 128 = val (p ++ [b]) := by omega
    rw [e1, e2, e]

theorem lebN_short (p : List Nat) (h : p ≠ []) : (lebN (val (p ++ [0]))).length ≤ p.length := by
  obtain ⟨k, hk⟩ : ∃ k, p.length = k + 1 := ⟨p.length - 1, by have := List.length_pos_iff.2 h; omega⟩
  rw [lebN_length, hk]
  apply leb_len
  rw [val_snoc, ← hk]
  have := val_lt p
  simpa using this

/-- The number that z stands for. -/
def unz (z : Nat) : Int := if z % 2 = 0 then ((z / 2 : Nat) : Int) else -((z / 2 : Nat) : Int) - 1
theorem unz_zz (n : Int) : unz (zz n) = n := by
  unfold unz zz
  split <;> split <;> omega
theorem zz_unz (z : Nat) : zz (unz z) = z := by
  unfold unz zz
  split <;> split <;> omega
theorem unz_bd (z : Nat) (h : z < 9223372036854775808) : -4611686018427387904 ≤ unz z ∧ unz z ≤ 4611686018427387903 := by
  unfold unz
  split <;> omega
theorem unz_low (z : Nat) : unz z < -4611686018427387903 ↔ (z = 9223372036854775807 ∨ (z % 2 = 1 ∧ 9223372036854775807 < z)) := by
  unfold unz
  split <;> omega

/-! ### Int -/
def intEnd (at_ : Nat) : Option (List Nat × Nat) → Int × Int × Int
  | none => (0, 0, 10)
  | some (p, b) => if (b = 0 ∧ p ≠ []) ∨ val (p ++ [b]) = 9223372036854775807 then (0, 0, 10) else (unz (val (p ++ [b])), ((at_ + p.length + 1 : Nat) : Int), 0)

def intSpec (s : ByteArray) (at_ : Int) : Int × Int × Int := if at_ < 0 ∨ (s.size : Int) < at_ then (0, 0, 2) else intEnd at_.toNat (scan 9 (bys s at_.toNat))

theorem u8_and127 (b : Nat) (h : b < 256) : bits .and .u8 (b : Int) 127 = ((b % 128 : Nat) : Int) := by
  have e := bits_mask .u8 8 (by decide) wraps_u8 7 (by decide) (b : Int) (by omega) (by omega)
  rw [show ((2 : Int) ^ 7 - 1) = 127 by decide] at e
  rw [e]
  omega

theorem shl_digit (d i : Nat) (hd : d < 128) (hi : i ≤ 8) : shl .u64 (d : Int) ((7 * i : Nat) : Int) = ((128 ^ i * d : Nat) : Int) := by
  unfold shl
  have h1 : min (((7 * i : Nat) : Int)).toNat IntKind.u64.bits = 7 * i := by
    rw [Int.toNat_natCast]
    exact Nat.min_eq_left (by show 7 * i ≤ 64; omega)
  rw [h1, IntKind.wrap_u64]
  have h2 : (2 : Int) ^ (7 * i) = ((128 ^ i : Nat) : Int) := by
    rw [Int.pow_mul]
    norm_cast
  rw [h2]
  have h3 : 128 ^ i ≤ 128 ^ 8 := Nat.pow_le_pow_right (by decide) hi
  have h4 : 128 ^ i * d ≤ 128 ^ i * 127 := Nat.mul_le_mul_left _ (by omega)
  have h5 : (d : Int) * ((128 ^ i : Nat) : Int) = ((128 ^ i * d : Nat) : Int) := by
    rw [Int.natCast_mul]
    exact Int.mul_comm _ _
  rw [h5]
  generalize 128 ^ i = q at h3 h4 ⊢
  omega

theorem or_digit (a d i : Nat) (ha : a < 128 ^ i) (hd : d < 128) (hi : i ≤ 8) : bits .or .u64 (a : Int) ((128 ^ i * d : Nat) : Int) = ((a + 128 ^ i * d : Nat) : Int) := by
  have h3 : 128 ^ i ≤ 128 ^ 8 := Nat.pow_le_pow_right (by decide) hi
  have h4 : 128 ^ i * d ≤ 128 ^ i * 127 := Nat.mul_le_mul_left _ (by omega)
  have hp : 128 ^ i = 2 ^ (7 * i) := by rw [Nat.pow_mul]
  rw [bits_or_u64_nat _ _ (by generalize 128 ^ i = q at *; omega) (by generalize 128 ^ i = q at *; omega)]
  congr 1
  rw [hp] at ha ⊢
  rw [Nat.or_comm, ← Nat.two_pow_add_eq_or_of_lt ha, Nat.add_comm]

theorem and_one (z : Nat) (h : z < 18446744073709551616) : bits .and .u64 (z : Int) 1 = ((z % 2 : Nat) : Int) := by
  have e := bits_and_u64_nat z 1 h (by omega)
  rw [Nat.and_one_is_mod] at e
  exact e

theorem i64_xor_zero (x : Nat) (h : x < 9223372036854775808) : bits .xor .i64 (x : Int) 0 = (x : Int) := by
  unfold bits
  have h1 : (BitVec.ofInt IntKind.i64.bits (x : Int) ^^^ BitVec.ofInt IntKind.i64.bits 0).toNat = x := by
    show (BitVec.ofInt 64 (x : Int) ^^^ BitVec.ofInt 64 0).toNat = x
    rw [BitVec.ofInt_natCast, show BitVec.ofInt 64 0 = 0#64 by rfl, BitVec.xor_zero, BitVec.toNat_ofNat]
    omega
  simp only [h1]
  rw [IntKind.wrap_i64]
  omega

theorem i64_xor_ones (x : Nat) (h : x < 9223372036854775808) : bits .xor .i64 (x : Int) (-1) = -(x : Int) - 1 := by
  unfold bits
  have h1 : (BitVec.ofInt IntKind.i64.bits (x : Int) ^^^ BitVec.ofInt IntKind.i64.bits (-1)).toNat = 18446744073709551615 - x := by
    show (BitVec.ofInt 64 (x : Int) ^^^ BitVec.ofInt 64 (-1)).toNat = _
    rw [BitVec.ofInt_natCast, show BitVec.ofInt 64 (-1) = BitVec.allOnes 64 by rfl, BitVec.xor_allOnes, BitVec.toNat_not, BitVec.toNat_ofNat]
    omega
  simp only [h1]
  rw [IntKind.wrap_i64]
  omega

theorem unz_bits (z : Nat) (h : z < 9223372036854775808) : bits .xor .i64 (wrap64 ((z : Int) / 2)) (wrap64 (-(wrap64 (bits .and .u64 (z : Int) 1)))) = unz z := by
  rw [and_one z (by omega)]
  have e1 : wrap64 ((z : Int) / 2) = ((z / 2 : Nat) : Int) := by unfold wrap64; omega
  rw [e1]
  unfold unz
  by_cases hz : z % 2 = 0
  · rw [if_pos hz, hz]
    have e2 : wrap64 (-(wrap64 ((0 : Nat) : Int))) = 0 := by unfold wrap64; omega
    rw [e2, i64_xor_zero _ (by omega)]
  · rw [if_neg hz, show z % 2 = 1 by omega]
    have e2 : wrap64 (-(wrap64 ((1 : Nat) : Int))) = -1 := by unfold wrap64; omega
    rw [e2, i64_xor_ones _ (by omega)]

/-- wire.Int's loop. -/
theorem wire_l0 (s : ByteArray) (hs : s.size ≤ 4611686018427387904) (at_ : Nat) (hat : at_ ≤ s.size) (d : Nat) : ∀ (i k : Nat) (pre : List Nat), pre.length = i → i + d = 9 → d < k →
    wire_Int.l0 k s (at_ : Int) ((val pre : Nat) : Int) (i : Int) = some (intEnd at_ ((scan d (bys s (at_ + i))).map fun q => (pre ++ q.1, q.2))) := by
  induction d with
  | zero =>
    intro i k pre hpre hi hk
    obtain ⟨k, rfl⟩ : ∃ m, k = m + 1 := ⟨k - 1, by omega⟩
    simp only [wire_Int.l0]
    rw [if_neg (by omega)]
    rfl
  | succ d ih =>
    intro i k pre hpre hi hk
    obtain ⟨k, rfl⟩ : ∃ m, k = m + 1 := ⟨k - 1, by omega⟩
    have ew : wrap64 ((at_ : Int) + (i : Int)) = ((at_ + i : Nat) : Int) := by unfold wrap64; omega
    have e7 : wrap64 (7 * (i : Int)) = ((7 * i : Nat) : Int) := by unfold wrap64; omega
    have e1 : wrap64 ((i : Int) + 1) = ((i + 1 : Nat) : Int) := by unfold wrap64; omega
    have e2 : wrap64 (((at_ + i : Nat) : Int) + 1) = ((at_ + i + 1 : Nat) : Int) := by unfold wrap64; omega
    simp only [wire_Int.l0]
    rw [if_pos (by omega), ew, e7, e1, e2]
    by_cases hp : at_ + i < s.size
    · obtain ⟨b, hb, hb2⟩ := bt_nat s (at_ + i)
      rw [bys_cons hp hb, hb, u8_and127 b hb2]
      have hw : IntKind.u64.wrap ((b % 128 : Nat) : Int) = ((b % 128 : Nat) : Int) := by rw [IntKind.wrap_u64]; omega
      have hv : val (pre ++ [b]) = val pre + 128 ^ i * (b % 128) := by rw [val_snoc, hpre]
      have hlt := val_lt pre
      rw [hpre] at hlt
      rw [hw, shl_digit _ i (by omega) (by omega), or_digit _ _ i hlt (by omega) (by omega), ← hv]
      have hz := val_lt (pre ++ [b])
      have hz2 : val (pre ++ [b]) < 9223372036854775808 := by
        have h9 : (pre ++ [b]).length ≤ 9 := by simp; omega
        have := Nat.pow_le_pow_right (show 0 < 128 by decide) h9
        omega
      rw [if_neg (by omega), if_pos (by omega), if_pos (by omega), if_pos (by omega)]
      by_cases h128 : 128 ≤ b
      · rw [if_pos (by omega), ih (i + 1) k (pre ++ [b]) (by simp [hpre]) (by omega) (by omega)]
        simp only [scan]
        rw [if_neg (by omega), Option.map_map]
        congr 3
        funext q
        simp
      · rw [if_neg (by omega), unz_bits _ hz2]
        simp only [scan]
        rw [if_pos (show b < 128 by omega)]
        simp only [Option.map_some, List.append_nil, intEnd]
        have hm := unz_low (val (pre ++ [b]))
        have hpn : pre ≠ [] ↔ 0 < i := by rw [← hpre]; exact List.length_pos_iff.symm
        by_cases h0 : b = 0
        · rw [if_pos (show (b : Int) = 0 by omega)]
          by_cases hi0 : 0 < i
          · rw [if_pos (show (i : Int) > 0 by omega), if_pos (Or.inl ⟨h0, hpn.2 hi0⟩)]
          · rw [if_neg (show ¬ (i : Int) > 0 by omega)]
            by_cases hM : val (pre ++ [b]) = 9223372036854775807
            · rw [if_pos (hm.2 (Or.inl hM)), if_pos (Or.inr hM)]
            · rw [if_neg (fun h => by rcases hm.1 h with h | h <;> omega), if_neg (fun h => by rcases h with h | h; exact hi0 (hpn.1 h.2); exact hM h), hpre]
        · rw [if_neg (show ¬ (b : Int) = 0 by omega)]
          by_cases hM : val (pre ++ [b]) = 9223372036854775807
          · rw [if_pos (hm.2 (Or.inl hM)), if_pos (Or.inr hM)]
          · rw [if_neg (fun h => by rcases hm.1 h with h | h <;> omega), if_neg (fun h => by rcases h with h | h; exact h0 h.1; exact hM h), hpre]
    · rw [bys_nil (by omega), if_pos (by omega)]
      rfl

theorem wire_Int_spec (s : ByteArray) (hs : s.size ≤ 4611686018427387904) (at_ : Int) (k : Nat) (hk : 12 ≤ k) : wire_Int.f k s at_ = some (intSpec s at_) := by
  obtain ⟨k, rfl⟩ : ∃ m, k = m + 1 := ⟨k - 1, by omega⟩
  unfold wire_Int.f intSpec
  by_cases h0 : at_ < 0
  · rw [if_pos h0, if_pos (Or.inl h0)]
    simp [wire_Int.j0]
  · obtain ⟨p, rfl⟩ := Int.eq_ofNat_of_zero_le (Int.not_lt.1 h0)
    rw [if_neg h0]
    by_cases h1 : s.size < p
    · rw [if_pos (Or.inr (by omega))]
      have hd : decide ((p : Int) > (s.size : Int)) = true := decide_eq_true (by omega)
      simp only [wire_Int.j0, hd, if_true]
    · rw [if_neg (by omega)]
      have hd : decide ((p : Int) > (s.size : Int)) = false := decide_eq_false (by omega)
      have e := wire_l0 s hs p (by omega) 9 0 k [] rfl rfl (by omega)
      simp only [wire_Int.j0, hd, Bool.false_eq_true, if_false, Int.toNat_natCast]
      simpa [val] using e

/-! ### The reference's PutInt and Int -/
theorem zigzag_spec (n : Int) (h0 : -4611686018427387903 ≤ n) (h1 : n ≤ 4611686018427387903) : workpieceref01_zigzag.f n = some ((zz n : Nat) : Int) := by
  unfold workpieceref01_zigzag.f zz
  simp only [IntKind.wrap_u64]
  by_cases h : n < 0
  · rw [if_pos h, if_neg (show ¬ 0 ≤ n by omega)]
    congr 1
    unfold wrap64
    omega
  · rw [if_neg h, if_pos (show 0 ≤ n by omega)]
    congr 1
    omega

theorem ref_put_l0 (z : Nat) : ∀ (k : Nat) (out : List Int), z < 18446744073709551616 → (leb z).length < k → out.length + (leb z).length < 140737488355328 →
    workpieceref01_PutInt.l0 k (z : Int) out = some (strOfNums (out ++ leb z), 0) := by
  induction z using Nat.strongRecOn with
  | _ z ih =>
    intro k out hz hk hl
    obtain ⟨k, rfl⟩ : ∃ m, k = m + 1 := ⟨k - 1, by omega⟩
    have hpos : 0 < (leb z).length := by rw [← lebN_length]; exact List.length_pos_iff.2 (lebN_ne z)
    simp only [workpieceref01_PutInt.l0]
    by_cases h : z < 128
    · rw [if_neg (show ¬ (z : Int) ≥ 128 by omega), if_pos (show out.length < 140737488355328 by omega)]
      have e : leb z = [((z : Int)) % 256] := by
        rw [leb, if_pos h]
        congr 1
        omega
      rw [e]
    · rw [if_pos (show (z : Int) ≥ 128 by omega), if_pos (show out.length < 140737488355328 by omega)]
      have e : leb z = (((z % 128 : Nat) : Int) + 128) :: leb (z / 128) := by rw [leb, if_neg h]
      have e1 : IntKind.u64.wrap (Int.tdiv (z : Int) 128) = ((z / 128 : Nat) : Int) := by
        rw [IntKind.wrap_u64, Int.tdiv_eq_ediv_of_nonneg (by omega)]
        omega
      have e2 : (IntKind.u64.wrap ((Int.tmod (z : Int) 128) + 128)) % 256 = ((z % 128 : Nat) : Int) + 128 := by
        rw [IntKind.wrap_u64, Int.tmod_eq_emod_of_nonneg (by omega)]
        omega
      rw [e] at hk hl ⊢
      simp only [List.length_cons] at hk hl
      rw [e1, e2, ih (z / 128) (by omega) k _ (by omega) (by omega) (by simp; omega)]
      simp

theorem ref_PutInt_spec (n : Int) (k : Nat) (hk : 14 ≤ k) : workpieceref01_PutInt.f k n = wire_PutInt.f n := by
  obtain ⟨k, rfl⟩ : ∃ m, k = m + 1 := ⟨k - 1, by omega⟩
  unfold workpieceref01_PutInt.f wire_PutInt.f
  by_cases h0 : n < -4611686018427387903
  · rw [if_pos h0, if_neg (by omega)]
    simp [workpieceref01_PutInt.j0]
  · rw [if_neg h0]
    by_cases h1 : 4611686018427387903 < n
    · rw [if_neg (by omega)]
      have hd : decide (n > 4611686018427387903) = true := decide_eq_true (by omega)
      simp only [workpieceref01_PutInt.j0, hd, if_true]
    · rw [if_pos (by omega)]
      have hd : decide (n > 4611686018427387903) = false := decide_eq_false (by omega)
      simp only [workpieceref01_PutInt.j0, hd, Bool.false_eq_true, if_false]
      rw [zigzag_spec n (by omega) (by omega)]
      have hz := zz_lt n (by omega) (by omega)
      have hl := leb_len 9 (zz n) (by omega)
      simp only [Option.bind_some]
      rw [ref_put_l0 (zz n) k [] (by omega) (by omega) (by simp; omega)]
      simp

/-- The part of a string holds these bytes. -/
theorem part_eq (s : ByteArray) (a c : Nat) (l : List Nat) (hl : ∀ b ∈ l, b < 256) : (strOfNums (l.map fun b : Nat => (b : Int))).toList = (s.extract a c).toList ↔ l = (bys s a).take (c - a) := by
  rw [ByteArray.toList_eq, ByteArray.toList_eq, strOfNums_data]
  have e1 : (s.extract a c).data.toList = (s.data.toList.drop a).take (c - a) := by
    rw [ByteArray.data_extract, Array.toList_extract]
  rw [e1]
  unfold bys
  rw [← List.map_take]
  constructor
  · intro h
    rw [← h, List.map_map, List.map_map]
    conv => lhs; rw [← List.map_id l]
    apply List.map_congr_left
    intro b hb
    have := hl b hb
    simp
    omega
  · intro h
    rw [h, List.map_map, List.map_map]
    conv => rhs; rw [← List.map_id (List.take (c - a) (s.data.toList.drop a))]
    apply List.map_congr_left
    intro b hb
    simp

theorem bys_drop (s : ByteArray) (p i : Nat) : (bys s p).drop i = bys s (p + i) := by
  unfold bys
  rw [← List.map_drop, List.drop_drop]

theorem bys_take {s : ByteArray} {p i b : Nat} (h : p + i < s.size) (hb : bt s ((p + i : Nat) : Int) = (b : Int)) : (bys s p).take (i + 1) = (bys s p).take i ++ [b] := by
  rw [List.take_add, bys_drop, bys_cons h hb]
  rfl

theorem leb_here (p : List Nat) (b : Nat) (hp : ∀ x ∈ p, 128 ≤ x ∧ x < 256) (hb : b < 128) : lebN (val (p ++ [b])) = p ++ [b] ↔ ¬ (b = 0 ∧ p ≠ []) := by
  constructor
  · rintro h ⟨rfl, h0⟩
    have := lebN_short p h0
    rw [h] at this
    simp at this
    omega
  · intro h
    refine lebN_val p b hp hb ?_
    by_cases h0 : b = 0
    · right
      by_cases hn : p = []
      · exact hn
      · exact absurd ⟨h0, hn⟩ h
    · exact Or.inl h0

/-- What the reference asks of a number that it has put together. -/
theorem ref_end (s : ByteArray) (at_ i b k : Nat) (pre : List Nat) (hpre : pre.length = i) (hi : i < 9) (hpb : ∀ x ∈ pre, 128 ≤ x ∧ x < 256) (hb : b < 128) (hp : at_ + i < s.size) (hk : 14 ≤ k)
    (htake : (bys s at_).take (i + 1) = pre ++ [b]) :
    ((workpieceref01_PutInt.f k (unz (val (pre ++ [b])))).bind fun bt148 => (if bt148.2 = 0 then (if 0 ≤ (at_ : Int) then (if (at_ : Int) ≤ ((at_ + i + 1 : Nat) : Int) then (if ((at_ + i + 1 : Nat) : Int) ≤ (s.size : Int) then (if bt148.1.toList = (s.extract (at_ : Int).toNat (((at_ + i + 1 : Nat) : Int)).toNat).toList then (some (unz (val (pre ++ [b])), ((at_ + i + 1 : Nat) : Int), (0 : Int))) else (some (0, 0, 10))) else (none)) else (none)) else (none)) else (some (0, 0, 10))))
    = some (intEnd at_ (some (pre, b))) := by
  have hz := val_lt (pre ++ [b])
  have hz2 : val (pre ++ [b]) < 9223372036854775808 := by
    have h9 : (pre ++ [b]).length ≤ 9 := by simp; omega
    have := Nat.pow_le_pow_right (show 0 < 128 by decide) h9
    omega
  have hbd := unz_bd _ hz2
  rw [ref_PutInt_spec _ k hk]
  unfold wire_PutInt.f
  simp only [intEnd]
  by_cases hM : val (pre ++ [b]) = 9223372036854775807
  · have hl := (unz_low (val (pre ++ [b]))).2 (Or.inl hM)
    rw [if_neg (by omega), if_pos (Or.inr hM)]
    rfl
  · have hl : ¬ unz (val (pre ++ [b])) < -4611686018427387903 := fun h => by rcases (unz_low _).1 h with h | h <;> omega
    rw [if_pos (by omega), zz_unz, leb_eq]
    simp only [Option.bind_some, if_true]
    rw [if_pos (show 0 ≤ (at_ : Int) by omega), if_pos (show (at_ : Int) ≤ ((at_ + i + 1 : Nat) : Int) by omega), if_pos (show ((at_ + i + 1 : Nat) : Int) ≤ (s.size : Int) by omega)]
    simp only [Int.toNat_natCast]
    have hc := part_eq s at_ (at_ + i + 1) (lebN (val (pre ++ [b]))) (lebN_lt _)
    rw [show at_ + i + 1 - at_ = i + 1 by omega, htake, leb_here pre b hpb hb] at hc
    by_cases h0 : b = 0 ∧ pre ≠ []
    · rw [if_neg (fun h => (hc.1 h) h0), if_pos (Or.inl h0)]
    · rw [if_pos (hc.2 h0), if_neg (fun h => by rcases h with h | h; exact h0 h; exact hM h), hpre]

theorem unz_odd (z : Nat) (h : z < 9223372036854775808) (ho : z % 2 = 1) : wrap64 ((wrap64 (-(wrap64 ((z / 2 : Nat) : Int)))) - 1) = unz z := by
  have e : unz z = -((z / 2 : Nat) : Int) - 1 := by unfold unz; rw [if_neg (by omega)]
  rw [e]
  have hq : z / 2 < 4611686018427387904 := by omega
  generalize z / 2 = q at hq ⊢
  have w1 : wrap64 (q : Int) = (q : Int) := by unfold wrap64; omega
  rw [w1]
  have w2 : wrap64 (-(q : Int)) = -(q : Int) := by unfold wrap64; omega
  rw [w2]
  unfold wrap64
  omega
theorem unz_even (z : Nat) (h : z < 9223372036854775808) (ho : ¬ z % 2 = 1) : wrap64 ((z / 2 : Nat) : Int) = unz z := by
  have e : unz z = ((z / 2 : Nat) : Int) := by unfold unz; rw [if_pos (by omega)]
  rw [e]
  unfold wrap64
  omega
theorem div_two (z : Nat) (h : z < 9223372036854775808) : IntKind.u64.wrap (Int.tdiv (z : Int) 2) = ((z / 2 : Nat) : Int) := by
  rw [IntKind.wrap_u64, Int.tdiv_eq_ediv_of_nonneg (by omega)]
  omega
theorem mod_two (z : Nat) : Int.tmod (z : Int) 2 = ((z % 2 : Nat) : Int) := by
  rw [Int.tmod_eq_emod_of_nonneg (by omega)]
  omega
theorem wrap_add (a c : Nat) (h : a + c < 9223372036854775808) : IntKind.u64.wrap ((a : Int) + (c : Int)) = ((a + c : Nat) : Int) := by
  rw [IntKind.wrap_u64]
  omega

theorem ref_l0 (s : ByteArray) (hs : s.size ≤ 4611686018427387904) (at_ : Nat) (hat : at_ ≤ s.size) (d : Nat) : ∀ (i k : Nat) (pre : List Nat), pre.length = i → i + d = 9 → (∀ x ∈ pre, 128 ≤ x ∧ x < 256) → (bys s at_).take i = pre → 2 * d + 20 < k →
    workpieceref01_Int.l0 k s (at_ : Int) ((val pre : Nat) : Int) (i : Int) = some (intEnd at_ ((scan d (bys s (at_ + i))).map fun q => (pre ++ q.1, q.2))) := by
  induction d with
  | zero =>
    intro i k pre hpre hi _ _ hk
    obtain ⟨k, rfl⟩ : ∃ m, k = m + 2 := ⟨k - 2, by omega⟩
    simp only [workpieceref01_Int.l0]
    rw [if_neg (by omega)]
    simp only [workpieceref01_Int.j2, Bool.false_eq_true, if_false]
    rfl
  | succ d ih =>
    intro i k pre hpre hi hpb htk hk
    obtain ⟨k, rfl⟩ : ∃ m, k = m + 2 := ⟨k - 2, by omega⟩
    have ew : wrap64 ((at_ : Int) + (i : Int)) = ((at_ + i : Nat) : Int) := by unfold wrap64; omega
    have e7 : wrap64 (7 * (i : Int)) = ((7 * i : Nat) : Int) := by unfold wrap64; omega
    have e1 : wrap64 ((i : Int) + 1) = ((i + 1 : Nat) : Int) := by unfold wrap64; omega
    have e2 : wrap64 (((at_ + i : Nat) : Int) + 1) = ((at_ + i + 1 : Nat) : Int) := by unfold wrap64; omega
    simp only [workpieceref01_Int.l0]
    rw [if_pos (show (i : Int) < 9 by omega), ew]
    by_cases hp : at_ + i < s.size
    · have hd : decide (((at_ + i : Nat) : Int) < (s.size : Int)) = true := decide_eq_true (by omega)
      obtain ⟨b, hb, hb2⟩ := bt_nat s (at_ + i)
      simp only [workpieceref01_Int.j2, hd, if_true]
      rw [ew, e7, e1, e2, bys_cons hp hb, hb]
      have hw : IntKind.u64.wrap (b : Int) = (b : Int) := by rw [IntKind.wrap_u64]; omega
      have ht : Int.tmod (b : Int) 128 = ((b % 128 : Nat) : Int) := by rw [Int.tmod_eq_emod_of_nonneg (by omega)]; omega
      have hv : val (pre ++ [b]) = val pre + 128 ^ i * (b % 128) := by rw [val_snoc, hpre]
      have hz := val_lt (pre ++ [b])
      have hz2 : val (pre ++ [b]) < 9223372036854775808 := by
        have h9 : (pre ++ [b]).length ≤ 9 := by simp; omega
        have := Nat.pow_le_pow_right (show 0 < 128 by decide) h9
        omega
      have hz3 : IntKind.u64.wrap (((val pre : Nat) : Int) + ((128 ^ i * (b % 128) : Nat) : Int)) = ((val (pre ++ [b]) : Nat) : Int) := by
        rw [hv] at hz2 ⊢
        exact wrap_add _ _ hz2
      have htake := bys_take hp hb
      rw [htk] at htake
      rw [hw, ht, shl_digit _ i (by omega) (by omega), hz3]
      rw [if_pos (show 0 ≤ ((at_ + i : Nat) : Int) by omega), if_pos (show ((at_ + i : Nat) : Int) < (s.size : Int) by omega), if_pos (show 0 ≤ ((7 * i : Nat) : Int) by omega)]
      by_cases h128 : 128 ≤ b
      · rw [if_pos (show (b : Int) ≥ 128 by omega), ih (i + 1) k (pre ++ [b]) (by simp [hpre]) (by omega) ?_ htake (by omega)]
        · simp only [scan]
          rw [if_neg (show ¬ b < 128 by omega), Option.map_map]
          congr 3
          funext q
          simp
        · intro x hx
          rcases List.mem_append.1 hx with h | h
          · exact hpb x h
          · simp at h
            omega
      · rw [if_neg (show ¬ (b : Int) ≥ 128 by omega)]
        have he := ref_end s at_ i b k pre hpre (by omega) hpb (by omega) hp (by omega) htake
        simp only [scan]
        rw [if_pos (show b < 128 by omega)]
        simp only [Option.map_some, List.append_nil]
        rw [← he]
        generalize val (pre ++ [b]) = z at hz2
        rw [div_two z hz2, mod_two z]
        by_cases hodd : z % 2 = 1
        · rw [if_pos (show ((z % 2 : Nat) : Int) = 1 by omega), unz_odd z hz2 hodd]
        · rw [if_neg (show ¬ ((z % 2 : Nat) : Int) = 1 by omega), unz_even z hz2 hodd]
    · have hd : decide (((at_ + i : Nat) : Int) < (s.size : Int)) = false := decide_eq_false (by omega)
      simp only [workpieceref01_Int.j2, hd, Bool.false_eq_true, if_false]
      rw [bys_nil (by omega)]
      rfl

theorem ref_Int_spec (s : ByteArray) (hs : s.size ≤ 4611686018427387904) (at_ : Int) (k : Nat) (hk : 50 ≤ k) : workpieceref01_Int.f k s at_ = some (intSpec s at_) := by
  obtain ⟨k, rfl⟩ : ∃ m, k = m + 1 := ⟨k - 1, by omega⟩
  unfold workpieceref01_Int.f intSpec
  by_cases h0 : at_ < 0
  · rw [if_pos h0, if_pos (Or.inl h0)]
    simp [workpieceref01_Int.j0]
  · obtain ⟨p, rfl⟩ := Int.eq_ofNat_of_zero_le (Int.not_lt.1 h0)
    rw [if_neg h0]
    by_cases h1 : s.size < p
    · rw [if_pos (Or.inr (by omega))]
      have hd : decide ((p : Int) > (s.size : Int)) = true := decide_eq_true (by omega)
      simp only [workpieceref01_Int.j0, hd, if_true]
    · rw [if_neg (by omega)]
      have hd : decide ((p : Int) > (s.size : Int)) = false := decide_eq_false (by omega)
      have e := ref_l0 s hs p (by omega) 9 0 k [] rfl rfl (by simp) rfl (by omega)
      simp only [workpieceref01_Int.j0, hd, Bool.false_eq_true, if_false, Int.toNat_natCast]
      simpa [val] using e

end Go.Proofs.YtodaajokphoioaaDoor.L
