/- wire.Sum and workpieceref01.Sum: the walks. The first under the condition that the table holds its sixteen numbers. -/
import Derived.Test.YtodaajokphoioaaDoorProg
import Derived.Test.YtodaajokphoioaaDoorBits
import Derived.Test.YtodaajokphoioaaDoorWMore
import Derived.Outline
import Derived.Lib.Hide
import Derived.WalkKit
import Derived.LoopTactic
import Derived.KernelRfl
namespace Go.Proofs.YtodaajokphoioaaDoor
open Go.RowKit Go.Proofs.YtodaajokphoioaaDoorW.PrintWords

def tab : List Nat := [0x00000000, 0x105EC76F, 0x20BD8EDE, 0x30E349B1, 0x417B1DBC, 0x5125DAD3, 0x61C69362, 0x7198540D, 0x82F63B78, 0x92A8FC17, 0xA24BB5A6, 0xB21572C9, 0xC38D26C4, 0xD3D3E1AB, 0xE330A81A, 0xF36E6F75]
def tabN (i : Nat) : Nat := tab.getD i 0
theorem tabN_lt (i : Nat) : tabN i < 4294967296 := by
  have h : ∀ i, i < 16 → tabN i < 4294967296 := by decide
  by_cases hi : i < 16
  · exact h i hi
  · have : tabN i = 0 := by
      unfold tabN
      rw [List.getD_eq_getElem?_getD, List.getElem?_eq_none (by simp [tab]; omega)]
      rfl
    omega
/-- The variable nibbles holds the table. -/
def Nib (w : World) : Prop := ∀ i : Nat, i < 16 → w.cell? ⟨0, i, none⟩ = some (.int .u32 (tabN i))
theorem nib_below {w W : World} (h : Nib w) (hb : Below w.heap.size w W) : Nib W := fun i hi => pw_cell_below hb (h i hi)
def nib (r : Nat) : Nat := (r / 16) ^^^ tabN (r % 16)
theorem nib_lt {r : Nat} (h : r < 4294967296) : nib r < 4294967296 := by
  unfold nib
  have h1 := tabN_lt (r % 16)
  exact Nat.xor_lt_two_pow (n := 32) (by omega) (by omega)
def crcStep (r : Nat) (b : UInt8) : Nat := nib (nib (r ^^^ b.toNat))
theorem crcStep_lt {r : Nat} (h : r < 4294967296) (b : UInt8) : crcStep r b < 4294967296 :=
  nib_lt (nib_lt (Nat.xor_lt_two_pow (n := 32) (by omega) (by have := b.toNat_lt; omega)))
def crc (l : List UInt8) : Nat := l.foldl crcStep 4294967295
theorem crc_lt (l : List UInt8) : crc l < 4294967296 := by
  unfold crc
  have h : ∀ (l : List UInt8) r, r < 4294967296 → l.foldl crcStep r < 4294967296 := by
    intro l
    induction l with
    | nil => exact fun r h => h
    | cons b l ih => exact fun r h => ih _ (crcStep_lt h b)
  exact h l _ (by decide)
theorem crc_snoc (l : List UInt8) (b : UInt8) : crc (l ++ [b]) = crcStep (crc l) b := by simp [crc]

theorem take_snoc (s : ByteArray) (k : Nat) (h : k < s.size) : s.data.toList.take (k + 1) = s.data.toList.take k ++ [s[k]] := by
  rw [List.take_succ_eq_append_getElem (by simpa using h)]; rfl

theorem u32_xor (a b : Nat) (ha : a < 4294967296) (hb : b < 4294967296) : bits .xor .u32 (a : Int) (b : Int) = ((a ^^^ b : Nat) : Int) := by
  have hx : a ^^^ b < 2 ^ 32 := Nat.xor_lt_two_pow (by omega) (by omega)
  have h1 : (BitVec.ofInt 32 (a : Int)).toNat = a := by
    rw [BitVec.ofInt_natCast, BitVec.toNat_ofNat]; exact Nat.mod_eq_of_lt (by omega)
  have h2 : (BitVec.ofInt 32 (b : Int)).toNat = b := by
    rw [BitVec.ofInt_natCast, BitVec.toNat_ofNat]; exact Nat.mod_eq_of_lt (by omega)
  show IntKind.u32.wrap ((BitVec.ofInt 32 (a : Int) ^^^ BitVec.ofInt 32 (b : Int)).toNat : Int) = _
  rw [BitVec.toNat_xor, h1, h2, IntKind.wrap_u32]
  omega
theorem u32_and15 (a : Nat) (ha : a < 4294967296) : bits .and .u32 (a : Int) 15 = ((a % 16 : Nat) : Int) := by
  have hk : ∀ n : Int, 0 ≤ n → n < 2 ^ 32 → IntKind.u32.wrap n = n := fun n h0 h1 => by rw [IntKind.wrap_u32]; omega
  have e := bits_mask .u32 32 (by decide) hk 4 (by decide) (a : Int) (by omega) (by omega)
  rw [show ((2 : Int) ^ 4 - 1) = 15 by decide] at e
  rw [e]
  omega

theorem u32_not (a : Nat) (ha : a < 4294967296) : bits .xor .u32 IntKind.u32.max (a : Int) = ((4294967295 - a : Nat) : Int) := by
  have e := u32_xor 4294967295 a (by decide) ha
  have e2 : 4294967295 ^^^ a = 4294967295 - a := by
    have h1 : BitVec.ofNat 32 a ^^^ BitVec.allOnes 32 = ~~~ BitVec.ofNat 32 a := BitVec.xor_allOnes
    have h2 := congrArg BitVec.toNat h1
    rw [BitVec.toNat_xor, BitVec.toNat_not, BitVec.toNat_ofNat, BitVec.toNat_allOnes, Nat.mod_eq_of_lt ha, Nat.xor_comm] at h2
    exact h2
  rw [e2] at e
  exact e
/-- What one lookup in the table comes to, in the walk's words. -/
theorem nib_facts {w : World} (hN : Nib w) {R : Nat} (h : R < 4294967296) :
    ∃ i q t : Nat, i < 16 ∧ bits .and .u32 (R : Int) 15 = (i : Int) ∧ (R : Int) / 16 = (q : Int) ∧ w.cell? ⟨0, i, none⟩ = some (.int .u32 (t : Int)) ∧ bits .xor .u32 (q : Int) (t : Int) = ((nib R : Nat) : Int) :=
  ⟨R % 16, R / 16, tabN (R % 16), by omega, u32_and15 R h, by omega, hN _ (by omega), u32_xor _ _ (by omega) (tabN_lt _)⟩

set_option maxHeartbeats 1000000 in
theorem wire_Sum.walk (s : ByteArray) (w : World) (hN : Hid (Nib w)) (hs : s.size ≤ 9223372036854775807) :
    Calls Tryd.prog 21 #[.string s] w fun e w' => e = .returned (.int .i64 ((4294967295 - crc s.data.toList : Nat) : Int)) ∧ w' = w := by
  go_enter Tryd.func21, Tryd.ntmps21
  go_wp2
  go_loop [3, 7] (fun r i => ∃ k : Nat, k ≤ s.size ∧ i = .int .i64 k ∧ r = .int .u32 ((crc (s.data.toList.take k) : Nat) : Int)) (fun _ i => s.size - (intOf i).toNat)
  case atStart => exact ⟨0, Nat.zero_le _, rfl, rfl⟩
  case round =>
    obtain ⟨k, hk, rfl, rfl⟩ := hrel
    by_cases hlt : k < s.size
    · have hts := take_snoc s k hlt
      have hcl := crc_lt (s.data.toList.take k)
      have hsn := crc_snoc (s.data.toList.take k) s[k]
      rw [← hts] at hsn
      clear hts
      generalize crc (s.data.toList.take k) = r at hcl hsn ⊢
      have hbl : s[k].toNat < 256 := s[k].toNat_lt
      have hr1 : r ^^^ s[k].toNat < 4294967296 := Nat.xor_lt_two_pow (n := 32) (by omega) (by omega)
      have e1 := u32_xor r s[k].toNat hcl (by omega)
      unfold crcStep at hsn
      generalize r ^^^ s[k].toNat = R1 at hr1 e1 hsn
      have hr2 := nib_lt hr1
      obtain ⟨i1, q1, t1, hi1, a1, d1, c1, x1⟩ := nib_facts hN.out hr1
      generalize nib R1 = R2 at hr2 x1 hsn
      have hr3 := nib_lt hr2
      obtain ⟨i2, q2, t2, hi2, a2, d2, c2, x2⟩ := nib_facts hN.out hr2
      generalize nib R2 = R3 at hr3 x2 hsn
      have HS := Lib.hid hsn
      clear hsn
      go_wp2
      go_round
      case rel => exact ⟨k + 1, by omega, by go_num, by rw [HS.out]⟩
      case measure => simp [intOf]; omega
    · have hke : k = s.size := by omega
      subst hke
      have hall : s.data.toList.take s.size = s.data.toList := List.take_of_length_le (Nat.le_of_eq (by simp))
      rw [hall]
      have hcl := crc_lt s.data.toList
      have hx : bits .xor .u32 IntKind.u32.max ((crc s.data.toList : Nat) : Int) = ((4294967295 - crc s.data.toList : Nat) : Int) := u32_not _ hcl
      obtain ⟨a, hA⟩ : ∃ a, 4294967295 - crc s.data.toList = a := ⟨_, rfl⟩
      have ha : a < 4294967296 := by omega
      have HA := Lib.hid hA
      rw [hA] at hx
      clear hA
      generalize crc s.data.toList = r at hcl hx ⊢
      have hsg : IntKind.u32.signed = false := rfl
      go_wp2
      go_ret
      exact ⟨by rw [HA.out]; rfl, rfl⟩

/-- What Sum answers. -/
def wire_Sum.f (a0 : ByteArray) : Option Int := if a0.size ≤ 9223372036854775807 then some ((4294967295 - crc a0.data.toList : Nat) : Int) else none
theorem wire_Sum.calls (a0 : ByteArray) (r : Int) (w : World) (h : wire_Sum.f a0 = some r) (hN : Nib w) :
    Calls Tryd.prog 21 #[.string a0] w fun e w' => e = .returned (.int .i64 r) ∧ Drawn0 w w' := by
  unfold wire_Sum.f at h
  split at h
  · rename_i hs
    simp only [Option.some.injEq] at h
    subst h
    exact (wire_Sum.walk a0 w (Lib.hid hN) hs).mono fun e w' ⟨h1, h2⟩ => ⟨h1, by rw [h2]; exact Drawn0.refl _⟩
  · cases h

/-! ### The reference's -/
def rbit (r : Nat) : Nat := if r % 2 = 1 then (r / 2) ^^^ 2197175160 else r / 2
def rbits : Nat → Nat → Nat
  | 0, r => r
  | n + 1, r => rbit (rbits n r)
theorem rbit_lt {r : Nat} (h : r < 4294967296) : rbit r < 4294967296 := by
  unfold rbit
  split
  · exact Nat.xor_lt_two_pow (n := 32) (by omega) (by omega)
  · omega
theorem rbits_lt {r : Nat} (h : r < 4294967296) : ∀ n, rbits n r < 4294967296
  | 0 => h
  | n + 1 => rbit_lt (rbits_lt h n)
def refStep (r : Nat) (b : UInt8) : Nat := rbits 8 (r ^^^ b.toNat)
def rcrc (l : List UInt8) : Nat := l.foldl refStep 4294967295
theorem refStep_lt {r : Nat} (h : r < 4294967296) (b : UInt8) : refStep r b < 4294967296 :=
  rbits_lt (Nat.xor_lt_two_pow (n := 32) (by omega) (by have := b.toNat_lt; omega)) 8
theorem rcrc_lt (l : List UInt8) : rcrc l < 4294967296 := by
  unfold rcrc
  have h : ∀ (l : List UInt8) r, r < 4294967296 → l.foldl refStep r < 4294967296 := by
    intro l
    induction l with
    | nil => exact fun r h => h
    | cons b l ih => exact fun r h => ih _ (refStep_lt h b)
  exact h l _ (by decide)
theorem rcrc_snoc (l : List UInt8) (b : UInt8) : rcrc (l ++ [b]) = refStep (rcrc l) b := by simp [rcrc]

set_option maxHeartbeats 1000000 in
theorem workpieceref01_Sum.walk (s : ByteArray) (w : World) (hs : s.size ≤ 9223372036854775807) :
    Calls Tryd.prog 22 #[.string s] w fun e w' => e = .returned (.int .i64 ((4294967295 - rcrc s.data.toList : Nat) : Int)) ∧ w' = w := by
  go_enter Tryd.func22, Tryd.ntmps22
  go_wp2
  go_loop [3, 4, 5, 6] (fun r i _ _ => ∃ k : Nat, k ≤ s.size ∧ i = .int .i64 k ∧ r = .int .u32 ((rcrc (s.data.toList.take k) : Nat) : Int)) (fun _ i _ _ => s.size - (intOf i).toNat)
  case atStart => exact ⟨0, Nat.zero_le _, rfl, rfl⟩
  case round =>
    obtain ⟨k, hk, rfl, rfl⟩ := hrel
    by_cases hlt : k < s.size
    · have hts := take_snoc s k hlt
      have hcl := rcrc_lt (s.data.toList.take k)
      have hsn := rcrc_snoc (s.data.toList.take k) s[k]
      rw [← hts] at hsn
      clear hts
      generalize rcrc (s.data.toList.take k) = r at hcl hsn ⊢
      have hbl : s[k].toNat < 256 := s[k].toNat_lt
      have hr1 : r ^^^ s[k].toNat < 4294967296 := Nat.xor_lt_two_pow (n := 32) (by omega) (by omega)
      have e1 := u32_xor r s[k].toNat hcl (by omega)
      unfold refStep at hsn
      generalize r ^^^ s[k].toNat = R1 at hr1 e1 hsn
      have HS := Lib.hid hsn
      clear hsn
      go_wp2
      clear e1 hbl
      go_loop [3, 5, 6] (fun r j _ => ∃ m : Nat, m ≤ 8 ∧ j = .int .i64 m ∧ r = .int .u32 ((rbits m R1 : Nat) : Int)) (fun _ j _ => 8 - (intOf j).toNat)
      case atStart => exact ⟨0, Nat.zero_le _, rfl, rfl⟩
      case round =>
        obtain ⟨m, hm, rfl, rfl⟩ := hrel
        have hR := rbits_lt hr1 m
        by_cases hlt2 : m < 8
        · have hsn : rbits (m + 1) R1 = rbit (rbits m R1) := rfl
          unfold rbit at hsn
          generalize rbits m R1 = R at hR hsn ⊢
          by_cases ho : R % 2 = 1
          · rw [if_pos ho] at hsn
            have hb : ((R : Int) % 2 == 1) = true := beq_iff_eq.2 (by omega)
            have x0 : bits .xor .u32 ((R / 2 : Nat) : Int) 2197175160 = ((R / 2 ^^^ 2197175160 : Nat) : Int) := u32_xor (R / 2) 2197175160 (by omega) (by decide)
            rw [← hsn] at x0
            obtain ⟨q, hq⟩ : ∃ q : Nat, R / 2 = q := ⟨_, rfl⟩
            have d1 : (R : Int) / 2 = (q : Int) := by omega
            rw [hq] at x0
            have hq2 : q < 4294967296 := by omega
            obtain ⟨R', hR'⟩ : ∃ R', rbits (m + 1) R1 = R' := ⟨_, rfl⟩
            rw [hR'] at x0
            have HR := Lib.hid hR'
            clear hsn hq hR'
            go_wp2
            go_round
            case rel => exact ⟨m + 1, by omega, by go_num, by rw [HR.out]⟩
            case measure => simp [intOf]; omega
          · rw [if_neg ho] at hsn
            have hb : ((R : Int) % 2 == 1) = false := beq_eq_false_iff_ne.2 (by omega)
            obtain ⟨R', hR'⟩ : ∃ R', rbits (m + 1) R1 = R' := ⟨_, rfl⟩
            rw [hR'] at hsn
            have d1 : (R : Int) / 2 = (R' : Int) := by omega
            have HR := Lib.hid hR'
            clear hsn hR'
            go_wp2
            go_round
            case rel => exact ⟨m + 1, by omega, by go_num, by rw [HR.out]⟩
            case measure => simp [intOf]; omega
        · obtain rfl : m = 8 := by omega
          generalize rbits 8 R1 = R8 at HS hR ⊢
          go_wp2
          go_round
          case rel => exact ⟨k + 1, by omega, by go_num, by rw [HS.out]⟩
          case measure => simp [intOf]; omega
    · have hke : k = s.size := by omega
      subst hke
      have hall : s.data.toList.take s.size = s.data.toList := List.take_of_length_le (Nat.le_of_eq (by simp))
      rw [hall]
      have hcl := rcrc_lt s.data.toList
      have hx : bits .xor .u32 IntKind.u32.max ((rcrc s.data.toList : Nat) : Int) = ((4294967295 - rcrc s.data.toList : Nat) : Int) := u32_not _ hcl
      obtain ⟨a, hA⟩ : ∃ a, 4294967295 - rcrc s.data.toList = a := ⟨_, rfl⟩
      have ha : a < 4294967296 := by omega
      have HA := Lib.hid hA
      rw [hA] at hx
      clear hA
      generalize rcrc s.data.toList = r at hcl hx ⊢
      have hsg : IntKind.u32.signed = false := rfl
      go_wp2
      go_ret
      exact ⟨by rw [HA.out]; rfl, rfl⟩

def workpieceref01_Sum.f (a0 : ByteArray) : Option Int := if a0.size ≤ 9223372036854775807 then some ((4294967295 - rcrc a0.data.toList : Nat) : Int) else none
theorem workpieceref01_Sum.calls (a0 : ByteArray) (r : Int) (w : World) (h : workpieceref01_Sum.f a0 = some r) :
    Calls Tryd.prog 22 #[.string a0] w fun e w' => e = .returned (.int .i64 r) ∧ Drawn0 w w' := by
  unfold workpieceref01_Sum.f at h
  split at h
  · rename_i hs
    simp only [Option.some.injEq] at h
    subst h
    exact (workpieceref01_Sum.walk a0 w hs).mono fun e w' ⟨h1, h2⟩ => ⟨h1, by rw [h2]; exact Drawn0.refl _⟩
  · cases h

/-! ### Both are one -/
theorem rbit_xor (a b : Nat) : rbit (a ^^^ b) = rbit a ^^^ rbit b := by
  have h1 : (a ^^^ b) / 2 = a / 2 ^^^ b / 2 := by
    have := Nat.xor_div_two_pow (a := a) (b := b) (n := 1)
    simpa using this
  have h2 := Nat.xor_mod_two_eq_one (a := a) (b := b)
  unfold rbit
  rw [h1]
  have ac : ∀ x y z u : Nat, (x ^^^ y) ^^^ (z ^^^ u) = (x ^^^ z) ^^^ (y ^^^ u) := fun x y z u => by
    rw [Nat.xor_assoc, Nat.xor_assoc, ← Nat.xor_assoc y, ← Nat.xor_assoc z, Nat.xor_comm y z]
  by_cases ha : a % 2 = 1 <;> by_cases hb : b % 2 = 1
  · rw [if_neg (by rw [h2]; simp [ha, hb]), if_pos ha, if_pos hb, ac]
    simp
  · rw [if_pos (by rw [h2]; simp [ha, hb]), if_pos ha, if_neg hb, Nat.xor_assoc, Nat.xor_comm (b / 2), ← Nat.xor_assoc]
  · rw [if_pos (by rw [h2]; simp [ha, hb]), if_neg ha, if_pos hb, Nat.xor_assoc]
  · rw [if_neg (by rw [h2]; simp [ha, hb]), if_neg ha, if_neg hb]
theorem rbits_xor (n a b : Nat) : rbits n (a ^^^ b) = rbits n a ^^^ rbits n b := by
  induction n with
  | zero => rfl
  | succ n ih => simp only [rbits, ih, rbit_xor]
theorem rbit_even (m : Nat) : rbit (2 * m) = m := by
  unfold rbit
  rw [if_neg (by omega)]
  omega
theorem split16 (r : Nat) : r = 16 * (r / 16) ^^^ r % 16 := by
  apply Nat.eq_of_testBit_eq
  intro i
  rw [Nat.testBit_xor, show 16 * (r / 16) = 2 ^ 4 * (r / 16) by rfl, show r % 16 = r % 2 ^ 4 by rfl, show r / 16 = r / 2 ^ 4 by rfl, Nat.testBit_two_pow_mul, Nat.testBit_mod_two_pow, Nat.testBit_div_two_pow]
  by_cases h : 4 ≤ i
  · simp [h, show ¬ i < 4 by omega, show i - 4 + 4 = i by omega]
  · simp [h, show i < 4 by omega]
theorem rbits_add (n m r : Nat) : rbits (n + m) r = rbits n (rbits m r) := by
  induction n with
  | zero => simp [rbits]
  | succ n ih => rw [show n + 1 + m = (n + m) + 1 by omega]; simp only [rbits, ih]
theorem nib_eq (r : Nat) : nib r = rbits 4 r := by
  have h : ∀ x, x < 16 → rbits 4 x = tabN x := by decide
  have h2 : ∀ q, rbits 4 (16 * q) = q := fun q => by
    show rbit (rbit (rbit (rbit (16 * q)))) = q
    rw [show 16 * q = 2 * (2 * (2 * (2 * q))) by omega, rbit_even, rbit_even, rbit_even, rbit_even]
  conv => rhs; rw [split16 r]
  rw [rbits_xor, h2, h _ (by omega)]
  rfl
theorem crcStep_eq (r : Nat) (b : UInt8) : crcStep r b = refStep r b := by
  unfold crcStep refStep
  rw [nib_eq, nib_eq, ← rbits_add]
theorem crc_eq (l : List UInt8) : crc l = rcrc l := by
  unfold crc rcrc
  congr 1
  funext r b
  exact crcStep_eq r b
theorem sum_eq (s : ByteArray) : wire_Sum.f s = workpieceref01_Sum.f s := by
  unfold wire_Sum.f workpieceref01_Sum.f
  rw [crc_eq]

/-- The length of a part of a string, for the walk's texts. -/
theorem part_false {a : ByteArray} {n m k : Nat} (h : n ≤ a.size) (hf : (m < k + (a.extract 0 n).size) = False) : (m < k + n) = False := by
  rw [ByteArray.size_extract, Nat.min_eq_left h] at hf
  exact hf

end Go.Proofs.YtodaajokphoioaaDoor
