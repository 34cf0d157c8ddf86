/- WireSumAffine over plain numbers and lists: a round of the checksum is linear over XOR. -/
import Derived.Test.YtodaajokphoioaaDoorLx6
import Derived.Test.YtodaajokphoioaaDoorFacts
namespace Go.Proofs.YtodaajokphoioaaDoor.Pure
open Go.RowKit Go.Proofs.YtodaajokphoioaaDoor Go.Proofs.YtodaajokphoioaaDoor.L Go.Proofs.YtodaajokphoioaaDoorW.PrintWords

theorem x3 (a b c d e f : Nat) : (a ^^^ b ^^^ c) ^^^ (d ^^^ e ^^^ f) = (a ^^^ d) ^^^ (b ^^^ e) ^^^ (c ^^^ f) := by
  apply Nat.eq_of_testBit_eq
  intro i
  simp only [Nat.testBit_xor]
  cases a.testBit i <;> cases b.testBit i <;> cases c.testBit i <;> cases d.testBit i <;> cases e.testBit i <;> cases f.testBit i <;> rfl

theorem u8_xor_nat (a b : Nat) (ha : a < 256) (hb : b < 256) : bits .xor .u8 (a : Int) (b : Int) = ((a ^^^ b : Nat) : Int) := by
  have hx : a ^^^ b < 2 ^ 8 := Nat.xor_lt_two_pow (by omega) (by omega)
  have h1 : (BitVec.ofInt 8 (a : Int)).toNat = a := by
    rw [BitVec.ofInt_natCast, BitVec.toNat_ofNat]; exact Nat.mod_eq_of_lt (by omega)
  have h2 : (BitVec.ofInt 8 (b : Int)).toNat = b := by
    rw [BitVec.ofInt_natCast, BitVec.toNat_ofNat]; exact Nat.mod_eq_of_lt (by omega)
  show IntKind.u8.wrap ((BitVec.ofInt 8 (a : Int) ^^^ BitVec.ofInt 8 (b : Int)).toNat : Int) = _
  rw [BitVec.toNat_xor, h1, h2, IntKind.wrap_u8]
  omega
theorem i64_xor_nat (a b : Nat) (ha : a < 4294967296) (hb : b < 4294967296) : bits .xor .i64 (a : Int) (b : Int) = ((a ^^^ b : Nat) : Int) := by
  have hx : a ^^^ b < 2 ^ 32 := Nat.xor_lt_two_pow (by omega) (by omega)
  have h1 : (BitVec.ofInt 64 (a : Int)).toNat = a := by
    rw [BitVec.ofInt_natCast, BitVec.toNat_ofNat]; exact Nat.mod_eq_of_lt (by omega)
  have h2 : (BitVec.ofInt 64 (b : Int)).toNat = b := by
    rw [BitVec.ofInt_natCast, BitVec.toNat_ofNat]; exact Nat.mod_eq_of_lt (by omega)
  show IntKind.i64.wrap ((BitVec.ofInt 64 (a : Int) ^^^ BitVec.ofInt 64 (b : Int)).toNat : Int) = _
  rw [BitVec.toNat_xor, h1, h2, IntKind.wrap_i64]
  omega

/-- The checksum's register over a list of numbers. -/
def nstep (r b : Nat) : Nat := rbits 8 (r ^^^ b)
def ncrc (l : List Nat) (r : Nat) : Nat := l.foldl nstep r
theorem rcrc_n (l : List UInt8) : rcrc l = ncrc (l.map UInt8.toNat) 4294967295 := by
  unfold rcrc ncrc
  rw [List.foldl_map]
  rfl

/-- XOR of three lists, place by place. -/
def xor3 : List Nat → List Nat → List Nat → List Nat
  | a :: us, b :: vs, c :: ws => (a ^^^ b ^^^ c) :: xor3 us vs ws
  | _, _, _ => []

theorem ncrc_xor : ∀ (us vs ws : List Nat), us.length = vs.length → us.length = ws.length → ∀ x y z, ncrc (xor3 us vs ws) (x ^^^ y ^^^ z) = ncrc us x ^^^ ncrc vs y ^^^ ncrc ws z
  | [], [], [], _, _ => fun x y z => rfl
  | a :: us, b :: vs, c :: ws, h1, h2 => fun x y z => by
    have ih := ncrc_xor us vs ws (by simpa using h1) (by simpa using h2) (nstep x a) (nstep y b) (nstep z c)
    have e : nstep (x ^^^ y ^^^ z) (a ^^^ b ^^^ c) = nstep x a ^^^ nstep y b ^^^ nstep z c := by
      unfold nstep
      rw [x3, rbits_xor, rbits_xor]
    show ncrc (xor3 us vs ws) (nstep (x ^^^ y ^^^ z) (a ^^^ b ^^^ c)) = _
    rw [e]
    exact ih
  | [], _ :: _, _, h, _ => by simp at h
  | _ :: _, [], _, h, _ => by simp at h
  | [], [], _ :: _, _, h => by simp at h
  | _ :: _, _ :: _, [], _, h => by simp at h

theorem rcrc_lt' (l : List UInt8) : rcrc l < 4294967296 := rcrc_lt l

theorem not_xor3 (x y z : Nat) (hx : x < 4294967296) (hy : y < 4294967296) (hz : z < 4294967296) : (4294967295 - x) ^^^ (4294967295 - y) ^^^ (4294967295 - z) = 4294967295 - (x ^^^ y ^^^ z) := by
  have n1 : ∀ a, a < 4294967296 → 4294967295 - a = a ^^^ 4294967295 := by
    intro a ha
    have h1 : BitVec.ofNat 32 a ^^^ BitVec.allOnes 32 = ~~~ BitVec.ofNat 32 a := BitVec.xor_allOnes
    have h2 := congrArg BitVec.toNat h1
    rw [BitVec.toNat_xor, BitVec.toNat_not, BitVec.toNat_ofNat, BitVec.toNat_allOnes, Nat.mod_eq_of_lt ha] at h2
    exact h2.symm
  have h3 : x ^^^ y ^^^ z < 4294967296 := Nat.xor_lt_two_pow (n := 32) (Nat.xor_lt_two_pow (n := 32) hx hy) hz
  rw [n1 x hx, n1 y hy, n1 z hz, n1 _ h3]
  apply Nat.eq_of_testBit_eq
  intro i
  simp only [Nat.testBit_xor]
  cases x.testBit i <;> cases y.testBit i <;> cases z.testBit i <;> cases (4294967295).testBit i <;> rfl

/-- The three strings' first n bytes, joined place by place. -/
def mixN (a b c : ByteArray) (i : Nat) : Nat := (bt a (i : Int)).toNat ^^^ (bt b (i : Int)).toNat ^^^ (bt c (i : Int)).toNat

theorem xor3_bys (a b c : ByteArray) (n : Nat) : ∀ d p, p + d = n → n ≤ a.size → n ≤ b.size → n ≤ c.size → xor3 ((bys a p).take d) ((bys b p).take d) ((bys c p).take d) = (List.range' p d).map (mixN a b c)
  | 0, p, _, _, _, _ => by simp [xor3]
  | d + 1, p, h, ha, hb, hc => by
    obtain ⟨x, hx, _⟩ := bt_nat a p
    obtain ⟨y, hy, _⟩ := bt_nat b p
    obtain ⟨z, hz, _⟩ := bt_nat c p
    rw [bys_cons (by omega) hx, bys_cons (by omega) hy, bys_cons (by omega) hz]
    simp only [List.take_succ_cons, xor3, List.range'_succ, List.map_cons]
    rw [xor3_bys a b c n d (p + 1) (by omega) ha hb hc]
    congr 1
    unfold mixN
    rw [hx, hy, hz]
    simp

theorem sum_of (s : ByteArray) (l : List Nat) (h : bys s 0 = l) (hs : s.size ≤ 9223372036854775807) : wire_Sum.f s = some ((4294967295 - ncrc l 4294967295 : Nat) : Int) := by
  rw [sum_eq]
  unfold workpieceref01_Sum.f
  rw [if_pos hs, rcrc_n, ← bys_zero, h]

theorem mix_lt (a b c : ByteArray) (i : Nat) : mixN a b c i < 256 := by
  unfold mixN
  obtain ⟨x, hx, hx2⟩ := bt_nat a i
  obtain ⟨y, hy, hy2⟩ := bt_nat b i
  obtain ⟨z, hz, hz2⟩ := bt_nat c i
  rw [hx, hy, hz]
  exact Nat.xor_lt_two_pow (n := 8) (Nat.xor_lt_two_pow (n := 8) (by simpa using hx2) (by simpa using hy2)) (by simpa using hz2)

/-- The list behind i rounds. -/
def upTo (a b c : ByteArray) (n i : Nat) : List Int := ((List.range' 0 i).map fun j => ((mixN a b c j : Nat) : Int)) ++ List.replicate (n - i) 0

theorem upTo_len (a b c : ByteArray) (n i : Nat) (h : i ≤ n) : (upTo a b c n i).length = n := by
  unfold upTo
  simp
  omega
theorem upTo_set (a b c : ByteArray) (n i : Nat) (h : i < n) : (upTo a b c n i).set i ((mixN a b c i : Nat) : Int) = upTo a b c n (i + 1) := by
  unfold upTo
  rw [List.set_append_right _ _ (by simp)]
  simp only [List.length_map, List.length_range', Nat.sub_self]
  obtain ⟨m, hm⟩ : ∃ m, n - i = m + 1 := ⟨n - i - 1, by omega⟩
  rw [hm, List.replicate_succ, List.set_cons_zero, show n - (i + 1) = m by omega, List.range'_concat]
  simp

theorem af_end (a b c : ByteArray) (n : Nat) (ha : n ≤ a.size) (hb : n ≤ b.size) (hc : n ≤ c.size) (hn : n ≤ 200) :
    ((wire_Sum.f (strOfNums (upTo a b c n n))).bind fun t138 => (if 0 ≤ (n : Int) then (if (n : Int) ≤ (a.size : Int) then ((wire_Sum.f (a.extract 0 (n : Int).toNat)).bind fun t139 => (if (n : Int) ≤ (b.size : Int) then ((wire_Sum.f (b.extract 0 (n : Int).toNat)).bind fun t140 => (if (n : Int) ≤ (c.size : Int) then ((wire_Sum.f (c.extract 0 (n : Int).toNat)).bind fun t141 => (some (t138 == (Go.bits .xor .i64 (Go.bits .xor .i64 t139 t140) t141)))) else (none))) else (none))) else (none)) else (none))) = some true := by
  have hu : upTo a b c n n = ((List.range' 0 n).map (mixN a b c)).map fun b : Nat => (b : Int) := by
    unfold upTo
    simp [List.map_map, Function.comp_def]
  have hx := xor3_bys a b c n n 0 (by omega) ha hb hc
  have e0 : bys (strOfNums (upTo a b c n n)) 0 = xor3 ((bys a 0).take n) ((bys b 0).take n) ((bys c 0).take n) := by
    rw [hu, hx]
    refine bys_num _ ?_
    intro v hv
    obtain ⟨i, _, rfl⟩ := List.mem_map.1 hv
    exact mix_lt a b c i
  have ex : ∀ s : ByteArray, n ≤ s.size → wire_Sum.f (s.extract 0 n) = some ((4294967295 - ncrc ((bys s 0).take n) 4294967295 : Nat) : Int) := by
    intro s hs
    refine sum_of _ _ ?_ (by rw [ByteArray.size_extract]; omega)
    rw [bys_extract]
    simp
  have lt : ∀ s : ByteArray, ncrc ((bys s 0).take n) 4294967295 < 4294967296 := by
    intro s
    have := rcrc_lt (s.extract 0 n).data.toList
    rw [rcrc_n, ← bys_zero, bys_extract] at this
    simpa using this
  have len : ∀ s : ByteArray, n ≤ s.size → ((bys s 0).take n).length = n := by
    intro s hs
    rw [List.length_take, bys_length]
    omega
  rw [sum_of _ _ e0 (by rw [strOfNums_size, upTo_len _ _ _ _ _ (Nat.le_refl _)]; omega)]
  simp only [Option.bind_some, Int.toNat_natCast]
  rw [if_pos (show 0 ≤ (n : Int) by omega), if_pos (show (n : Int) ≤ (a.size : Int) by omega), ex a ha]
  simp only [Option.bind_some]
  rw [if_pos (show (n : Int) ≤ (b.size : Int) by omega), ex b hb]
  simp only [Option.bind_some]
  rw [if_pos (show (n : Int) ≤ (c.size : Int) by omega), ex c hc]
  simp only [Option.bind_some]
  have hl := ncrc_xor ((bys a 0).take n) ((bys b 0).take n) ((bys c 0).take n) (by rw [len a ha, len b hb]) (by rw [len a ha, len c hc]) 4294967295 4294967295 4294967295
  rw [show (4294967295 ^^^ 4294967295 ^^^ 4294967295 : Nat) = 4294967295 by decide] at hl
  rw [hl]
  have la := lt a
  have lb := lt b
  have lc := lt c
  generalize ncrc ((bys a 0).take n) 4294967295 = x at la ⊢
  generalize ncrc ((bys b 0).take n) 4294967295 = y at lb ⊢
  generalize ncrc ((bys c 0).take n) 4294967295 = z at lc ⊢
  rw [i64_xor_nat _ _ (by omega) (by omega), i64_xor_nat _ _ (Nat.xor_lt_two_pow (n := 32) (by omega) (by omega)) (by omega), not_xor3 x y z la lb lc]
  simp

theorem af_l0 (a b c : ByteArray) (n : Nat) (ha : n ≤ a.size) (hb : n ≤ b.size) (hc : n ≤ c.size) (hn : n ≤ 200) (k : Nat) (d : Nat) : ∀ i : Nat, i + d = n →
    workpiecelaw01_WireSumAffine.l0 (k + 1 + d) a b c true (n : Int) (upTo a b c n i) (i : Int) = some true := by
  induction d with
  | zero =>
    intro i hi
    obtain rfl : i = n := by omega
    simp only [workpiecelaw01_WireSumAffine.l0]
    rw [if_neg (by omega)]
    exact af_end a b c i ha hb hc hn
  | succ d ih =>
    intro i hi
    rw [show k + 1 + (d + 1) = (k + 1 + d) + 1 by omega]
    simp only [workpiecelaw01_WireSumAffine.l0]
    have e1 : wrap64 ((i : Int) + 1) = ((i + 1 : Nat) : Int) := by unfold wrap64; omega
    obtain ⟨x, hx, hx2⟩ := bt_nat a i
    obtain ⟨y, hy, hy2⟩ := bt_nat b i
    obtain ⟨z, hz, hz2⟩ := bt_nat c i
    have em : Go.bits .xor .u8 (Go.bits .xor .u8 (bt a (i : Int)) (bt b (i : Int))) (bt c (i : Int)) = ((mixN a b c i : Nat) : Int) := by
      unfold mixN
      rw [hx, hy, hz, u8_xor_nat x y hx2 hy2, u8_xor_nat _ z (Nat.xor_lt_two_pow (n := 8) hx2 hy2) hz2]
      simp
    have hlen := upTo_len a b c n i (by omega)
    rw [if_pos (show (i : Int) < (n : Int) by omega), if_pos (show 0 ≤ (i : Int) by omega), if_pos (show (i : Int) < (a.size : Int) by omega), if_pos (show (i : Int) < (b.size : Int) by omega), if_pos (show (i : Int) < (c.size : Int) by omega), if_pos (show (i : Int) < ((upTo a b c n i).length : Int) by omega), em, e1, Int.toNat_natCast, upTo_set a b c n i (by omega)]
    exact ih (i + 1) (by omega)

theorem af_mn (n m : Nat) : ∃ k : Nat, mn (n : Int) (m : Int) = (k : Int) ∧ k ≤ n ∧ k ≤ m := by
  unfold mn
  split
  · exact ⟨m, rfl, by omega, Nat.le_refl _⟩
  · exact ⟨n, rfl, Nat.le_refl _, by omega⟩

theorem WireSumAffine : workpiecelaw01_WireSumAffine.Pure := by
  intro a b c w0 w1 w2
  obtain ⟨m1, h1, h1a, h1b⟩ := af_mn a.size b.size
  obtain ⟨m2, h2, h2a, h2b⟩ := af_mn m1 c.size
  obtain ⟨n, h3, h3a, h3b⟩ := af_mn m2 200
  have h3' : mn (m2 : Int) 200 = (n : Int) := h3
  refine ⟨50 + 1 + n, ?_⟩
  unfold workpiecelaw01_WireSumAffine.f
  rw [sane_spec _ (by omega), h1, h2, h3']
  simp only [Option.bind_some]
  rw [if_pos (show 0 ≤ (n : Int) by omega), Int.toNat_natCast, if_pos (by omega)]
  have e : List.replicate n (0 : Int) = upTo a b c n 0 := by
    unfold upTo
    simp
  rw [e]
  exact af_l0 a b c n (by omega) (by omega) (by omega) h3b 50 n 0 (by omega)
end Go.Proofs.YtodaajokphoioaaDoor.Pure
