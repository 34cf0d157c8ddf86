/- workpieceref03: Valid: the walk. integer: isValid: the walk. Fractions as numbers: how large they get; the form in lowest terms: plain facts. -/
import Derived.Test.YtociicfjhgfgpaaGreatDoorR10
import Derived.Test.YtociicfjhgfgpaaGreatDoorR07
import Derived.Test.YtociicfjhgfgpaaGreatDoorR08
import Derived.Test.YtociicfjhgfgpaaGreatDoorR05
set_option linter.unusedVariables false
set_option linter.unusedSimpArgs false
set_option maxHeartbeats 4000000
set_option maxRecDepth 100000
namespace Go.Proofs.YtociicfjhgfgpaaGreatDoor
open Go.RowKit Go.Proofs.YtociicfjhgfgpaaGreatDoorW.PrintWords
theorem data_get (t : ByteArray) (i : Nat) (h : i < t.size) : t.data.toList[i]? = some (t[i]'h) := by
 rw [List.getElem?_eq_getElem (by simpa using h)]
 rfl
theorem data_head (t : ByteArray) (h : 0 < t.size) : t.data.toList.head? = some (t[0]'h) := by
 rw [← data_get t 0 h]
 cases t.data.toList <;> rfl
theorem size_data (t : ByteArray) : t.data.toList.length = t.size := by simp
theorem int_body {s t : ByteArray} (hb : bare s.data.toList = t.data.toList) (hn : (s.data.toList == [45, 48]) = false) :
  (t.size = 0 → isInt s = false) ∧ (∀ i (h : i < t.size), ((t[i]'h).toNat < 48 ∨ 57 < (t[i]'h).toNat) → isInt s = false) ∧
  ((∀ i (h : i < t.size), 48 ≤ (t[i]'h).toNat ∧ (t[i]'h).toNat ≤ 57) → ∀ h : 0 < t.size, isInt s = (decide (t.size ≤ 200) && (t.data.toList == [48] || !decide ((t[0]'h).toNat = 48)))) := by
 unfold isInt isIntL
 rw [hb, hn, size_data]
 refine ⟨fun h => ?_, fun i h hi => ?_, fun ha h => ?_⟩
 ·rw [h]
  simp
 ·have : t.data.toList.all isDig = false := by
   apply Bool.eq_false_iff.2
   intro e
   have h1 := List.all_eq_true.1 e (t[i]'h) (List.mem_of_getElem? (data_get t i h))
   unfold isDig at h1
   simp at h1
   omega
  rw [this]
  simp
 ·have : t.data.toList.all isDig = true := by
   apply List.all_eq_true.2
   intro b hb
   obtain ⟨i, hi, rfl⟩ := List.mem_iff_getElem.1 hb
   have hi' : i < t.size := by simpa using hi
   have := ha i hi'
   have e : t.data.toList[i] = t[i]'hi' := rfl
   rw [e]
   unfold isDig
   simp
   omega
  rw [this, data_head t h, decide_eq_true h]
  have e : (some (t[0]'h) == some (48 : UInt8)) = decide ((t[0]'h).toNat = 48) := by
   by_cases hh : t[0]'h = 48
   ·rw [hh]; rfl
   ·have h2 : ¬ (t[0]'h).toNat = 48 := fun e => hh (UInt8.toNat_inj.1 e)
    rw [decide_eq_false h2]
    simpa using hh
  rw [e]
  simp
theorem ref03_Valid (s : ByteArray) (w : World) (hsz : s.size < 4611686018427387904) :
  Calls Tryz.prog 78 #[.string s] w fun e w' => e = .returned (.bool (isInt s)) ∧ w' = w := by
 by_cases h0 : s.size = 0
 ·have hs : s = ⟨#[]⟩ := by
   apply ByteArray.ext
   exact Array.eq_empty_of_size_eq_zero h0
  subst hs
  go_enter Tryz.func78, Tryz.ntmps78
  go_wp2
  go_loopg [3] 0 (fun k v3 w' => v3 = .int .i64 0 ∧ w' = w)
  case atStart => exact ⟨rfl, rfl⟩
  obtain ⟨rfl, rfl⟩ := hrel
  go_wp2
  go_ret
  exact ⟨rfl, rfl⟩
 ·have hp : 0 < s.size := by omega
  by_cases h45 : ((s[0]'hp).toNat : Int) = 45
  ·obtain ⟨t, ht⟩ : ∃ t, s.extract 1 s.size = t := ⟨_, rfl⟩
   have hs0 : s[0]'hp = 45 := UInt8.toNat_inj.1 (by show (s[0]'hp).toNat = 45; omega)
   have hd : s.data.toList = 45 :: t.data.toList := by
    have h1 := data_head s hp
    rw [hs0] at h1
    rw [← ht, Lib.extract_data]
    cases hL : s.data.toList with
    | nil => rw [hL] at h1; cases h1
    | cons a l =>
     rw [hL] at h1
     have h2 := congrArg List.length hL
     rw [size_data] at h2
     simp at h1 h2
     subst h1
     simp
     rw [List.take_of_length_le (by omega)]
   have hb : bare s.data.toList = t.data.toList := by rw [hd]; rfl
   have hsize : s.size = t.size + 1 := by
    have := congrArg List.length hd
    simpa using this
   rw [hsize] at ht
   cases hneg0 : (t.toList == [48]) with
   | true =>
    have HF : Aside0 (isInt s = false) := ⟨by
     have e : t.data.toList = [48] := by rw [← ByteArray.toList_eq]; exact eq_of_beq hneg0
     unfold isInt
     rw [hd, e]
     rfl⟩
    clear hb hd hs0
    go_enter Tryz.func78, Tryz.ntmps78
    go_wp2
    go_ret
    exact ⟨by rw [HF.out]; rfl, rfl⟩
   | false =>
    have HI := Aside0.mk (int_body hb (by rw [hd]; apply beq_eq_false_iff_ne.2; intro e; rw [ByteArray.toList_eq, (List.cons.inj e).2] at hneg0; cases hneg0))
    clear hb hd hs0
    go_enter Tryz.func78, Tryz.ntmps78
    go_wp2
    go_loopg [3] t.size (fun k v3 w' => ∃ i : Nat, v3 = .int .i64 i ∧ k + i = t.size ∧ (∀ j (h : j < t.size), j < i → 48 ≤ (t[j]'h).toNat ∧ (t[j]'h).toNat ≤ 57) ∧ w' = w)
    case atStart => exact ⟨0, rfl, rfl, fun j _ hj => absurd hj (Nat.not_lt_zero _), rfl⟩
    obtain ⟨i, rfl, hk, hj, rfl⟩ := hrel
    have HJ := Aside0.mk hj
    clear hj
    by_cases hi : (i : Int) < (t.size : Int)
    ·have hin : i < t.size := by omega
     obtain ⟨c, hc⟩ : ∃ c, (t[i]'hin).toNat = c := ⟨_, rfl⟩
     by_cases c1 : (c : Int) < 48
     ·have HF : Aside0 (isInt s = false) := ⟨HI.out.2.1 i hin (.inl (by omega))⟩
      go_wp2
      go_ret
      exact ⟨by rw [HF.out]; rfl, rfl⟩
     ·by_cases c2 : (c : Int) > 57
      ·have HF : Aside0 (isInt s = false) := ⟨HI.out.2.1 i hin (.inr (by omega))⟩
       go_wp2
       go_ret
       exact ⟨by rw [HF.out]; rfl, rfl⟩
      ·go_wp2
       go_roundg (gk - 1)
       case measure => omega
       case rel => exact ⟨i + 1, by go_num, by omega, fun j h hj => by by_cases hji : j = i; (· subst hji; omega); (· exact HJ.out j h (by omega)), rfl⟩
    ·by_cases hpt : 0 < t.size
     ·obtain ⟨c0, hc0⟩ : ∃ c, (t[0]'hpt).toNat = c := ⟨_, rfl⟩
      have hA := HI.out.2.2 (fun j h => HJ.out j h (by omega)) hpt
      have h0c : ((t[0]'hpt).toNat : Int) = (c0 : Int) := by rw [hc0]
      rw [hc0] at hA
      have HA := Aside0.mk hA
      clear hA h0c
      by_cases hl : (t.size : Int) ≤ 200
      ·cases h48 : (t.toList == [48]) with
       | true => rw [hneg0] at h48; cases h48
       | false =>
        by_cases hz : (c0 : Int) = 48
        ·have hz1 : ((c0 : Int) != 48) = false := bne_eq_false_iff_eq.2 hz
         have HZ := Aside0.mk hz
         clear hz
         go_wp2
         go_ret
         exact ⟨by rw [HA.out, ← ByteArray.toList_eq, h48, decide_eq_true (show t.size ≤ 200 by omega), decide_eq_true (show c0 = 48 by have := HZ.out; omega)]; rfl, rfl⟩
        ·have hz1 : ((c0 : Int) != 48) = true := bne_iff_ne.2 hz
         have HZ := Aside0.mk hz
         clear hz
         go_wp2
         go_ret
         exact ⟨by rw [HA.out, ← ByteArray.toList_eq, h48, decide_eq_true (show t.size ≤ 200 by omega), decide_eq_false (show ¬ c0 = 48 by have := HZ.out; omega)]; rfl, rfl⟩
      ·go_wp2
       go_ret
       exact ⟨by rw [HA.out, decide_eq_false (by omega)]; rfl, rfl⟩
     ·have HF : Aside0 (isInt s = false) := ⟨HI.out.1 (by omega)⟩
      go_wp2
      go_ret
      exact ⟨by rw [HF.out]; rfl, rfl⟩
  ·have hs0 : ¬ s[0]'hp = 45 := fun e => h45 (by rw [e]; rfl)
   have hh := data_head s hp
   have hb : bare s.data.toList = s.data.toList := by
    unfold bare
    rw [hh, if_neg (by simpa using hs0)]
   have HI := Aside0.mk (int_body hb (by apply beq_eq_false_iff_ne.2; intro e; rw [e] at hh; apply hs0; simpa using hh.symm))
   have h45b : (((s[0]'hp).toNat : Int) == 45) = false := beq_eq_false_iff_ne.2 h45
   have hpt := hp
   clear hb hs0 hh h45
   go_enter Tryz.func78, Tryz.ntmps78
   go_wp2
   go_loopg [3] s.size (fun k v3 w' => ∃ i : Nat, v3 = .int .i64 i ∧ k + i = s.size ∧ (∀ j (h : j < s.size), j < i → 48 ≤ (s[j]'h).toNat ∧ (s[j]'h).toNat ≤ 57) ∧ w' = w)
   case atStart => exact ⟨0, rfl, rfl, fun j _ hj => absurd hj (Nat.not_lt_zero _), rfl⟩
   obtain ⟨i, rfl, hk, hj, rfl⟩ := hrel
   have HJ := Aside0.mk hj
   clear hj
   by_cases hi : (i : Int) < (s.size : Int)
   ·have hin : i < s.size := by omega
    obtain ⟨c, hc⟩ : ∃ c, (s[i]'hin).toNat = c := ⟨_, rfl⟩
    by_cases c1 : (c : Int) < 48
    ·have HF : Aside0 (isInt s = false) := ⟨HI.out.2.1 i hin (.inl (by omega))⟩
     go_wp2
     go_ret
     exact ⟨by rw [HF.out]; rfl, rfl⟩
    ·by_cases c2 : (c : Int) > 57
     ·have HF : Aside0 (isInt s = false) := ⟨HI.out.2.1 i hin (.inr (by omega))⟩
      go_wp2
      go_ret
      exact ⟨by rw [HF.out]; rfl, rfl⟩
     ·go_wp2
      go_roundg (gk - 1)
      case measure => omega
      case rel => exact ⟨i + 1, by go_num, by omega, fun j h hj => by by_cases hji : j = i; (· subst hji; omega); (· exact HJ.out j h (by omega)), rfl⟩
   ·obtain ⟨c0, hc0⟩ : ∃ c, (s[0]'hpt).toNat = c := ⟨_, rfl⟩
    have hA := HI.out.2.2 (fun j h => HJ.out j h (by omega)) hpt
    have h0c : ((s[0]'hpt).toNat : Int) = (c0 : Int) := by rw [hc0]
    rw [hc0] at hA
    have HA := Aside0.mk hA
    clear hA h0c
    by_cases hl : (s.size : Int) ≤ 200
    ·cases h48 : (s.toList == [48]) with
     | true =>
      go_wp2
      go_ret
      exact ⟨by rw [HA.out, ← ByteArray.toList_eq, h48, decide_eq_true (by omega)]; rfl, rfl⟩
     | false =>
      by_cases hz : (c0 : Int) = 48
      ·have hz1 : ((c0 : Int) != 48) = false := bne_eq_false_iff_eq.2 hz
       have HZ := Aside0.mk hz
       clear hz
       go_wp2
       go_ret
       exact ⟨by rw [HA.out, ← ByteArray.toList_eq, h48, decide_eq_true (show s.size ≤ 200 by omega), decide_eq_true (show c0 = 48 by have := HZ.out; omega)]; rfl, rfl⟩
      ·have hz1 : ((c0 : Int) != 48) = true := bne_iff_ne.2 hz
       have HZ := Aside0.mk hz
       clear hz
       go_wp2
       go_ret
       exact ⟨by rw [HA.out, ← ByteArray.toList_eq, h48, decide_eq_true (show s.size ≤ 200 by omega), decide_eq_false (show ¬ c0 = 48 by have := HZ.out; omega)]; rfl, rfl⟩
    ·go_wp2
     go_ret
     exact ⟨by rw [HA.out, decide_eq_false (by omega)]; rfl, rfl⟩
theorem bare_prefix (l : List UInt8) : Lib.trimPrefix l [45] = bare l := by
 unfold Lib.trimPrefix Lib.hasPrefix bare
 cases l with
 | nil => rfl
 | cons a l =>
  by_cases h : a = 45
  ·subst h
   rfl
  ·have h2 : ([45] : List UInt8).isPrefixOf (a :: l) = false := by
    simp [List.isPrefixOf, beq_eq_false_iff_ne.2 (Ne.symm h)]
   rw [h2, if_neg (by simp), if_neg (by simpa using h)]
theorem dig_contains (b : UInt8) : ([48, 49, 50, 51, 52, 53, 54, 55, 56, 57] : List UInt8).contains b = isDig b := by
 have h : ∀ n : Fin 256, ([48, 49, 50, 51, 52, 53, 54, 55, 56, 57] : List UInt8).contains (UInt8.ofNat n.val) = isDig (UInt8.ofNat n.val) := by decide +kernel
 have := h ⟨b.toNat, b.toNat_lt⟩
 simpa using this
theorem dw_nil (p : UInt8 → Bool) : ∀ l : List UInt8, l.dropWhile p = [] ↔ ∀ x ∈ l, p x = true
 | [] => by simp
 | a :: l => by
  rw [List.dropWhile_cons]
  by_cases h : p a = true
  ·rw [if_pos h, dw_nil p l]
   simp [h]
  ·rw [if_neg h]
   simp [h]
theorem trim_nil (l : List UInt8) : (Lib.trimS l [48, 49, 50, 51, 52, 53, 54, 55, 56, 57] = []) ↔ l.all isDig = true := by
 have hd : ∀ l : List UInt8, Lib.trimLeftS l [48, 49, 50, 51, 52, 53, 54, 55, 56, 57] = l.dropWhile isDig := by
  intro l
  unfold Lib.trimLeftS
  congr 1
  funext b
  exact dig_contains b
 have hp : (fun x : UInt8 => ([48, 49, 50, 51, 52, 53, 54, 55, 56, 57] : List UInt8).contains x) = isDig := by
  funext b
  exact dig_contains b
 unfold Lib.trimS
 rw [hd]
 unfold Lib.trimRightS
 rw [hp, dw_nil]
 constructor
 ·intro h
  rw [← List.all_reverse]
  cases hm : l.reverse.dropWhile isDig with
  | nil => exact List.all_eq_true.2 ((dw_nil _ _).1 hm)
  | cons a m =>
   exfalso
   have h1 := h a (by rw [List.mem_reverse, hm]; exact List.mem_cons_self)
   have h2 := List.head_dropWhile_not isDig (l := l.reverse) (by rw [hm]; simp)
   simp only [hm, List.head_cons] at h2
   rw [h1] at h2
   cases h2
 ·intro h x hx
  have h1 : l.reverse.dropWhile isDig = [] := (dw_nil _ _).2 (List.all_eq_true.1 (by rw [List.all_reverse]; exact h))
  rw [h1] at hx
  simp at hx
theorem isInt_eq (s : ByteArray) : isInt s = (decide (0 < (bare s.data.toList).length) && (decide ((bare s.data.toList).length ≤ 200) && ((bare s.data.toList).all isDig && (s.data.toList == [48] || !((bare s.data.toList).head? == some 48))))) := by
 unfold isInt isIntL
 generalize s.data.toList = L
 by_cases h : L = [45, 48]
 ·subst h
  rfl
 ·by_cases h2 : L = [48]
  ·subst h2
   rfl
  ·rw [beq_eq_false_iff_ne.2 h, beq_eq_false_iff_ne.2 h2]
   by_cases h3 : bare L = [48]
   ·have : L.head? = some 45 := by
     unfold bare at h3
     split at h3
     ·assumption
     ·exact absurd h3 h2
    exfalso
    unfold bare at h3
    rw [if_pos this] at h3
    cases L with
    | nil => cases this
    | cons a l =>
     simp at this h3
     subst this h3
     exact h rfl
   ·rw [beq_eq_false_iff_ne.2 h3]
    generalize (bare L).all isDig = a
    generalize decide (0 < (bare L).length) = b
    generalize decide ((bare L).length ≤ 200) = c
    generalize ((bare L).head? == some 48) = d
    cases a <;> cases b <;> cases c <;> cases d <;> rfl
theorem int_isValid (s : ByteArray) (w : World) (hsz : s.size < 4611686018427387904) :
  Calls Tryz.prog 162 #[.string s] w fun e w' => e = .returned (.bool (isInt s)) ∧ Below w.heap.size w w' := by
 have HS := Aside0.mk (isInt_eq s)
 obtain ⟨t, ht⟩ : ∃ t : ByteArray, (⟨(bare s.data.toList).toArray⟩ : ByteArray) = t := ⟨_, rfl⟩
 have P1 := fun W => Lz.strings_TrimPrefix s ⟨#[45]⟩ W
 rw [show ((⟨#[45]⟩ : ByteArray).data.toList) = [45] from rfl, bare_prefix, ht] at P1
 have htd : t.data.toList = bare s.data.toList := by rw [← ht]
 have htl : t.toList = bare s.data.toList := by rw [ByteArray.toList_eq, htd]
 have hts : t.size = (bare s.data.toList).length := by rw [← htd, size_data]
 have hsz2 : t.size < 4611686018427387904 := by
  rw [hts]
  unfold bare
  have := size_data s
  split
  ·simp; omega
  ·rw [size_data]; exact hsz
 have T1 := fun W => Lz.strings_Trim t W (by omega)
 rw [htd] at T1
 have TN := trim_nil (bare s.data.toList)
 obtain ⟨u, hu⟩ : ∃ u : ByteArray, (⟨(Lib.trimS (bare s.data.toList) [48, 49, 50, 51, 52, 53, 54, 55, 56, 57]).toArray⟩ : ByteArray) = u := ⟨_, rfl⟩
 rw [hu] at T1
 have hul : u.toList = Lib.trimS (bare s.data.toList) [48, 49, 50, 51, 52, 53, 54, 55, 56, 57] := by rw [← hu, ByteArray.toList_eq]
 have hsl : s.toList = s.data.toList := ByteArray.toList_eq s
 generalize hbl : bare s.data.toList = L at *
 clear ht hu
 by_cases h0 : t.size = 0
 ·have hE : t.toList.isEmpty = true := by rw [htl]; cases L with | nil => rfl | cons a l => rw [List.length_cons] at hts; omega
  have HF : Aside0 (isInt s = false) := ⟨by rw [HS.out, ← hts, h0]; rfl⟩
  clear htl htd hts hul hsl TN
  go_enter Tryz.func162, Tryz.ntmps162
  go_wp2_with (go_at_call 197; refine (P1 _).mono ?_; clear P1; rintro e w2 ⟨rfl, rfl⟩)
  go_ret
  exact ⟨by rw [HF.out]; rfl, Below.refl _ _⟩
 ·have hp : 0 < t.size := by omega
  have hE : t.toList.isEmpty = false := by rw [htl]; cases L with | nil => rw [List.length_nil] at hts; omega | cons a l => rfl
  by_cases h200 : (t.size : Int) > 200
  ·have HF : Aside0 (isInt s = false) := ⟨by rw [HS.out, ← hts, decide_eq_false (show ¬ t.size ≤ 200 by omega)]; simp⟩
   clear htl htd hts hul hsl TN
   go_enter Tryz.func162, Tryz.ntmps162
   go_wp2_with (go_at_call 197; refine (P1 _).mono ?_; clear P1; rintro e w2 ⟨rfl, rfl⟩)
   go_ret
   exact ⟨by rw [HF.out]; rfl, Below.refl _ _⟩
  ·cases hA : L.all isDig with
   | false =>
    have hE2 : u.toList.isEmpty = false := by
     rw [hul]
     cases hT : Lib.trimS L [48, 49, 50, 51, 52, 53, 54, 55, 56, 57] with
     | nil => rw [TN.1 hT] at hA; cases hA
     | cons a l => rfl
    have HF : Aside0 (isInt s = false) := ⟨by rw [HS.out, hA]; simp⟩
    clear htl htd hts hul hsl TN
    go_enter Tryz.func162, Tryz.ntmps162
    go_wp2_with (first | (go_at_call 197; refine (P1 _).mono ?_; clear P1; rintro e w2 ⟨rfl, rfl⟩) | (go_at_call 198; refine (T1 _).mono ?_; clear T1; rintro e w3 ⟨rfl, hb3⟩))
    go_ret
    exact ⟨by rw [HF.out]; rfl, hb3⟩
   | true =>
    have hE2 : u.toList.isEmpty = true := by rw [hul, TN.2 hA]; rfl
    have hd := data_head t hp
    rw [htd] at hd
    rw [← hts, decide_eq_true hp, decide_eq_true (show t.size ≤ 200 by omega), hA, hd, ← hsl] at HS
    obtain ⟨c0, hc0⟩ : ∃ c, (t[0]'hp).toNat = c := ⟨_, rfl⟩
    have e48 : (some (t[0]'hp) == some (48 : UInt8)) = decide (c0 = 48) := by
     by_cases hh : t[0]'hp = 48
     ·rw [hh] at hc0 ⊢; rw [← hc0]; rfl
     ·have h2 : ¬ c0 = 48 := fun e => hh (UInt8.toNat_inj.1 (by rw [hc0, e]; rfl))
      rw [decide_eq_false h2]
      simpa using hh
    rw [e48] at HS
    clear htl htd hts hul hsl TN e48 hd
    cases h48 : (s.toList == [48]) with
    | true =>
     rw [h48] at HS
     go_enter Tryz.func162, Tryz.ntmps162
     go_wp2_with (first | (go_at_call 197; refine (P1 _).mono ?_; clear P1; rintro e w2 ⟨rfl, rfl⟩) | (go_at_call 198; refine (T1 _).mono ?_; clear T1; rintro e w3 ⟨rfl, hb3⟩))
     go_ret
     exact ⟨by rw [HS.out]; rfl, hb3⟩
    | false =>
     rw [h48] at HS
     by_cases hz : (c0 : Int) = 48
     ·have hz1 : ((c0 : Int) != 48) = false := bne_eq_false_iff_eq.2 hz
      rw [decide_eq_true (show c0 = 48 by omega)] at HS
      clear hz
      go_enter Tryz.func162, Tryz.ntmps162
      go_wp2_with (first | (go_at_call 197; refine (P1 _).mono ?_; clear P1; rintro e w2 ⟨rfl, rfl⟩) | (go_at_call 198; refine (T1 _).mono ?_; clear T1; rintro e w3 ⟨rfl, hb3⟩))
      go_ret
      exact ⟨by rw [HS.out]; rfl, hb3⟩
     ·have hz1 : ((c0 : Int) != 48) = true := bne_iff_ne.2 hz
      rw [decide_eq_false (show ¬ c0 = 48 by omega)] at HS
      clear hz
      go_enter Tryz.func162, Tryz.ntmps162
      go_wp2_with (first | (go_at_call 197; refine (P1 _).mono ?_; clear P1; rintro e w2 ⟨rfl, rfl⟩) | (go_at_call 198; refine (T1 _).mono ?_; clear T1; rintro e w3 ⟨rfl, hb3⟩))
      go_ret
      exact ⟨by rw [HS.out]; rfl, hb3⟩
end Go.Proofs.YtociicfjhgfgpaaGreatDoor
namespace Go.Proofs.YtociicfjhgfgpaaGreatDoor
theorem fit_of {z : Int} {k : Nat} (h : z.natAbs < 10 ^ k) (hk : k ≤ 200) : fit z := Nat.lt_of_lt_of_le h (Nat.pow_le_pow_right (by decide) hk)
def Sm (k : Nat) (q : Rat) : Prop := q.num.natAbs < 10 ^ k ∧ q.den < 10 ^ k
theorem Sm.le {j k : Nat} {q : Rat} (h : Sm j q) (hjk : j ≤ k) : Sm k q :=
 ⟨Nat.lt_of_lt_of_le h.1 (Nat.pow_le_pow_right (by decide) hjk), Nat.lt_of_lt_of_le h.2 (Nat.pow_le_pow_right (by decide) hjk)⟩
theorem mul_lt_pow {a b j k : Nat} (ha : a < 10 ^ j) (hb : b < 10 ^ k) : a * b < 10 ^ (j + k) := by
 rw [Nat.pow_add]
 exact Nat.mul_lt_mul_of_lt_of_le ha (Nat.le_of_lt hb) (Nat.pow_pos (by decide))
theorem abs_mul_lt {a b : Int} {j k : Nat} (ha : a.natAbs < 10 ^ j) (hb : b.natAbs < 10 ^ k) : (a * b).natAbs < 10 ^ (j + k) := by
 rw [Int.natAbs_mul]
 exact mul_lt_pow ha hb
theorem abs_add_lt {a b : Int} {k : Nat} (ha : a.natAbs < 10 ^ k) (hb : b.natAbs < 10 ^ k) : (a + b).natAbs < 10 ^ (k + 1) := by
 have := Int.natAbs_add_le a b
 rw [Nat.pow_succ]
 omega
theorem abs_sub_lt {a b : Int} {k : Nat} (ha : a.natAbs < 10 ^ k) (hb : b.natAbs < 10 ^ k) : (a - b).natAbs < 10 ^ (k + 1) := by
 have := Int.natAbs_sub_le a b
 rw [Nat.pow_succ]
 omega
theorem sm_mk {n : Int} {d k : Nat} (hn : n.natAbs < 10 ^ k) (hd : d < 10 ^ k) (hk : 1 ≤ k) : Sm k (mkRat n d) := by
 have h10 : 1 < 10 ^ k := Nat.lt_of_lt_of_le (by decide) (Nat.pow_le_pow_right (by decide) hk)
 constructor
 ·rw [Rat.num_mkRat]
  split
  ·simp; omega
  ·exact Nat.lt_of_le_of_lt (Int.natAbs_ediv_le_natAbs _ _) hn
 ·rw [Rat.den_mkRat]
  split
  ·exact h10
  ·exact Nat.lt_of_le_of_lt (Nat.div_le_self _ _) hd
theorem sm_den (q : Rat) {k : Nat} (h : Sm k q) : ((q.den : Int)).natAbs < 10 ^ k := by rw [Int.natAbs_natCast]; exact h.2
theorem sm_add {j k : Nat} {a b : Rat} (ha : Sm j a) (hb : Sm k b) : Sm (j + k + 1) (a + b) := by
 rw [Rat.add_def']
 refine sm_mk (abs_add_lt (abs_mul_lt ha.1 (sm_den b hb)) ?_) (Nat.lt_of_lt_of_le (mul_lt_pow ha.2 hb.2) (Nat.pow_le_pow_right (by decide) (by omega))) (by omega)
 rw [Nat.add_comm]
 exact abs_mul_lt hb.1 (sm_den a ha)
theorem sm_sub {j k : Nat} {a b : Rat} (ha : Sm j a) (hb : Sm k b) : Sm (j + k + 1) (a - b) := by
 rw [Rat.sub_def']
 refine sm_mk (abs_sub_lt (abs_mul_lt ha.1 (sm_den b hb)) ?_) (Nat.lt_of_lt_of_le (mul_lt_pow ha.2 hb.2) (Nat.pow_le_pow_right (by decide) (by omega))) (by omega)
 rw [Nat.add_comm]
 exact abs_mul_lt hb.1 (sm_den a ha)
theorem sm_mul {j k : Nat} {a b : Rat} (hk : 1 ≤ j + k) (ha : Sm j a) (hb : Sm k b) : Sm (j + k) (a * b) := by
 rw [Rat.mul_def']
 exact sm_mk (abs_mul_lt ha.1 hb.1) (mul_lt_pow ha.2 hb.2) hk
theorem sm_neg {j : Nat} {a : Rat} (ha : Sm j a) : Sm j (-a) := by
 refine ⟨?_, ha.2⟩
 rw [Rat.neg_num, Int.natAbs_neg]
 exact ha.1
theorem mk_low {n : Int} {d : Nat} (hd : d ≠ 0) : (mkRat n d).num = n / (Nat.gcd n.natAbs d : Int) ∧ ((mkRat n d).den : Int) = (d : Int) / (Nat.gcd n.natAbs d : Int) := by
 rw [Rat.num_mkRat, Rat.den_mkRat, if_neg hd, if_neg hd, Nat.gcd_comm]
 exact ⟨rfl, rfl⟩
def cmpR (a b : Rat) : Int := if a < b then -1 else if a = b then 0 else 1
theorem cmpR_cross (a b : Rat) : cmpI (a.num * b.den) (b.num * a.den) = cmpR a b := by
 unfold cmpI cmpR
 simp only [Rat.lt_iff, Rat.eq_iff_mul_eq_mul]
end Go.Proofs.YtociicfjhgfgpaaGreatDoor
