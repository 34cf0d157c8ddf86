/- The bytes of a string, converted: a row of the call's own that is written again. (The conversion marks the row behind its end; the kit's rows of one's own have no mark.) -/
import Derived.Test.YtodaajokphoioaaDoorSane
import Derived.Test.YtodaajokphoioaaDoorWMore
import Derived.Lib.ConvBytes
import Derived.Laws.BytesArg
import Derived.Below
namespace Go.Proofs.YtodaajokphoioaaDoor
open Go.RowKit Go.Lib Go.Proofs.YtodaajokphoioaaDoorW.PrintWords

/-- v is a whole row of bytes of the call's own, with a mark behind its end. -/
def Mk (w : World) (base : Nat) (v : Value) (xs : List Int) : Prop :=
  ∃ B c cur, v = .slice (some ⟨B, 0, none⟩) xs.length c ∧ base ≤ B ∧ w.heap[B]? = some (.cells cur 5 (cur.size, cur.size + 1)) ∧ xs.length ≤ c ∧ cur.toList.take xs.length = nums .u8 xs

section
variable {w w1 : World} {base : Nat} {v : Value} {xs : List Int}

theorem Mk_below (h : Mk w base v xs) (hb : Below w.heap.size w w1) : Mk w1 base v xs := by
  obtain ⟨B, c, cur, e, h1, h2, h3⟩ := h
  exact ⟨B, c, cur, e, h1, (hb.block B (Array.getElem?_eq_some_iff.1 h2).1).trans h2, h3⟩
theorem Mk_alloc (h : Mk w base v xs) (o : Obj) : Mk (w.alloc o) base v xs := Mk_below h (below_alloc (Below.refl _ _) o)
theorem Mk_drew (h : Mk w base v xs) : Mk w.drew base v xs := Mk_below h (below_drew (Below.refl _ _))
theorem Mk_drewN (h : Mk w base v xs) (m : Nat) : Mk (w.drewN m) base v xs := Mk_below h (pw_below_drewN (Below.refl _ _) m)
theorem Mk_lower {base' : Nat} (h : Mk w base v xs) (hb : base' ≤ base) : Mk w base' v xs := by
  obtain ⟨B, c, cur, e, h1, h2⟩ := h
  exact ⟨B, c, cur, e, Nat.le_trans hb h1, h2⟩
theorem Mk_slice (h : Mk w base v xs) : ∃ A c, v = .slice A xs.length c := by
  obtain ⟨B, c, cur, e, _⟩ := h
  exact ⟨_, c, e⟩
theorem Mk_len {A : Option Addr} {n c : Nat} (h : Mk w base (.slice A n c) xs) : n = xs.length := by
  obtain ⟨B, c', cur, e, _⟩ := h
  injection e
theorem Mk_cell (h : Mk w base v xs) {B n c : Nat} (e : v = .slice (some ⟨B, 0, none⟩) n c) (i : Nat) (hi : i < xs.length) : w.cell? ⟨B, i, none⟩ = some (.int .u8 (xs.getD i 0)) ∧ w.frozen? ⟨B, i, none⟩ = false := by
  obtain ⟨B', c', cur, e', h1, h2, h3, h4⟩ := h
  subst e
  injection e' with e1 _ _
  injection e1 with e1
  injection e1 with e1
  subst e1
  have hl : i < cur.size := by
    have h6 := congrArg List.length h4
    rw [List.length_take, nums_length] at h6
    have h7 : cur.toList.length = cur.size := Array.length_toList
    have h8 : i < xs.length := hi
    rw [h7] at h6
    have h9 : xs.length ≤ cur.size := by rw [← h6]; exact Nat.min_le_right _ _
    exact Nat.lt_of_lt_of_le h8 h9
  refine ⟨?_, ?_⟩
  · simp only [World.cell?, h2]
    have h5 := congrArg (fun l => l[i]?) h4
    simp only [List.getElem?_take, if_pos hi, nums, List.getElem?_map] at h5
    rw [List.getD_eq_getElem?_getD, List.getElem?_eq_getElem hi]
    rw [List.getElem?_eq_getElem hi] at h5
    simpa using h5
  · simp only [World.frozen?, h2]
    simp only [Bool.and_eq_false_imp, decide_eq_true_eq, decide_eq_false_iff_not]
    omega
theorem Mk_at {A : Option Addr} {n c : Nat} (h : Mk w base (.slice A n c) xs) (i : Int) (h0 : 0 ≤ i) (h1 : i < xs.length) : ∃ ad, A = some ad ∧ w.cell? (ad.add i.toNat) = some (.int .u8 (rd xs i)) := by
  obtain ⟨B, c', cur, e, _⟩ := id h
  injection e with e1 e2 e3
  subst e1
  refine ⟨_, rfl, ?_⟩
  rw [add_plain]
  exact (Mk_cell h rfl i.toNat (by omega)).1
theorem Mk_form (h : Mk w base v xs) : ∃ g cap, v = .slice (some ⟨g, 0, none⟩) xs.length cap ∧ base ≤ g ∧ g < w.heap.size := by
  obtain ⟨B, c, cur, e, h1, h2, _⟩ := h
  exact ⟨B, c, e, h1, (Array.getElem?_eq_some_iff.1 h2).1⟩
theorem Mk_celln {g n cap : Nat} (h : Mk w base (.slice (some ⟨g, 0, none⟩) n cap) xs) (i : Int) (h0 : 0 ≤ i) (hi : i < xs.length) : w.cell? ⟨g, i.toNat, none⟩ = some (.int .u8 (rd xs i)) ∧ w.frozen? ⟨g, i.toNat, none⟩ = false :=
  Mk_cell h rfl i.toNat (by omega)
theorem Mk_putn {g n cap : Nat} (h : Mk w base (.slice (some ⟨g, 0, none⟩) n cap) xs) (i : Int) (x : Int) : Mk (w.setCell ⟨g, i.toNat, none⟩ (.int .u8 x)) base (.slice (some ⟨g, 0, none⟩) n cap) (xs.set i.toNat x) := by
  obtain ⟨B, c, cur, e, h1, h2, h3, h4⟩ := h
  injection e with e1 e2 e3
  injection e1 with e1
  injection e1 with e1
  subst e1 e2 e3
  refine ⟨g, cap, cur.setIfInBounds i.toNat (.int .u8 x), by rw [List.length_set], h1, ?_, by rw [List.length_set]; exact h3, ?_⟩
  · obtain ⟨hg, he⟩ := Array.getElem?_eq_some_iff.1 h2
    simp only [World.setCell, Array.getElem?_modify, h2]
    simp
  · rw [List.length_set, Array.toList_setIfInBounds, List.take_set, h4]
    simp only [nums, List.map_set]
theorem Mk_string {P : Program} {src dst e : TypeId} (hs : P.underlying src = some (.slice e)) (he : P.underlying e = some (.int .u8)) (hd : P.underlying dst = some .string)
    (h : Mk w base v xs) : (convert src dst v).run P w = .ok (.string (strOfNums xs)) w := by
  obtain ⟨B, c, cur, e1, _⟩ := id h
  subst e1
  refine run_convert_bytes_arg w src e hs he B 0 xs.length c xs rfl (fun i hi => ?_) dst hd
  rw [Nat.zero_add]
  exact (Mk_cell h rfl i hi).1
end

section
variable {P : Program} {ops : Array Oper} {rest : List Oper} {o : Oper} {a : Act} {Q : Exit → Act → World → Prop}
theorem Mk_conv {w0 W : World} (base : Nat) (hgd : o.guard = none) {N : Tmp} (_hd : o.dst = some N) (t u : TypeId) (x : Operand) (ho : o.op = .convert t u x) (s : ByteArray) (hx : a.eval x = .string s)
    (ht : P.underlying t = some .string) (hu : P.underlying u = some (.slice 5)) (he : P.underlying 5 = some (.int .u8)) (HB : Below base w0 W) (hbase : base ≤ W.heap.size)
    (h : ∀ v1 w1, Mk w1 base v1 (bytesOf s) → Below base w0 w1 → wpList P ops Q rest (a.put o.dst v1) w1) : wpList P ops Q (o :: rest) a W := by
  refine Kd.event_run (w1 := bytesWorld W 5 s) (v := .slice (some ⟨W.heap.size, 0, none⟩) s.size (grownCap W s.size 0 5)) hgd ?_ (h _ _ ?_ ?_)
  · have hr := Go.Lib.run_convert_string_bytes (P := P) W t u 5 s ht hu he
    simp [execOp, ho, hx, hr, Result.andThen]
  · refine ⟨W.heap.size, grownCap W s.size 0 5, bytesCells W 5 s, by rw [bytesOf_length], hbase, bytesWorld_at_new W 5 s, ?_, ?_⟩
    · rw [bytesOf_length]
      exact grownCap_ge W s.size 0 5
    · rw [bytesOf_length, bytesCells, Array.toList_append, List.take_append_of_le_length (by simp)]
      simp only [nums, bytesOf, Array.toList_map, List.map_map, Function.comp_def]
      exact List.take_of_length_le (by rw [List.length_map, data_length]; exact Nat.le_refl _)
  · exact HB.trans ⟨rfl, rfl, rfl, by rw [bytesWorld_size]; omega, fun k hk => bytesWorld_at_old W 5 s k (by omega)⟩
end
end Go.Proofs.YtodaajokphoioaaDoor
