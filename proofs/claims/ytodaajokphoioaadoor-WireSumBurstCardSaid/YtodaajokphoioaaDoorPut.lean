/- wire.PutInt: the walk. -/
import Derived.Test.YtodaajokphoioaaDoorProg
import Derived.Test.YtodaajokphoioaaDoorSeq
import Derived.Test.YtodaajokphoioaaDoorWMore
import Derived.Test.YtodaajokphoioaaDoorBits
import Derived.Outline
import Derived.Lib.Hide
import Derived.Laws.BitsLemmas
import Derived.KernelRfl
namespace Go.Proofs.YtodaajokphoioaaDoor
open Go.RowKit Go.Shelf Go.Proofs.YtodaajokphoioaaDoorW.PrintWords
attribute [local go_sem] Oper.semAt_some

/-- A group and whether it is the last. -/
abbrev Grp := Int × Bool
/-- The bytes so far; what is left; has the group of what is left been handed out? -/
abbrev GSt := List Int × Nat × Bool
def gWants (s : GSt) (x : Grp) : Prop := s.2.2 = false ∧ x = (((s.2.1 % 128 : Nat) : Int), decide (s.2.1 < 128))
def gByte (x : Grp) : Int := if x.2 then x.1 else x.1 + 128
def gNx (s : GSt) (x : Grp) : GSt := (s.1 ++ [gByte x], s.2.1, true)
def gDone (s : GSt) : Prop := s.2.2 = true ∧ s.2.1 < 128

theorem groups_in (F : Fence) (n : Nat) (h23 : F.fn 23) (hro : F.round = none) (z : Int) (w : World) :
    CallsIn F n Tryd.prog 23 #[.int .u64 z] w fun e w' => e = .returned (.func (.func 25) #[] #[.pointer (some ⟨w.heap.size, 0, none⟩)]) ∧ w' = w.alloc (.cells #[.int .u64 z] 49) := by
  refine callsIn_of_wp Tryd.func23 rfl h23 ?_ hro
  simp only [Tryd.ntmps23, List.size_toArray, List.length_cons, List.length_nil, Nat.reduceAdd, Nat.reduceSub, Array.replicate_succ, Array.replicate_zero, List.push_toArray, List.append_toArray, List.nil_append, List.cons_append]
  gi_wp2
  go_ret
  exact ⟨rfl, rfl⟩

def zOf (B : Nat) (W : World) : Nat := match W.cell? ⟨B, 0, none⟩ with | some (.int _ z) => z.toNat | _ => 0

set_option maxRecDepth 100000 in
set_option maxHeartbeats 1000000 in
theorem groups1_in (F : Fence) (n : Nat) (h25 : F.fn 25) (hro : F.round = none) (hn : 1 ≤ n) (l B : Nat) (J' : GSt → World → Prop) (Jx' : World → Prop) (z0 : Nat)
    (hbox : ∀ s W, J' s W → Boxed W B 49 (.int .u64 ((s.2.1 : Nat) : Int)) ∧ s.2.1 < 18446744073709551616)
    (hmv : ∀ out z W, J' (out, z, true) W → 128 ≤ z → J' (out, z / 128, false) (W.setCell ⟨B, 0, none⟩ (.int .u64 ((z / 128 : Nat) : Int))))
    (hY : ∀ s x W, J' s W → gWants s x → YieldAt F (n - 1) Tryd.prog l #[.int .u8 x.1, .bool x.2] W fun e W' =>
      (e = .returned (.bool true) ∧ J' (gNx s x) W') ∨ (e = .returned (.bool false) ∧ Jx' W'))
    (W : World) (h0 : J' ([], z0, false) W) :
    CallsIn F n Tryd.prog 25 #[.func (.yield l) #[] #[], .pointer (some ⟨B, 0, none⟩)] W fun e W' => (∃ v, e = .returned v) ∧ ((∃ s, gDone s ∧ J' s W') ∨ Jx' W') := by
  refine callsIn_of_wp Tryd.func25 rfl h25 ?_ hro
  simp only [Tryd.ntmps25, List.size_toArray, List.length_cons, List.length_nil, Nat.reduceAdd, Nat.reduceSub, Array.replicate_succ, Array.replicate_zero, List.push_toArray, List.append_toArray, List.nil_append, List.cons_append]
  gi_wp2
  gi_loopw [3] (fun _ wr => ∃ out z, J' (out, z, false) wr) (fun _ wr => zOf B wr)
  case atStart => exact ⟨_, _, h0⟩
  case round =>
    obtain ⟨out, z, hj⟩ := hrel
    obtain ⟨hb, hz⟩ := hbox _ _ hj
    dsimp only at hb hz
    have hc := hb.cell
    have hf := hb.frozen
    by_cases hz' : z < 128
    · have hz2 : (z : Int) < 128 := by omega
      have hd : decide ((z : Int) < 128) = true := decide_eq_true hz2
      obtain ⟨fn, tmps, assign, body, hy, hR⟩ := hY _ (((z % 128 : Nat) : Int), decide (z < 128)) wr hj ⟨rfl, rfl⟩
      dsimp only at hy
      rw [← u64_and127 z hz, decide_eq_true hz'] at hy
      gi_wp2
      refine hR.mono ?_
      rintro e W3 (⟨rfl, hJ3⟩ | ⟨rfl, hJx3⟩)
      · gi_wp2
        refine bodyPost_ret (results_none rfl _ _ _) rfl ?_
        exact ⟨⟨_, rfl⟩, .inl ⟨_, ⟨rfl, hz'⟩, hJ3⟩⟩
      · gi_wp2
        refine bodyPost_ret (results_none rfl _ _ _) rfl ?_
        exact ⟨⟨_, rfl⟩, .inr hJx3⟩
    · have hz2 : 128 ≤ (z : Int) := by omega
      have hd : decide ((z : Int) < 128) = false := decide_eq_false (by omega)
      obtain ⟨fn, tmps, assign, body, hy, hR⟩ := hY _ (((z % 128 : Nat) : Int), decide (z < 128)) wr hj ⟨rfl, rfl⟩
      dsimp only at hy
      rw [← u64_and127 z hz, decide_eq_false hz'] at hy
      gi_wp2
      refine hR.mono ?_
      rintro e W3 (⟨rfl, hJ3⟩ | ⟨rfl, hJx3⟩)
      · obtain ⟨hb3, _⟩ := hbox _ _ hJ3
        have hc3 := hb3.cell
        have hf3 := hb3.frozen
        dsimp only [gNx] at hc3
        have hm3 := hmv _ _ _ hJ3 (by dsimp only [gNx]; omega)
        dsimp only [gNx] at hm3
        have HM := Lib.hid hm3
        clear hm3
        gi_wp2
        have hq : (z : Int) / 128 = ((z / 128 : Nat) : Int) := by omega
        rw [hq]
        refine ⟨⟨_, _, HM.out⟩, ?_⟩
        have e3 := (hb3.set (.int .u64 ((z / 128 : Nat) : Int))).cell
        unfold zOf
        rw [e3, hc]
        simp only [Int.toNat_natCast]
        omega
      · gi_wp2
        refine bodyPost_ret (results_none rfl _ _ _) rfl ?_
        exact ⟨⟨_, rfl⟩, .inr hJx3⟩

/-- The groups of seven bits, 128 added to all but the last. -/
def leb (z : Nat) : List Int := if z < 128 then [(z : Int)] else (((z % 128 : Nat) : Int) + 128) :: leb (z / 128)
  termination_by z
  decreasing_by omega

theorem leb_len (k : Nat) : ∀ z, z < 128 ^ (k + 1) → (leb z).length ≤ k + 1 := by
  induction k with
  | zero =>
    intro z hz
    rw [leb, if_pos (by omega)]
    simp
  | succ k ih =>
    intro z hz
    rw [leb]
    split
    · simp
    · have h1 := ih (z / 128) (by rw [Nat.div_lt_iff_lt_mul (by decide)]; rw [Nat.pow_succ] at hz; exact hz)
      simp only [List.length_cons]
      omega

/-- How the bytes so far and what is left come to the whole. -/
def gRel (z0 : Nat) (s : GSt) : Prop := if s.2.2 = true then (if s.2.1 < 128 then s.1 = leb z0 else s.1 ++ leb (s.2.1 / 128) = leb z0) else s.1 ++ leb s.2.1 = leb z0

theorem gRel_nx {z0 : Nat} {s : GSt} {x : Grp} (h : gRel z0 s) (hx : gWants s x) : gRel z0 (gNx s x) := by
  obtain ⟨out, z, b⟩ := s
  obtain ⟨hb, rfl⟩ := hx
  dsimp only at hb
  subst hb
  simp only [gRel, gNx, if_true, gByte] at h ⊢
  simp only [Bool.false_eq_true, if_false] at h
  rw [leb] at h
  by_cases hz : z < 128
  · rw [if_pos hz] at h ⊢
    rw [← h]
    simp [hz, Nat.mod_eq_of_lt hz]
  · rw [if_neg hz] at h ⊢
    rw [← h]
    simp [hz]

theorem gRel_len {z0 : Nat} {s : GSt} (h : gRel z0 s) : s.1.length ≤ (leb z0).length := by
  obtain ⟨out, z, b⟩ := s
  simp only [gRel] at h
  split at h
  · split at h
    · rw [h]; exact Nat.le_refl _
    · rw [← h]; simp
  · rw [← h]; simp

/-- Box A holds a slice that owns the bytes so far, box B what is left. -/
def gJ (w : World) (z0 : Nat) (s : GSt) (W : World) : Prop :=
  (Boxed W (w.heap.size + 1) 49 (.int .u64 ((s.2.1 : Nat) : Int)) ∧ s.2.1 < 18446744073709551616) ∧
  (∃ v, Boxed W w.heap.size 38 v ∧ W.ownsRow w.heap.size 5 1 v s.1.length (s.1.map (Value.int .u8)) ∧ True) ∧ Below w.heap.size w W ∧ gRel z0 s

theorem gJ_own (w : World) (z0 : Nat) : OwnFrom (w.heap.size + 2) (gJ w z0) := by
  refine OwnFrom.and (OwnFrom.and (Own.from (boxed_own (w.heap.size + 1) 49 (fun s : GSt => .int .u64 ((s.2.1 : Nat) : Int))) _) ?_) (OwnFrom.and (Own.from (holdsRow_own w.heap.size w.heap.size 38 5 1 (fun s : GSt => s.1.length) (fun s => s.1.map (Value.int .u8)) (fun _ _ => True)) _) (OwnFrom.and (ownFrom_below (Nat.le_refl _) (by omega)) ?_))
  · exact fun _ _ _ _ hs _ _ => hs
  · exact fun _ _ _ _ hs _ _ => hs

theorem info5 : (Tryd.prog.info? 5).map (fun i => (i.zero, i.size, i.bytes)) = some (some (.int .u8 0), 1, 1) := by kernel_rfl

set_option maxRecDepth 100000 in
set_option maxHeartbeats 2000000 in
theorem put_in (F : Fence) (n : Nat) (h12 : F.fn 12) (h23 : F.fn 23) (h25 : F.fn 25) (hro : F.round = none) (hn : 3 ≤ n) (x : Int) (z0 : Nat) (hz0 : z0 < 18446744073709551616) (hlo : -4611686018427387903 ≤ x) (hhi : x ≤ 4611686018427387903)
    (hx : Hid (bits .xor .u64 (IntKind.u64.wrap (IntKind.u64.wrap x * 2)) (IntKind.u64.wrap (x / 9223372036854775808)) = (z0 : Int))) (w : World) :
    CallsIn F n Tryd.prog 12 #[.int .i64 x] w fun e W' => e = .returned (.tuple #[.string (strOfNums (leb z0)), .int .i64 0]) ∧ Below w.heap.size w W' := by
  have h1 : 1 ≤ n := by omega
  have hd1 : decide (x < -4611686018427387903) = false := decide_eq_false (by omega)
  have hd2 : decide (4611686018427387903 < x) = false := decide_eq_false (by omega)
  have hlen := leb_len 9 z0 (by omega)
  obtain ⟨i0, hi, hi0, hi1, hi2⟩ := info_parts info5
  refine callsIn_of_wp_marks Tryd.func12 rfl h12 ?_ hro
  simp only [Tryd.ntmps12, List.size_toArray, List.length_cons, List.length_nil, Nat.reduceAdd, Nat.reduceSub, Array.replicate_succ, Array.replicate_zero, List.push_toArray, List.append_toArray, List.nil_append, List.cons_append]
  gi_wp2_with (gi_at_call 23; refine (groups_in F (n - 1) h23 hro _ _).mono ?_; rintro e w' ⟨rfl, rfl⟩)
  rw [hx.out]
  have bA := (Boxed.new w 38 (.slice none 0 0)).alloc (.cells #[.int .u64 (z0 : Int)] 49)
  have bB := Boxed.new (w.alloc (.cells #[.slice none 0 0] 38)) 49 (.int .u64 (z0 : Int))
  rw [World.size_alloc] at bB
  have hB0 : Below w.heap.size w ((w.alloc (.cells #[.slice none 0 0] 38)).alloc (.cells #[.int .u64 (z0 : Int)] 49)) := ((Below.refl _ w).alloc (Nat.le_refl _) _).alloc (by simp) _
  refine wpIn_rangeFunc_st hro h1 (gf := 25) (lb := #[.pointer (some ⟨w.heap.size + 1, 0, none⟩)]) rfl h25 (enters_of Tryd.func25 (by kernel_rfl) rfl) (encs := fun x : Grp => #[.int .u8 x.1, .bool x.2]) (fun _ => rfl)
    (gJ w z0) (fun _ _ => False) gWants gNx gDone ([], z0, false) (by simpa using gJ_own w z0) (fun _ _ _ _ hs _ _ => hs) ⟨⟨bB, hz0⟩, ⟨_, bA, World.ownsRow_nil _ _ _ _, trivial⟩, hB0, by simp [gRel]⟩
    (fun y => { tmps := #[.int .i64 x, undef, .string ⟨#[]⟩, .int .i64 0, .pointer (some ⟨w.heap.size, 0, none⟩), .int .u8 y.1, .bool y.2, .int .i64 x, .bool false, .bool false, .int .i64 x, .bool false, .bool false, .int .i64 x, .int .u64 (IntKind.u64.wrap x), .int .u64 (IntKind.u64.wrap (IntKind.u64.wrap x * 2)), .int .i64 x, .int .i64 (x / 9223372036854775808), .int .u64 (IntKind.u64.wrap (x / 9223372036854775808)), .int .u64 (z0 : Int), .func (.func 25) #[] #[.pointer (some ⟨w.heap.size + 1, 0, none⟩)], .int .u8 y.1, .bool y.2, undef, undef, undef, undef, undef, undef, undef, undef, undef, undef], defers := [] })
    ?assign ?body ?iter ?done ?stop
  case assign =>
    intro l y W K hK
    gi_wp2
    exact hK
  case iter =>
    intro l J' Jx' W1 hB1 hget hmv hY h0
    refine (groups1_in F (n - 1) h25 hro (by omega) l (w.heap.size + 1) J' Jx' z0 (fun s W h => (hget s W h).1) ?_ hY W1 h0)
    intro out z W hj hz
    obtain ⟨⟨hb, hz2⟩, ⟨v, hv, hr, _⟩, hB, hrel⟩ := hget _ _ hj
    refine hmv _ _ _ _ hj ((KeepsOthers.setCell _ _ _).from _) ⟨⟨hb.set _, by dsimp only at hz2 ⊢; omega⟩, ⟨v, hv.other (by omega) _, hr.kept (grownBy_setCell' _ _ _) (.inr (hb.not_row (by decide) hr).symm), trivial⟩, hB.setCell (p := ⟨w.heap.size + 1, 0, none⟩) (by simp) _, ?_⟩
    simp only [gRel, if_true] at hrel
    rw [if_neg (by omega)] at hrel
    simpa [gRel] using hrel
  case body =>
    rintro l ⟨out, z, b⟩ y W ⟨⟨hb, hz⟩, ⟨v, hv, hr, _⟩, hB, hrel⟩ ⟨hb', rfl⟩
    dsimp only at hb' hb hz hr
    subst hb'
    have hl := gRel_len hrel
    dsimp only at hl
    have hrel' := gRel_nx hrel (x := (((z % 128 : Nat) : Int), decide (z < 128))) ⟨rfl, rfl⟩
    have HR := Lib.hid hrel'
    clear hrel hrel'
    have hc := hv.cell
    have H0 := Lib.hid hx
    clear hx
    by_cases hz' : z < 128
    · have hd : decide (z < 128) = true := decide_eq_true hz'
      rw [hd] at HR ⊢
      generalize ((z % 128 : Nat) : Int) = g at HR ⊢
      gi_wp2_with (gi_at_builtin; refine wpListIn_append_own _ rfl _ _ 38 rfl w.heap.size 5 i0 (.int .u8 0) 1 1 Tryd.underlying38 hi hi0 hi1 hi2 rfl (by decide) _ _ _ rfl (hr.alloc _) ⟨W.heap.size, 0, none⟩ 1 1 [.int .u8 (g)] rfl rfl (cell_one_new _ _ _) (by simp [Value.oneCell']) (by unfold maxLen; omega) (by omega) (by have := hB.size; simp; omega) ?_; intro v' w1 hown' hgrow _; obtain ⟨g', cap', rfl⟩ := ownsRow_succ hown'; obtain ⟨hv1, hv2, hr2, hk2, hb2⟩ := hv.appended (by decide) hr hB.size (Nat.le_refl _) hown' hgrow; have hzb := (hb.alloc _).kept hgrow (hb.not_row (by decide) hr); have hc1 := hv1.cell; have hf1 := hv1.frozen)
      exact ⟨hk2.from _, ⟨hzb.other (by omega) _, hz⟩, ⟨_, hv2, by simpa [gNx, gByte] using hr2, trivial⟩, hB.trans hb2, HR.out⟩
    · have hd : decide (z < 128) = false := decide_eq_false hz'
      rw [hd] at HR ⊢
      have ho := u8_or128 (z % 128) (by omega)
      generalize ((z % 128 : Nat) : Int) = g at HR ho ⊢
      have HO := Lib.hid ho
      clear ho
      gi_wp2_with (gi_at_builtin; refine wpListIn_append_own _ rfl _ _ 38 rfl w.heap.size 5 i0 (.int .u8 0) 1 1 Tryd.underlying38 hi hi0 hi1 hi2 rfl (by decide) _ _ _ rfl (hr.alloc _) ⟨W.heap.size, 0, none⟩ 1 1 [.int .u8 (bits .or .u8 g 128)] rfl rfl (cell_one_new _ _ _) (by simp [Value.oneCell']) (by unfold maxLen; omega) (by omega) (by have := hB.size; simp; omega) ?_; intro v' w1 hown' hgrow _; obtain ⟨g', cap', rfl⟩ := ownsRow_succ hown'; obtain ⟨hv1, hv2, hr2, hk2, hb2⟩ := hv.appended (by decide) hr hB.size (Nat.le_refl _) hown' hgrow; have hzb := (hb.alloc _).kept hgrow (hb.not_row (by decide) hr); have hc1 := hv1.cell; have hf1 := hv1.frozen)
      rw [HO.out] at hr2
      exact ⟨hk2.from _, ⟨hzb.other (by omega) _, hz⟩, ⟨_, hv2, by simpa [gNx, gByte] using hr2, trivial⟩, hB.trans hb2, HR.out⟩
  case done =>
    rintro D ⟨out, z, b⟩ W hD ⟨hs1, hs2⟩ ⟨⟨hb, hz⟩, ⟨v, hv, hr, _⟩, hB, hrel⟩ hK
    dsimp only at hs1 hs2
    subst hs1
    simp only [gRel, if_true] at hrel
    rw [if_pos hs2] at hrel
    dsimp only at hr
    subst hrel
    have hc := hv.cell
    have hcv := own_string (P := Tryd.prog) (e' := 5) Tryd.underlying38 Tryd.underlying5 Tryd.underlying9 hr
    have H0 := Lib.hid hx
    clear hx
    gi_wp2
    refine ⟨by simp, .inl ⟨_, _, rfl, run_takeDeferred hK, ?_⟩⟩
    exact ⟨_, results_tmp2 rfl _ _ _, rfl, hB.trans (belowK_b (w := w) (Nat.le_refl _) W D _ _ (by simp at hD; omega) hK rfl rfl)⟩
  case stop =>
    rintro D c W hD h _
    exact h.elim

/-- What PutInt answers. -/
def wire_PutInt.f (a0 : Int) : Option (ByteArray × Int) := if -4611686018427387903 ≤ a0 ∧ a0 ≤ 4611686018427387903 then some (strOfNums (leb (zz a0)), 0) else some ((⟨#[]⟩ : ByteArray), 10)

set_option maxHeartbeats 1000000 in
theorem wire_PutInt.calls (a0 : Int) (r1 : ByteArray) (r2 : Int) (w : World) (h : wire_PutInt.f a0 = some (r1, r2)) :
    Calls Tryd.prog 12 #[.int .i64 a0] w fun e w' => e = .returned (.tuple #[.string r1, .int .i64 r2]) ∧ Below w.heap.size w w' := by
  unfold wire_PutInt.f at h
  by_cases hr : -4611686018427387903 ≤ a0 ∧ a0 ≤ 4611686018427387903
  · rw [if_pos hr] at h
    simp only [Option.some.injEq, Prod.mk.injEq] at h
    obtain ⟨rfl, rfl⟩ := h
    exact callsIn_wide.1 (put_in Fence.wide 3 trivial trivial trivial rfl (Nat.le_refl _) a0 (zz a0) (Nat.lt_trans (zz_lt a0 hr.1 hr.2) (by decide)) hr.1 hr.2 (Lib.hid (zz_bits a0 hr.1 hr.2)) w)
  · rw [if_neg hr] at h
    simp only [Option.some.injEq, Prod.mk.injEq] at h
    obtain ⟨rfl, rfl⟩ := h
    by_cases h1 : a0 < -4611686018427387903
    · have hd1 : decide (a0 < -4611686018427387903) = true := decide_eq_true h1
      clear hr
      go_enter Tryd.func12, Tryd.ntmps12
      go_wp2
      go_ret2
      exact ⟨rfl, Below.refl _ _⟩
    · have hd1 : decide (a0 < -4611686018427387903) = false := decide_eq_false h1
      have h2 : 4611686018427387903 < a0 := by omega
      have hd2 : decide (4611686018427387903 < a0) = true := decide_eq_true h2
      clear hr
      go_enter Tryd.func12, Tryd.ntmps12
      go_wp2
      go_ret2
      exact ⟨rfl, Below.refl _ _⟩

end Go.Proofs.YtodaajokphoioaaDoor
