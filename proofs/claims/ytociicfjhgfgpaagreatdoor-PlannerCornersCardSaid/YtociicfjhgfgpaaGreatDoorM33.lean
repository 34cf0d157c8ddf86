/- region: intersection: the walk. -/
import Derived.Test.YtociicfjhgfgpaaGreatDoorM32
set_option linter.unusedVariables false
set_option linter.unusedSimpArgs false
namespace Go.Proofs.YtociicfjhgfgpaaGreatDoor
open Go.RowKit Go.Shelf Go.Lib Go.Proofs.YtociicfjhgfgpaaGreatDoorW.PrintWords
set_option maxHeartbeats 8000000 in
set_option maxRecDepth 100000 in
theorem rg_inter (b : Nat) (A : Option Addr) (c : Nat) (cs : List Cv) (w : World) (hk : Blk w b #[.bool false] 154) (hl : cs.length ≤ 24) (h1 : 1 ≤ cs.length) :
  Calls Tryz.prog 152 #[.pointer (some ⟨b, 0, none⟩), .slice A cs.length c] w fun e w' => ∃ n, e = .returned (.tuple #[.agg #[.slice A cs.length c, n], .int .i64 0]) ∧ OwnK kNd 93 w' w.heap.size n (allN cs.length) ∧ Below w.heap.size w w' := by
 obtain ⟨N, hN⟩ : ∃ N, cs.length = N := ⟨_, rfl⟩
 rw [hN] at hl h1 ⊢
 clear hN cs
 obtain ⟨hB0, k0, k1⟩ := new2 w #[.slice none 0 0, .slice none 0 0] #[.slice A N c, .slice none 0 0] 42 42
 have hb0 := (hk.alloc (.cells #[.slice none 0 0, .slice none 0 0] 42)).cell 0
 have HS := Aside0.mk (show w.heap.size ≠ w.heap.size + 1 by omega)
 go_enter Tryz.func152, Tryz.ntmps152
 go_wp2
 go_loopg [20] N (fun m v20 w' => ∃ (i : Nat) (vN : Value), v20 = .int .i64 i ∧ i + m = N ∧ Blk w' w.heap.size #[.slice none 0 0, .slice none 0 0] 42 ∧ Blk w' (w.heap.size + 1) #[.slice A N c, vN] 42 ∧ OwnK kNd 93 w' w.heap.size vN (leafN i) ∧ Below w.heap.size w w')
 case atStart => exact ⟨0, _, rfl, Nat.zero_add _, k0, k1, OwnK.nil _ _ _ _, hB0⟩
 clear k0 k1 hB0 hb0
 obtain ⟨i, vN, rfl, hi, k0, k1, HO, HB⟩ := hrel
 cases gk with
 | zero =>
  have hie : i = N := hi
  subst hie
  have hlt : decide ((i : Int) < (i : Int)) = false := decide_eq_false (Int.lt_irrefl _)
  go_wp2
  go_loopg [8] (i - 1) (fun m v8 w' => ∃ (j : Nat) (vM : Value), v8 = .int .i64 ((j : Int) + 1) ∧ j + 1 + m = i ∧ Blk w' w.heap.size #[.slice none 0 0, .slice none 0 0] 42 ∧ Blk w' (w.heap.size + 1) #[.slice A i c, vM] 42 ∧ OwnK kNd 93 w' w.heap.size vM (leafN i ++ andN i j) ∧ Below w.heap.size w w')
  case atStart => exact ⟨0, _, rfl, by omega, k0, k1, by simpa [andN] using HO, HB⟩
  clear k0 k1 HO HB hlt
  obtain ⟨j, vM, rfl, hj, k0, k1, HO, HB⟩ := hrel
  have hlen : (leafN i ++ andN i j).length = i + j := by rw [List.length_append, leafN_len, andN_len]
  obtain ⟨A6, c6, e6⟩ := Kd.R_slice HO
  rw [hlen] at e6
  subst e6
  cases gk with
  | zero =>
   have hje : j + 1 = i := hj
   have hlt : decide ((j : Int) + 1 < (i : Int)) = false := decide_eq_false (by omega)
   have HO2 : OwnK kNd 93 wr w.heap.size (.slice A6 (i + j) c6) (allN i) := by
    unfold allN
    rw [show i - 1 = j by omega]
    exact HO
   have c0 : wr.cell? ⟨w.heap.size + 1, 0, none⟩ = some (.slice A i c) := k1.cell 0
   have c1 : wr.cell? ⟨w.heap.size + 1, 1, none⟩ = some (.slice A6 (i + j) c6) := k1.cell 1
   obtain ⟨r0, r1, q0, q1⟩ := k0.two
   go_wp2
   have HO3 := (HO2.set k0 (by decide) 0 (.slice A i c)).set (k0.set 0 _) (by decide) 1 (.slice A6 (i + j) c6)
   refine bodyPost_ret (results_ct rfl _ _ w.heap.size 42 #[.slice A i c, .slice A6 (i + j) c6] (0, 0) _ rfl ((k0.set 0 (.slice A i c)).set 1 (.slice A6 (i + j) c6)) Tryz.underlying42 rfl (by kernel_rfl)) rfl ?_
   exact ⟨_, rfl, HO3, below_set (below_set HB (Nat.le_refl _)) (Nat.le_refl _)⟩
  | succ m =>
   have hle := Aside0.mk (show (leafN i ++ andN i j).length ≤ 1000 from by rw [hlen]; omega)
   have hjm := Aside0.mk (show j + 1 + 1 + m = i by omega)
   have HL := Aside0.mk hlen
   have c1 : wr.cell? ⟨w.heap.size + 1, 1, none⟩ = some (.slice A6 (i + j) c6) := k1.cell 1
   have hlt : ((j : Int) + 1 < (i : Int)) = True := eq_true (by omega)
   have hw2 : wrap64 ((j : Int) + 1 + 1) = (j : Int) + 1 + 1 := by unfold wrap64; omega
   have hw1 : wrap64 ((i : Int) + (j : Int) - 1) = (i : Int) + (j : Int) - 1 := by unfold wrap64; omega
   have key : ((((j : Int) + 1) == 1) = true ∧ leftN i j = 0) ∨ ((((j : Int) + 1) == 1) = false ∧ leftN i j = (i : Int) + (j : Int) - 1) := by
    cases j with
    | zero => exact .inl ⟨rfl, rfl⟩
    | succ j => exact .inr ⟨beq_eq_false_iff_ne.2 (by omega), by unfold leftN; rw [if_neg (by omega)]⟩
   clear hlen hj hi hl h1
   rcases key with ⟨g1, g2⟩ | ⟨g1, g2⟩
   all_goals
    have G2 := Aside0.mk g2
    clear g2
    go_wp2_with (at_builtin; refine appNd (w0 := w) w.heap.size (.tmp 44) (.tmp 48) 40 rfl rfl Tryz.underlying40 _ (leafN i ++ andN i j) (3, 0, _, (j : Int) + 1) rfl rfl HO HB (below_size HB) hle.out ?_; intro v1 w1 HO1 HB1 HG1; obtain ⟨A5, c5, e5⟩ := Kd.R_slice HO1; rw [List.length_append, HL.out, List.length_singleton] at e5; subst e5; have q0 := k0.kept HG1 (HO.not_blk k0 (by decide)); have q1 := k1.kept HG1 (HO.not_blk k1 (by decide)); have z1 : w1.cell? ⟨w.heap.size + 1, 1, none⟩ = some (.slice A6 (i + j) c6) := q1.cell 1; have z2 := q1.frozen 1)
    go_roundg m
    case measure => omega
    case rel =>
     have HO2 := HO1.set q1 (by decide) 1 (.slice A5 (i + j + 1) c5)
     refine ⟨j + 1, _, by congr 1, hjm.out, q0.far (p := ⟨w.heap.size + 1, 1, none⟩) HS.out _, q1.set 1 _, ?_, below_set HB1 (Nat.le_succ _)⟩
     rw [andN_succ, ← List.append_assoc, G2.out]
     exact HO2
 | succ m =>
  have hin : i < N := by rw [← hi]; exact Nat.lt_add_of_pos_right (Nat.succ_pos m)
  have hlt : ((i : Int) < (N : Int)) = True := eq_true (Int.ofNat_lt.2 hin)
  have him := Aside0.mk (show i + 1 + m = N from by rw [← hi, Nat.add_assoc, Nat.add_comm 1 m])
  have hle := Aside0.mk (show (leafN i).length ≤ 1000 from by rw [leafN_len]; exact Nat.le_trans (Nat.le_of_lt hin) (Nat.le_trans hl (by decide)))
  have hw : wrap64 ((i : Int) + 1) = ((i + 1 : Nat) : Int) := wrap_succ hin hl
  have c1 : wr.cell? ⟨w.heap.size + 1, 1, none⟩ = some vN := k1.cell 1
  go_wp2_with (at_builtin; refine appNd (w0 := w) w.heap.size (.tmp 24) (.tmp 27) 40 rfl rfl Tryz.underlying40 vN (leafN i) (1, (i : Int), 0, 0) rfl rfl HO HB (below_size HB) hle.out ?_; intro v1 w1 HO1 HB1 HG1; obtain ⟨A5, c5, e5⟩ := Kd.R_slice HO1; subst e5; have q0 := k0.kept HG1 (HO.not_blk k0 (by decide)); have q1 := k1.kept HG1 (HO.not_blk k1 (by decide)); have z1 : w1.cell? ⟨w.heap.size + 1, 1, none⟩ = some vN := q1.cell 1; have z2 := q1.frozen 1)
  go_roundg m
  case measure => omega
  case rel =>
   have HO2 := HO1.set q1 (by decide) 1 (.slice A5 (leafN i ++ [(1, (i : Int), 0, 0)]).length c5)
   refine ⟨i + 1, _, rfl, him.out, q0.far (p := ⟨w.heap.size + 1, 1, none⟩) HS.out _, q1.set 1 _, ?_, below_set HB1 (Nat.le_succ _)⟩
   rw [leafN_succ]
   rw [List.length_append, List.length_singleton] at HO2
   exact HO2
end Go.Proofs.YtociicfjhgfgpaaGreatDoor
