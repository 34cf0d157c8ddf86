/- region: order: the walk. -/
import Derived.Test.YtociicfjhgfgpaaGreatDoorR30
set_option linter.unusedVariables false
set_option linter.unusedSimpArgs false
set_option maxHeartbeats 16000000
set_option maxRecDepth 100000
namespace Go.Proofs.YtociicfjhgfgpaaGreatDoor
open Go.RowKit Go.Shelf Go.Lib Go.Proofs.YtociicfjhgfgpaaGreatDoorW.PrintWords
theorem reN_leaf {S P : List Cv} {n : Nd} (h : n.1 = 1) : reN S P n = (n.1, idxI S (P.getD n.2.1.toNat (0, 0, 0, 0)), n.2.2.1, n.2.2.2) := if_pos h
theorem reN_not {S P : List Cv} {n : Nd} (h : ¬ n.1 = 1) : reN S P n = n := if_neg h
theorem keep_set {f : Nd → Nd} (xs : List Nd) (i : Nat) (n : Nd) (h : xs[i]? = some n) (hf : f n = n) : (xs.take i).map f ++ xs.drop i = (xs.take (i + 1)).map f ++ xs.drop (i + 1) := by
 have := take_drop_set (f := f) xs i n h
 rw [hf] at this
 rw [← this]
 apply List.ext_getElem?
 intro j
 rw [List.getElem?_set]
 split
 ·rename_i e
  subst e
  rw [take_drop_get xs i (List.getElem?_eq_some_iff.1 h).1, h]
  split
  ·rfl
  ·rename_i h2
   have hi := (List.getElem?_eq_some_iff.1 h).1
   simp only [List.length_append, List.length_map, List.length_take, List.length_drop] at h2
   omega
 ·rfl
theorem app_ok {n : Nat} (h : n ≤ 1000) : (n + 1) * 104 ≤ 140737488355328 := by omega
theorem wrap_s {i n : Nat} (h : i < n) (h2 : n ≤ 500) : wrap64 ((i : Int) + 1) = ((i + 1 : Nat) : Int) := by unfold wrap64; omega
theorem Stay.set {w w' : World} {b : Nat} {v : Value} (h : Stay w w' b v) (i : Nat) (u : Value) : Stay w (w'.setCell ⟨b, i, none⟩ u) b v :=
 ⟨by rw [World.size_setCell]; exact h.1, fun k hk hb hv => (Below.heap_setCell w' ⟨b, i, none⟩ u k hb).trans (h.2 k hk hb hv)⟩
theorem Stay.row {w w' : World} {b g : Nat} {m c : Nat} (h : Stay w w' b (.slice (some ⟨g, 0, none⟩) m c)) (i : Nat) (u : Value) : Stay w (w'.setCell ⟨g, i, none⟩ u) b (.slice (some ⟨g, 0, none⟩) m c) :=
 ⟨by rw [World.size_setCell]; exact h.1, fun k hk hb hv => (Below.heap_setCell w' ⟨g, i, none⟩ u k (fun e => hv (by rw [e]; rfl))).trans (h.2 k hk hb hv)⟩
theorem Stay.step {w w' w2 : World} {b : Nat} {v : Value} (h : Stay w w' b v) (hb : Below w'.heap.size w' w2) : Stay w w2 b v :=
 ⟨Nat.le_trans h.1 (bZz hb), fun k hk hkb hv => (hb.block k (Nat.lt_of_lt_of_le hk h.1)).trans (h.2 k hk hkb hv)⟩
theorem rg_order (w0 : World) (b first : Nat) (vC vN vL : Value) (P bc : List Cv) (N : List Nd) (w : World) (hk : Blk w b #[vC, vN] 42) (HC : OwnK kCv 91 w w0.heap.size vC P) (HN : OwnK kNd 93 w w0.heap.size vN N) (hL : RdK kCv w vL bc) (HB : Below w0.heap.size w0 w) (hb : w0.heap.size ≤ b)
  (hP0 : 0 < P.length) (hP : P.length ≤ 500) (hN0 : 0 < N.length) (hN : N.length ≤ 500) (hbc : bc.length ≤ 24) (hf : first ≤ P.length) (hnd : bc.Nodup) (hlv : ∀ n ∈ N, n.1 = 1 → 0 ≤ n.2.1 ∧ n.2.1 < P.length) :
  Calls Tryz.prog 150 #[.pointer (some ⟨b, 0, none⟩), .int .i64 first, vL] w fun e w' => ∃ vS, e = .returned (.tuple #[]) ∧ Blk w' b #[vS, vN] 42 ∧ OwnK kCv 91 w' w.heap.size vS (srt (P.take first) bc bc.length) ∧ OwnK kNd 93 w' w0.heap.size vN (N.map (reN (srt (P.take first) bc bc.length) P)) ∧ Below w0.heap.size w0 w' ∧ Stay w w' b vN := by
 obtain ⟨gP, cP, eP, -, -, -⟩ := Kd.R_form HC hP0
 obtain ⟨gN, cN, eN, hgN, -, -⟩ := Kd.R_form HN hN0
 obtain ⟨AL, cL, eL, hLc, hLq⟩ := hL
 subst eP eN eL
 obtain ⟨-, hPc, hPq⟩ := Kd.R_reads' HC
 have LT : (P.take first).length = first := by rw [List.length_take]; omega
 have CLN := fun W (h : Below w.heap.size w W) => rg_cloneCv (.slice (some ⟨gP, 0, none⟩) first cP) (P.take first) W ⟨_, cP, by rw [LT], by omega, Kd.C_take (Kd.C_below hPq h) hf⟩ (by omega)
 obtain ⟨c0, c1, z0, z1⟩ := hk.two
 have h0f : (0 ≤ (first : Int)) = True := eq_true (Int.natCast_nonneg _)
 have h1f : ((first : Int) ≤ (cP : Int)) = True := eq_true (by omega)
 obtain ⟨ac, hac⟩ : ∃ l, P.take first = l := ⟨_, rfl⟩
 have hacl : ac.length ≤ 500 := by rw [← hac, LT]; omega
 rw [hac] at CLN ⊢
 clear hac LT
 go_enter Tryz.func150, Tryz.ntmps150
 go_wp2_with (go_at_call 192; refine (CLN _ (Below.refl _ _)).mono ?_; clear CLN; rintro e w2 ⟨v0, rfl, HS, hb2⟩)
 go_loopg [20, 6] bc.length (fun m v20 v6 w' => ∃ (j : Nat) (vS : Value), v20 = .int .i64 j ∧ j + m = bc.length ∧ vS = v6 ∧ OwnK kCv 91 w' w.heap.size vS (srt ac bc j) ∧ Below w.heap.size w w')
 case atStart => exact ⟨0, _, rfl, Nat.zero_add _, rfl, by rw [srt_zero]; exact HS, hb2⟩
 clear HS hb2
 obtain ⟨j, vS, rfl, hj, rfl, HS, HB2⟩ := hrel
 obtain ⟨AS, cS, eS⟩ := Kd.R_slice HS
 subst eS
 obtain ⟨-, hSc, hSq⟩ := Kd.R_reads' HS
 have hSl := srt_len ac bc j
 cases gk with
 | zero =>
  have hje : j = bc.length := hj
  subst hje
  have hlt : decide ((bc.length : Int) < (bc.length : Int)) = false := decide_eq_false (Int.lt_irrefl _)
  have K0 := hk.below HB2
  have HC2 := HC.below HB2
  have HN2 := HN.below HB2
  have HB3 := bZs HB HB2
  obtain ⟨p0, p1, p2, p3⟩ := K0.two
  have hSlt : ∀ k, (Value.slice AS (srt ac bc bc.length).length cS).ownBlock = some k → w.heap.size ≤ k := Kd.R_base HS
  have ST0 : Stay w wr b (.slice (some ⟨gN, 0, none⟩) N.length cN) := ⟨bZz HB2, fun k hk' _ _ => HB2.block k hk'⟩
  clear hj hLq hLc c0 c1 z0 z1 hbc hnd hacl h0f h1f
  go_wp2
  go_loopg [38] N.length (fun m v38 w' => ∃ (i : Nat), v38 = .int .i64 i ∧ i + m = N.length ∧ Blk w' b #[.slice (some ⟨gP, 0, none⟩) P.length cP, .slice (some ⟨gN, 0, none⟩) N.length cN] 42 ∧ OwnK kCv 91 w' w0.heap.size (.slice (some ⟨gP, 0, none⟩) P.length cP) P ∧ OwnK kCv 91 w' w.heap.size (.slice AS (srt ac bc bc.length).length cS) (srt ac bc bc.length) ∧ OwnK kNd 93 w' w0.heap.size (.slice (some ⟨gN, 0, none⟩) N.length cN) ((N.take i).map (reN (srt ac bc bc.length) P) ++ N.drop i) ∧ Below w0.heap.size w0 w' ∧ Stay w w' b (.slice (some ⟨gN, 0, none⟩) N.length cN))
  case atStart => exact ⟨0, rfl, Nat.zero_add _, K0, HC2, HS, by simpa using HN2, HB3, ST0⟩
  clear K0 HC2 HN2 HS HB2 HB3 ST0 p0 p1 p2 p3 hSq
  obtain ⟨i, rfl, hi, K0, HC2, HS, HN2, HB2, ST⟩ := hrel
  cases gk with
  | zero =>
   have hie : i = N.length := hi
   subst hie
   have hlt2 : decide ((N.length : Int) < (N.length : Int)) = false := decide_eq_false (Int.lt_irrefl _)
   obtain ⟨p0, p1, p2, p3⟩ := K0.two
   go_wp2
   go_end0
   have HF : (N.take N.length).map (reN (srt ac bc bc.length) P) ++ N.drop N.length = N.map (reN (srt ac bc bc.length) P) := by simp
   rw [HF] at HN2
   exact ⟨_, rfl, K0.set 0 _, HS.set K0 (by decide) 0 _, HN2.set K0 (by decide) 0 _, bZe HB2 hb, ST.set 0 _⟩
  | succ m =>
   have hin : i < N.length := by omega
   have him := Aside0.mk (show i + 1 + m = N.length by omega)
   have hlt2 : ((i : Int) < (N.length : Int)) = True := eq_true (Int.ofNat_lt.2 hin)
   have hi0 : (0 ≤ (i : Int)) = True := eq_true (Int.natCast_nonneg i)
   obtain ⟨n, hn⟩ : ∃ n, N[i]? = some n := ⟨N[i], List.getElem?_eq_getElem hin⟩
   have hlf := hlv n (List.mem_of_getElem? hn)
   have hgd : ((N.take i).map (reN (srt ac bc bc.length) P) ++ N.drop i).getD (i : Int).toNat (0, 0, 0, 0) = n := by
    rw [Int.toNat_natCast, List.getD_eq_getElem?_getD, take_drop_get N i hin, hn]
    rfl
   obtain ⟨ec, -, hM, hcell, hfz⟩ := Kd.R_elem HN2 (0, 0, 0, 0) (i : Int) (Int.natCast_nonneg i) (Int.ofNat_lt.2 hin)
   rw [hgd] at hM
   have hM2 : ec = encN n := hM
   subst hM2
   clear hM hgd
   have e0 : wr.cell? ⟨gN, i * 4, none⟩ = some (.int .i64 n.1) := hcell 0 _ rfl
   have e1 : wr.cell? ⟨gN, i * 4 + 1, none⟩ = some (.int .i64 n.2.1) := hcell 1 _ rfl
   have e2 : wr.cell? ⟨gN, i * 4 + 2, none⟩ = some (.int .i64 n.2.2.1) := hcell 2 _ rfl
   have e3 : wr.cell? ⟨gN, i * 4 + 3, none⟩ = some (.int .i64 n.2.2.2) := hcell 3 _ rfl
   have HW := Aside0.mk (show wrap64 ((i : Int) + 1) = ((i + 1 : Nat) : Int) from wrap_s hin hN)
   by_cases h1 : n.1 = 1
   ·obtain ⟨hk0, hk1⟩ := hlf h1
    obtain ⟨k, hkk⟩ : ∃ k : Nat, n.2.1 = (k : Int) := ⟨n.2.1.toNat, (Int.toNat_of_nonneg hk0).symm⟩
    have hlt5 : k < P.length := by omega
    have hre : reN (srt ac bc bc.length) P n = (n.1, idxI (srt ac bc bc.length) (P.getD k (0, 0, 0, 0)), n.2.2.1, n.2.2.2) := by rw [reN_leaf h1, hkk, Int.toNat_natCast]
    obtain ⟨pc, -, hPM, hpcell, -⟩ := Kd.R_elem HC2 (0, 0, 0, 0) (k : Int) (Int.natCast_nonneg k) (Int.ofNat_lt.2 hlt5)
    rw [Int.toNat_natCast] at hPM hpcell
    generalize P.getD k (0, 0, 0, 0) = d at *
    have hPM2 : pc = encC d := hPM
    subst hPM2
    have IX := fun W hq => rg_index AS cS (srt ac bc bc.length) d W hq hSc
    unfold cv at IX
    have hds : ((N.take i).map (reN (srt ac bc bc.length) P) ++ N.drop i).set i (reN (srt ac bc bc.length) P n) = (N.take (i + 1)).map (reN (srt ac bc bc.length) P) ++ N.drop (i + 1) := take_drop_set N i n hn
    rw [hre] at hds
    have HDS := Aside0.mk hds
    have HEN := Aside0.mk (show encN n = [.int .i64 1, .int .i64 k, .int .i64 n.2.2.1, .int .i64 n.2.2.2] by unfold encN; rw [h1, hkk])
    have HE2 := Aside0.mk (show ∀ x : Int, encN (n.1, x, n.2.2.1, n.2.2.2) = [.int .i64 1, .int .i64 x, .int .i64 n.2.2.1, .int .i64 n.2.2.2] from fun x => by unfold encN; rw [h1])
    rw [h1] at e0
    rw [hkk] at e1
    have q0 : wr.cell? ⟨gP, k * 7, none⟩ = some (.int .i64 d.1) := hpcell 0 _ rfl
    have q1 : wr.cell? ⟨gP, k * 7 + 1, none⟩ = some (.string (itx d.2.1.num)) := hpcell 1 _ rfl
    have q2 : wr.cell? ⟨gP, k * 7 + 2, none⟩ = some (.string (itx (d.2.1.den : Int))) := hpcell 2 _ rfl
    have q3 : wr.cell? ⟨gP, k * 7 + 3, none⟩ = some (.string (itx d.2.2.1.num)) := hpcell 3 _ rfl
    have q4 : wr.cell? ⟨gP, k * 7 + 4, none⟩ = some (.string (itx (d.2.2.1.den : Int))) := hpcell 4 _ rfl
    have q5 : wr.cell? ⟨gP, k * 7 + 5, none⟩ = some (.string (itx d.2.2.2.num)) := hpcell 5 _ rfl
    have q6 : wr.cell? ⟨gP, k * 7 + 6, none⟩ = some (.string (itx (d.2.2.2.den : Int))) := hpcell 6 _ rfl
    have hki0 : (0 ≤ (k : Int)) = True := eq_true (Int.natCast_nonneg k)
    have hki1 : ((k : Int) < (P.length : Int)) = True := eq_true (Int.ofNat_lt.2 hlt5)
    have hbN : b ≠ gN := fun e => (HN.not_blk hk (by decide)) (by rw [e]; rfl)
    have HE1 := Aside0.mk e1
    have HEC := Aside0.mk (show ∀ j u, ([.int .i64 1, .int .i64 k, .int .i64 n.2.2.1, .int .i64 n.2.2.2] : List Value)[j]? = some u → wr.cell? ⟨gN, i * 4 + j, none⟩ = some u from fun j u hu => by
     have := hcell j u (by rw [HEN.out]; exact hu)
     rwa [Int.toNat_natCast] at this)
    clear HEN hpcell hPM hcell hfz hds hre hlf hn h1 hkk hk0 hk1 hlt5
    generalize n.2.2.1 = n3 at *
    generalize n.2.2.2 = n4 at *
    generalize n.1 = nk at *
    generalize idxI (srt ac bc bc.length) d = z at *
    generalize d.1 = kk at *
    generalize itx d.2.1.num = s1 at *
    generalize itx (d.2.1.den : Int) = s2 at *
    generalize itx d.2.2.1.num = s3 at *
    generalize itx (d.2.2.1.den : Int) = s4 at *
    generalize itx d.2.2.2.num = s5 at *
    generalize itx (d.2.2.2.den : Int) = s6 at *
    have hb9 : Below wr.heap.size wr (wr.alloc (.cells #[.int .i64 1, .int .i64 k, .int .i64 n3, .int .i64 n4] 93)) := bZa (Below.refl _ _) _
    have k9 := (Blk.new wr #[.int .i64 1, .int .i64 k, .int .i64 n3, .int .i64 n4] 93).drew
    have hb10 := bZd hb9
    have K9 := K0.below hb10
    have u0 := pZc hb10 q0
    have u1 := pZc hb10 q1
    have u2 := pZc hb10 q2
    have u3 := pZc hb10 q3
    have u4 := pZc hb10 q4
    have u5 := pZc hb10 q5
    have u6 := pZc hb10 q6
    have hSq2 := Kd.C_below (Kd.R_reads' HS).2.2 hb10
    clear K0 HC HN hk
    go_wp2
    clear q0 q1 q2 q3 q4 q5 q6 e0 e1 e2 e3 hb9
    generalize (wr.alloc (.cells #[.int .i64 1, .int .i64 k, .int .i64 n3, .int .i64 n4] 93)) = w3 at *
    refine rZu (fun i => i == 17) (fun W => Below w3.drew.heap.size w3.drew W) (by kernel_rfl) (cZb _) (Below.refl _ _) ?_
    apply wpU_e 0 46
    apply wpU_e 1 47
    apply wpU_e 2 48
    refine wpU_f 3 49 (h1 := by intro W hW; have a0 := (K9.below hW).cell 0; have a1 := (K9.below hW).cell 1; go_simp; try rfl) (h3 := ?_)
    apply wpU_e 4 50
    apply wpU_e 5 51
    apply wpU_e 6 52
    apply wpU_e 7 53
    apply wpU_e 8 54
    refine wpU_f 9 55 (h1 := by intro W hW; have a0 := (K9.below hW).cell 0; have a1 := (K9.below hW).cell 1; go_simp; try rfl) (h3 := ?_)
    apply wpU_e 10 56
    refine wpU_f 11 57 (h1 := by intro W hW; have a1 := (k9.below hW).cell 1; go_simp; try rfl) (h3 := ?_)
    apply wpU_e 12 58
    refine wpU_f 13 59 (h1 := by intro W hW; have v0 := pZc hW u0; have v1 := pZc hW u1; have v2 := pZc hW u2; have v3 := pZc hW u3; have v4 := pZc hW u4; have v5 := pZc hW u5; have v6 := pZc hW u6; go_simp; try rfl) (h3 := ?_)
    refine wpU_ca 14 60 Tryz.func161 (fun W hW => IX W (Kd.C_below hSq2 hW)) ?_
    refine wpU_ac ?_
    apply wpU_e 15 61
    apply wpU_e 16 62
    refine wpU_late (by kernel_rfl) (fun W1 hW1 => ?_)
    have hbW := bZs hb10 hW1
    have HNW := HN2.below hbW
    have HSW := HS.below hbW
    have HCW := HC2.below hbW
    have KW := K9.below hW1
    have HBW := bZs HB2 hbW
    have STW := ST.step hbW
    obtain ⟨cellsN, hcN⟩ := Kd.R_typed HNW gN rfl
    have hkN : Blk W1 gN cellsN 93 := hcN
    have y1 := pZc hbW HE1.out
    have y2 : W1.frozen? ⟨gN, i * 4 + 1, none⟩ = false := hkN.frozen _
    clear IX u0 u1 u2 u3 u4 u5 u6 hSq2 k9
    refine wpAny_last (i := 17) (by kernel_rfl) rfl (by kernel_rfl) (by rfl) (fun K hK => ?_)
    go_simp
    refine hK _ _ ?_
    clear hK K
    go_wp2
    go_roundg m
    case measure => omega
    case rel =>
     have hcc : ∀ (j : Nat) (u : Value), ([.int .i64 1, .int .i64 k, .int .i64 n3, .int .i64 n4] : List Value)[j]? = some u → W1.cell? ⟨gN, (i : Int).toNat * kNd.sz + j, none⟩ = some u := fun j u hu => by
      rw [Int.toNat_natCast]
      exact pZc hbW (HEC.out j u hu)
     obtain ⟨hR, -⟩ := Kd.R_seg HNW (i : Int) (Int.natCast_nonneg i) (Int.ofNat_lt.2 hin) (c := [.int .i64 1, .int .i64 k, .int .i64 n3, .int .i64 n4]) (seg := [.int .i64 z]) (j := 1) rfl hcc (show 1 + 1 ≤ 4 by decide) (x' := (nk, z, n3, n4)) (okp := fun _ => False) (HE2.out z).symm (fun _ h => h.elim)
     rw [Int.toNat_natCast, HDS.out] at hR
     exact ⟨i + 1, (by first | rfl | exact congrArg _ HW.out), him.out, KW.far (p := ⟨gN, i * 4 + 1, none⟩) hbN _, HCW.set hkN (by decide) _ _, HSW.set hkN (by decide) _ _, hR, bZe HBW hgN, STW.row _ _⟩
   ·have hkp := keep_set (f := reN (srt ac bc bc.length) P) N i n hn (reN_not h1)
    rw [hkp] at HN2
    have HKN := Aside0.mk HN2
    clear hkp HN2 hn hlf hcell hfz
    generalize n.1 = n1 at *
    generalize n.2.1 = n2 at *
    generalize n.2.2.1 = n3 at *
    generalize n.2.2.2 = n4 at *
    have hb9 : Below wr.heap.size wr (wr.alloc (.cells #[.int .i64 n1, .int .i64 n2, .int .i64 n3, .int .i64 n4] 93)) := bZa (Below.refl _ _) _
    go_wp2
    go_roundg m
    case measure => omega
    case rel =>
     exact ⟨i + 1, (by first | rfl | exact congrArg _ HW.out), him.out, K0.below hb9, HC2.below hb9, HS.below hb9, HKN.out.below hb9, bZs HB2 hb9, ST.step hb9⟩
 | succ m =>
  have hin : j < bc.length := by omega
  have hjm := Aside0.mk (show j + 1 + m = bc.length by omega)
  have hlt : ((j : Int) < (bc.length : Int)) = True := eq_true (Int.ofNat_lt.2 hin)
  have hj0 : (0 ≤ (j : Int)) = True := eq_true (Int.natCast_nonneg j)
  obtain ⟨ad, rfl, hx0, hx1⟩ := flat_at hLq (0, 0, 0, 0) (j : Int) (Int.natCast_nonneg j) (Int.ofNat_lt.2 hin)
  have f0 := hx0 _ rfl
  have f1 := hx1 1 _ (by decide) rfl
  have f2 := hx1 2 _ (by decide) rfl
  have f3 := hx1 3 _ (by decide) rfl
  have f4 := hx1 4 _ (by decide) rfl
  have f5 := hx1 5 _ (by decide) rfl
  have f6 := hx1 6 _ (by decide) rfl
  rw [Int.toNat_natCast] at f0 f1 f2 f3 f4 f5 f6
  clear hx0 hx1
  have g0 := pZc HB2 f0
  have g1 := pZc HB2 f1
  have g2 := pZc HB2 f2
  have g3 := pZc HB2 f3
  have g4 := pZc HB2 f4
  have g5 := pZc HB2 f5
  have g6 := pZc HB2 f6
  clear f0 f1 f2 f3 f4 f5 f6
  have hbj : bc[j]? = some (bc.getD j (0, 0, 0, 0)) := by rw [List.getD_eq_getElem?_getD, List.getElem?_eq_getElem hin]; rfl
  generalize bc.getD j (0, 0, 0, 0) = d at *
  have CT := fun W hq => rg_contains AS cS (srt ac bc j) d W hq hSc
  have hmem := srt_mem (ac := ac) hnd hbj
  have hsucc := srt_succ (ac := ac) hbj
  have HW := Aside0.mk (show wrap64 ((j : Int) + 1) = ((j + 1 : Nat) : Int) from wrap_s hin (by omega))
  have EC : Aside0 (encC d = [.int .i64 d.1, .string (itx d.2.1.num), .string (itx (d.2.1.den : Int)), .string (itx d.2.2.1.num), .string (itx (d.2.2.1.den : Int)), .string (itx d.2.2.2.num), .string (itx (d.2.2.2.den : Int))]) := Aside0.mk rfl
  have hl9 := Aside0.mk (app_ok (n := (srt ac bc j).length) (by omega))
  unfold cv at CT
  clear hbj c0 c1 z0 z1 hk HC HN hlv hP hN hf hj hbc hnd hPq hLq hacl
  by_cases hm : d ∈ ac
  ·rw [decide_eq_true (hmem.2 hm)] at CT
   rw [if_pos hm] at hsucc
   have HU := Aside0.mk hsucc
   clear hmem hm hsucc EC hl9
   generalize d.1 = kk at *
   generalize itx d.2.1.num = s1 at *
   generalize itx (d.2.1.den : Int) = s2 at *
   generalize itx d.2.2.1.num = s3 at *
   generalize itx (d.2.2.1.den : Int) = s4 at *
   generalize itx d.2.2.2.num = s5 at *
   generalize itx (d.2.2.2.den : Int) = s6 at *
   have hb9 : Below wr.heap.size wr (wr.alloc (.cells #[.int .i64 kk, .string s1, .string s2, .string s3, .string s4, .string s5, .string s6] 91)) := bZa (Below.refl _ _) _
   go_wp2_with (go_at_call 100; refine (CT _ (Kd.C_below hSq hb9)).mono ?_; clear CT; rintro e w4 ⟨rfl, hb4⟩; have hb10 := bZs hb9 hb4)
   go_roundg m
   case measure => omega
   case rel => exact ⟨j + 1, _, (by first | rfl | exact congrArg _ HW.out), hjm.out, rfl, by rw [HU.out]; exact HS.below hb10, bZs HB2 hb10⟩
  ·rw [decide_eq_false (fun h => hm (hmem.1 h))] at CT
   rw [if_neg hm] at hsucc
   have HU := Aside0.mk hsucc
   clear hmem hm hsucc
   generalize d.1 = kk at *
   generalize itx d.2.1.num = s1 at *
   generalize itx (d.2.1.den : Int) = s2 at *
   generalize itx d.2.2.1.num = s3 at *
   generalize itx (d.2.2.1.den : Int) = s4 at *
   generalize itx d.2.2.2.num = s5 at *
   generalize itx (d.2.2.2.den : Int) = s6 at *
   obtain ⟨hb9, k9⟩ := news1 wr #[.int .i64 kk, .string s1, .string s2, .string s3, .string s4, .string s5, .string s6] 91
   go_wp2_with (first | (go_at_call 100; refine (CT _ (Kd.C_below hSq hb9)).mono ?_; clear CT; rintro e w4 ⟨rfl, hb4⟩; have hb10 := bZs hb9 hb4; have K9 := k9.below hb4; have HS4 := HS.below hb10; have HB4 := bZs HB2 hb10; have t0 := K9.cell 0; have t1 := K9.cell 1; have t2 := K9.cell 2; have t3 := K9.cell 3; have t4 := K9.cell 4; have t5 := K9.cell 5; have t6 := K9.cell 6) | (at_builtin; refine Kd.R_append kCv (w0 := w) (W := w4) w.heap.size rfl (.tmp 28) (.tmp 30) 39 91 (.agg #[.int .i64 0, .string ⟨#[]⟩, .string ⟨#[]⟩, .string ⟨#[]⟩, .string ⟨#[]⟩, .string ⟨#[]⟩, .string ⟨#[]⟩]) 104 rfl Tryz.underlying39 info91 rfl (by decide) (by decide) (.slice AS (srt ac bc j).length cS) (srt ac bc j) d [.int .i64 kk, .string s1, .string s2, .string s3, .string s4, .string s5, .string s6] (fun _ => True) (fun _ => False) rfl rfl EC.out.symm (fun _ hk => hk.elim) (fun _ _ => trivial) HS4 HB4 (bZz HB4) hl9.out ?_; intro v1 w5 HO5 HB5 HG5 _))
   go_roundg m
   case measure => omega
   case rel => exact ⟨j + 1, _, (by first | rfl | exact congrArg _ HW.out), hjm.out, rfl, by rw [HU.out]; exact HO5, HB5⟩
end Go.Proofs.YtociicfjhgfgpaaGreatDoor
