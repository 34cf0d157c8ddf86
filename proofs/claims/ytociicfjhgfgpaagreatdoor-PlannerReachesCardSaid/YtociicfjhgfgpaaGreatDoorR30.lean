/- The combination of two regions as it is made: curves placed one by one, the leaves renamed at the end: plain facts. region: place: the walk. -/
import Derived.Test.YtociicfjhgfgpaaGreatDoorR25
import Derived.Test.YtociicfjhgfgpaaGreatDoorR29
set_option linter.unusedVariables false
set_option linter.unusedSimpArgs false
set_option maxHeartbeats 16000000
set_option maxRecDepth 100000
namespace Go.Proofs.YtociicfjhgfgpaaGreatDoor
open Go.Proofs.YtociicfjhgfgpaaGreatDoorW.PrintWords
def addC (P : List Cv) (c : Cv) : List Cv := if c ∈ P then P else P ++ [c]
theorem addC_old {P : List Cv} {c : Cv} (h : c ∈ P) : addC P c = P := if_pos h
theorem addC_new {P : List Cv} {c : Cv} (h : c ∉ P) : addC P c = P ++ [c] := if_neg h
theorem addC_pre (P : List Cv) (c : Cv) : P <+: addC P c := by
 unfold addC
 split
 ·exact List.prefix_refl _
 ·exact List.prefix_append _ _
theorem addC_mem (P : List Cv) (c : Cv) : c ∈ addC P c := by
 unfold addC
 split
 ·assumption
 ·simp
theorem addC_len (P : List Cv) (c : Cv) : (addC P c).length ≤ P.length + 1 := by
 unfold addC
 split <;> simp
theorem addC_at (P : List Cv) (c : Cv) : (addC P c)[(addC P c).idxOf c]? = some c := by
 have hl := List.idxOf_lt_length_of_mem (addC_mem P c)
 rw [List.getElem?_eq_getElem hl, List.getElem_idxOf hl]
theorem addC_new_idx {P : List Cv} {c : Cv} (h : c ∉ P) : (addC P c).idxOf c = P.length := by
 rw [addC_new h, List.idxOf_append, if_neg h, List.idxOf_cons_self]
 omega
theorem nodup_idx {l : List Cv} (h : l.Nodup) {i : Nat} {c : Cv} (e : l[i]? = some c) : c ∈ l ∧ l.idxOf c = i := by
 have hm := List.mem_of_getElem? e
 have hl := List.idxOf_lt_length_of_mem hm
 have e2 := List.getElem_idxOf hl
 obtain ⟨hi, e1⟩ := List.getElem?_eq_some_iff.1 e
 have hp := List.pairwise_iff_getElem.1 h
 refine ⟨hm, ?_⟩
 rcases Nat.lt_trichotomy (l.idxOf c) i with h1 | h1 | h1
 ·exact absurd (e2.trans e1.symm) (hp _ _ hl hi h1)
 ·exact h1
 ·exact absurd (e1.trans e2.symm) (hp _ _ hi hl h1)
theorem pre_get {P P' : List Cv} (h : P <+: P') {k : Nat} {c : Cv} (e : P[k]? = some c) : P'[k]? = some c := by
 obtain ⟨t, rfl⟩ := h
 have := (List.getElem?_eq_some_iff.1 e).1
 rw [List.getElem?_append_left this]
 exact e
def relN (P bc : List Cv) (sh : Nat) (n m : Nd) : Prop :=
 if n.1 = 1 then ∃ k : Nat, m = (n.1, (k : Int), n.2.2.1, n.2.2.2) ∧ P[k]? = some (bc.getD n.2.1.toNat (0, 0, 0, 0)) else m = (n.1, n.2.1, n.2.2.1 + sh, n.2.2.2 + sh)
theorem relN_mono {P P' bc : List Cv} {sh : Nat} {n m : Nd} (h : relN P bc sh n m) (hp : P <+: P') : relN P' bc sh n m := by
 unfold relN at *
 split
 ·rename_i h1
  rw [if_pos h1] at h
  obtain ⟨k, e, h2⟩ := h
  exact ⟨k, e, pre_get hp h2⟩
 ·rename_i h1
  rwa [if_neg h1] at h
def relL (P bc : List Cv) (sh : Nat) (ns ms : List Nd) : Prop := ms.length = ns.length ∧ ∀ (j : Nat) (n m : Nd), ns[j]? = some n → ms[j]? = some m → relN P bc sh n m
theorem relL_nil (P bc : List Cv) (sh : Nat) : relL P bc sh [] [] := ⟨rfl, fun j n m h => by simp at h⟩
theorem relL_mono {P P' bc : List Cv} {sh : Nat} {ns ms : List Nd} (h : relL P bc sh ns ms) (hp : P <+: P') : relL P' bc sh ns ms :=
 ⟨h.1, fun j n m h1 h2 => relN_mono (h.2 j n m h1 h2) hp⟩
theorem relL_snoc {P bc : List Cv} {sh : Nat} {ns ms : List Nd} {n m : Nd} (h : relL P bc sh ns ms) (hn : relN P bc sh n m) : relL P bc sh (ns ++ [n]) (ms ++ [m]) := by
 refine ⟨by simp [h.1], fun j a b h1 h2 => ?_⟩
 rcases Nat.lt_trichotomy j ns.length with hj | hj | hj
 ·rw [List.getElem?_append_left hj] at h1
  rw [List.getElem?_append_left (by rw [h.1]; exact hj)] at h2
  exact h.2 j a b h1 h2
 ·subst hj
  rw [List.getElem?_append_right (Nat.le_refl _)] at h1
  rw [List.getElem?_append_right (by rw [h.1]; exact Nat.le_refl _), h.1] at h2
  simp at h1 h2
  subst h1 h2
  exact hn
 ·rw [List.getElem?_eq_none (by simp; omega)] at h1
  cases h1
def reN (S P : List Cv) (n : Nd) : Nd := if n.1 = 1 then (n.1, idxI S (P.getD n.2.1.toNat (0, 0, 0, 0)), n.2.2.1, n.2.2.2) else n
theorem cmbC_pre (a b : Rg) : a.1 <+: cmbC a b := List.prefix_append _ _
theorem re_all {a b : Rg} {P : List Cv} {M : List Nd} (ha : okR a) (hb : okR b) (hp : a.1 <+: P) (hr : relL P b.1 a.2.length b.2 M) :
  (a.2 ++ M).map (reN (cmbC a b) P) = a.2 ++ b.2.map (shN (plc a b) a.2.length) := by
 have hnd := cmbC_nodup ha.nodup hb.nodup
 rw [List.map_append]
 congr 1
 ·apply List.ext_getElem?
  intro j
  rw [List.getElem?_map]
  cases hj : a.2[j]? with
  | none => rfl
  | some n =>
   have hok := okNds_get ha.nd hj
   show some (reN (cmbC a b) P n) = some n
   congr 1
   unfold reN
   split
   ·rename_i h1
    rcases hok with ⟨_, h2, h3, h4, h5⟩ | ⟨h2, _⟩
    ·have hlt : n.2.1.toNat < a.1.length := by omega
     have e1 := List.getElem?_eq_getElem hlt
     have e2 := pre_get hp e1
     have e3 := nodup_idx hnd (pre_get (cmbC_pre a b) e1)
     rw [List.getD_eq_getElem?_getD, e2]
     simp only [Option.getD_some]
     unfold idxI
     rw [if_pos e3.1, e3.2]
     obtain ⟨x, y, z, u⟩ := n
     simp only at *
     rw [Int.toNat_of_nonneg h2]
    ·omega
   ·rfl
 ·apply List.ext_getElem?
  intro j
  rw [List.getElem?_map, List.getElem?_map]
  cases hj : b.2[j]? with
  | none =>
   have : M[j]? = none := by
    rw [List.getElem?_eq_none_iff] at hj ⊢
    rw [hr.1]; exact hj
   rw [this]
   rfl
  | some n =>
   have hlt := (List.getElem?_eq_some_iff.1 hj).1
   have hM : M[j]? = some (M[j]'(by rw [hr.1]; exact hlt)) := List.getElem?_eq_getElem _
   rw [hM]
   have hrel := hr.2 j n _ hj hM
   generalize M[j]'(by rw [hr.1]; exact hlt) = m at *
   have hok := okNds_get hb.nd hj
   show some (reN (cmbC a b) P m) = some (shN (plc a b) a.2.length n)
   congr 1
   unfold relN at hrel
   unfold shN
   by_cases h1 : n.1 = 1
   ·rw [if_pos h1] at hrel ⊢
    obtain ⟨k, rfl, e⟩ := hrel
    unfold reN
    rw [if_pos h1]
    simp only [Int.toNat_natCast]
    rw [List.getD_eq_getElem?_getD, e]
    simp only [Option.getD_some]
    rcases hok with ⟨_, h2, h3, h4, h5⟩ | ⟨h2, _⟩
    ·have hlt : n.2.1.toNat < b.1.length := by omega
     have hmem : b.1.getD n.2.1.toNat (0, 0, 0, 0) ∈ cmbC a b := by
      rw [mem_cmbC]
      right
      rw [List.getD_eq_getElem?_getD, List.getElem?_eq_getElem hlt]
      exact List.getElem_mem hlt
     unfold idxI plc
     rw [if_pos hmem]
    ·omega
   ·rw [if_neg h1] at hrel ⊢
    subst hrel
    unfold reN
    rw [if_neg h1]
def srt (ac bc : List Cv) (j : Nat) : List Cv := ac ++ (bc.take j).filter (fun c => decide (c ∉ ac))
theorem srt_zero (ac bc : List Cv) : srt ac bc 0 = ac := by simp [srt]
theorem srt_all (a b : Rg) : srt a.1 b.1 b.1.length = cmbC a b := by simp [srt, cmbC]
theorem srt_mem {ac bc : List Cv} {j : Nat} {c : Cv} (hn : bc.Nodup) (h : bc[j]? = some c) : c ∈ srt ac bc j ↔ c ∈ ac := by
 unfold srt
 rw [List.mem_append, List.mem_filter]
 refine ⟨fun h1 => ?_, .inl⟩
 rcases h1 with h1 | ⟨h1, _⟩
 ·exact h1
 ·obtain ⟨i, hi, e⟩ := List.getElem_of_mem h1
  rw [List.length_take] at hi
  rw [List.getElem_take] at e
  have e1 : bc[i]? = some c := by rw [List.getElem?_eq_getElem (by omega), e]
  have := (nodup_idx hn h).2.symm.trans (nodup_idx hn e1).2
  omega
theorem srt_succ {ac bc : List Cv} {j : Nat} {c : Cv} (h : bc[j]? = some c) : srt ac bc (j + 1) = if c ∈ ac then srt ac bc j else srt ac bc j ++ [c] := by
 obtain ⟨hj, e⟩ := List.getElem?_eq_some_iff.1 h
 unfold srt
 rw [List.take_succ_eq_append_getElem hj, e, List.filter_append]
 split <;> rename_i hc
 ·simp [hc]
 ·simp [hc]
theorem srt_len (ac bc : List Cv) (j : Nat) : (srt ac bc j).length ≤ ac.length + j := by
 unfold srt
 have := List.length_filter_le (fun c => decide (c ∉ ac)) (bc.take j)
 rw [List.length_take] at this
 simp only [List.length_append]
 omega
theorem take_drop_set {f : Nd → Nd} (xs : List Nd) (i : Nat) (n : Nd) (h : xs[i]? = some n) : ((xs.take i).map f ++ xs.drop i).set i (f n) = (xs.take (i + 1)).map f ++ xs.drop (i + 1) := by
 obtain ⟨hi, e⟩ := List.getElem?_eq_some_iff.1 h
 have hl : ((xs.take i).map f).length = i := by rw [List.length_map, List.length_take]; omega
 rw [List.set_append, if_neg (by omega), hl, Nat.sub_self, List.drop_eq_getElem_cons hi, e, List.set_cons_zero, List.take_succ_eq_append_getElem hi, e, List.map_append, List.append_assoc]
 rfl
theorem take_drop_get {f : Nd → Nd} (xs : List Nd) (i : Nat) (h : i < xs.length) : ((xs.take i).map f ++ xs.drop i)[i]? = xs[i]? := by
 have hl : ((xs.take i).map f).length = i := by rw [List.length_map, List.length_take]; omega
 rw [List.getElem?_append_right (by omega), hl, Nat.sub_self, List.getElem?_drop, Nat.add_zero]
end Go.Proofs.YtociicfjhgfgpaaGreatDoor
namespace Go.Proofs.YtociicfjhgfgpaaGreatDoor
open Go.RowKit Go.Shelf Go.Lib Go.Proofs.YtociicfjhgfgpaaGreatDoorW.PrintWords
def Stay (w w' : World) (b : Nat) (v : Value) : Prop := w.heap.size ≤ w'.heap.size ∧ ∀ k, k < w.heap.size → k ≠ b → some k ≠ v.ownBlock → w'.heap[k]? = w.heap[k]?
section
variable {w w' w2 : World} {b : Nat} {v : Value}
theorem Stay.blk (h : Stay w w' b v) {g : Nat} {cs : Array Value} {t : TypeId} (hk : Blk w g cs t) (hb : g ≠ b) (hv : some g ≠ v.ownBlock) : Blk w' g cs t := (h.2 g hk.lt hb hv).trans hk
theorem Stay.own (h : Stay w w' b v) {α : Type} {d : Kd α} {e e' t base : Nat} {u : Value} {xs : List α} {cs : Array Value} (hE : d.E = []) (ho : OwnK d e w base u xs) (hk : Blk w b cs t) (ht : e ≠ t) (hv : ∀ k, v.ownBlock = some k → ∃ cells, w.heap[k]? = some (.cells cells e' (0, 0))) (he : e ≠ e') : OwnK d e w' base u xs := by
 refine Kd.R_mono (Kd.R_step (Kd.R_bound ho) (fun k hb hlt => h.2 k hlt ?_ ?_)) (fun _ _ => trivial)
 ·rintro rfl
  obtain ⟨_, _, _, q, hq, cells, hc⟩ := hb
  rw [hE] at hq
  have hq : q = e := by simpa using hq
  have := hc.symm.trans hk
  simp only [Option.some.injEq, Obj.cells.injEq] at this
  exact ht (hq.symm.trans this.2.1)
 ·intro hk'
  obtain ⟨cells', hc'⟩ := hv k hk'.symm
  obtain ⟨_, _, _, q, hq, cells, hc⟩ := hb
  rw [hE] at hq
  have hq : q = e := by simpa using hq
  have := hc.symm.trans hc'
  simp only [Option.some.injEq, Obj.cells.injEq] at this
  exact he (hq.symm.trans this.2.1)
end
theorem own_ty {α : Type} {d : Kd α} {e base : Nat} {w : World} {u : Value} {xs : List α} (ho : OwnK d e w base u xs) : ∀ k, u.ownBlock = some k → ∃ cells, w.heap[k]? = some (.cells cells e (0, 0)) := Kd.R_typed ho
theorem own_lt {α : Type} {d : Kd α} {e base : Nat} {w : World} {u : Value} {xs : List α} (ho : OwnK d e w base u xs) : ∀ k, u.ownBlock = some k → k < w.heap.size := Kd.R_lt ho
theorem rg_place (w0 : World) (b : Nat) (vC vN : Value) (P : List Cv) (c : Cv) (w : World) (hk : Blk w b #[vC, vN] 42) (HO : OwnK kCv 91 w w0.heap.size vC P) (HB : Below w0.heap.size w0 w) (hb : w0.heap.size ≤ b) (hl : P.length ≤ 500) :
  Calls Tryz.prog 149 #[.pointer (some ⟨b, 0, none⟩), cv c] w fun e w' => ∃ vC', e = .returned (.int .i64 (((addC P c).idxOf c : Nat) : Int)) ∧ Blk w' b #[vC', vN] 42 ∧ OwnK kCv 91 w' w0.heap.size vC' (addC P c) ∧ Below w0.heap.size w0 w' ∧ Stay w w' b vC := by
 obtain ⟨A, cp, e0⟩ := Kd.R_slice HO
 subst e0
 obtain ⟨_, hle, hC⟩ := Kd.R_reads' HO
 have V := fun W hq => rg_index A cp P c W hq hle
 have EC : Aside0 (encC c = [.int .i64 c.1, .string (itx c.2.1.num), .string (itx (c.2.1.den : Int)), .string (itx c.2.2.1.num), .string (itx (c.2.2.1.den : Int)), .string (itx c.2.2.2.num), .string (itx (c.2.2.2.den : Int))]) := Aside0.mk rfl
 unfold cv at *
 by_cases hm : c ∈ P
 ·rw [show idxI P c = ((P.idxOf c : Nat) : Int) from if_pos hm] at V
  rw [addC_old hm]
  generalize P.idxOf c = ix at *
  obtain ⟨IX, hIX⟩ : ∃ z : Int, (ix : Int) = z := ⟨_, rfl⟩
  have hge : decide (IX ≥ 0) = true := decide_eq_true (by omega)
  rw [hIX] at V ⊢
  clear hIX hm
  generalize c.1 = kk at *
  generalize itx c.2.1.num = s1 at *
  generalize itx (c.2.1.den : Int) = s2 at *
  generalize itx c.2.2.1.num = s3 at *
  generalize itx (c.2.2.1.den : Int) = s4 at *
  generalize itx c.2.2.2.num = s5 at *
  generalize itx (c.2.2.2.den : Int) = s6 at *
  have hw1 : Below w.heap.size w (w.alloc (.cells #[.int .i64 kk, .string s1, .string s2, .string s3, .string s4, .string s5, .string s6] 91)) := bZa (Below.refl _ _) _
  have K0 : Blk (w.alloc (.cells #[.int .i64 kk, .string s1, .string s2, .string s3, .string s4, .string s5, .string s6] 91)).drew b #[.slice A P.length cp, vN] 42 := (hk.alloc (.cells #[.int .i64 kk, .string s1, .string s2, .string s3, .string s4, .string s5, .string s6] 91)).drew
  have K1 : Blk (w.alloc (.cells #[.int .i64 kk, .string s1, .string s2, .string s3, .string s4, .string s5, .string s6] 91)).drew w.heap.size #[.int .i64 kk, .string s1, .string s2, .string s3, .string s4, .string s5, .string s6] 91 := (Blk.new w #[.int .i64 kk, .string s1, .string s2, .string s3, .string s4, .string s5, .string s6] 91).drew
  have hC2 : kCv.C (w.alloc (.cells #[.int .i64 kk, .string s1, .string s2, .string s3, .string s4, .string s5, .string s6] 91)).drew A P.length P := Kd.C_below hC (bZd hw1)
  go_enter Tryz.func149, Tryz.ntmps149
  go_wp2
  refine rZu (fun i => i == 6) (fun W => Below (w.alloc (.cells #[.int .i64 kk, .string s1, .string s2, .string s3, .string s4, .string s5, .string s6] 91)).drew.heap.size (w.alloc (.cells #[.int .i64 kk, .string s1, .string s2, .string s3, .string s4, .string s5, .string s6] 91)).drew W) (by kernel_rfl) (cZb _) (Below.refl _ _) ?_
  apply wpU_e 0 6
  apply wpU_e 1 7
  apply wpU_e 2 8
  refine wpU_f 3 9 (h1 := by intro W hW; have e0 := (K0.below hW).cell 0; go_simp; try rfl) (h3 := ?_)
  refine wpU_f 4 10 (h1 := by intro W hW; have hC := K1.below hW; have f0 := hC.cell 0; have f1 := hC.cell 1; have f2 := hC.cell 2; have f3 := hC.cell 3; have f4 := hC.cell 4; have f5 := hC.cell 5; have f6 := hC.cell 6; clear hC; go_simp; try rfl) (h3 := ?_)
  refine wpU_ca 5 11 Tryz.func161 (fun W hW => V W (Kd.C_below hC2 hW)) ?_
  refine wpU_ac ?_
  refine wpU_late (by kernel_rfl) (fun W1 hW1 => ?_)
  refine wpAny_last (i := 6) (by kernel_rfl) rfl (by kernel_rfl) (by rfl) (fun K hK => ?_)
  go_simp
  refine hK _ _ ?_
  clear hK K
  go_wp2
  go_ret
  have hb9 := bZs (bZd hw1) hW1
  exact ⟨_, rfl, K0.below hW1, HO.below hb9, bZs HB hb9, bZz hb9, fun k hk' _ _ => hb9.block k hk'⟩
 ·rw [show idxI P c = -1 from if_neg hm] at V
  have hidx := addC_new_idx hm
  rw [addC_new hm] at hidx ⊢
  rw [hidx]
  have hsn : ∀ k, (Value.slice A P.length cp).ownBlock = some k → k < w.heap.size := own_lt HO
  clear hidx hm
  generalize c.1 = kk at *
  generalize itx c.2.1.num = s1 at *
  generalize itx (c.2.1.den : Int) = s2 at *
  generalize itx c.2.2.1.num = s3 at *
  generalize itx (c.2.2.1.den : Int) = s4 at *
  generalize itx c.2.2.2.num = s5 at *
  generalize itx (c.2.2.2.den : Int) = s6 at *
  have hw1 : Below w.heap.size w (w.alloc (.cells #[.int .i64 kk, .string s1, .string s2, .string s3, .string s4, .string s5, .string s6] 91)) := bZa (Below.refl _ _) _
  have K0 : Blk (w.alloc (.cells #[.int .i64 kk, .string s1, .string s2, .string s3, .string s4, .string s5, .string s6] 91)).drew b #[.slice A P.length cp, vN] 42 := (hk.alloc (.cells #[.int .i64 kk, .string s1, .string s2, .string s3, .string s4, .string s5, .string s6] 91)).drew
  have K1 : Blk (w.alloc (.cells #[.int .i64 kk, .string s1, .string s2, .string s3, .string s4, .string s5, .string s6] 91)).drew w.heap.size #[.int .i64 kk, .string s1, .string s2, .string s3, .string s4, .string s5, .string s6] 91 := (Blk.new w #[.int .i64 kk, .string s1, .string s2, .string s3, .string s4, .string s5, .string s6] 91).drew
  have hC2 : kCv.C (w.alloc (.cells #[.int .i64 kk, .string s1, .string s2, .string s3, .string s4, .string s5, .string s6] 91)).drew A P.length P := Kd.C_below hC (bZd hw1)
  go_enter Tryz.func149, Tryz.ntmps149
  go_wp2
  refine rZu (fun i => i == 6) (fun W => Below (w.alloc (.cells #[.int .i64 kk, .string s1, .string s2, .string s3, .string s4, .string s5, .string s6] 91)).drew.heap.size (w.alloc (.cells #[.int .i64 kk, .string s1, .string s2, .string s3, .string s4, .string s5, .string s6] 91)).drew W) (by kernel_rfl) (cZb _) (Below.refl _ _) ?_
  apply wpU_e 0 6
  apply wpU_e 1 7
  apply wpU_e 2 8
  refine wpU_f 3 9 (h1 := by intro W hW; have e0 := (K0.below hW).cell 0; go_simp; try rfl) (h3 := ?_)
  refine wpU_f 4 10 (h1 := by intro W hW; have hC := K1.below hW; have f0 := hC.cell 0; have f1 := hC.cell 1; have f2 := hC.cell 2; have f3 := hC.cell 3; have f4 := hC.cell 4; have f5 := hC.cell 5; have f6 := hC.cell 6; clear hC; go_simp; try rfl) (h3 := ?_)
  refine wpU_ca 5 11 Tryz.func161 (fun W hW => V W (Kd.C_below hC2 hW)) ?_
  refine wpU_ac ?_
  refine wpU_late (by kernel_rfl) (fun W1 hW1 => ?_)
  refine wpAny_last (i := 6) (by kernel_rfl) rfl (by kernel_rfl) (by rfl) (fun K hK => ?_)
  go_simp
  refine hK _ _ ?_
  clear hK K
  go_wp2
  have hb9 := bZd (bZs (bZd hw1) hW1)
  have L0 := (K0.below hW1).drew
  have L1 := (K1.below hW1).drew
  have HO1 := HO.below hb9
  have HB1 := bZs HB hb9
  clear K0 K1 hC2 hw1 hW1 V hC
  refine wp_region_C (fun i => i == 10) (fun W => Blk W b #[.slice A P.length cp, vN] 42 ∧ Blk W w.heap.size #[.int .i64 kk, .string s1, .string s2, .string s3, .string s4, .string s5, .string s6] 91) (by kernel_rfl) ?_
  refine wZt (i := 0) rfl (by kernel_rfl) (by kernel_rfl) (by kernel_rfl) (by kernel_rfl) (fun _ _ _ _ h => h) ⟨L0, L1⟩ (by rfl) ?_
  apply Exists.intro
  refine ⟨fun W hW => ?_, ?_⟩
  ·go_simp
   try rfl
  refine wZt (i := 1) rfl (by kernel_rfl) (by kernel_rfl) (by kernel_rfl) (by kernel_rfl) (fun _ _ _ _ h => h) ⟨L0, L1⟩ (by rfl) ?_
  apply Exists.intro
  refine ⟨fun W hW => ?_, ?_⟩
  ·go_simp
   try rfl
  refine wZt (i := 2) rfl (by kernel_rfl) (by kernel_rfl) (by kernel_rfl) (by kernel_rfl) (fun _ _ _ _ h => h) ⟨L0, L1⟩ (by rfl) ?_
  apply Exists.intro
  refine ⟨fun W hW => ?_, ?_⟩
  ·go_simp
   try rfl
  refine wZt (i := 3) rfl (by kernel_rfl) (by kernel_rfl) (by kernel_rfl) (by kernel_rfl) (fun _ _ _ _ h => h) ⟨L0, L1⟩ (by rfl) ?_
  apply Exists.intro
  refine ⟨fun W hW => ?_, ?_⟩
  ·go_simp
   try rfl
  refine wZt (i := 4) rfl (by kernel_rfl) (by kernel_rfl) (by kernel_rfl) (by kernel_rfl) (fun _ _ _ _ h => h) ⟨L0, L1⟩ (by rfl) ?_
  apply Exists.intro
  refine ⟨fun W hW => ?_, ?_⟩
  ·have e0 := hW.1.cell 0; go_simp
   try rfl
  refine wZt (i := 5) rfl (by kernel_rfl) (by kernel_rfl) (by kernel_rfl) (by kernel_rfl) (fun _ _ _ _ h => h) ⟨L0, L1⟩ (by rfl) ?_
  apply Exists.intro
  refine ⟨fun W hW => ?_, ?_⟩
  ·have f0 := hW.2.cell 0; have f1 := hW.2.cell 1; have f2 := hW.2.cell 2; have f3 := hW.2.cell 3; have f4 := hW.2.cell 4; have f5 := hW.2.cell 5; have f6 := hW.2.cell 6; go_simp
   try rfl
  refine wZs (i := 6) (by kernel_rfl) rfl (fun K hK => ?_)
  go_simp
  refine hK _ _ (fun _ => ⟨L0.alloc _, L1.alloc _⟩) ?_
  clear hK K
  refine wZs (i := 7) (by kernel_rfl) rfl (fun K hK => ?_)
  refine Kd.R_append_step kCv (w0 := w0) (W := W1.drew) w0.heap.size (by rfl) (.tmp 19) (.tmp 21) 39 91 (.agg #[.int .i64 0, .string ⟨#[]⟩, .string ⟨#[]⟩, .string ⟨#[]⟩, .string ⟨#[]⟩, .string ⟨#[]⟩, .string ⟨#[]⟩]) 104 rfl Tryz.underlying39 info91 rfl (by decide) (by decide) (.slice A P.length cp) P c [.int .i64 kk, .string s1, .string s2, .string s3, .string s4, .string s5, .string s6] (fun _ => True) (fun _ => False) rfl rfl EC.out.symm (fun _ hk => hk.elim) (fun _ _ => trivial) HO1 HB1 (bZz HB1) (by omega) ?_
  intro v1 w5 HO5 HB5 HG5 _
  obtain ⟨A5, c5, e5⟩ := Kd.R_slice HO5
  rw [List.length_append, List.length_singleton] at e5
  subst e5
  have M0 := L0.kept HG5 (HO1.not_blk L0 (by decide))
  have M1 := L1.kept HG5 (fun e => Nat.lt_irrefl _ (hsn _ e.symm))
  have hST : Stay w (w5.setCell ⟨b, 0, none⟩ (.slice A5 (P.length + 1) c5)) b (.slice A P.length cp) := ⟨by rw [World.size_setCell]; exact Nat.le_trans (bZz hb9) HG5.size, fun k hk hkb hkv => (Below.heap_setCell w5 ⟨b, 0, none⟩ _ k hkb).trans ((HG5.block k (Nat.lt_of_lt_of_le hk (bZz hb9)) hkv).trans (hb9.block k hk))⟩
  refine hK _ _ (fun _ => ⟨M0, M1⟩) ?_
  clear hK K
  refine wZs (i := 8) (by kernel_rfl) rfl (fun K hK => ?_)
  go_simp
  refine hK _ _ (fun _ => ⟨M0, M1⟩) ?_
  clear hK K
  refine wZs (i := 9) (by kernel_rfl) rfl (fun K hK => ?_)
  go_simp
  refine hK _ _ (fun _ => ⟨M0, M1⟩) ?_
  clear hK K
  have z0 := M0.cell 0
  have z1 := M0.frozen 0
  refine wZs (i := 10) (by kernel_rfl) rfl (fun K hK => ?_)
  go_simp
  refine hK _ _ (fun h => absurd h (by decide)) ?_
  clear hK K
  refine wpAnyC_done (by kernel_rfl) ?_ _
  have N0 := M0.set 0 (.slice A5 (P.length + 1) c5)
  have z2 := N0.cell 0
  have hw2 : wrap64 ((P.length : Int) + 1 - 1) = (P.length : Int) := by unfold wrap64; omega
  go_wp2
  go_ret
  have HO6 : OwnK kCv 91 w5 w0.heap.size (.slice A5 (P.length + 1) c5) (P ++ [c]) := HO5
  exact ⟨_, rfl, N0, HO6.set M0 (by decide) 0 _, bZe HB5 hb, hST⟩
end Go.Proofs.YtociicfjhgfgpaaGreatDoor
