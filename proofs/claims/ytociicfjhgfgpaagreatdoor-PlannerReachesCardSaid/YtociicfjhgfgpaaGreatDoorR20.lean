/- region: whole, note, add, sub, mul, neg, sign: the walks. planner: isLess, isWide, isHigh: the walks. must; the deferred closures of compute: the walks. -/
import Derived.Test.YtociicfjhgfgpaaGreatDoorR18
import Derived.Test.YtociicfjhgfgpaaGreatDoorR19
import Derived.Test.YtociicfjhgfgpaaGreatDoorR02
import Derived.Laws.Pointers
set_option linter.unusedVariables false
set_option linter.unusedSimpArgs false
set_option maxHeartbeats 4000000
set_option maxRecDepth 100000
namespace Go.Proofs.YtociicfjhgfgpaaGreatDoor
open Go.RowKit Go.Shelf Go.Lib Go.Proofs.YtociicfjhgfgpaaGreatDoorW.PrintWords
theorem new2 (w : World) (cs ds : Array Value) (s t : TypeId) : Below w.heap.size w ((w.alloc (.cells cs s)).alloc (.cells ds t)) ∧ Blk ((w.alloc (.cells cs s)).alloc (.cells ds t)) w.heap.size cs s ∧ Blk ((w.alloc (.cells cs s)).alloc (.cells ds t)) (w.heap.size + 1) ds t := by
 have h := Blk.new (w.alloc (.cells cs s)) ds t
 rw [World.size_alloc] at h
 exact ⟨bZa (bZa (Below.refl _ _) _) _, (Blk.new w cs s).alloc _, h⟩
theorem new3 (w : World) (cs ds es : Array Value) (s t u : TypeId) : Below w.heap.size w (((w.alloc (.cells cs s)).alloc (.cells ds t)).alloc (.cells es u)) ∧ Blk (((w.alloc (.cells cs s)).alloc (.cells ds t)).alloc (.cells es u)) w.heap.size cs s ∧ Blk (((w.alloc (.cells cs s)).alloc (.cells ds t)).alloc (.cells es u)) (w.heap.size + 1) ds t ∧ Blk (((w.alloc (.cells cs s)).alloc (.cells ds t)).alloc (.cells es u)) (w.heap.size + 2) es u := by
 obtain ⟨h1, h2, h3⟩ := new2 w cs ds s t
 have h := Blk.new ((w.alloc (.cells cs s)).alloc (.cells ds t)) es u
 rw [World.size_alloc, World.size_alloc] at h
 exact ⟨bZa h1 _, h2.alloc _, h3.alloc _, h⟩
theorem rg_whole (s : ByteArray) (w : World) :
  Calls Tryz.prog 151 #[.string s] w fun e w' => e = .returned (.agg #[.string s, .string ⟨#[49]⟩]) ∧ Below w.heap.size w w' := by
 obtain ⟨hB0, hk0⟩ := news1 w #[.string ⟨#[]⟩, .string ⟨#[]⟩] 25
 obtain ⟨c0, c1, f0, f1⟩ := hk0.two
 go_enter Tryz.func151, Tryz.ntmps151
 go_wp2
 refine bodyPost_ret (rZs rfl (.cell w.heap.size 25 #[.string s, .string ⟨#[49]⟩] (0, 0) _ rfl (Blk.new w #[.string s, .string ⟨#[49]⟩] 25) Tryz.underlying25 rfl (by kernel_rfl) .nil)) rfl ?_
 exact ⟨rfl, bZa (Below.refl _ _) _⟩
theorem rg_note (b : Nat) (s1 s2 : ByteArray) (w : World) (hk : Blk w b #[.bool false] 154) :
  Calls Tryz.prog 195 #[.pointer (some ⟨b, 0, none⟩), .agg #[.string s1, .string s2], .int .i64 0] w fun e w' => e = .returned (.agg #[.string s1, .string s2]) ∧ Below w.heap.size w w' := by
 obtain ⟨hB0, hk0, hk1⟩ := new2 w #[.string s1, .string s2] #[.string ⟨#[]⟩, .string ⟨#[]⟩] 25 25
 have hkb := (hk.alloc (.cells #[.string s1, .string s2] 25)).alloc (.cells #[.string ⟨#[]⟩, .string ⟨#[]⟩] 25)
 obtain ⟨b0, b1⟩ := hkb.one
 obtain ⟨c0, c1, f0, f1⟩ := hk0.two
 obtain ⟨d0, d1, g0, g1⟩ := hk1.two
 have hsame := set_same_cell hkb
 go_enter Tryz.func195, Tryz.ntmps195
 go_wp2
 obtain ⟨hB1, -, hk2⟩ := new2 w #[.string s1, .string s2] #[.string s1, .string s2] 25 25
 refine bodyPost_ret (rZs rfl (.cell (w.heap.size + 1) 25 #[.string s1, .string s2] (0, 0) _ rfl hk2 Tryz.underlying25 rfl (by kernel_rfl) .nil)) rfl ?_
 exact ⟨rfl, hB1⟩
theorem rg_mul (b : Nat) (p q : Rat) (w : World) (hp : Pow w) (hk : Blk w b #[.bool false] 154) (h1 : Sq p) (h2 : Sq q) :
  Calls Tryz.prog 156 #[.pointer (some ⟨b, 0, none⟩), rv p, rv q] w fun e w' => e = .returned (rv (p * q)) ∧ Below w.heap.size w w' := by
 have M := fun W hp => rat_Mul p q W hp h1 h2
 unfold rv at *
 generalize itx (p * q).num = o1 at *
 generalize itx ((p * q).den : Int) = o2 at *
 generalize itx p.num = s1 at *
 generalize itx (p.den : Int) = s2 at *
 generalize itx q.num = s3 at *
 generalize itx (q.den : Int) = s4 at *
 obtain ⟨hB0, k0, k1, k2⟩ := new3 w #[.string s1, .string s2] #[.string s3, .string s4] #[.string ⟨#[]⟩, .string ⟨#[]⟩] 25 25 25
 have kb := hk.below hB0
 go_enter Tryz.func156, Tryz.ntmps156
 go_wp2
 generalize hw3 : ((w.alloc (.cells #[.string s1, .string s2] 25)).alloc (.cells #[.string s3, .string s4] 25)).alloc (.cells #[.string ⟨#[]⟩, .string ⟨#[]⟩] 25) = w3 at *
 refine rZu (fun i => i == 9) (fun W => Below w3.drew.heap.size w3.drew W) (by kernel_rfl) (cZb _) (Below.refl _ _) ?_
 apply wpU_d 0 7
 apply wpU_d 1 8
 apply wpU_d 2 9
 refine wpU_g 3 10 (h1 := by intro W hW; obtain ⟨a0, a1, _, _⟩ := (k0.drew.below hW).two; obtain ⟨a2, a3, _, _⟩ := (k1.drew.below hW).two; go_simp; try rfl) (h2 := ?_)
 refine wpU_g 4 11 (h1 := by intro W hW; obtain ⟨a0, a1, _, _⟩ := (k0.drew.below hW).two; obtain ⟨a2, a3, _, _⟩ := (k1.drew.below hW).two; go_simp; try rfl) (h2 := ?_)
 refine wpU_ca 5 12 Tryz.func51 (fun W hW => M W (hp.below (bZs (bZd hB0) hW))) ?_
 apply wpU_d 6 13
 apply wpU_d 7 14
 refine wpU_ca 8 15 Tryz.func195 (fun W hW => rg_note b o1 o2 W (kb.drew.below hW)) ?_
 refine wpU_late (by kernel_rfl) (fun W1 hW1 => ?_)
 obtain ⟨r0, r1, q0, q1⟩ := (k2.drew.below hW1).two
 refine wpAny_last (i := 9) (by kernel_rfl) rfl (by kernel_rfl) (by rfl) (fun K hK => ?_)
 go_simp
 refine hK _ _ ?_
 clear hK K
 go_wp2
 have hB1 := bZs (bZd hB0) hW1
 have k2' := k2.drew.below hW1
 refine bodyPost_ret (rZs rfl (.cell (w.heap.size + 2) 25 #[.string o1, .string o2] (0, 0) _ rfl ((k2'.set 0 (.string o1)).set 1 (.string o2)) Tryz.underlying25 rfl (by kernel_rfl) .nil)) rfl ?_
 exact ⟨rfl, bZe (bZe hB1 (by omega)) (by omega)⟩
theorem rg_add (b : Nat) (p q : Rat) (w : World) (hp : Pow w) (hk : Blk w b #[.bool false] 154) (h1 : Sq p) (h2 : Sq q) :
  Calls Tryz.prog 310 #[.pointer (some ⟨b, 0, none⟩), rv p, rv q] w fun e w' => e = .returned (rv (p + q)) ∧ Below w.heap.size w w' := by
 have M := fun W hp => rat_Add p q W hp h1 h2
 unfold rv at *
 generalize itx (p + q).num = o1 at *
 generalize itx ((p + q).den : Int) = o2 at *
 generalize itx p.num = s1 at *
 generalize itx (p.den : Int) = s2 at *
 generalize itx q.num = s3 at *
 generalize itx (q.den : Int) = s4 at *
 obtain ⟨hB0, k0, k1, k2⟩ := new3 w #[.string s1, .string s2] #[.string s3, .string s4] #[.string ⟨#[]⟩, .string ⟨#[]⟩] 25 25 25
 have kb := hk.below hB0
 go_enter Tryz.func310, Tryz.ntmps310
 go_wp2
 generalize hw3 : ((w.alloc (.cells #[.string s1, .string s2] 25)).alloc (.cells #[.string s3, .string s4] 25)).alloc (.cells #[.string ⟨#[]⟩, .string ⟨#[]⟩] 25) = w3 at *
 refine rZu (fun i => i == 9) (fun W => Below w3.drew.heap.size w3.drew W) (by kernel_rfl) (cZb _) (Below.refl _ _) ?_
 apply wpU_d 0 7
 apply wpU_d 1 8
 apply wpU_d 2 9
 refine wpU_g 3 10 (h1 := by intro W hW; obtain ⟨a0, a1, _, _⟩ := (k0.drew.below hW).two; obtain ⟨a2, a3, _, _⟩ := (k1.drew.below hW).two; go_simp; try rfl) (h2 := ?_)
 refine wpU_g 4 11 (h1 := by intro W hW; obtain ⟨a0, a1, _, _⟩ := (k0.drew.below hW).two; obtain ⟨a2, a3, _, _⟩ := (k1.drew.below hW).two; go_simp; try rfl) (h2 := ?_)
 refine wpU_ca 5 12 Tryz.func19 (fun W hW => M W (hp.below (bZs (bZd hB0) hW))) ?_
 apply wpU_d 6 13
 apply wpU_d 7 14
 refine wpU_ca 8 15 Tryz.func195 (fun W hW => rg_note b o1 o2 W (kb.drew.below hW)) ?_
 refine wpU_late (by kernel_rfl) (fun W1 hW1 => ?_)
 obtain ⟨r0, r1, q0, q1⟩ := (k2.drew.below hW1).two
 refine wpAny_last (i := 9) (by kernel_rfl) rfl (by kernel_rfl) (by rfl) (fun K hK => ?_)
 go_simp
 refine hK _ _ ?_
 clear hK K
 go_wp2
 have hB1 := bZs (bZd hB0) hW1
 have k2' := k2.drew.below hW1
 refine bodyPost_ret (rZs rfl (.cell (w.heap.size + 2) 25 #[.string o1, .string o2] (0, 0) _ rfl ((k2'.set 0 (.string o1)).set 1 (.string o2)) Tryz.underlying25 rfl (by kernel_rfl) .nil)) rfl ?_
 exact ⟨rfl, bZe (bZe hB1 (by omega)) (by omega)⟩
theorem rg_sub (b : Nat) (p q : Rat) (w : World) (hp : Pow w) (hk : Blk w b #[.bool false] 154) (h1 : Sq p) (h2 : Sq q) :
  Calls Tryz.prog 194 #[.pointer (some ⟨b, 0, none⟩), rv p, rv q] w fun e w' => e = .returned (rv (p - q)) ∧ Below w.heap.size w w' := by
 have M := fun W hp => rat_Sub p q W hp h1 h2
 unfold rv at *
 generalize itx (p - q).num = o1 at *
 generalize itx ((p - q).den : Int) = o2 at *
 generalize itx p.num = s1 at *
 generalize itx (p.den : Int) = s2 at *
 generalize itx q.num = s3 at *
 generalize itx (q.den : Int) = s4 at *
 obtain ⟨hB0, k0, k1, k2⟩ := new3 w #[.string s1, .string s2] #[.string s3, .string s4] #[.string ⟨#[]⟩, .string ⟨#[]⟩] 25 25 25
 have kb := hk.below hB0
 go_enter Tryz.func194, Tryz.ntmps194
 go_wp2
 generalize hw3 : ((w.alloc (.cells #[.string s1, .string s2] 25)).alloc (.cells #[.string s3, .string s4] 25)).alloc (.cells #[.string ⟨#[]⟩, .string ⟨#[]⟩] 25) = w3 at *
 refine rZu (fun i => i == 9) (fun W => Below w3.drew.heap.size w3.drew W) (by kernel_rfl) (cZb _) (Below.refl _ _) ?_
 apply wpU_d 0 7
 apply wpU_d 1 8
 apply wpU_d 2 9
 refine wpU_g 3 10 (h1 := by intro W hW; obtain ⟨a0, a1, _, _⟩ := (k0.drew.below hW).two; obtain ⟨a2, a3, _, _⟩ := (k1.drew.below hW).two; go_simp; try rfl) (h2 := ?_)
 refine wpU_g 4 11 (h1 := by intro W hW; obtain ⟨a0, a1, _, _⟩ := (k0.drew.below hW).two; obtain ⟨a2, a3, _, _⟩ := (k1.drew.below hW).two; go_simp; try rfl) (h2 := ?_)
 refine wpU_ca 5 12 Tryz.func20 (fun W hW => M W (hp.below (bZs (bZd hB0) hW))) ?_
 apply wpU_d 6 13
 apply wpU_d 7 14
 refine wpU_ca 8 15 Tryz.func195 (fun W hW => rg_note b o1 o2 W (kb.drew.below hW)) ?_
 refine wpU_late (by kernel_rfl) (fun W1 hW1 => ?_)
 obtain ⟨r0, r1, q0, q1⟩ := (k2.drew.below hW1).two
 refine wpAny_last (i := 9) (by kernel_rfl) rfl (by kernel_rfl) (by rfl) (fun K hK => ?_)
 go_simp
 refine hK _ _ ?_
 clear hK K
 go_wp2
 have hB1 := bZs (bZd hB0) hW1
 have k2' := k2.drew.below hW1
 refine bodyPost_ret (rZs rfl (.cell (w.heap.size + 2) 25 #[.string o1, .string o2] (0, 0) _ rfl ((k2'.set 0 (.string o1)).set 1 (.string o2)) Tryz.underlying25 rfl (by kernel_rfl) .nil)) rfl ?_
 exact ⟨rfl, bZe (bZe hB1 (by omega)) (by omega)⟩
theorem rv_zero : rv 0 = .agg #[.string ⟨#[48]⟩, .string ⟨#[49]⟩] := by
 unfold rv
 rw [show itx (0 : Rat).num = ⟨#[48]⟩ from rfl, show (((0 : Rat).den : Nat) : Int) = ((1 : Nat) : Int) from rfl, itx_nat, dd_1 (by decide)]
 rfl
theorem rv_one : rv 1 = .agg #[.string ⟨#[49]⟩, .string ⟨#[49]⟩] := by
 unfold rv
 rw [show (1 : Rat).num = ((1 : Nat) : Int) from rfl, show (((1 : Rat).den : Nat) : Int) = ((1 : Nat) : Int) from rfl, itx_nat, dd_1 (by decide)]
 rfl
theorem sq_zero : Sq 0 := ⟨by decide, by decide⟩
theorem sq_one : Sq 1 := ⟨by decide, by decide⟩
theorem rg_neg (b : Nat) (p : Rat) (w : World) (hp : Pow w) (hk : Blk w b #[.bool false] 154) (h1 : Sq p) :
  Calls Tryz.prog 154 #[.pointer (some ⟨b, 0, none⟩), rv p] w fun e w' => e = .returned (rv (-p)) ∧ Below w.heap.size w w' := by
 have M := fun W hp hk => rg_sub b 0 p W hp hk sq_zero h1
 rw [rv_zero, show (0 : Rat) - p = -p by grind] at M
 unfold rv at *
 generalize itx (-p).num = o1 at *
 generalize itx ((-p).den : Int) = o2 at *
 generalize itx p.num = s1 at *
 generalize itx (p.den : Int) = s2 at *
 obtain ⟨hB0, k0, k2⟩ := new2 w #[.string s1, .string s2] #[.string ⟨#[]⟩, .string ⟨#[]⟩] 25 25
 have kb := hk.below hB0
 go_enter Tryz.func154, Tryz.ntmps154
 go_wp2
 generalize hw3 : (w.alloc (.cells #[.string s1, .string s2] 25)).alloc (.cells #[.string ⟨#[]⟩, .string ⟨#[]⟩] 25) = w3 at *
 refine rZu (fun i => i == 4) (fun W => Below w3.drew.heap.size w3.drew W) (by kernel_rfl) (cZb _) (Below.refl _ _) ?_
 apply wpU_d 0 5
 refine wpU_g 2 7 (h1 := by intro W hW; obtain ⟨a0, a1, _, _⟩ := (k0.drew.below hW).two; go_simp; try rfl) (h2 := ?_)
 refine wpU_ca 1 6 Tryz.func151 (fun W hW => rg_whole _ W) ?_
 refine wpU_ca 3 8 Tryz.func194 (fun W hW => M W (hp.below (bZs (bZd hB0) hW)) (kb.drew.below hW)) ?_
 refine wpU_late (by kernel_rfl) (fun W1 hW1 => ?_)
 obtain ⟨r0, r1, q0, q1⟩ := (k2.drew.below hW1).two
 refine wpAny_last (i := 4) (by kernel_rfl) rfl (by kernel_rfl) (by rfl) (fun K hK => ?_)
 go_simp
 refine hK _ _ ?_
 clear hK K
 go_wp2
 have hB1 := bZs (bZd hB0) hW1
 have k2' := k2.drew.below hW1
 refine bodyPost_ret (rZs rfl (.cell (w.heap.size + 1) 25 #[.string o1, .string o2] (0, 0) _ rfl ((k2'.set 0 (.string o1)).set 1 (.string o2)) Tryz.underlying25 rfl (by kernel_rfl) .nil)) rfl ?_
 exact ⟨rfl, bZe (bZe hB1 (by omega)) (by omega)⟩
theorem rg_sign (p : Rat) (w : World) (hp : Pow w) (h1 : Sq p) :
  Calls Tryz.prog 155 #[rv p] w fun e w' => e = .returned (.int .i64 (cmpR p 0)) ∧ Below w.heap.size w w' := by
 have M := fun W hp => rat_Compare p 0 W hp h1 sq_zero
 rw [rv_zero] at M
 unfold rv at *
 generalize cmpR p 0 = z at *
 generalize itx p.num = s1 at *
 generalize itx (p.den : Int) = s2 at *
 obtain ⟨hB0, k0⟩ := news1 w #[.string s1, .string s2] 25
 go_enter Tryz.func155, Tryz.ntmps155
 go_wp2
 generalize hw3 : w.alloc (.cells #[.string s1, .string s2] 25) = w3 at *
 refine rZu (fun _ => false) (fun W => Below w3.drew.heap.size w3.drew W) (by kernel_rfl) (cZb _) (Below.refl _ _) ?_
 refine wpU_g 0 3 (h1 := by intro W hW; obtain ⟨a0, a1, _, _⟩ := (k0.drew.below hW).two; go_simp; try rfl) (h2 := ?_)
 refine wpU_ca 1 4 Tryz.func151 (fun W hW => rg_whole _ W) ?_
 refine wpU_ca 2 5 Tryz.func18 (fun W hW => M W (hp.below (bZs (bZd hB0) hW))) ?_
 apply wpU_d 3 2
 refine wpU_done (by kernel_rfl) (fun W1 hW1 => ?_) _
 go_wp2
 go_ret
 exact ⟨rfl, bZs (bZd hB0) hW1⟩
theorem cmp_lt (p q : Rat) : decide (cmpR p q < 0) = decide (p < q) := by
 unfold cmpR
 split
 ·rename_i h; simp [h]
 ·split <;> rename_i h1 h2 <;> simp [h1]
theorem pl_isLess (p q : Rat) (w : World) (hp : Pow w) (h1 : Sq p) (h2 : Sq q) :
  Calls Tryz.prog 72 #[rv p, rv q] w fun e w' => e = .returned (.bool (decide (p < q))) ∧ Below w.heap.size w w' := by
 have M := fun W hp => rat_Compare p q W hp h1 h2
 have hz := cmp_lt p q
 generalize decide (p < q) = bb at *
 generalize cmpR p q = z at *
 unfold rv at *
 generalize itx p.num = s1 at *
 generalize itx (p.den : Int) = s2 at *
 generalize itx q.num = s3 at *
 generalize itx (q.den : Int) = s4 at *
 obtain ⟨hB0, k0, k1⟩ := new2 w #[.string s1, .string s2] #[.string s3, .string s4] 25 25
 go_enter Tryz.func72, Tryz.ntmps72
 go_wp2_with (go_at_call 18; refine (M _ (hp.below hB0)).mono ?_; clear M; rintro e w2 ⟨rfl, hb2⟩)
 go_ret
 exact ⟨rfl, bZs hB0 hb2⟩
end Go.Proofs.YtociicfjhgfgpaaGreatDoor
namespace Go.Proofs.YtociicfjhgfgpaaGreatDoor
open Go.RowKit Go.Extern.Stop Go.Stop Go.Extern Go.Proofs.YtociicfjhgfgpaaGreatDoorW.PrintWords
theorem df_assert (a : Addr) (w : World) : (Instr.typeAssert (.iface 331 (.pointer (some a))) 20 126 true).run Tryz.prog w = .ok (.tuple #[.iface 331 (.pointer (some a)), .bool true]) w := run_typeAssert_hasB Tryz.underlying126 (by kernel_rfl) _ 20 w
theorem df_nil (w : World) : (Instr.typeAssert .nilIface 20 126 true).run Tryz.prog w = .ok (.tuple #[.nilIface, .bool false]) w := by kernel_rfl
theorem rep15 : (Array.replicate 15 undef : Array Value) = #[undef, undef, undef, undef, undef, undef, undef, undef, undef, undef, undef, undef, undef, undef, undef] := rfl
theorem df84_idle (p1 p2 : Value) (w : World) :
  CallsD Tryz.prog 84 #[p1, p2] .returning w fun e u' w' => e = .returned (.tuple #[]) ∧ u' = .returning ∧ w' = w := by
 have hn := df_nil w
 refine callsD_of_wpS Tryz.func84 rfl fun c₀ cs hu => ?_
 apply wpS_seq
 apply wpS_region
 simp [wpOpsS, go_sem, recoverD, hu, Tryz.ntmps84, Exit.thenS, hn]
 apply wpS_seq
 apply wpS_region
 simp [wpOpsS, go_sem, Exit.thenS]
 refine wpS_cond (t := false) (by simp [Act.eval]) ?_
 simp only [Bool.false_eq_true, if_false]
 refine wpS_of_wp (wp_skip ?_)
 cases c₀
 simp_all [bodyPostS, results, Tryz.results84]
theorem df84_panicking (b : Nat) (x y : Value) (z : Int) (a : Addr) (w : World) (h0 : Blk w b #[x, y] 42) (h1 : Blk w (b + 1) #[.int .i64 z] 35) (hP : Plan w a) :
  CallsD Tryz.prog 84 #[.pointer (some ⟨b, 0, none⟩), .pointer (some ⟨b + 1, 0, none⟩)] (.panicking (chain a false)) w fun e u' w' =>
   e = .returned (.tuple #[]) ∧ u' = .panicking (chain a true) ∧ Blk w' b #[.slice none 0 0, .slice none 0 0] 42 ∧ Blk w' (b + 1) #[.int .i64 290] 35 ∧ ∀ v : World, v.heap.size ≤ b → Below v.heap.size v w → Below v.heap.size v w' := by
 have hn := df_assert a
 have hne : b + 1 ≠ b := Nat.succ_ne_self b
 have hne' : b ≠ b + 1 := Ne.symm hne
 unfold Plan at hP
 refine callsD_of_wpS Tryz.func84 rfl fun c₀ cs hu => ?_
 unfold chain at hu
 apply wpS_seq
 apply wpS_region
 simp [wpOpsS, go_sem, recoverD, hu, Tryz.ntmps84, Exit.thenS, hn]
 refine wpS_of_wp ?_
 rw [rep15]
 simp only [go_sem, List.setIfInBounds_toArray, List.set_cons_zero, List.set_cons_succ]
 go_wp2_with (go_at_call 65; refine (er_is a _).mono ?_; rintro e w2 ⟨rfl, rfl⟩; have k0 := h0.alloc (.cells #[.slice none 0 0, .slice none 0 0] 42); have k1 := h1.alloc (.cells #[.slice none 0 0, .slice none 0 0] 42); obtain ⟨p0, p1, p2, p3⟩ := k0.two; have q0 := (k1.far (p := ⟨b, 0, none⟩) hne (.slice none 0 0)).far (p := ⟨b, 1, none⟩) hne (.slice none 0 0); obtain ⟨p4, p5⟩ := q0.one)
 cases c₀
 simp only [bodyPostS, results, Tryz.results84]
 refine ⟨trivial, _, rfl, .tuple #[], by simp [go_sem], rfl, rfl, (((k0.set 0 (.slice none 0 0)).set 1 (.slice none 0 0)).far (p := ⟨b + 1, 0, none⟩) hne' (.int .i64 290)), q0.set 0 (.int .i64 290), fun v hn' hb => bZe (bZe (bZe (bZa hb _) hn') hn') (Nat.le_trans hn' (Nat.le_succ b))⟩
theorem df64_idle (p1 p2 : Value) (w : World) :
  CallsD Tryz.prog 64 #[p1, p2] .returning w fun e u' w' => e = .returned (.tuple #[]) ∧ u' = .returning ∧ w' = w := by
 have hn := df_nil w
 refine callsD_of_wpS Tryz.func64 rfl fun c₀ cs hu => ?_
 apply wpS_seq
 apply wpS_region
 simp [wpOpsS, go_sem, recoverD, hu, Tryz.ntmps64, Exit.thenS, hn]
 apply wpS_seq
 apply wpS_region
 simp [wpOpsS, go_sem, Exit.thenS]
 refine wpS_cond (t := false) (by simp [Act.eval]) ?_
 simp only [Bool.false_eq_true, if_false]
 refine wpS_of_wp (wp_skip ?_)
 cases c₀
 simp_all [bodyPostS, results, Tryz.results64]
theorem df64_panicking (b : Nat) (x : Value) (z : Int) (a : Addr) (w : World) (h0 : Blk w b #[x] 34) (h1 : Blk w (b + 1) #[.int .i64 z] 35) (hP : Plan w a) :
  CallsD Tryz.prog 64 #[.pointer (some ⟨b, 0, none⟩), .pointer (some ⟨b + 1, 0, none⟩)] (.panicking (chain a false)) w fun e u' w' =>
   e = .returned (.tuple #[]) ∧ u' = .panicking (chain a true) ∧ Blk w' b #[.slice none 0 0] 34 ∧ Blk w' (b + 1) #[.int .i64 290] 35 ∧ ∀ v : World, v.heap.size ≤ b → Below v.heap.size v w → Below v.heap.size v w' := by
 have hn := df_assert a
 have hne : b + 1 ≠ b := Nat.succ_ne_self b
 have hne' : b ≠ b + 1 := Ne.symm hne
 unfold Plan at hP
 refine callsD_of_wpS Tryz.func64 rfl fun c₀ cs hu => ?_
 unfold chain at hu
 apply wpS_seq
 apply wpS_region
 simp [wpOpsS, go_sem, recoverD, hu, Tryz.ntmps64, Exit.thenS, hn]
 refine wpS_of_wp ?_
 rw [rep15]
 simp only [go_sem, List.setIfInBounds_toArray, List.set_cons_zero, List.set_cons_succ]
 go_wp2_with (go_at_call 65; refine (er_is a _).mono ?_; rintro e w2 ⟨rfl, rfl⟩; obtain ⟨p0, p1⟩ := h0.one; have q0 := h1.far (p := ⟨b, 0, none⟩) hne (.slice none 0 0); obtain ⟨p4, p5⟩ := q0.one)
 cases c₀
 simp only [bodyPostS, results, Tryz.results64]
 refine ⟨trivial, _, rfl, .tuple #[], by simp [go_sem], rfl, rfl, ((h0.set 0 (.slice none 0 0)).far (p := ⟨b + 1, 0, none⟩) hne' (.int .i64 290)), q0.set 0 (.int .i64 290), fun v hn' hb => bZe (bZe hb hn') (Nat.le_trans hn' (Nat.le_succ b))⟩
end Go.Proofs.YtociicfjhgfgpaaGreatDoor
