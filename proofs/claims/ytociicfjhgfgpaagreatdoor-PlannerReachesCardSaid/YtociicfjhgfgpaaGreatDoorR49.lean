/- solid: the closure of Contains: the walk. solid: run where nothing fails; Contains: the walks. mill: compute where nothing fails; Swept: the walks. mill and solid on a pass of the planner: track, Swept, Contains. -/
import Derived.Test.YtociicfjhgfgpaaGreatDoorR48
import Derived.Test.YtociicfjhgfgpaaGreatDoorR21
import Derived.Test.YtociicfjhgfgpaaGreatDoorR46
set_option linter.unusedVariables false
set_option linter.unusedSimpArgs false
set_option maxHeartbeats 32000000
set_option maxRecDepth 100000
namespace Go.Proofs.YtociicfjhgfgpaaGreatDoor
open Go.RowKit Go.Shelf Go.Lib Go.Proofs.YtociicfjhgfgpaaGreatDoorW.PrintWords
attribute [local go_sem] Oper.semAt_some
def sdJ (w : World) (S Z e1 e2 g bo a : Nat) (CS CX CY CZ CP : Array Value) (R : Value) (T : Rg) (res : Bool) (s : Bool) (W : World) : Prop :=
 (Below w.heap.size w W ∧ Blk W S CS 57 ∧ Blk W Z CZ 25 ∧ Blk W e1 CX 25 ∧ Blk W e2 CY 25 ∧ Blk W g CP 113 ∧ OwnR W a R T) ∧ ((s = false ∧ Blk W bo #[.bool false] 4) ∨ (s = true ∧ Blk W bo #[.bool res] 4))
theorem sdJ_from {w : World} {S Z e1 e2 g bo a : Nat} {CS CX CY CZ CP : Array Value} {R : Value} {T : Rg} {res : Bool} {B : Nat} (hB : w.heap.size ≤ B) : OwnFrom B (sdJ w S Z e1 e2 g bo a CS CX CY CZ CP R T res) := by
 rintro s W W' row ⟨⟨h1, h2, h3, h4, h5, h6, h7⟩, h8⟩ hg hr
 have BF := fun (b : Nat) (cs : Array Value) (t : TypeId) (h : Blk W b cs t) => blk_from (β := Bool) B b t (fun _ => cs) s W W' row h hg hr
 refine ⟨⟨ownFrom_below (β := Bool) (Nat.le_refl _) hB s W W' row h1 hg hr, BF _ _ _ h2, BF _ _ _ h3, BF _ _ _ h4, BF _ _ _ h5, BF _ _ _ h6, ownR_from (β := Bool) B _ _ _ s W W' row h7 hg hr⟩, ?_⟩
 rcases h8 with ⟨hs, h⟩ | ⟨hs, h⟩
 ·exact .inl ⟨hs, BF _ _ _ h⟩
 ·exact .inr ⟨hs, BF _ _ _ h⟩
theorem sdJ_below {w : World} {S Z e1 e2 g bo a : Nat} {CS CX CY CZ CP : Array Value} {R : Value} {T : Rg} {res : Bool} {s : Bool} {W W' : World} (h : sdJ w S Z e1 e2 g bo a CS CX CY CZ CP R T res s W) (hb : Below W.heap.size W W') : sdJ w S Z e1 e2 g bo a CS CX CY CZ CP R T res s W' := by
 obtain ⟨⟨h1, h2, h3, h4, h5, h6, h7⟩, h8⟩ := h
 refine ⟨⟨bZs h1 hb, h2.below hb, h3.below hb, h4.below hb, h5.below hb, h6.below hb, h7.below hb⟩, ?_⟩
 rcases h8 with ⟨hs, h⟩ | ⟨hs, h⟩
 ·exact .inl ⟨hs, h.below hb⟩
 ·exact .inr ⟨hs, h.below hb⟩
theorem sdJ1_from {w : World} {S Z e1 e2 g bo a : Nat} {CS CX CY CZ CP : Array Value} {R : Value} {T : Rg} {res : Bool} {B : Nat} (hB : w.heap.size ≤ B) : OwnFrom B (fun (q : Bool × Unit × Nat) W => sdJ w S Z e1 e2 g bo a CS CX CY CZ CP R T res false W ∧ Blk W q.2.2 CP 113) :=
 fun q W W' row h hg hr => ⟨sdJ_from hB false W W' row h.1 hg hr, blk_from (β := Unit) B q.2.2 113 (fun _ => CP) () W W' row h.2 hg hr⟩
theorem cmp_le' (p q : Rat) : decide (cmpR p q ≤ 0) = decide (p ≤ q) := by
 unfold cmpR
 rw [Bool.eq_iff_iff]
 simp only [decide_eq_true_eq]
 split
 ·rename_i h
  exact ⟨fun _ => Rat.le_of_lt h, fun _ => by omega⟩
 ·split
  ·rename_i h1 h2
   subst h2
   exact ⟨fun _ => Rat.le_refl, fun _ => by omega⟩
  ·rename_i h1 h2
   exact ⟨fun h => by omega, fun h => absurd (Rat.le_antisymm h (Rat.not_lt.1 h1)) h2⟩
theorem enters131 : ∀ args w, (callFunc 131 args).run Tryz.prog w = .ok (.enter 131 args) w := enters_of Tryz.func131 (by kernel_rfl) rfl
theorem sd_contains_in (k : Nat) (x y s z t : Rat) (T : Rg) (XA YA : Option Addr) (XAc YAc a0 : Nat) (w : World) (hp : Pow w) (e0 e1 e2 e3 g : Nat) (g0 : Blk w e0 #[.slice (some ⟨g, 0, none⟩) 1 1] 57) (g1 : Blk w e1 #[.string (itx x.num), .string (itx (x.den : Int))] 25) (g2 : Blk w e2 #[.string (itx y.num), .string (itx (y.den : Int))] 25) (g3 : Blk w e3 #[.string (itx s.num), .string (itx (s.den : Int))] 25) (hk : Blk w g #[.slice XA T.1.length XAc, .slice YA T.2.length YAc, .string (itx z.num), .string (itx (z.den : Int)), .string (itx t.num), .string (itx (t.den : Int)), .bool false, .int .i64 0] 113) (HR : OwnR w a0 (.agg #[.slice XA T.1.length XAc, .slice YA T.2.length YAc]) T)
  (h1 : 1 ≤ k) (hk8 : 8 * k + 4 ≤ 89) (hok : okR T) (hs : ∀ c ∈ T.1, smCv k c) (hx : Sm k x) (hy : Sm k y) (hsq : SqR T) (hss : Sq s) (hz : Sq z) (ht : Sq t) (hzt : z < t) (hzs : z ≤ s) (hst : s ≤ t) :
  CallsIn Fence.wide 6 Tryz.prog 57 #[.pointer (some ⟨e0, 0, none⟩), .pointer (some ⟨e1, 0, none⟩), .pointer (some ⟨e2, 0, none⟩), .pointer (some ⟨e3, 0, none⟩)] w fun e w' => e = .returned (.bool (inR (sideR x y) T)) ∧ Below w.heap.size w w' := by
 have V := fun W hp hk HR => sd_Valid XA XAc YA YAc T z t W hp g hk HR hok hsq hz ht hzt
 have VX := fun W hp => rat_Valid x W hp (hx.le (by omega))
 have VY := fun W hp => rat_Valid y W hp (hy.le (by omega))
 have VS := fun W hp => rat_Valid s W hp hss
 have C1 := fun W hp => rat_Compare z s W hp hz hss
 have C2 := fun W hp => rat_Compare s t W hp hss ht
 have CT := fun v W hp hv => rg_Contains k v T x y W hp h1 hk8 hv hok hs hx hy
 have c1 : cmpR z s ≤ 0 := of_decide_eq_true (by rw [cmp_le']; exact decide_eq_true hzs)
 have c2 : cmpR s t ≤ 0 := of_decide_eq_true (by rw [cmp_le']; exact decide_eq_true hst)
 clear h1 hk8 hok hs hx hy hsq hss hz ht hzt hzs hst
 generalize inR (sideR x y) T = res at *
 unfold rv at *
 generalize cmpR z s = m1 at *
 generalize cmpR s t = m2 at *
 generalize itx x.num = x1 at *
 generalize itx (x.den : Int) = x2 at *
 generalize itx y.num = y1 at *
 generalize itx (y.den : Int) = y2 at *
 generalize itx s.num = s1 at *
 generalize itx (s.den : Int) = s2 at *
 generalize itx z.num = z1 at *
 generalize itx (z.den : Int) = z2 at *
 generalize itx t.num = t1 at *
 generalize itx (t.den : Int) = t2 at *
 obtain ⟨hB0, KO⟩ := news1 w #[.bool false] 4
 replace g0 := g0.below hB0
 replace g1 := g1.below hB0
 replace g2 := g2.below hB0
 replace g3 := g3.below hB0
 replace hk := hk.below hB0
 replace HR := HR.below hB0
 have p0 := g0.c0
 refine callsIn_of_wp_marks Tryz.func57 rfl trivial ?_ rfl
 simp only [Tryz.ntmps57, List.size_toArray, List.length_cons, List.length_nil, Nat.reduceAdd, Nat.reduceSub, Array.replicate_succ, Array.replicate_zero, List.push_toArray, List.append_toArray, List.nil_append, List.cons_append]
 gi_wp2_with (first | (refine ⟨trivial, ?_⟩; gi_at_call 59; refine (callsIn_wide.2 (V _ (hp.below hB0) hk HR.rd)).mono ?_; clear V; rintro e w1 ⟨rfl, hb⟩; replace g0 := g0.below hb; replace g1 := g1.below hb; replace g2 := g2.below hb; replace g3 := g3.below hb; replace hk := hk.below hb; replace KO := KO.below hb; replace HR := HR.below hb; replace hB0 := bZs hB0 hb; clear hb; replace p0 := g0.c0; have o0 := g1.c0; have o1 := g1.c1) | (refine ⟨trivial, ?_⟩; gi_at_call 44; refine (callsIn_wide.2 (VX _ (hp.below hB0))).mono ?_; clear VX; rintro e w2 ⟨rfl, hb⟩; replace g0 := g0.below hb; replace g1 := g1.below hb; replace g2 := g2.below hb; replace g3 := g3.below hb; replace hk := hk.below hb; replace KO := KO.below hb; replace HR := HR.below hb; replace hB0 := bZs hB0 hb; clear hb; replace p0 := g0.c0; replace o0 := g2.c0; replace o1 := g2.c1) | (refine ⟨trivial, ?_⟩; gi_at_call 44; refine (callsIn_wide.2 (VY _ (hp.below hB0))).mono ?_; clear VY; rintro e w3 ⟨rfl, hb⟩; replace g0 := g0.below hb; replace g1 := g1.below hb; replace g2 := g2.below hb; replace g3 := g3.below hb; replace hk := hk.below hb; replace KO := KO.below hb; replace HR := HR.below hb; replace hB0 := bZs hB0 hb; clear hb; replace p0 := g0.c0; replace o0 := g3.c0; replace o1 := g3.c1) | (refine ⟨trivial, ?_⟩; gi_at_call 44; refine (callsIn_wide.2 (VS _ (hp.below hB0))).mono ?_; clear VS; rintro e w4 ⟨rfl, hb⟩; replace g0 := g0.below hb; replace g1 := g1.below hb; replace g2 := g2.below hb; replace g3 := g3.below hb; replace hk := hk.below hb; replace KO := KO.below hb; replace HR := HR.below hb; replace hB0 := bZs hB0 hb; clear hb; replace p0 := g0.c0; replace o0 := g3.c0; replace o1 := g3.c1) | (refine ⟨trivial, ?_⟩; gi_at_call 58; refine (callsIn_wide.2 (sd_check _)).mono ?_; rintro e w5 ⟨rfl, rfl⟩) | (refine ⟨trivial, ?_⟩; gi_at_call 60; refine (callsIn_wide.2 (sd_reaching g s1 s2 _)).mono ?_; rintro e w6 ⟨rfl, KS, KZ, hb⟩))
 obtain ⟨S, hS⟩ : ∃ S, w5.heap.size = S := ⟨_, rfl⟩
 obtain ⟨Z, hZ⟩ : ∃ Z, S + 1 = Z := ⟨_, rfl⟩
 simp only [hS, hZ] at KS KZ ⊢
 have h0 : sdJ w S Z e1 e2 g w.heap.size a0 #[.slice (some ⟨g, 0, none⟩) 1 1] #[.string x1, .string x2] #[.string y1, .string y2] #[.string s1, .string s2] #[.slice XA T.1.length XAc, .slice YA T.2.length YAc, .string z1, .string z2, .string t1, .string t2, .bool false, .int .i64 0] (.agg #[.slice XA T.1.length XAc, .slice YA T.2.length YAc]) T res false w6 := ⟨⟨bZs hB0 hb, KS, KZ, g1.below hb, g2.below hb, hk.below hb, HR.below hb⟩, .inl ⟨rfl, KO.below hb⟩⟩
 have hle2 := bZz (bZs hB0 hb)
 clear hS hZ KS KZ g0 g1 g2 g3 hk KO HR hb hB0 p0 o0 o1
 refine wpIn_rangeFunc_sx (σ := Bool) (α := Unit) rfl (by omega) (gf := 131) (lb := #[.pointer (some ⟨S, 0, none⟩), .pointer (some ⟨Z, 0, none⟩)]) (by simp [Act.eval]) trivial enters131 (encs := fun _ => #[.agg #[.slice XA T.1.length XAc, .slice YA T.2.length YAc, .string z1, .string z2, .string t1, .string t2, .bool false, .int .i64 0]]) (fun _ => rfl)
  (sdJ w S Z e1 e2 g w.heap.size a0 #[.slice (some ⟨g, 0, none⟩) 1 1] #[.string x1, .string x2] #[.string y1, .string y2] #[.string s1, .string s2] #[.slice XA T.1.length XAc, .slice YA T.2.length YAc, .string z1, .string z2, .string t1, .string t2, .bool false, .int .i64 0] (.agg #[.slice XA T.1.length XAc, .slice YA T.2.length YAc]) T res) (fun _ _ => False) (fun s _ => s = false) (fun _ _ => true) (fun s => s = true) false
  (fun q W => sdJ w S Z e1 e2 g w.heap.size a0 #[.slice (some ⟨g, 0, none⟩) 1 1] #[.string x1, .string x2] #[.string y1, .string y2] #[.string s1, .string s2] #[.slice XA T.1.length XAc, .slice YA T.2.length YAc, .string z1, .string z2, .string t1, .string t2, .bool false, .int .i64 0] (.agg #[.slice XA T.1.length XAc, .slice YA T.2.length YAc]) T res false W ∧ Blk W q.2.2 #[.slice XA T.1.length XAc, .slice YA T.2.length YAc, .string z1, .string z2, .string t1, .string t2, .bool false, .int .i64 0] 113)
  (sdJ_from hle2) (sdJ1_from hle2) (fun _ _ _ _ h _ _ => h) h0
  (fun _ gq => { tmps := #[.pointer (some ⟨e0, 0, none⟩), .pointer (some ⟨e1, 0, none⟩), .pointer (some ⟨e2, 0, none⟩), .pointer (some ⟨e3, 0, none⟩), .pointer (some ⟨w.heap.size, 0, none⟩), .pointer (some ⟨gq, 0, none⟩), .agg #[.slice (some ⟨g, 0, none⟩) 1 1], .bool true, .bool true, .agg #[.string x1, .string x2], .bool true, .bool true, .bool true, .agg #[.string y1, .string y2], .bool true, .bool true, .bool true, .agg #[.string s1, .string s2], .bool true, .bool true, .tuple #[], .agg #[.slice (some ⟨g, 0, none⟩) 1 1], .agg #[.string s1, .string s2], .func (.func 131) #[] #[.pointer (some ⟨S, 0, none⟩), .pointer (some ⟨Z, 0, none⟩)], .agg #[.slice XA T.1.length XAc, .slice YA T.2.length YAc, .string z1, .string z2, .string t1, .string t2, .bool false, .int .i64 0], undef, undef, undef, undef, undef, undef, undef, undef, undef, undef, undef, undef], defers := [] }) ?assign ?body ?iter ?done (fun _ _ _ _ h => h.elim)
 case assign =>
  intro l s x W K hj hs hK
  subst hs
  have hJA := (sdJ_from hle2).alloc (s := false) (.cells #[.slice XA T.1.length XAc, .slice YA T.2.length YAc, .string z1, .string z2, .string t1, .string t2, .bool false, .int .i64 0] 113) hj
  have KA := Blk.new W #[.slice XA T.1.length XAc, .slice YA T.2.length YAc, .string z1, .string z2, .string t1, .string t2, .bool false, .int .i64 0] 113
  gi_wp2
  exact hK _ _ ((KeepsOthers.alloc _ _).from _) ⟨hJA, KA⟩
 case body =>
  rintro l s x gq W ⟨⟨⟨hB, KS, KZ, KX, KY, KG, HR⟩, h5⟩, KA⟩ -
  have KO : Blk W w.heap.size #[.bool false] 4 := by
   rcases h5 with ⟨-, h⟩ | ⟨h, -⟩
   ·exact h
   ·cases h
  clear h5 C1 C2
  have a0' := KA.c0
  have a1' := KA.c1
  have x0 := KX.c0
  have x1' := KX.c1
  have y0 := KY.c0
  have y1' := KY.c1
  cases res with
  | true =>
   gi_wp2_with (first | (refine ⟨trivial, ?_⟩; gi_at_call 17; refine (CallsIn.inRound l (callsIn_wide.2 (CT _ _ (hp.below hB) HR.rd))).mono ?_; clear CT; rintro e w5 ⟨rfl, hb5⟩; have KA5 := KA.below hb5; have a6 := KA5.c6; have KO5 := KO.below hb5; obtain ⟨f0, f1⟩ := KO5.one) | (refine ⟨trivial, ?_⟩; gi_at_call 61; refine (CallsIn.inRound l (callsIn_wide.2 (sd_must _ _))).mono ?_; rintro e w6 ⟨rfl, rfl⟩))
   refine ⟨((keeps_below hb5).trans (KeepsOthers.setCell _ _ _)).from _, ⟨bZe (bZs hB hb5) (Nat.le_refl _), (KS.below hb5).far ((KS.below hb5).ne KO5 (by decide)) _, (KZ.below hb5).far ((KZ.below hb5).ne KO5 (by decide)) _, (KX.below hb5).far ((KX.below hb5).ne KO5 (by decide)) _, (KY.below hb5).far ((KY.below hb5).ne KO5 (by decide)) _, (KG.below hb5).far ((KG.below hb5).ne KO5 (by decide)) _, (HR.below hb5).set KO5 (by decide) (by decide) 0 _⟩, .inr ⟨rfl, KO5.set 0 _⟩⟩
  | false =>
   gi_wp2_with (first | (refine ⟨trivial, ?_⟩; gi_at_call 17; refine (CallsIn.inRound l (callsIn_wide.2 (CT _ _ (hp.below hB) HR.rd))).mono ?_; clear CT; rintro e w5 ⟨rfl, hb5⟩) | (refine ⟨trivial, ?_⟩; gi_at_call 61; refine (CallsIn.inRound l (callsIn_wide.2 (sd_must _ _))).mono ?_; rintro e w6 ⟨rfl, rfl⟩))
   exact ⟨(keeps_below hb5).from _, ⟨bZs hB hb5, KS.below hb5, KZ.below hb5, KX.below hb5, KY.below hb5, KG.below hb5, HR.below hb5⟩, .inr ⟨rfl, KO.below hb5⟩⟩
 case iter =>
  intro l J' Jx' W1 hB1 hget hmv hY hj0
  exact sd_in 5 (by omega) l S Z g _ _ _ _ _ _ z1 z2 t1 t2 s1 s2 J' Jx' m1 m2 c1 c2 (fun s W h => ⟨hp.below (hget s W h).1.1, (hget s W h).1.2.1, (hget s W h).1.2.2.1, (hget s W h).1.2.2.2.2.2.1⟩) C1 C2 (fun s W W' h hb => hmv s s W _ h ((keeps_below hb).from _) (sdJ_below (hget s W h) hb)) (fun W h => hY false () W h rfl) W1 hj0
 case done =>
  rintro D s W hD rfl ⟨⟨hB, -⟩, h5⟩ hK
  have KO : Blk W w.heap.size #[.bool res] 4 := by
   rcases h5 with ⟨h, -⟩ | ⟨-, h⟩
   ·cases h
   ·exact h
  clear h5
  obtain ⟨f0, f1⟩ := KO.one
  gi_wp2
  have hK2 := def_set (i := 0) (v := .bool res) KO hK
  refine ⟨by simp, .inl ⟨_, _, rfl, run_takeDeferred hK2, ?_⟩⟩
  have KO2 := (KO.set 0 (.bool res)).done hK2
  have hcc := KO2.c0
  have hB2 := below_done (bZe (j := 0) (v := .bool res) hB (Nat.le_refl _)) (Nat.le_trans hle2 hD) hK2
  exact ⟨.bool res, by simp [results, Tryz.results57, go_sem, hcc, asAddr], rfl, hB2⟩
end Go.Proofs.YtociicfjhgfgpaaGreatDoor
namespace Go.Proofs.YtociicfjhgfgpaaGreatDoor
open Go.RowKit Go.Shelf Go.Lib Go.Extern.Stop Go.Stop Go.Extern Go.Proofs.YtociicfjhgfgpaaGreatDoorW.PrintWords
theorem df_nil35 (w : World) : (Instr.typeAssert .nilIface 20 35 true).run Tryz.prog w = .ok (.tuple #[.int .i64 0, .bool false]) w := by kernel_rfl
theorem df127_idle (p1 p2 : Value) (w : World) :
  CallsD Tryz.prog 127 #[p1, p2] .returning w fun e u' w' => e = .returned (.tuple #[]) ∧ u' = .returning ∧ w' = w := by
 have hn := df_nil35 w
 refine callsD_of_wpS Tryz.func127 rfl fun c₀ cs hu => ?_
 apply wpS_seq
 apply wpS_region
 simp [wpOpsS, go_sem, recoverD, hu, Tryz.ntmps127, Exit.thenS, hn]
 apply wpS_seq
 apply wpS_region
 simp [wpOpsS, go_sem, Exit.thenS, hn]
 apply wpS_seq
 apply wpS_region
 simp [wpOpsS, go_sem, Exit.thenS]
 refine wpS_cond (t := false) (by simp [Act.eval]) ?_
 simp only [Bool.false_eq_true, if_false]
 apply wpS_seq
 apply wpS_region
 simp [wpOpsS, go_sem, Exit.thenS]
 refine wpS_cond (t := false) (by simp [Act.eval]) ?_
 simp only [Bool.false_eq_true, if_false]
 refine wpS_of_wp (wp_skip ?_)
 cases c₀
 simp_all [bodyPostS, results, Tryz.results127]
theorem run56_ok (N : Nat) (first cap : Array Value) (b : Bool) (w : World) (eg : ∀ args w, (callFunc N args).run Tryz.prog w = .ok (.enter N args) w)
  (D : ∀ W, Below w.heap.size w W → Calls Tryz.prog N (first ++ cap) W fun e w' => e = .returned (.bool b) ∧ Below W.heap.size W w') :
  Calls Tryz.prog 56 #[.func (.func N) first cap] w fun e w' => e = .returned (.tuple #[(.bool b), .int .i64 0]) ∧ Below w.heap.size w w' := by
 obtain ⟨hB0, k0, k1⟩ := news2 w #[.bool false] 4 #[.int .i64 0] 35
 have hmf := mk_fn
 have hne : w.heap.size + 1 ≠ w.heap.size := Nat.succ_ne_self _
 have hne' : w.heap.size ≠ w.heap.size + 1 := Ne.symm hne
 go_enter_defers Tryz.func56, Tryz.ntmps56
 go_wp2_with (refine (D _ hB0).mono ?_; rintro e w2 ⟨rfl, hb2⟩; have hB2 := bZs hB0 hb2; have K0 := k0.below hb2; have K1 := (k1.below hb2).far (p := ⟨w.heap.size, 0, none⟩) hne (.bool b); obtain ⟨p0, p1⟩ := K0.one; obtain ⟨q0, q1⟩ := K1.one)
 have hB3 := bZe (g := w.heap.size + 1) (j := 0) (v := .int .i64 0) (bZe (g := w.heap.size) (j := 0) (v := (.bool b)) hB2 (Nat.le_refl _)) (Nat.le_succ _)
 have L0 := ((k0.below hb2).set 0 (.bool b)).far (p := ⟨w.heap.size + 1, 0, none⟩) hne' (.int .i64 0)
 have L1 := ((k1.below hb2).far (p := ⟨w.heap.size, 0, none⟩) hne (.bool b)).set 0 (.int .i64 0)
 show Leaves _ _ _ _ _ _ _
 refine leaves_cons (f := 127) (args := #[.pointer (some ⟨w.heap.size, 0, none⟩), .pointer (some ⟨w.heap.size + 1, 0, none⟩)]) (by simp) (by simp [go_sem]) ?_
 refine (df127_idle _ _ _).mono ?_
 rintro e u' w3 ⟨rfl, rfl, rfl⟩
 refine ⟨.tuple #[(.bool b), .int .i64 0], ?_, rfl, hB3⟩
 have c0 : ((w2.setCell ⟨w.heap.size, 0, none⟩ (.bool b)).setCell ⟨w.heap.size + 1, 0, none⟩ (.int .i64 0)).cell? ⟨w.heap.size, 0, none⟩ = some (.bool b) := L0.cell 0
 have c9 : ((w2.setCell ⟨w.heap.size, 0, none⟩ (.bool b)).setCell ⟨w.heap.size + 1, 0, none⟩ (.int .i64 0)).cell? ⟨w.heap.size + 1, 0, none⟩ = some (.int .i64 0) := L1.cell 0
 generalize ((w2.setCell ⟨w.heap.size, 0, none⟩ (.bool b)).setCell ⟨w.heap.size + 1, 0, none⟩ (.int .i64 0)) = w4 at *
 simp [results, Tryz.results56, go_sem, c0, c9]
theorem sd_Contains (k : Nat) (x y s z t : Rat) (T : Rg) (XA YA : Option Addr) (XAc YAc a0 g : Nat) (w : World) (hp : Pow w) (hk : Blk w g #[.slice XA T.1.length XAc, .slice YA T.2.length YAc, .string (itx z.num), .string (itx (z.den : Int)), .string (itx t.num), .string (itx (t.den : Int)), .bool false, .int .i64 0] 113) (HR : OwnR w a0 (.agg #[.slice XA T.1.length XAc, .slice YA T.2.length YAc]) T)
  (h1 : 1 ≤ k) (hk8 : 8 * k + 4 ≤ 89) (hok : okR T) (hs : ∀ c ∈ T.1, smCv k c) (hx : Sm k x) (hy : Sm k y) (hsq : SqR T) (hss : Sq s) (hz : Sq z) (ht : Sq t) (hzt : z < t) (hzs : z ≤ s) (hst : s ≤ t) :
  Calls Tryz.prog 23 #[.agg #[.slice (some ⟨g, 0, none⟩) 1 1], rv x, rv y, rv s] w fun e w' => e = .returned (.tuple #[.bool (inR (sideR x y) T), .int .i64 0]) ∧ Below w.heap.size w w' := by
 have CI := fun (e0 e1 e2 e3 : Nat) (W : World) hp g0 g1 g2 g3 hk HR => callsIn_wide.1 (sd_contains_in k x y s z t T XA YA XAc YAc a0 W hp e0 e1 e2 e3 g g0 g1 g2 g3 hk HR h1 hk8 hok hs hx hy hsq hss hz ht hzt hzs hst)
 clear h1 hk8 hok hs hx hy hsq hss hz ht hzt hzs hst
 generalize inR (sideR x y) T = res at *
 unfold rv
 generalize itx x.num = x1 at *
 generalize itx (x.den : Int) = x2 at *
 generalize itx y.num = y1 at *
 generalize itx (y.den : Int) = y2 at *
 generalize itx s.num = s1 at *
 generalize itx (s.den : Int) = s2 at *
 generalize itx z.num = z1 at *
 generalize itx (z.den : Int) = z2 at *
 generalize itx t.num = t1 at *
 generalize itx (t.den : Int) = t2 at *
 obtain ⟨hB0, k0, k1, k2, k3⟩ := news4 w #[.slice (some ⟨g, 0, none⟩) 1 1] 57 #[.string x1, .string x2] 25 #[.string y1, .string y2] 25 #[.string s1, .string s2] 25
 have CP := run56_ok 57 #[] #[.pointer (some ⟨w.heap.size, 0, none⟩), .pointer (some ⟨w.heap.size + 1, 0, none⟩), .pointer (some ⟨w.heap.size + 2, 0, none⟩), .pointer (some ⟨w.heap.size + 3, 0, none⟩)] res ((((w.alloc (.cells #[.slice (some ⟨g, 0, none⟩) 1 1] 57)).alloc (.cells #[.string x1, .string x2] 25)).alloc (.cells #[.string y1, .string y2] 25)).alloc (.cells #[.string s1, .string s2] 25)) (enters_of Tryz.func57 (by kernel_rfl) rfl) (fun W hb => CI w.heap.size (w.heap.size + 1) (w.heap.size + 2) (w.heap.size + 3) W (hp.below (bZs hB0 hb)) (k0.below hb) (k1.below hb) (k2.below hb) (k3.below hb) (hk.below (bZs hB0 hb)) (HR.below (bZs hB0 hb)))
 have hmf := mk_fn
 clear CI
 go_enter Tryz.func23, Tryz.ntmps23
 go_wp2_with (go_at_call 56; refine CP.mono ?_; clear CP; rintro e w2 ⟨rfl, hb2⟩)
 go_ret2
 exact ⟨rfl, bZs hB0 hb2⟩
theorem df122_idle (p1 p2 : Value) (w : World) :
  CallsD Tryz.prog 122 #[p1, p2] .returning w fun e u' w' => e = .returned (.tuple #[]) ∧ u' = .returning ∧ w' = w := by
 have hn := df_nil w
 refine callsD_of_wpS Tryz.func122 rfl fun c₀ cs hu => ?_
 apply wpS_seq
 apply wpS_region
 simp [wpOpsS, go_sem, recoverD, hu, Tryz.ntmps122, Exit.thenS, hn]
 apply wpS_seq
 apply wpS_region
 simp [wpOpsS, go_sem, Exit.thenS]
 refine wpS_cond (t := false) (by simp [Act.eval]) ?_
 simp only [Bool.false_eq_true, if_false]
 refine wpS_of_wp (wp_skip ?_)
 cases c₀
 simp_all [bodyPostS, results, Tryz.results122]
theorem cp52_ok (N : Nat) (first cap : Array Value) (G : Value → World → Prop) (hG : ∀ (v : Value) (W : World) (g : Nat) (cs : Array Value) (t : TypeId) (i : Nat) (u : Value), (t = 57 ∨ t = 35) → Blk W g cs t → G v W → G v (W.setCell ⟨g, i, none⟩ u)) (w : World) (eg : ∀ args w, (callFunc N args).run Tryz.prog w = .ok (.enter N args) w)
  (D : ∀ W, Below w.heap.size w W → Calls Tryz.prog N (first ++ cap) W fun e w' => ∃ A m c, e = .returned (.agg #[(.slice A m c)]) ∧ G (.agg #[(.slice A m c)]) w' ∧ Below W.heap.size W w') :
  Calls Tryz.prog 52 #[.func (.func N) first cap] w fun e w' => ∃ A m c, e = .returned (.tuple #[.agg #[(.slice A m c)], .int .i64 0]) ∧ G (.agg #[(.slice A m c)]) w' ∧ Below w.heap.size w w' := by
 obtain ⟨hB0, k0, k1⟩ := news2 w #[.slice none 0 0] 57 #[.int .i64 0] 35
 have hmf := mk_fn
 have hne : w.heap.size + 1 ≠ w.heap.size := Nat.succ_ne_self _
 have hne' : w.heap.size ≠ w.heap.size + 1 := Ne.symm hne
 go_enter_defers Tryz.func52, Tryz.ntmps52
 go_wp2_with (refine (D _ hB0).mono ?_; rintro e w2 ⟨A, m, c, rfl, HG, hb2⟩; have hB2 := bZs hB0 hb2; have K0 := k0.below hb2; have K1 := (k1.below hb2).far (p := ⟨w.heap.size, 0, none⟩) hne (.slice A m c); obtain ⟨p0, p1⟩ := K0.one; obtain ⟨q0, q1⟩ := K1.one)
 have hB3 := bZe (g := w.heap.size + 1) (j := 0) (v := .int .i64 0) (bZe (g := w.heap.size) (j := 0) (v := (.slice A m c)) hB2 (Nat.le_refl _)) (Nat.le_succ _)
 have L0 := ((k0.below hb2).set 0 (.slice A m c)).far (p := ⟨w.heap.size + 1, 0, none⟩) hne' (.int .i64 0)
 have L1 := ((k1.below hb2).far (p := ⟨w.heap.size, 0, none⟩) hne (.slice A m c)).set 0 (.int .i64 0)
 have HG3 := hG _ _ _ _ _ 0 (.int .i64 0) (.inr rfl) ((k1.below hb2).far (p := ⟨w.heap.size, 0, none⟩) hne (.slice A m c)) (hG _ _ _ _ _ 0 (.slice A m c) (.inl rfl) (k0.below hb2) (HG))
 show Leaves _ _ _ _ _ _ _
 refine leaves_cons (f := 122) (args := #[.pointer (some ⟨w.heap.size, 0, none⟩), .pointer (some ⟨w.heap.size + 1, 0, none⟩)]) (by simp) (by simp [go_sem]) ?_
 refine (df122_idle _ _ _).mono ?_
 rintro e u' w3 ⟨rfl, rfl, rfl⟩
 refine ⟨.tuple #[.agg #[(.slice A m c)], .int .i64 0], ?_, _, _, _, rfl, HG3, hB3⟩
 have c0 : ((w2.setCell ⟨w.heap.size, 0, none⟩ (.slice A m c)).setCell ⟨w.heap.size + 1, 0, none⟩ (.int .i64 0)).cell? ⟨w.heap.size, 0, none⟩ = some (.slice A m c) := L0.cell 0
 have c9 : ((w2.setCell ⟨w.heap.size, 0, none⟩ (.slice A m c)).setCell ⟨w.heap.size + 1, 0, none⟩ (.int .i64 0)).cell? ⟨w.heap.size + 1, 0, none⟩ = some (.int .i64 0) := L1.cell 0
 generalize ((w2.setCell ⟨w.heap.size, 0, none⟩ (.slice A m c)).setCell ⟨w.heap.size + 1, 0, none⟩ (.int .i64 0)) = w4 at *
 simp [results, Tryz.results52, go_sem, c0, c9]
theorem ml_Swept (a b c d z r t : Rat) (T : Rg) (w : World) (hp : Pow w) (ha : Sq a) (hb' : Sq b) (hc : Sq c) (hd : Sq d) (hz : Sq z) (h : b = d ∨ a = c) (hr : Sq r) (h0 : 0 < r) (ht : Sq t) (hzt : z < t)
  (TR : ∀ W, Pow W → Calls Tryz.prog 184 #[tlv r t, psv a b c d z] W fun e w' => ∃ v, e = .returned v ∧ OwnR w' W.heap.size v T ∧ Below W.heap.size W w') :
  Calls Tryz.prog 22 #[psv a b c d z, rv r, rv t] w fun e w' => ∃ g XA XAc YA YAc, e = .returned (.tuple #[.agg #[.slice (some ⟨g, 0, none⟩) 1 1], .int .i64 0]) ∧ Blk w' g #[.slice XA T.1.length XAc, .slice YA T.2.length YAc, .string (itx z.num), .string (itx (z.den : Int)), .string (itx t.num), .string (itx (t.den : Int)), .bool false, .int .i64 0] 113 ∧ OwnR w' w.heap.size (.agg #[.slice XA T.1.length XAc, .slice YA T.2.length YAc]) T ∧ Below w.heap.size w w' := by
 have SW := fun (e0 e1 e2 : Nat) (W : World) hp g0 g1 g2 => callsIn_wide.1 (ml_swept_in a b c d z r t T W hp e0 e1 e2 g0 g1 g2 ha hb' hc hd hz h hr h0 ht hzt TR)
 clear ha hb' hc hd hz h hr h0 ht hzt TR
 unfold rv psv
 generalize itx a.num = a1 at *
 generalize itx (a.den : Int) = a2 at *
 generalize itx b.num = b1 at *
 generalize itx (b.den : Int) = b2 at *
 generalize itx c.num = c1 at *
 generalize itx (c.den : Int) = c2 at *
 generalize itx d.num = d1 at *
 generalize itx (d.den : Int) = d2 at *
 generalize itx z.num = z1 at *
 generalize itx (z.den : Int) = z2 at *
 generalize itx r.num = r1 at *
 generalize itx (r.den : Int) = r2 at *
 generalize itx t.num = t1 at *
 generalize itx (t.den : Int) = t2 at *
 obtain ⟨hB0, k0, k1, k2, k3⟩ := news4 w #[.string a1, .string a2, .string b1, .string b2, .string c1, .string c2, .string d1, .string d2, .string z1, .string z2] 61 #[.string r1, .string r2] 25 #[.string t1, .string t2] 25 #[.slice none 0 0] 57
 have CP := cp52_ok 53 #[] #[.pointer (some ⟨w.heap.size + 1, 0, none⟩), .pointer (some ⟨w.heap.size + 2, 0, none⟩), .pointer (some ⟨w.heap.size, 0, none⟩)] (fun v W => ∃ g XA XAc YA YAc, v = .agg #[.slice (some ⟨g, 0, none⟩) 1 1] ∧ Blk W g #[.slice XA T.1.length XAc, .slice YA T.2.length YAc, .string z1, .string z2, .string t1, .string t2, .bool false, .int .i64 0] 113 ∧ OwnR W w.heap.size (.agg #[.slice XA T.1.length XAc, .slice YA T.2.length YAc]) T) (by
  rintro v W g cs t i u ht hk ⟨g', XA, XAc, YA, YAc, rfl, KN, HR⟩
  have hne : g' ≠ g := KN.ne hk (by rcases ht with rfl | rfl <;> decide)
  exact ⟨g', XA, XAc, YA, YAc, rfl, KN.far hne _, HR.set hk (by rcases ht with rfl | rfl <;> decide) (by rcases ht with rfl | rfl <;> decide) i u⟩) ((((w.alloc (.cells #[.string a1, .string a2, .string b1, .string b2, .string c1, .string c2, .string d1, .string d2, .string z1, .string z2] 61)).alloc (.cells #[.string r1, .string r2] 25)).alloc (.cells #[.string t1, .string t2] 25)).alloc (.cells #[.slice none 0 0] 57)) (enters_of Tryz.func53 (by kernel_rfl) rfl) (fun W hb => by
  refine (SW (w.heap.size + 1) (w.heap.size + 2) w.heap.size W (hp.below (bZs hB0 hb)) (k1.below hb) (k2.below hb) (k0.below hb)).mono ?_
  rintro e w' ⟨g, XA, XAc, YA, YAc, rfl, KN, HR, hb2⟩
  exact ⟨_, _, _, rfl, ⟨g, XA, XAc, YA, YAc, rfl, KN, HR.lower (bZz (bZs hB0 hb))⟩, hb2⟩)
 have hmf := mk_fn
 clear SW
 go_enter Tryz.func22, Tryz.ntmps22
 go_wp2_with (go_at_call 52; refine CP.mono ?_; clear CP; rintro e w2 ⟨A, m, c', rfl, ⟨g, XA, XAc, YA, YAc, ev, KN, HR⟩, hb2⟩; injection ev with ev; simp only [Array.mk.injEq, List.cons.injEq, and_true] at ev; injection ev with ev1 ev2 ev3; subst ev1 ev2 ev3; have hB2 := bZs hB0 hb2; have K3 := k3.below hb2; obtain ⟨r0, r1⟩ := K3.one)
 refine bodyPost_ret (results_ct rfl _ _ (w.heap.size + 3) 57 #[.slice (some ⟨g, 0, none⟩) 1 1] (0, 0) _ rfl (K3.set 0 _) Tryz.underlying57 rfl (by kernel_rfl)) rfl ?_
 exact ⟨g, XA, XAc, YA, YAc, rfl, KN.far (KN.ne K3 (by decide)) _, HR.set K3 (by decide) (by decide) 0 _, bZe hB2 (Nat.le_add_right w.heap.size 3)⟩
end Go.Proofs.YtociicfjhgfgpaaGreatDoor
namespace Go.Proofs.YtociicfjhgfgpaaGreatDoor
open Go.RowKit Go.Shelf Go.Lib Go.Proofs.YtociicfjhgfgpaaGreatDoorW.PrintWords
theorem ml_trk (q : Pss) (z r t : Rat) (W : World) (hp : Pow W) (h : okQ q) (hr : Qt 10 r) (h0 : 0 < r) :
  Calls Tryz.prog 184 #[tlv r t, psv q.1 q.2.1 q.2.2.1 q.2.2.2 z] W fun e w' => ∃ v, e = .returned v ∧ OwnR w' W.heap.size v (trackR q r) ∧ Below W.heap.size W w' := by
 have S := fun {n : Nat} {s : Rat} (k : Qt n s) (hn : n < 1000) => (k.sm hn).le (k := 90) (by decide)
 have sa := S h.a (by decide)
 have sb := S h.b (by decide)
 have sc := S h.c (by decide)
 have sd := S h.d (by decide)
 have sr := S hr (by decide)
 have bz := box_sz q r
 have bs := sqR_of (box_sm h hr)
 have a1 := S (h.a.sub hr) (by decide)
 have a2 := S (h.a.add hr) (by decide)
 have b1 := S (h.b.sub hr) (by decide)
 have b2 := S (h.b.add hr) (by decide)
 have hsh := h.sh
 have r40 : Sm 40 r := (hr.sm (by decide)).le (by decide)
 clear S h hr
 obtain ⟨a, b, c, d⟩ := q
 simp only at *
 unfold trackR
 by_cases hh : b = d ∧ a = c
 ·rw [if_pos hh]
  obtain ⟨e1, e2⟩ := hh
  subst e1 e2
  exact ml_track_pt a b z r t W hp sa sb sr h0
 ·rw [if_neg hh]
  refine ml_track a b c d z r t (boxR (a, b, c, d) r) W hp sa sb sc sd sr r40 h0 hh bz bs (fun V hv => ?_)
  unfold boxR
  by_cases e : b = d
  ·subst e
   have hac : a < c := by
    rcases hsh with ⟨e1, -⟩ | ⟨-, h⟩
    ·exact absurd ⟨rfl, e1⟩ hh
    ·exact h
   simp only [if_true]
   exact ml_box_h a b c z r t V hv sa sb sc sr b1 b2 hac h0
  ·simp only [if_neg e]
   have hbd : a = c ∧ b < d := by
    rcases hsh with ⟨e1, h⟩ | ⟨e2, -⟩
    ·exact ⟨e1, by grind⟩
    ·exact absurd e2 e
   obtain ⟨e1, hbd⟩ := hbd
   subst e1
   exact ml_box_v a b d z r t V hv sa sb sd sr a1 a2 hbd h0
theorem sq_two : Sq 2 := ⟨by decide, by decide⟩
theorem pass_swept (q : Pss) (r : Rat) (W : World) (hp : Pow W) (h : okQ q) (hr : Qt 10 r) (h0 : 0 < r) :
  Calls Tryz.prog 22 #[psv q.1 q.2.1 q.2.2.1 q.2.2.2 0, rv r, rv 2] W fun e w' => ∃ g XA XAc YA YAc, e = .returned (.tuple #[.agg #[.slice (some ⟨g, 0, none⟩) 1 1], .int .i64 0]) ∧ Blk w' g #[.slice XA (trackR q r).1.length XAc, .slice YA (trackR q r).2.length YAc, .string (itx (0 : Rat).num), .string (itx ((0 : Rat).den : Int)), .string (itx (2 : Rat).num), .string (itx ((2 : Rat).den : Int)), .bool false, .int .i64 0] 113 ∧ OwnR w' W.heap.size (.agg #[.slice XA (trackR q r).1.length XAc, .slice YA (trackR q r).2.length YAc]) (trackR q r) ∧ Below W.heap.size W w' := by
 have S := fun {n : Nat} {s : Rat} (k : Qt n s) (hn : n < 1000) => (k.sm hn).le (k := 90) (by decide)
 refine ml_Swept q.1 q.2.1 q.2.2.1 q.2.2.2 0 r 2 (trackR q r) W hp (S h.a (by decide)) (S h.b (by decide)) (S h.c (by decide)) (S h.d (by decide)) sq_zero ?_ (S hr (by decide)) h0 sq_two (by decide +kernel) (fun V hv => ml_trk q 0 r 2 V hv h hr h0)
 rcases h.sh with ⟨e, -⟩ | ⟨e, -⟩
 ·exact .inr e
 ·exact .inl e
theorem pass_contains (q : Pss) (r x y : Rat) (XA YA : Option Addr) (XAc YAc a0 g : Nat) (W : World) (hp : Pow W) (h : okQ q) (hr : Qt 10 r) (h0 : 0 < r) (hx : Sm 10 x) (hy : Sm 10 y)
  (hk : Blk W g #[.slice XA (trackR q r).1.length XAc, .slice YA (trackR q r).2.length YAc, .string (itx (0 : Rat).num), .string (itx ((0 : Rat).den : Int)), .string (itx (2 : Rat).num), .string (itx ((2 : Rat).den : Int)), .bool false, .int .i64 0] 113) (HR : OwnR W a0 (.agg #[.slice XA (trackR q r).1.length XAc, .slice YA (trackR q r).2.length YAc]) (trackR q r)) :
  Calls Tryz.prog 23 #[.agg #[.slice (some ⟨g, 0, none⟩) 1 1], rv x, rv y, rv 1] W fun e w' => e = .returned (.tuple #[.bool (inR (sideR x y) (trackR q r)), .int .i64 0]) ∧ Below W.heap.size W w' :=
 sd_Contains 10 x y 1 0 2 (trackR q r) XA YA XAc YAc a0 g W hp hk HR (by decide) (by decide) (track_sz q h0).1 (track_sm h hr) hx hy (sqR_of (track_sm h hr)) sq_one sq_zero sq_two (by decide +kernel) (by decide +kernel) (by decide +kernel)
end Go.Proofs.YtociicfjhgfgpaaGreatDoor
