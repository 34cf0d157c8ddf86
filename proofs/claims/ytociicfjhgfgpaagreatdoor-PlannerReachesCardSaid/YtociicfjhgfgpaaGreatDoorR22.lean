/- Rows of elements of several cells that hold no row inside: fractions, curves, nodes: plain facts. region: fractions; slices.IndexFunc, ContainsFunc of fractions: the walks. planner: isWide, isHigh, th. -/
import Derived.Test.YtociicfjhgfgpaaGreatDoorR17
import Derived.Test.YtociicfjhgfgpaaGreatDoorR21
import Derived.Test.YtociicfjhgfgpaaGreatDoorR20
set_option linter.unusedVariables false
set_option linter.unusedSimpArgs false
set_option maxHeartbeats 4000000
set_option maxRecDepth 100000
namespace Go.Proofs.YtociicfjhgfgpaaGreatDoor
open Go.RowKit Go.Proofs.YtociicfjhgfgpaaGreatDoorW.PrintWords
def flat {α : Type} (n : Nat) (enc : α → List Value) (hl : ∀ x, (enc x).length = n) (h1 : ∀ x, ∀ u ∈ enc x, u.oneCell' = true) : Kd α where
 sz := n
 E := []
 K := fun _ x cs => cs = enc x
 M := fun _ _ _ x cs => cs = enc x
 K_len := fun h => by rw [h]; exact hl _
 K_one := fun h u hu => by rw [h] at hu; exact h1 _ u hu
 K_below := fun _ h => h
 K_of_M := fun h => h
 M_mono := fun _ h => h
 M_bound := fun h => h
 M_move := fun _ h => h
 M_lower := fun _ h => h
theorem flat_at {α : Type} {n : Nat} {enc : α → List Value} {hl : ∀ x, (enc x).length = n} {h1 : ∀ x, ∀ u ∈ enc x, u.oneCell' = true} {w : World} {A : Option Addr} {m : Nat} {xs : List α} (h : (flat n enc hl h1).C w A m xs) (z : α) (i : Int) (h0 : 0 ≤ i) (hi : i < m) :
  ∃ ad, A = some ad ∧ (∀ u, (enc (xs.getD i.toNat z))[0]? = some u → w.cell? (ad.add (i.toNat * n)) = some u) ∧ ∀ j u, 0 < j → (enc (xs.getD i.toNat z))[j]? = some u → w.cell? ⟨(ad.add (i.toNat * n)).block, (ad.add (i.toNat * n)).off + j, none⟩ = some u := by
 obtain ⟨ad, c, e, _, hK, hc0⟩ := Kd.C_get h z i h0 hi
 have hc : ∀ j u, c[j]? = some u → w.cell? (ad.add (i.toNat * n + j)) = some u := hc0
 have hK' : c = enc (xs.getD i.toNat z) := hK
 subst hK'
 exact ⟨ad, e, fun u hu => hc 0 u hu, fun j u hj hu => by rw [← add_field _ _ j (by omega)]; exact hc j u hu⟩
theorem flat_blk {α : Type} {n : Nat} {enc : α → List Value} {hl : ∀ x, (enc x).length = n} {h1 : ∀ x, ∀ u ∈ enc x, u.oneCell' = true} {w : World} {g : Nat} {t : TypeId} {cs : Array Value} (xs : List α) (hk : Blk w g cs t) (hc : cs.toList = xs.flatMap enc) (hm : xs.length ≤ 9223372036854775807) : (flat n enc hl h1).C w (some ⟨g, 0, none⟩) xs.length xs := by
 refine ⟨rfl, hm, fun _ => ⟨_, rfl, fun j p hj => ⟨enc p, hl p, rfl, fun i u hu => ?_⟩⟩⟩
 have hi : i < n := by
  have := (List.getElem?_eq_some_iff.1 hu).1
  rwa [hl] at this
 have hget : ∀ (ys : List α) (j : Nat), ys[j]? = some p → (ys.flatMap enc)[j * n + i]? = some u := by
  intro ys
  induction ys with
  | nil => intro j h; simp at h
  | cons y ys ih =>
   intro j h
   rw [List.flatMap_cons]
   cases j with
   | zero =>
    have : y = p := by simpa using h
    subst this
    rw [Nat.zero_mul, Nat.zero_add, List.getElem?_append_left (by rw [hl]; exact hi)]
    exact hu
   | succ j =>
    rw [List.getElem?_append_right (by rw [hl, Nat.succ_mul]; omega), hl, show (j + 1) * n + i - n = j * n + i by rw [Nat.succ_mul]; omega]
    exact ih j (by simpa using h)
 show w.cell? ((⟨g, 0, none⟩ : Addr).add (j * n + i)) = some u
 rw [add_plain, hk.cell]
 have := hget xs j hj
 rw [← hc] at this
 rwa [Array.getElem?_toList] at this
def encQ (q : Rat) : List Value := [.string (itx q.num), .string (itx q.den)]
def encC (c : Cv) : List Value := [.int .i64 c.1, .string (itx c.2.1.num), .string (itx c.2.1.den), .string (itx c.2.2.1.num), .string (itx c.2.2.1.den), .string (itx c.2.2.2.num), .string (itx c.2.2.2.den)]
def encN (n : Nd) : List Value := [.int .i64 n.1, .int .i64 n.2.1, .int .i64 n.2.2.1, .int .i64 n.2.2.2]
def kQ : Kd Rat := flat 2 encQ (fun _ => rfl) (fun x u hu => by simp [encQ] at hu; rcases hu with rfl | rfl <;> rfl)
def kCv : Kd Cv := flat 7 encC (fun _ => rfl) (fun x u hu => by simp [encC] at hu; rcases hu with rfl | rfl | rfl | rfl | rfl | rfl | rfl <;> rfl)
def kNd : Kd Nd := flat 4 encN (fun _ => rfl) (fun x u hu => by simp [encN] at hu; rcases hu with rfl | rfl | rfl | rfl <;> rfl)
def RdK {α : Type} (k : Kd α) (w : World) (v : Value) (xs : List α) : Prop := ∃ A c, v = .slice A xs.length c ∧ xs.length ≤ c ∧ k.C w A xs.length xs
theorem RdK.below {α : Type} {k : Kd α} {w w' : World} {v : Value} {xs : List α} (h : RdK k w v xs) (hb : Below w.heap.size w w') : RdK k w' v xs := by
 obtain ⟨A, c, e, hc, hr⟩ := h
 exact ⟨A, c, e, hc, Kd.C_below hr hb⟩
theorem RdK.drew {α : Type} {k : Kd α} {w : World} {v : Value} {xs : List α} (h : RdK k w v xs) : RdK k w.drew v xs := h.below (bZd (Below.refl _ _))
theorem RdK.of_R {α : Type} {k : Kd α} {e : Nat} {w : World} {base : Nat} {ok : Nat → Prop} {v : Value} {xs : List α} (h : k.R e w base ok v xs) : RdK k w v xs := by
 obtain ⟨A, c, he, hl, hr⟩ := Kd.R_reads h
 exact ⟨A, c, he, hl, hr⟩
def cv (c : Cv) : Value := .agg #[.int .i64 c.1, .string (itx c.2.1.num), .string (itx c.2.1.den), .string (itx c.2.2.1.num), .string (itx c.2.2.1.den), .string (itx c.2.2.2.num), .string (itx c.2.2.2.den)]
def RdR (w : World) (v : Value) (r : Rg) : Prop := ∃ u n, v = .agg #[u, n] ∧ RdK kCv w u r.1 ∧ RdK kNd w n r.2
theorem RdR.below {w w' : World} {v : Value} {r : Rg} (h : RdR w v r) (hb : Below w.heap.size w w') : RdR w' v r := by
 obtain ⟨u, n, e, h1, h2⟩ := h
 exact ⟨u, n, e, h1.below hb, h2.below hb⟩
end Go.Proofs.YtociicfjhgfgpaaGreatDoor
namespace Go.Proofs.YtociicfjhgfgpaaGreatDoor
open Go.RowKit Go.Shelf Go.Lib Go.Proofs.YtociicfjhgfgpaaGreatDoorW.PrintWords
theorem getD_mem {α : Type} {xs : List α} {i : Nat} {z : α} (h : i < xs.length) : xs.getD i z ∈ xs := by
 rw [List.getD_eq_getElem?_getD, List.getElem?_eq_getElem h]
 exact List.getElem_mem h
theorem idxF_none (G : Nat) (A : Option Addr) (c : Nat) (qs : List Rat) (w : World) (hq : kQ.C w A qs.length qs) (hc : qs.length ≤ c) (eg : ∀ args w, (callFunc G args).run Tryz.prog w = .ok (.enter G args) w)
  (hf : ∀ q ∈ qs, ∀ W, Below w.heap.size w W → Calls Tryz.prog G #[rv q] W fun e w' => e = .returned (.bool false) ∧ Below W.heap.size W w') :
  Calls Tryz.prog 137 #[.slice A qs.length c, .func (.func G) #[] #[]] w fun e w' => e = .returned (.int .i64 (-1)) ∧ Below w.heap.size w w' := by
 have hmax := hq.2.1
 go_enter Tryz.func137, Tryz.ntmps137
 go_wp2
 go_loopg [8] qs.length (fun k v8 w' => v8 = .int .i64 ((qs.length : Int) - (k : Int)) ∧ k ≤ qs.length ∧ Below w.heap.size w w')
 case atStart => exact ⟨by rw [Int.sub_self], Nat.le_refl _, Below.refl _ _⟩
 obtain ⟨rfl, hk, HB⟩ := hrel
 cases gk with
 | zero =>
  have hlt : decide (((qs.length : Int) - ((0 : Nat) : Int)) < (qs.length : Int)) = false := decide_eq_false (by omega)
  go_wp2
  go_ret
  exact ⟨rfl, HB⟩
 | succ m =>
  obtain ⟨i, hi⟩ : ∃ i : Nat, i + (m + 1) = qs.length := ⟨qs.length - (m + 1), by omega⟩
  rw [show (qs.length : Int) - ((m + 1 : Nat) : Int) = (i : Int) by omega]
  have hlt : ((i : Int) < (qs.length : Int)) = True := eq_true (by omega)
  have h0 : (0 ≤ (i : Int)) = True := eq_true (by omega)
  have hw : wrap64 ((i : Int) + 1) = (i : Int) + 1 := by unfold wrap64; omega
  obtain ⟨ad, rfl, hx0, hx1⟩ := flat_at hq 0 (i : Int) (by omega) (by omega)
  have c0 := hx0 _ rfl
  have c1 := hx1 1 _ (by omega) rfl
  rw [Int.toNat_natCast] at c0 c1
  have d0 := pZc HB c0
  have d1 := pZc HB c1
  have HF := hf (qs.getD i 0) (getD_mem (by omega))
  unfold rv at HF
  clear hx0 hx1 c0 c1 hq hf
  generalize itx (qs.getD i 0).num = s1 at *
  generalize itx ((qs.getD i 0).den : Int) = s2 at *
  go_wp2_with (go_at_fn G; refine (HF _ HB).mono ?_; clear HF; rintro e w2 ⟨rfl, hb2⟩)
  go_roundg m
  case measure => omega
  case rel => exact ⟨by congr 1; omega, by omega, bZs HB hb2⟩
theorem ctnF_none (G : Nat) (A : Option Addr) (c : Nat) (qs : List Rat) (w : World) (hq : kQ.C w A qs.length qs) (hc : qs.length ≤ c) (eg : ∀ args w, (callFunc G args).run Tryz.prog w = .ok (.enter G args) w)
  (hf : ∀ q ∈ qs, ∀ W, Below w.heap.size w W → Calls Tryz.prog G #[rv q] W fun e w' => e = .returned (.bool false) ∧ Below W.heap.size W w') :
  Calls Tryz.prog 68 #[.slice A qs.length c, .func (.func G) #[] #[]] w fun e w' => e = .returned (.bool false) ∧ Below w.heap.size w w' := by
 have V := idxF_none G A c qs w hq hc eg hf
 clear hq hf hc
 go_enter Tryz.func68, Tryz.ntmps68
 go_wp2_with (go_at_call 137; refine V.mono ?_; clear V; rintro e w2 ⟨rfl, hb2⟩)
 go_ret
 exact ⟨rfl, hb2⟩
theorem rg_frac1 (q : Rat) (w : World) (hp : Pow w) (h : Sq q) :
  Calls Tryz.prog 102 #[rv q] w fun e w' => e = .returned (.bool false) ∧ Below w.heap.size w w' := by
 have V := fun W hp => rat_Valid q W hp h
 unfold rv at *
 generalize itx q.num = s1 at *
 generalize itx (q.den : Int) = s2 at *
 have hB0 : Below w.heap.size w (w.alloc (.cells #[.string s1, .string s2] 25)) := bZa (Below.refl _ _) _
 go_enter Tryz.func102, Tryz.ntmps102
 go_wp2_with (go_at_call 44; refine (V _ (hp.below hB0)).mono ?_; clear V; rintro e w2 ⟨rfl, hb2⟩)
 go_ret
 exact ⟨rfl, bZs hB0 hb2⟩
theorem rg_fracs (A : Option Addr) (c : Nat) (qs : List Rat) (w : World) (hp : Pow w) (hq : kQ.C w A qs.length qs) (hc : qs.length ≤ c) (hs : ∀ q ∈ qs, Sq q) :
  Calls Tryz.prog 41 #[.slice A qs.length c] w fun e w' => e = .returned (.bool true) ∧ Below w.heap.size w w' := by
 have V := ctnF_none 102 A c qs w hq hc (enters_of Tryz.func102 (by kernel_rfl) rfl) (fun q hq W hb => rg_frac1 q W (hp.below hb) (hs q hq))
 clear hq hs hc
 go_enter Tryz.func41, Tryz.ntmps41
 go_wp2_with (go_at_call 68; refine V.mono ?_; clear V; rintro e w2 ⟨rfl, hb2⟩)
 go_ret
 exact ⟨rfl, hb2⟩
def rcv (a b c d : Rat) : Value := .agg #[.string (itx a.num), .string (itx (a.den : Int)), .string (itx b.num), .string (itx (b.den : Int)), .string (itx c.num), .string (itx (c.den : Int)), .string (itx d.num), .string (itx (d.den : Int))]
theorem pl_isWide (a b c d : Rat) (w : World) (hp : Pow w) (h1 : Sq a) (h2 : Sq c) :
  Calls Tryz.prog 74 #[rcv a b c d] w fun e w' => e = .returned (.bool (decide (a < c))) ∧ Below w.heap.size w w' := by
 have M := fun W hp => pl_isLess a c W hp h1 h2
 generalize decide (a < c) = bb at *
 unfold rv rcv at *
 generalize itx a.num = a1 at *
 generalize itx (a.den : Int) = a2 at *
 generalize itx b.num = b1 at *
 generalize itx (b.den : Int) = b2 at *
 generalize itx c.num = c1 at *
 generalize itx (c.den : Int) = c2 at *
 generalize itx d.num = d1 at *
 generalize itx (d.den : Int) = d2 at *
 have hB0 : Below w.heap.size w (w.alloc (.cells #[.string a1, .string a2, .string b1, .string b2, .string c1, .string c2, .string d1, .string d2] 69)) := bZa (Below.refl _ _) _
 go_enter Tryz.func74, Tryz.ntmps74
 go_wp2_with (go_at_call 72; refine (M _ (hp.below hB0)).mono ?_; clear M; rintro e w2 ⟨rfl, hb2⟩)
 go_ret
 exact ⟨rfl, bZs hB0 hb2⟩
theorem pl_isHigh (a b c d : Rat) (w : World) (hp : Pow w) (h1 : Sq b) (h2 : Sq d) :
  Calls Tryz.prog 75 #[rcv a b c d] w fun e w' => e = .returned (.bool (decide (b < d))) ∧ Below w.heap.size w w' := by
 have M := fun W hp => pl_isLess b d W hp h1 h2
 generalize decide (b < d) = bb at *
 unfold rv rcv at *
 generalize itx a.num = a1 at *
 generalize itx (a.den : Int) = a2 at *
 generalize itx b.num = b1 at *
 generalize itx (b.den : Int) = b2 at *
 generalize itx c.num = c1 at *
 generalize itx (c.den : Int) = c2 at *
 generalize itx d.num = d1 at *
 generalize itx (d.den : Int) = d2 at *
 have hB0 : Below w.heap.size w (w.alloc (.cells #[.string a1, .string a2, .string b1, .string b2, .string c1, .string c2, .string d1, .string d2] 69)) := bZa (Below.refl _ _) _
 go_enter Tryz.func75, Tryz.ntmps75
 go_wp2_with (go_at_call 72; refine (M _ (hp.below hB0)).mono ?_; clear M; rintro e w2 ⟨rfl, hb2⟩)
 go_ret
 exact ⟨rfl, bZs hB0 hb2⟩
theorem pl_wrong (q : Rat) (w : World) (hp : Pow w) (h : Sq q) :
  Calls Tryz.prog 66 #[rv q] w fun e w' => e = .returned (.bool false) ∧ Below w.heap.size w w' := by
 have V := fun W hp => rat_Valid q W hp h
 unfold rv at *
 generalize itx q.num = s1 at *
 generalize itx (q.den : Int) = s2 at *
 have hB0 : Below w.heap.size w (w.alloc (.cells #[.string s1, .string s2] 25)) := bZa (Below.refl _ _) _
 go_enter Tryz.func66, Tryz.ntmps66
 go_wp2_with (go_at_call 44; refine (V _ (hp.below hB0)).mono ?_; rintro e w2 ⟨rfl, hb2⟩)
 go_ret
 exact ⟨rfl, bZs hB0 hb2⟩
theorem pl_plus (g : Nat) (p q : Rat) (w : World) (hp : Pow w) (hk : Blk w g #[.string (itx q.num), .string (itx (q.den : Int))] 25) (h1 : Sq p) (h2 : Sq q) :
  Calls Tryz.prog 69 #[rv p, .pointer (some ⟨g, 0, none⟩)] w fun e w' => e = .returned (rv (p + q)) ∧ Below w.heap.size w w' := by
 have M := fun W hp => rat_Add p q W hp h1 h2
 unfold rv at *
 generalize p + q = s at *
 generalize itx p.num = p1 at *
 generalize itx (p.den : Int) = p2 at *
 generalize itx q.num = q1 at *
 generalize itx (q.den : Int) = q2 at *
 generalize itx s.num = s1 at *
 generalize itx (s.den : Int) = s2 at *
 obtain ⟨hB0, k0, k1⟩ := new2 w #[.string p1, .string p2] #[.string ⟨#[]⟩, .string ⟨#[]⟩] 25 25
 have MU := fun W => pl_must s1 s2 W
 obtain ⟨c0, c1, _, _⟩ := ((hk.alloc (.cells #[.string p1, .string p2] 25)).alloc (.cells #[.string ⟨#[]⟩, .string ⟨#[]⟩] 25)).two
 have hle : w.heap.size ≤ w.heap.size + 1 := Nat.le_succ _
 go_enter Tryz.func69, Tryz.ntmps69
 go_wp2_with (first | (go_at_call 19; refine (M _ (hp.below hB0)).mono ?_; clear M; rintro e w2 ⟨rfl, hb2⟩; have hB2 := bZs hB0 hb2; have K1 := k1.below hb2) | (go_at_call 70; refine (MU _).mono ?_; clear MU; rintro e w3 ⟨rfl, hb3⟩; have hB3 := bZs hB2 hb3; have L1 := K1.below hb3; obtain ⟨r0, r1, q0, q1⟩ := L1.two))
 refine bodyPost_ret (rZs rfl (.cell (w.heap.size + 1) 25 #[.string s1, .string s2] (0, 0) _ rfl ((L1.set 0 (.string s1)).set 1 (.string s2)) Tryz.underlying25 rfl (by kernel_rfl) .nil)) rfl ?_
 exact ⟨rfl, bZe (bZe hB3 hle) hle⟩
theorem pl_minus (g : Nat) (p q : Rat) (w : World) (hp : Pow w) (hk : Blk w g #[.string (itx q.num), .string (itx (q.den : Int))] 25) (h1 : Sq p) (h2 : Sq q) :
  Calls Tryz.prog 71 #[rv p, .pointer (some ⟨g, 0, none⟩)] w fun e w' => e = .returned (rv (p - q)) ∧ Below w.heap.size w w' := by
 have M := fun W hp => rat_Sub p q W hp h1 h2
 unfold rv at *
 generalize p - q = s at *
 generalize itx p.num = p1 at *
 generalize itx (p.den : Int) = p2 at *
 generalize itx q.num = q1 at *
 generalize itx (q.den : Int) = q2 at *
 generalize itx s.num = s1 at *
 generalize itx (s.den : Int) = s2 at *
 obtain ⟨hB0, k0, k1⟩ := new2 w #[.string p1, .string p2] #[.string ⟨#[]⟩, .string ⟨#[]⟩] 25 25
 have MU := fun W => pl_must s1 s2 W
 obtain ⟨c0, c1, _, _⟩ := ((hk.alloc (.cells #[.string p1, .string p2] 25)).alloc (.cells #[.string ⟨#[]⟩, .string ⟨#[]⟩] 25)).two
 have hle : w.heap.size ≤ w.heap.size + 1 := Nat.le_succ _
 go_enter Tryz.func71, Tryz.ntmps71
 go_wp2_with (first | (go_at_call 20; refine (M _ (hp.below hB0)).mono ?_; clear M; rintro e w2 ⟨rfl, hb2⟩; have hB2 := bZs hB0 hb2; have K1 := k1.below hb2) | (go_at_call 70; refine (MU _).mono ?_; clear MU; rintro e w3 ⟨rfl, hb3⟩; have hB3 := bZs hB2 hb3; have L1 := K1.below hb3; obtain ⟨r0, r1, q0, q1⟩ := L1.two))
 refine bodyPost_ret (rZs rfl (.cell (w.heap.size + 1) 25 #[.string s1, .string s2] (0, 0) _ rfl ((L1.set 0 (.string s1)).set 1 (.string s2)) Tryz.underlying25 rfl (by kernel_rfl) .nil)) rfl ?_
 exact ⟨rfl, bZe (bZe hB3 hle) hle⟩
end Go.Proofs.YtociicfjhgfgpaaGreatDoor
namespace Go.Proofs.YtociicfjhgfgpaaGreatDoor
open Go.Proofs.YtociicfjhgfgpaaGreatDoorW.PrintWords
def rectR (x0 y0 x1 y1 : Rat) : Rg :=
 ([(1, -1, 0, -x0), (1, 1, 0, x1), (1, 0, -1, -y0), (1, 0, 1, y1)], [(1, 0, 0, 0), (1, 1, 0, 0), (1, 2, 0, 0), (1, 3, 0, 0), (3, 0, 0, 1), (3, 0, 4, 2), (3, 0, 5, 3)])
def discR (x y r : Rat) : Rg := ([(2, x, y, r * r)], [(1, 0, 0, 0)])
theorem ok_rectR (x0 y0 x1 y1 : Rat) : okR (rectR x0 y0 x1 y1) := by
 unfold rectR
 refine ⟨by simp, by simp, by simp, ?_, ?_, ?_⟩
 ·simp [List.nodup_cons]
  grind
 ·intro c hc
  simp only [List.mem_cons, List.not_mem_nil, or_false] at hc
  rcases hc with rfl | rfl | rfl | rfl <;> simp [okCv]
 ·simp [okNds, okNd]
theorem rr_pos {r : Rat} (h : 0 < r) : 0 < r * r := Rat.mul_pos h h
theorem ok_discR (x y : Rat) {r : Rat} (h : 0 < r) : okR (discR x y r) := by
 unfold discR
 refine ⟨by simp, by simp, by simp, by simp, ?_, ?_⟩
 ·intro c hc
  simp only [List.mem_cons, List.not_mem_nil, or_false] at hc
  subst hc
  exact .inr ⟨rfl, rr_pos h⟩
 ·simp [okNds, okNd]
def distR (c : Cv) (x y : Rat) : Rat := if c.1 = 1 then c.2.1 * x + c.2.2.1 * y else (x - c.2.1) * (x - c.2.1) + (y - c.2.2.1) * (y - c.2.2.1)
def sideR (x y : Rat) (c : Cv) : Bool := decide (distR c x y ≤ c.2.2.2)
theorem inR_rect (x0 y0 x1 y1 x y : Rat) : inR (sideR x y) (rectR x0 y0 x1 y1) = (decide (x0 ≤ x ∧ x ≤ x1 ∧ y0 ≤ y ∧ y ≤ y1)) := by
 have h : inR (sideR x y) (rectR x0 y0 x1 y1) = (((sideR x y (1, -1, 0, -x0) && sideR x y (1, 1, 0, x1)) && sideR x y (1, 0, -1, -y0)) && sideR x y (1, 0, 1, y1)) := by
  simp [inR, rectR, evN, ndV]
 rw [h]
 unfold sideR distR
 simp only [if_pos]
 rw [Bool.eq_iff_iff]
 simp only [Bool.and_eq_true, decide_eq_true_eq]
 constructor
 ·rintro ⟨⟨⟨h1, h2⟩, h3⟩, h4⟩
  refine ⟨by grind, by grind, by grind, by grind⟩
 ·rintro ⟨h1, h2, h3, h4⟩
  refine ⟨⟨⟨by grind, by grind⟩, by grind⟩, by grind⟩
theorem inR_disc (x0 y0 r x y : Rat) : inR (sideR x y) (discR x0 y0 r) = decide ((x - x0) * (x - x0) + (y - y0) * (y - y0) ≤ r * r) := by
 simp [inR, discR, evN, ndV, sideR, distR]
def szR (m n : Nat) (r : Rg) : Prop := okR r ∧ r.1.length ≤ m ∧ r.2.length ≤ n
theorem cmb_sz {op : Int} {a b : Rg} {m n p q : Nat} (hop : op = 2 ∨ op = 3 ∨ op = 4) (ha : szR m n a) (hb : szR p q b) (h1 : m + p ≤ 24) (h2 : n + q + 1 ≤ 120) : szR (m + p) (n + q + 1) (cmb op a b) := by
 have l1 : (cmb op a b).1.length ≤ m + p := by
  have := ha.2.1; have := hb.2.1
  unfold cmb
  split
  ·omega
  ·split
   ·omega
   ·split
    ·simp
    ·unfold cmb2
     have := cmbC_le a b
     simp only
     omega
 have l2 : (cmb op a b).2.length ≤ n + q + 1 := by
  have := ha.2.2; have := hb.2.2
  unfold cmb
  split
  ·omega
  ·split
   ·omega
   ·split
    ·simp
    ·unfold cmb2
     simp only [List.length_append, List.length_map, List.length_cons, List.length_nil]
     omega
 exact ⟨ok_cmb hop ha.1 hb.1 (by omega) (by omega), l1, l2⟩
def uni (g : Bool) (r s : Rg) : Rg := if g then cmb 2 r s else r
theorem uni_in (f : Cv → Bool) {g : Bool} {r s : Rg} (hr : okR r) (hs : g = true → okR s) : inR f (uni g r s) = (inR f r || (g && inR f s)) := by
 unfold uni
 cases g
 ·simp
 ·simp only [if_true, Bool.true_and]
  rw [inR_cmb f (.inl rfl) hr (hs rfl)]
  simp [opV]
theorem uni_sz {g : Bool} {r s : Rg} {m n p q : Nat} (hr : szR m n r) (hs : g = true → szR p q s) (h1 : m + p ≤ 24) (h2 : n + q + 1 ≤ 120) : szR (m + p) (n + q + 1) (uni g r s) := by
 unfold uni
 cases g
 ·exact ⟨hr.1, by have := hr.2.1; simp; omega, by have := hr.2.2; simp; omega⟩
 ·exact cmb_sz (.inl rfl) hr (hs rfl) h1 h2
theorem cmb_mem {op : Int} {r s : Rg} {c : Cv} (h : c ∈ (cmb op r s).1) : c ∈ r.1 ∨ c ∈ s.1 := by
 unfold cmb at h
 split at h
 ·exact .inl h
 ·split at h
  ·exact .inr h
  ·split at h
   ·simp at h
   ·exact (mem_cmbC r s c).1 h
theorem uni_sm {k : Nat} {g : Bool} {r s : Rg} (hr : ∀ c ∈ r.1, smCv k c) (hs : g = true → ∀ c ∈ s.1, smCv k c) : ∀ c ∈ (uni g r s).1, smCv k c := by
 intro c hc
 unfold uni at hc
 cases g
 ·exact hr c hc
 ·rcases cmb_mem hc with h | h
  ·exact hr c h
  ·exact hs rfl c h
structure Pkt where
 a : Rat
 b : Rat
 c : Rat
 d : Rat
 x0 : Rat
 y0 : Rat
 x1 : Rat
 y1 : Rat
 r : Rat
def Pkt.wide (p : Pkt) : Bool := decide (p.a < p.c)
def Pkt.high (p : Pkt) : Bool := decide (p.b < p.d)
def Pkt.of (x0 y0 x1 y1 r : Rat) : Pkt := ⟨x0 + r, y0 + r, x1 - r, y1 - r, x0, y0, x1, y1, r⟩
structure okP (p : Pkt) : Prop where
 r0 : 0 < p.r
 x : p.x0 < p.x1
 y : p.y0 < p.y1
 ac : p.a ≤ p.c
 bd : p.b ≤ p.d
 ea : p.a = p.x0 + p.r
 eb : p.b = p.y0 + p.r
 ec : p.c = p.x1 - p.r
 ed : p.d = p.y1 - p.r
def reach1 (p : Pkt) : Rg := uni p.wide ([], []) (rectR p.a p.y0 p.c p.y1)
def reach2 (p : Pkt) : Rg := uni p.high (reach1 p) (rectR p.x0 p.b p.x1 p.d)
def reach3 (p : Pkt) : Rg := uni true (reach2 p) (discR p.a p.b p.r)
def reach4 (p : Pkt) : Rg := uni p.wide (reach3 p) (discR p.c p.b p.r)
def reach5 (p : Pkt) : Rg := uni p.high (reach4 p) (discR p.a p.d p.r)
def reachR (p : Pkt) : Rg := uni (p.wide && p.high) (reach5 p) (discR p.c p.d p.r)
theorem sz_nil : szR 0 0 ([], []) := ⟨⟨by simp, by simp, fun _ => rfl, by simp, by simp, trivial⟩, by simp, by simp⟩
theorem sz_rect (x0 y0 x1 y1 : Rat) : szR 4 7 (rectR x0 y0 x1 y1) := ⟨ok_rectR x0 y0 x1 y1, by simp [rectR], by simp [rectR]⟩
theorem sz_disc (x y : Rat) {r : Rat} (h : 0 < r) : szR 1 1 (discR x y r) := ⟨ok_discR x y h, by simp [discR], by simp [discR]⟩
theorem reach1_sz (p : Pkt) : szR 4 8 (reach1 p) := uni_sz sz_nil (fun _ => sz_rect _ _ _ _) (by decide) (by decide)
theorem reach2_sz (p : Pkt) : szR 8 16 (reach2 p) := uni_sz (reach1_sz p) (fun _ => sz_rect _ _ _ _) (by decide) (by decide)
theorem reach3_sz {p : Pkt} (h : 0 < p.r) : szR 9 18 (reach3 p) := uni_sz (reach2_sz p) (fun _ => sz_disc _ _ h) (by decide) (by decide)
theorem reach4_sz {p : Pkt} (h : 0 < p.r) : szR 10 20 (reach4 p) := uni_sz (reach3_sz h) (fun _ => sz_disc _ _ h) (by decide) (by decide)
theorem reach5_sz {p : Pkt} (h : 0 < p.r) : szR 11 22 (reach5 p) := uni_sz (reach4_sz h) (fun _ => sz_disc _ _ h) (by decide) (by decide)
theorem reach_sz {p : Pkt} (h : 0 < p.r) : szR 12 24 (reachR p) := uni_sz (reach5_sz h) (fun _ => sz_disc _ _ h) (by decide) (by decide)
structure smP (k : Nat) (p : Pkt) : Prop where
 a : Sm k p.a
 b : Sm k p.b
 c : Sm k p.c
 d : Sm k p.d
 x0 : Sm k p.x0
 y0 : Sm k p.y0
 x1 : Sm k p.x1
 y1 : Sm k p.y1
 r : Sm k p.r
 nx0 : Sm k (-p.x0)
 ny0 : Sm k (-p.y0)
 na : Sm k (-p.a)
 nb : Sm k (-p.b)
 rr : Sm k (p.r * p.r)
 one : Sm k 1
 mone : Sm k (-1)
 zero : Sm k 0
theorem sm_rectR {k : Nat} {x0 y0 x1 y1 : Rat} (h0 : Sm k 0) (h1 : Sm k 1) (hm : Sm k (-1)) (a : Sm k (-x0)) (b : Sm k x1) (c : Sm k (-y0)) (d : Sm k y1) : ∀ c ∈ (rectR x0 y0 x1 y1).1, smCv k c := by
 intro e he
 simp only [rectR, List.mem_cons, List.not_mem_nil, or_false] at he
 rcases he with rfl | rfl | rfl | rfl
 ·exact ⟨hm, h0, a⟩
 ·exact ⟨h1, h0, b⟩
 ·exact ⟨h0, hm, c⟩
 ·exact ⟨h0, h1, d⟩
theorem sm_discR {k : Nat} {x y r : Rat} (a : Sm k x) (b : Sm k y) (c : Sm k (r * r)) : ∀ c ∈ (discR x y r).1, smCv k c := by
 intro e he
 simp only [discR, List.mem_cons, List.not_mem_nil, or_false] at he
 subst he
 exact ⟨a, b, c⟩
theorem reach1_sm {k : Nat} {p : Pkt} (h : smP k p) : ∀ c ∈ (reach1 p).1, smCv k c := uni_sm (by simp) (fun _ => sm_rectR h.zero h.one h.mone h.na h.c h.ny0 h.y1)
theorem reach2_sm {k : Nat} {p : Pkt} (h : smP k p) : ∀ c ∈ (reach2 p).1, smCv k c := uni_sm (reach1_sm h) (fun _ => sm_rectR h.zero h.one h.mone h.nx0 h.x1 h.nb h.d)
theorem reach3_sm {k : Nat} {p : Pkt} (h : smP k p) : ∀ c ∈ (reach3 p).1, smCv k c := uni_sm (reach2_sm h) (fun _ => sm_discR h.a h.b h.rr)
theorem reach4_sm {k : Nat} {p : Pkt} (h : smP k p) : ∀ c ∈ (reach4 p).1, smCv k c := uni_sm (reach3_sm h) (fun _ => sm_discR h.c h.b h.rr)
theorem reach5_sm {k : Nat} {p : Pkt} (h : smP k p) : ∀ c ∈ (reach5 p).1, smCv k c := uni_sm (reach4_sm h) (fun _ => sm_discR h.a h.d h.rr)
theorem reach_sm {k : Nat} {p : Pkt} (h : smP k p) : ∀ c ∈ (reachR p).1, smCv k c := uni_sm (reach5_sm h) (fun _ => sm_discR h.c h.d h.rr)
theorem reach_in (f : Cv → Bool) {p : Pkt} (h : 0 < p.r) : inR f (reachR p) = ((((((p.wide && inR f (rectR p.a p.y0 p.c p.y1)) || (p.high && inR f (rectR p.x0 p.b p.x1 p.d))) || inR f (discR p.a p.b p.r)) || (p.wide && inR f (discR p.c p.b p.r))) || (p.high && inR f (discR p.a p.d p.r))) || ((p.wide && p.high) && inR f (discR p.c p.d p.r))) := by
 unfold reachR
 rw [uni_in f (reach5_sz h).1 (fun _ => ok_discR _ _ h)]
 unfold reach5
 rw [uni_in f (reach4_sz h).1 (fun _ => ok_discR _ _ h)]
 unfold reach4
 rw [uni_in f (reach3_sz h).1 (fun _ => ok_discR _ _ h)]
 unfold reach3
 rw [uni_in f (reach2_sz p).1 (fun _ => ok_discR _ _ h)]
 unfold reach2
 rw [uni_in f (reach1_sz p).1 (fun _ => ok_rectR _ _ _ _)]
 unfold reach1
 rw [uni_in f sz_nil.1 (fun _ => ok_rectR _ _ _ _), inR_nil]
 simp
theorem sq_le {t r : Rat} (h1 : t ≤ r) (h2 : -r ≤ t) : t * t ≤ r * r := by
 have h3 : 0 ≤ r - t := by grind
 have h4 : 0 ≤ r + t := by grind
 have := Rat.mul_nonneg h3 h4
 grind
end Go.Proofs.YtociicfjhgfgpaaGreatDoor
