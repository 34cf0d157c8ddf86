/- The fixed examples' numbers: plain facts. -/
import Derived.Test.YtociicfjhgfgpaaGreatDoorM45
set_option linter.unusedVariables false
set_option linter.unusedSimpArgs false
namespace Go.Proofs.YtociicfjhgfgpaaGreatDoor
open Go.RowKit Go.Proofs.YtociicfjhgfgpaaGreatDoorW.PrintWords
theorem sn_inp : Inp (mkRat 0 1) (mkRat 0 1) (mkRat 6 1) (mkRat 4 1) (mkRat 1 1) := ⟨⟨by decide +kernel, by decide +kernel⟩, ⟨by decide +kernel, by decide +kernel⟩, ⟨by decide +kernel, by decide +kernel⟩, ⟨by decide +kernel, by decide +kernel⟩, ⟨by decide +kernel, by decide +kernel⟩, by decide +kernel, by decide +kernel, by decide +kernel⟩
theorem sn_inp2 : Inp (mkRat 0 1) (mkRat 0 1) (mkRat 6 1) (mkRat 4 1) (mkRat 5 2) := ⟨⟨by decide +kernel, by decide +kernel⟩, ⟨by decide +kernel, by decide +kernel⟩, ⟨by decide +kernel, by decide +kernel⟩, ⟨by decide +kernel, by decide +kernel⟩, ⟨by decide +kernel, by decide +kernel⟩, by decide +kernel, by decide +kernel, by decide +kernel⟩
theorem sn_fits : fitsP (mkRat 0 1) (mkRat 0 1) (mkRat 6 1) (mkRat 4 1) (mkRat 1 1) = true := by decide +kernel
theorem sn_not : fitsP (mkRat 0 1) (mkRat 0 1) (mkRat 6 1) (mkRat 4 1) (mkRat 5 2) = false := by decide +kernel
theorem sn_one : One (Pkt.of (mkRat 0 1) (mkRat 0 1) (mkRat 6 1) (mkRat 4 1) (mkRat 1 1)) := ⟨⟨by decide +kernel, by decide +kernel⟩, ⟨by decide +kernel, by decide +kernel⟩, by decide +kernel, by decide +kernel, by decide +kernel⟩
theorem sn_rows : rows1 (Pkt.of (mkRat 0 1) (mkRat 0 1) (mkRat 6 1) (mkRat 4 1) (mkRat 1 1)) (mkRat 1 1) = [(mkRat 1 1, mkRat 1 1, mkRat 1 1, mkRat 3 1, mkRat 1 1), (mkRat 5 1, mkRat 1 1, mkRat 5 1, mkRat 3 1, mkRat 1 1), (mkRat 1 1, mkRat 1 1, mkRat 5 1, mkRat 1 1, mkRat 1 1), (mkRat 1 1, mkRat 3 1, mkRat 5 1, mkRat 3 1, mkRat 1 1)] := by decide +kernel
theorem sn_r0 : 0 < (Pkt.of (mkRat 0 1) (mkRat 0 1) (mkRat 6 1) (mkRat 4 1) (mkRat 1 1)).r := by decide +kernel
theorem sn_in : inR (sideR (mkRat 0 1) (mkRat 1 1)) (reachR (Pkt.of (mkRat 0 1) (mkRat 0 1) (mkRat 6 1) (mkRat 4 1) (mkRat 1 1))) = true := by
 rw [reach_in _ sn_r0]
 simp only [inR_rect, inR_disc]
 decide +kernel
theorem sn_out : inR (sideR (mkRat 1 4) (mkRat 1 4)) (reachR (Pkt.of (mkRat 0 1) (mkRat 0 1) (mkRat 6 1) (mkRat 4 1) (mkRat 1 1))) = false := by
 rw [reach_in _ sn_r0]
 simp only [inR_rect, inR_disc]
 decide +kernel
theorem sm_q {n : Int} (h : n.natAbs < 100) : Sm 2 (mkRat n 4) := sm_mk h (by decide) (by decide)
theorem smP_of {x0 y0 x1 y1 r : Rat} (h0 : Sm 2 x0) (h1 : Sm 2 y0) (h2 : Sm 2 x1) (h3 : Sm 2 y1) (h4 : Sm 2 r) : smP 10 (Pkt.of x0 y0 x1 y1 r) where
 a := (sm_add h0 h4).le (by decide)
 b := (sm_add h1 h4).le (by decide)
 c := (sm_sub h2 h4).le (by decide)
 d := (sm_sub h3 h4).le (by decide)
 x0 := h0.le (by decide)
 y0 := h1.le (by decide)
 x1 := h2.le (by decide)
 y1 := h3.le (by decide)
 r := h4.le (by decide)
 nx0 := (sm_neg h0).le (by decide)
 ny0 := (sm_neg h1).le (by decide)
 na := (sm_neg (sm_add h0 h4)).le (by decide)
 nb := (sm_neg (sm_add h1 h4)).le (by decide)
 rr := (sm_mul (by decide) h4 h4).le (by decide)
 one := ⟨by decide, by decide⟩
 mone := ⟨by decide, by decide⟩
 zero := ⟨by decide, by decide⟩
theorem sn_smP : smP 10 (Pkt.of (mkRat 0 1) (mkRat 0 1) (mkRat 6 1) (mkRat 4 1) (mkRat 1 1)) := smP_of ⟨by decide, by decide⟩ ⟨by decide, by decide⟩ ⟨by decide, by decide⟩ ⟨by decide, by decide⟩ ⟨by decide, by decide⟩
end Go.Proofs.YtociicfjhgfgpaaGreatDoor
