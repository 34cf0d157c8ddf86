/- A block's cells, one by one. -/
import Derived.Test.YtociicfjhgfgpaaGreatDoorM02
set_option linter.unusedVariables false
set_option linter.unusedSimpArgs false
namespace Go.Proofs.YtociicfjhgfgpaaGreatDoor
variable {w : World} {b : Nat} {t : TypeId} {r : List Value}
theorem Blk.c0 {a0 : Value} (h : Blk w b (a0 :: r).toArray t) : w.cell? ⟨b, 0, none⟩ = some a0 := h.cell 0
theorem Blk.c1 {a0 a1 : Value} (h : Blk w b (a0 :: a1 :: r).toArray t) : w.cell? ⟨b, 1, none⟩ = some a1 := h.cell 1
theorem Blk.c2 {a0 a1 a2 : Value} (h : Blk w b (a0 :: a1 :: a2 :: r).toArray t) : w.cell? ⟨b, 2, none⟩ = some a2 := h.cell 2
theorem Blk.c3 {a0 a1 a2 a3 : Value} (h : Blk w b (a0 :: a1 :: a2 :: a3 :: r).toArray t) : w.cell? ⟨b, 3, none⟩ = some a3 := h.cell 3
theorem Blk.c4 {a0 a1 a2 a3 a4 : Value} (h : Blk w b (a0 :: a1 :: a2 :: a3 :: a4 :: r).toArray t) : w.cell? ⟨b, 4, none⟩ = some a4 := h.cell 4
theorem Blk.c5 {a0 a1 a2 a3 a4 a5 : Value} (h : Blk w b (a0 :: a1 :: a2 :: a3 :: a4 :: a5 :: r).toArray t) : w.cell? ⟨b, 5, none⟩ = some a5 := h.cell 5
theorem Blk.c6 {a0 a1 a2 a3 a4 a5 a6 : Value} (h : Blk w b (a0 :: a1 :: a2 :: a3 :: a4 :: a5 :: a6 :: r).toArray t) : w.cell? ⟨b, 6, none⟩ = some a6 := h.cell 6
theorem Blk.c7 {a0 a1 a2 a3 a4 a5 a6 a7 : Value} (h : Blk w b (a0 :: a1 :: a2 :: a3 :: a4 :: a5 :: a6 :: a7 :: r).toArray t) : w.cell? ⟨b, 7, none⟩ = some a7 := h.cell 7
theorem Blk.c8 {a0 a1 a2 a3 a4 a5 a6 a7 a8 : Value} (h : Blk w b (a0 :: a1 :: a2 :: a3 :: a4 :: a5 :: a6 :: a7 :: a8 :: r).toArray t) : w.cell? ⟨b, 8, none⟩ = some a8 := h.cell 8
theorem Blk.c9 {a0 a1 a2 a3 a4 a5 a6 a7 a8 a9 : Value} (h : Blk w b (a0 :: a1 :: a2 :: a3 :: a4 :: a5 :: a6 :: a7 :: a8 :: a9 :: r).toArray t) : w.cell? ⟨b, 9, none⟩ = some a9 := h.cell 9
theorem Blk.c10 {a0 a1 a2 a3 a4 a5 a6 a7 a8 a9 a10 : Value} (h : Blk w b (a0 :: a1 :: a2 :: a3 :: a4 :: a5 :: a6 :: a7 :: a8 :: a9 :: a10 :: r).toArray t) : w.cell? ⟨b, 10, none⟩ = some a10 := h.cell 10
theorem Blk.c11 {a0 a1 a2 a3 a4 a5 a6 a7 a8 a9 a10 a11 : Value} (h : Blk w b (a0 :: a1 :: a2 :: a3 :: a4 :: a5 :: a6 :: a7 :: a8 :: a9 :: a10 :: a11 :: r).toArray t) : w.cell? ⟨b, 11, none⟩ = some a11 := h.cell 11
theorem Blk.c12 {a0 a1 a2 a3 a4 a5 a6 a7 a8 a9 a10 a11 a12 : Value} (h : Blk w b (a0 :: a1 :: a2 :: a3 :: a4 :: a5 :: a6 :: a7 :: a8 :: a9 :: a10 :: a11 :: a12 :: r).toArray t) : w.cell? ⟨b, 12, none⟩ = some a12 := h.cell 12
theorem Blk.c13 {a0 a1 a2 a3 a4 a5 a6 a7 a8 a9 a10 a11 a12 a13 : Value} (h : Blk w b (a0 :: a1 :: a2 :: a3 :: a4 :: a5 :: a6 :: a7 :: a8 :: a9 :: a10 :: a11 :: a12 :: a13 :: r).toArray t) : w.cell? ⟨b, 13, none⟩ = some a13 := h.cell 13
theorem Blk.c14 {a0 a1 a2 a3 a4 a5 a6 a7 a8 a9 a10 a11 a12 a13 a14 : Value} (h : Blk w b (a0 :: a1 :: a2 :: a3 :: a4 :: a5 :: a6 :: a7 :: a8 :: a9 :: a10 :: a11 :: a12 :: a13 :: a14 :: r).toArray t) : w.cell? ⟨b, 14, none⟩ = some a14 := h.cell 14
theorem Blk.c15 {a0 a1 a2 a3 a4 a5 a6 a7 a8 a9 a10 a11 a12 a13 a14 a15 : Value} (h : Blk w b (a0 :: a1 :: a2 :: a3 :: a4 :: a5 :: a6 :: a7 :: a8 :: a9 :: a10 :: a11 :: a12 :: a13 :: a14 :: a15 :: r).toArray t) : w.cell? ⟨b, 15, none⟩ = some a15 := h.cell 15
theorem Blk.c16 {a0 a1 a2 a3 a4 a5 a6 a7 a8 a9 a10 a11 a12 a13 a14 a15 a16 : Value} (h : Blk w b (a0 :: a1 :: a2 :: a3 :: a4 :: a5 :: a6 :: a7 :: a8 :: a9 :: a10 :: a11 :: a12 :: a13 :: a14 :: a15 :: a16 :: r).toArray t) : w.cell? ⟨b, 16, none⟩ = some a16 := h.cell 16
theorem Blk.c17 {a0 a1 a2 a3 a4 a5 a6 a7 a8 a9 a10 a11 a12 a13 a14 a15 a16 a17 : Value} (h : Blk w b (a0 :: a1 :: a2 :: a3 :: a4 :: a5 :: a6 :: a7 :: a8 :: a9 :: a10 :: a11 :: a12 :: a13 :: a14 :: a15 :: a16 :: a17 :: r).toArray t) : w.cell? ⟨b, 17, none⟩ = some a17 := h.cell 17
theorem Blk.new2 (w : World) (c d : Array Value) (t u : TypeId) : Blk ((w.alloc (.cells c t)).alloc (.cells d u)) (w.heap.size + 1) d u := by
 have := Blk.new (w.alloc (.cells c t)) d u
 rwa [World.size_alloc] at this
end Go.Proofs.YtociicfjhgfgpaaGreatDoor
