/- Draws that hand back rows: bytes, numbers. -/
import Derived.Test.YtbgejldjgkihaaaDraw
import Derived.Test.YtbgejldjgkihaaaPut
namespace Go.Proofs.Ytbgejldjgkihaaa
set_option linter.unusedSimpArgs false
set_option linter.unusedVariables false
open Go.ChangeShapes Go.WideShapes Go.ChangeAt Go.RowKit Go.BigFrame

/-- The cursor is a cursor, and of what was there nothing else is changed. -/
structure Up (B : Nat) (w0 w : World) : Prop where
  cur : Cur w B
  oth : Oth B w0 w
theorem Cur.same {w w' : World} {B : Nat} (h : Cur w B) (hs : ∀ k, k ≤ B → w'.heap[k]? = w.heap[k]?) : Cur w' B := by
  obtain ⟨a, n, cap, i, x, hh, hi, hn, hb⟩ := h
  refine ⟨a, n, cap, i, x, (hs B (Nat.le_refl _)).trans hh, hi, hn, fun k hk => ?_⟩
  obtain ⟨b, off, e, hb', y, h0, h1, hc⟩ := hb k hk
  exact ⟨b, off, e, hb', y, h0, h1, (World.cell?_of_block (a := ⟨b, off + k, none⟩) (hs b (by omega))).trans hc⟩
theorem Up.grown {B : Nat} {w0 w w' : World} {row : Option Nat} (h : Up B w0 w) (hB : B < w0.heap.size) (hg : w.grownBy w' row) (hr : ∀ g, row = some g → w0.heap.size ≤ g) : Up B w0 w' := by
  have hsz := h.oth.size
  refine ⟨h.cur.same fun k hk => hg.block k (by omega) (fun e => by have := hr k e.symm; omega), ⟨hg.os.trans h.oth.os, hg.tape.trans h.oth.tape, hg.output.trans h.oth.output, Nat.le_trans hsz hg.size, fun k hk hn => ?_⟩⟩
  exact (hg.block k (by omega) (fun e => by have := hr k e.symm; omega)).trans (h.oth.block hk (by simpa using hn))
theorem Up.alloc {B : Nat} {w0 w : World} (h : Up B w0 w) (hB : B < w0.heap.size) (o : Obj) : Up B w0 (w.alloc o) := h.grown hB (World.grownBy_alloc w o none) (by simp)
theorem Up.step {B : Nat} {w0 w w' : World} (h : Up B w0 w) (hc : Cur w' B) (ho : Oth B w w') : Up B w0 w' := ⟨hc, h.oth.trans ho⟩
theorem Oth.undrew {B : Nat} {w w' : World} (h : Oth B w.drew w') : Oth B w w' := by
  have h' : w.drew.grownBy w' (some B) := h
  obtain ⟨a, b, c, d, e⟩ := h'
  exact ⟨a, b, c, d, e⟩
theorem Up.refl {B : Nat} {w : World} (h : Cur w B) : Up B w w := ⟨h, Oth.refl _ _⟩
theorem owns_oth {w w' : World} {B base n size : Nat} {t : TypeId} {v : Value} {L : List Value} (h : w.ownsRow base t size v n L) (ho : Oth B w w') (hB : B < base) : w'.ownsRow base t size v n L :=
  h.kept ho (.inr (by
    intro e
    have h1 := h.lt B e
    omega))
theorem ints_of_block {w : World} {g : Nat} {l : List Int} {t : TypeId} (h : w.heap[g]? = some (.cells (l.map (Value.int .i64)).toArray t (0, 0))) : ∀ k, k < l.length → ∃ x : Int, w.cell? ⟨g, k, none⟩ = some (.int .i64 x) := by
  intro k hk
  exact ⟨l[k], by simp [World.cell?, h, hk]⟩
def DrawnI (B : Nat) (w : World) (r : Ending) (w' : World) : Prop := ∃ x : Int, r = .returned (.int .i64 x) ∧ Cur w' B ∧ Oth B w w'
theorem l1PickInt_any (B g cap : Nat) (l : List Int) (t : TypeId) (w : World) (hc : Cur w B) (hg : g ≠ B) (h : w.heap[g]? = some (.cells (l.map (Value.int .i64)).toArray t (0, 0))) (h0 : 0 < l.length) (h1 : l.length ≤ 256) :
    Calls Try.prog 102 #[.pointer (some ⟨B, 0, none⟩), .slice (some ⟨g, 0, none⟩) l.length cap] w (DrawnI B w) := by
  obtain ⟨n, hn⟩ : ∃ n, n = l.length := ⟨_, rfl⟩
  rw [← hn] at h0 h1 ⊢
  have HN := Lib.hid hn; clear hn
  have HH := Lib.hid h; clear h
  go_enter Try.func102, Try.ntmps102
  go_wp2_with fail
  refine (l1Below_any B n w hc (by omega) (by omega)).mono ?_
  rintro r w1 ⟨x, rfl, hx0, hx1, hc1, ho1⟩
  obtain ⟨k, rfl⟩ := Int.eq_ofNat_of_zero_le hx0
  have hgl : g < w.heap.size := box_lt HH.out
  have hb := (ho1.block hgl hg).trans HH.out
  obtain ⟨x, hx⟩ := ints_of_block hb k (by have := HN.out; omega)
  clear hb
  go_wp2
  go_ret
  exact ⟨x, rfl, hc1, ho1⟩
def DrawnO (B : Nat) (w : World) (r : Ending) (w' : World) : Prop := ∃ b : Bool, r = .returned (.bool b) ∧ Cur w' B ∧ Oth B w w'
theorem l1Once_any (B : Nat) (n : Int) (w : World) (hc : Cur w B) (h0 : 0 < n) (h1 : n ≤ 256) :
    Calls Try.prog 101 #[.pointer (some ⟨B, 0, none⟩), .int .i64 n] w (DrawnO B w) := by
  go_enter Try.func101, Try.ntmps101
  go_wp2_with fail
  refine (l1Below_any B n w hc h0 h1).mono ?_
  rintro r w1 ⟨x, rfl, hx0, hx1, hc1, ho1⟩
  go_wp2
  go_ret
  exact ⟨_, rfl, hc1, ho1⟩
end Go.Proofs.Ytbgejldjgkihaaa
