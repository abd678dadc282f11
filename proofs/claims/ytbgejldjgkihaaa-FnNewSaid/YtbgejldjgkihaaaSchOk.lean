/- Which schemas and plans are valid: both functions compute one plain function. -/
import Derived.Test.YtbgejldjgkihaaaShp
namespace Go.Proofs.Ytbgejldjgkihaaa
set_option linter.unusedSimpArgs false
set_option linter.unusedVariables false
open Go.ChangeShapes Go.WideShapes Go.ChangeAt Go.RowKit Go.BigFrame

def numOk (n : Int) : Bool := inB n 1 536870911 && !inB n 19000 19999
theorem specNumberOk_any (n : Int) (w : World) : Calls Try.prog 110 #[.int .i64 n] w fun r w' => r = .returned (.bool (numOk n)) ∧ w = w' := by
  by_cases h : inB n 1 536870911 = true
  · go_enter Try.func110, Try.ntmps110
    go_wp2_with (first | (go_at_call 56; refine (l1In_any _ _ _ _).mono ?_; rintro r w1 ⟨rfl, rfl⟩))
    go_ret
    exact ⟨ret_bool (by simp [numOk, h]), rfl⟩
  · have h' : inB n 1 536870911 = false := by simpa using h
    clear h
    go_enter Try.func110, Try.ntmps110
    go_wp2_with (first | (go_at_call 56; refine (l1In_any _ _ _ _).mono ?_; rintro r w1 ⟨rfl, rfl⟩))
    go_ret
    exact ⟨ret_bool (by simp [numOk, h']), rfl⟩
theorem implNumberOk_any (n : Int) (w : World) : Calls Try.prog 113 #[.int .i64 n] w fun r w' => r = .returned (.bool (numOk n)) ∧ w = w' := by
  by_cases h : inB n 1 536870911 = true
  · go_enter Try.func113, Try.ntmps113
    go_wp2_with (first | (go_at_call 60; refine (within_any _ _ _ _).mono ?_; rintro r w1 ⟨rfl, rfl⟩))
    go_ret
    exact ⟨ret_bool (by simp [numOk, h]), rfl⟩
  · have h' : inB n 1 536870911 = false := by simpa using h
    clear h
    go_enter Try.func113, Try.ntmps113
    go_wp2_with (first | (go_at_call 60; refine (within_any _ _ _ _).mono ?_; rintro r w1 ⟨rfl, rfl⟩))
    go_ret
    exact ⟨ret_bool (by simp [numOk, h']), rfl⟩
theorem l6Kind_any (x : Int) (w : World) : Calls Try.prog 112 #[.int .i64 x] w fun r w' => r = .returned (.bool (inB x 1 8)) ∧ w = w' := by
  go_enter Try.func112, Try.ntmps112
  go_wp2_with (first | (go_at_call 56; refine (l1In_any _ _ _ _).mono ?_; rintro r w1 ⟨rfl, rfl⟩))
  go_ret
  exact ⟨rfl, rfl⟩
theorem isKind_any (x : Int) (w : World) : Calls Try.prog 114 #[.int .i64 x] w fun r w' => r = .returned (.bool (inB x 1 8)) ∧ w = w' := by
  go_enter Try.func114, Try.ntmps114
  go_wp2_with (first | (go_at_call 60; refine (within_any _ _ _ _).mono ?_; rintro r w1 ⟨rfl, rfl⟩))
  go_ret
  exact ⟨rfl, rfl⟩
def packOk (f : Fld) : Bool := !(f.packed && (!f.rep || !inB f.kind 1 5))
def msgOk (m : Int) (f : Fld) : Bool := if f.kind = 8 then inB f.msg 0 (m - 1) else f.msg == -1
def fldOk (m : Int) (f : Fld) : Bool := numOk f.number && (inB f.kind 1 8 && (packOk f && msgOk m f))
theorem fldOk_cases (m : Int) (f : Fld) : (fldOk m f = false ∧ (numOk f.number = false ∨ (numOk f.number = true ∧ inB f.kind 1 8 = false))) ∨ (fldOk m f = false ∧ numOk f.number = true ∧ inB f.kind 1 8 = true ∧ f.packed = true ∧ (f.rep = false ∨ f.rep = true ∧ inB f.kind 1 5 = false)) ∨
    (numOk f.number = true ∧ inB f.kind 1 8 = true ∧ (f.packed = false ∨ f.packed = true ∧ f.rep = true ∧ inB f.kind 1 5 = true) ∧ ((f.kind == 8) = true ∧ fldOk m f = inB f.msg 0 (m - 1) ∨ (f.kind == 8) = false ∧ fldOk m f = (f.msg == -1))) := by
  obtain ⟨a, b, c, d, e⟩ := f
  simp only [fldOk, packOk, msgOk]
  cases h1 : numOk a <;> cases h2 : inB b 1 8 <;> cases c <;> cases d <;> cases h3 : inB b 1 5 <;> by_cases h4 : b = 8 <;> simp [h4]
set_option maxHeartbeats 4000000 in
theorem l8FieldOk_any (a : Option Addr) (n cap : Nat) (f : Fld) (w : World) (hn : n ≤ 1048576) :
    Calls Try.prog 57 #[.agg #[.slice a n cap], f.val] w fun r w' => r = .returned (.bool (fldOk n f)) ∧ Below w.heap.size w w' := by
  obtain ⟨q, hq⟩ : ∃ q, fldOk n f = q := ⟨_, rfl⟩
  have HC := fldOk_cases n f
  rw [hq] at HC ⊢
  obtain ⟨a, b, c, d, e⟩ := f
  simp only at HC
  clear hq
  rcases HC with ⟨rfl, h1 | ⟨h1, h2⟩⟩ | ⟨rfl, h1, h2, rfl, rfl | ⟨rfl, h3⟩⟩ | ⟨h1, h2, rfl | ⟨rfl, rfl, h3⟩, ⟨h4, rfl⟩ | ⟨h4, rfl⟩⟩
  all_goals
    go_enter Try.func57, Try.ntmps57
    go_wp2_with (first
      | (go_at_call 110; refine (specNumberOk_any _ _).mono ?_; rintro r w1 ⟨rfl, rfl⟩)
      | (go_at_call 112; refine (l6Kind_any _ _).mono ?_; rintro r w1 ⟨rfl, rfl⟩)
      | (go_at_call 20; refine (specNumeric_any _ _).mono ?_; rintro r w1 ⟨rfl, rfl⟩)
      | (go_at_call 56; refine (l1In_any _ _ _ _).mono ?_; rintro r w1 ⟨rfl, rfl⟩))
    go_ret
    exact ⟨rfl, by ((repeat (first | (with_reducible exact Below.refl _ _) | (with_reducible assumption) | (with_reducible refine Below.alloc ?_ ?_ _) | (with_reducible refine Below.setCell ?_ ?_ _) | (with_reducible refine Below.drew ?_) | (with_reducible refine below_setRow ?_ ?_ _) | (refine Below.trans ?_ (Below.mono (by assumption) ?_)))); all_goals (first | omega | (simp; done) | (simp; omega)))⟩
set_option maxHeartbeats 4000000 in
theorem fieldOk_any (f : Fld) (before m : Int) (w : World) (hm0 : 0 ≤ m) (hm : m ≤ 1048576) :
    Calls Try.prog 55 #[f.val, .int .i64 before, .int .i64 m] w fun r w' => r = .returned (.bool (fldOk m f && decide (before < f.number))) ∧ Below w.heap.size w w' := by
  obtain ⟨q, hq⟩ : ∃ q, fldOk m f = q := ⟨_, rfl⟩
  have HC := fldOk_cases m f
  rw [hq] at HC ⊢
  obtain ⟨a, b, c, d, e⟩ := f
  simp only at HC
  clear hq
  by_cases hb : before < a
  · have hbd : decide (before < a) = true := by simp [hb]
    have hbe : (q && decide (before < a)) = q := by simp [hb]
    simp only [hbe]
    clear hbe
    rcases HC with ⟨rfl, h1 | ⟨h1, h2⟩⟩ | ⟨rfl, h1, h2, rfl, rfl | ⟨rfl, h3⟩⟩ | ⟨h1, h2, rfl | ⟨rfl, rfl, h3⟩, ⟨h4, rfl⟩ | ⟨h4, rfl⟩⟩
    all_goals
      go_enter Try.func55, Try.ntmps55
      go_wp2_with (first
        | (go_at_call 113; refine (implNumberOk_any _ _).mono ?_; rintro r w1 ⟨rfl, rfl⟩)
        | (go_at_call 114; refine (isKind_any _ _).mono ?_; rintro r w1 ⟨rfl, rfl⟩)
        | (go_at_call 63; refine (implNumeric_any _ _).mono ?_; rintro r w1 ⟨rfl, rfl⟩)
        | (go_at_call 60; refine (within_any _ _ _ _).mono ?_; rintro r w1 ⟨rfl, rfl⟩))
      go_ret
      exact ⟨rfl, by ((repeat (first | (with_reducible exact Below.refl _ _) | (with_reducible assumption) | (with_reducible refine Below.alloc ?_ ?_ _) | (with_reducible refine Below.setCell ?_ ?_ _) | (with_reducible refine Below.drew ?_) | (with_reducible refine below_setRow ?_ ?_ _) | (refine Below.trans ?_ (Below.mono (by assumption) ?_)))); all_goals (first | omega | (simp; done) | (simp; omega)))⟩
  · have hbd : decide (before < a) = false := by simp [hb]
    have hbe : (q && decide (before < a)) = false := by simp [hb]
    simp only [hbe]
    clear hbe HC
    have hb2 : a ≤ before := by omega
    cases h1 : numOk a
    all_goals
      go_enter Try.func55, Try.ntmps55
      go_wp2_with (first
        | (go_at_call 113; refine (implNumberOk_any _ _).mono ?_; rintro r w1 ⟨rfl, rfl⟩))
      go_ret
      exact ⟨rfl, by ((repeat (first | (with_reducible exact Below.refl _ _) | (with_reducible assumption) | (with_reducible refine Below.alloc ?_ ?_ _) | (with_reducible refine Below.setCell ?_ ?_ _) | (with_reducible refine Below.drew ?_) | (with_reducible refine below_setRow ?_ ?_ _) | (refine Below.trans ?_ (Below.mono (by assumption) ?_)))); all_goals (first | omega | (simp; done) | (simp; omega)))⟩
/-- Fields in order. -/
def fldsOk (m : Int) : Int → List Fld → Bool
  | _, [] => true
  | b, f :: fs => (fldOk m f && decide (b < f.number)) && fldsOk m f.number fs
def shpHead (b : Int) (x : Shp) : Bool := decide (b < x.id) && (decide (x.id ≤ 99) && decide (x.flds.length ≤ 8))
def shpsOk (m : Int) : Int → List Shp → Bool
  | _, [] => true
  | b, x :: xs => shpHead b x && (fldsOk m 0 x.flds && shpsOk m x.id xs)
def schOk (xs : List Shp) : Bool := decide (xs.length ≤ 6) && shpsOk xs.length 0 xs
theorem drop_cons {α : Type} {xs : List α} {k : Nat} {e : α} (h : xs[k]? = some e) : xs.drop k = e :: xs.drop (k + 1) := by
  have hk : k < xs.length := by
    rcases Nat.lt_or_ge k xs.length with h1 | h1
    · exact h1
    · rw [List.getElem?_eq_none h1] at h; simp at h
  rw [List.getElem?_eq_getElem hk] at h
  simp only [Option.some.injEq] at h
  rw [← h]; exact List.drop_eq_getElem_cons hk
end Go.Proofs.Ytbgejldjgkihaaa
