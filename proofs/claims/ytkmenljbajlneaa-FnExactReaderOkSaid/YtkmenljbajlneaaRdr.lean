/- Readers: what the laws' own functions do with them; which are valid. -/
import Derived.Test.YtkmenljbajlneaaRds
namespace Go.Proofs.Ytkmenljbajlneaa
set_option linter.unusedSimpArgs false
set_option linter.unusedVariables false
open Go.ChangeShapes Go.WideShapes Go.ChangeAt Go.RowKit Go.BigFrame

structure Rdr where
  data : ByteArray
  at_ : Int
  script : List Rd
  next : Int
  code : Int
@[reducible] def Rdr.val (r : Rdr) (s : Value) : Value := .agg #[.string r.data, .int .i64 r.at_, s, .int .i64 r.next, .int .i64 r.code]
def codeOk (c : Int) : Bool := c == 0 || (c == 1 || decide (20 ≤ c))
def readerOk (r : Rdr) : Bool := decide (r.data.size ≤ 4000) && (inB r.at_ 0 r.data.size && (decide (r.script.length ≤ 200) && (inB r.next 0 r.script.length && codeOk r.code)))
def szR (n : Int) (r : Rdr) : Int := if n < (r.data.size : Int) + r.script.length then -1 else n - r.data.size - r.script.length
set_option maxHeartbeats 1000000 in
theorem szReader_any (r : Rdr) (a : Option Addr) (cap n : Nat) (left : Int) (w : World) (hd : r.data.size ≤ maxLen) (hx : r.script.length = n) (hn : n ≤ maxLen) (h0 : 0 ≤ left) (h1 : left ≤ 1048576) :
    Calls Try.prog 17 #[r.val (.slice a n cap), .int .i64 left] w fun e w' => e = .returned (.int .i64 (szR left r)) ∧ Below w.heap.size w w' := by
  have hd' := hd
  have hn' := hn
  unfold maxLen at hd' hn'
  by_cases hl : left < r.data.size
  · have hq : szR left r = -1 := if_pos (by omega)
    rw [hq]; clear hq
    have HX := Lib.hid hx; clear hx
    go_enter Try.func17, Try.ntmps17
    go_wp2
    go_ret
    exact ⟨rfl, by ((repeat (first | (with_reducible exact Below.refl _ _) | (with_reducible assumption) | (with_reducible refine Below.alloc ?_ ?_ _) | (with_reducible refine Below.setCell ?_ ?_ _) | (with_reducible refine Below.drew ?_) | (with_reducible refine below_setRow ?_ ?_ _) | (refine Below.trans ?_ (Below.mono (by assumption) ?_)))); all_goals (first | omega | (simp; done) | (simp; omega)))⟩
  · by_cases h2 : left - r.data.size < n
    · have hq : szR left r = -1 := if_pos (by omega)
      rw [hq]; clear hq
      have hq' : (if left - r.data.size < n then (-1 : Int) else left - r.data.size - n) = -1 := if_pos h2
      have HX := Lib.hid hx; clear hx
      go_enter Try.func17, Try.ntmps17
      go_wp2_with (first | (go_at_call 65; refine (szReadS_any _ _ _ _ _ hn (by omega) (by omega)).mono ?_; rintro r w1 ⟨rfl, rfl⟩))
      go_ret
      exact ⟨rfl, by ((repeat (first | (with_reducible exact Below.refl _ _) | (with_reducible assumption) | (with_reducible refine Below.alloc ?_ ?_ _) | (with_reducible refine Below.setCell ?_ ?_ _) | (with_reducible refine Below.drew ?_) | (with_reducible refine below_setRow ?_ ?_ _) | (refine Below.trans ?_ (Below.mono (by assumption) ?_)))); all_goals (first | omega | (simp; done) | (simp; omega)))⟩
    · have hq : szR left r = left - r.data.size - n := by simp only [szR]; rw [hx, if_neg (by omega)]
      rw [hq]; clear hq
      have hq' : (if left - r.data.size < n then (-1 : Int) else left - r.data.size - n) = left - r.data.size - n := if_neg h2
      have hq2 : 0 ≤ left - r.data.size - n := by omega
      have HX := Lib.hid hx; clear hx
      go_enter Try.func17, Try.ntmps17
      go_wp2_with (first | (go_at_call 65; refine (szReadS_any _ _ _ _ _ hn (by omega) (by omega)).mono ?_; rintro r w1 ⟨rfl, rfl⟩))
      go_ret
      exact ⟨rfl, by ((repeat (first | (with_reducible exact Below.refl _ _) | (with_reducible assumption) | (with_reducible refine Below.alloc ?_ ?_ _) | (with_reducible refine Below.setCell ?_ ?_ _) | (with_reducible refine Below.drew ?_) | (with_reducible refine below_setRow ?_ ?_ _) | (refine Below.trans ?_ (Below.mono (by assumption) ?_)))); all_goals (first | omega | (simp; done) | (simp; omega)))⟩
def FreshRdr (w : World) (t : TypeId) (r : Rdr) (e : Ending) (w' : World) : Prop :=
  ∃ a cap, e = .returned (r.val (.slice a r.script.length cap)) ∧ w'.ownsRow w.heap.size t 2 (.slice a r.script.length cap) r.script.length (r.script.flatMap Rd.cs) ∧ Below w.heap.size w w'
set_option maxHeartbeats 2000000 in
theorem toReader_any (r : Rdr) (a : Option Addr) (cap : Nat) (w : World) (h : Rds w a r.script) (hn : r.script.length ≤ 1048576) :
    Calls Try.prog 19 #[r.val (.slice a r.script.length cap)] w (FreshRdr w 108 r) := by
  have HSs := Lib.hid h; clear h
  go_enter Try.func19, Try.ntmps19
  go_wp2_with fail
  refine (toReadS_any _ _ _ r.script _ (Sl.keep HSs.out (by ((repeat (first | (with_reducible exact Below.refl _ _) | (with_reducible assumption) | (with_reducible refine Below.alloc ?_ ?_ _) | (with_reducible refine Below.setCell ?_ ?_ _) | (with_reducible refine Below.drew ?_) | (with_reducible refine below_setRow ?_ ?_ _) | (refine Below.trans ?_ (Below.mono (by assumption) ?_)))); all_goals (first | omega | (simp; done) | (simp; omega))))) rfl hn).mono ?_
  rintro e w1 ⟨a1, cap1, rfl, ho1, hb1⟩
  obtain ⟨hc1, hf1⟩ := bcell hb1
  have hz1 := hb1.size
  simp only [World.size_alloc, World.size_setCell] at hz1
  have HO := Lib.hid ho1
  clear ho1
  go_wp2
  refine bodyPost_ret (v := r.val (.slice a1 r.script.length cap1)) (by simp [results, Try.results19, go_sem, hc1]) rfl ⟨a1, cap1, rfl, ?_, by ((repeat (first | (with_reducible exact Below.refl _ _) | (with_reducible assumption) | (with_reducible refine Below.alloc ?_ ?_ _) | (with_reducible refine Below.setCell ?_ ?_ _) | (with_reducible refine Below.drew ?_) | (with_reducible refine below_setRow ?_ ?_ _) | (refine Below.trans ?_ (Below.mono (by assumption) ?_)))); all_goals (first | omega | (simp; done) | (simp; omega)))⟩
  ((first | refine owns_le (base := ?_) ?_ ?_ | refine OwnShs.le (base := ?_) ?_ ?_); rotate_left; (repeat (first | (refine owns_set ?_ ?_ _) | (refine OwnShs.set ?_ ?_ _) | exact HO.out)); all_goals (first | omega | (simp; done) | (simp; omega)))
set_option maxHeartbeats 2000000 in
/-- Two readings of one reader are equal. -/
theorem eqReader_same (r : Rdr) (a a' : Option Addr) (cap cap' n : Nat) (w : World) (h : Rds w a r.script) (h' : Rds w a' r.script) (hx : r.script.length = n) (hn : n ≤ 1048576) :
    Calls Try.prog 21 #[r.val (.slice a n cap), r.val (.slice a' n cap')] w fun e w' => e = .returned (.bool true) ∧ Below w.heap.size w w' := by
  have HX := Lib.hid hx; clear hx
  have HS1 := Lib.hid h; clear h
  have HS2 := Lib.hid h'; clear h'
  go_enter Try.func21, Try.ntmps21
  go_wp2_with fail
  refine (eqReadS_any _ _ _ _ _ _ r.script r.script _ (HS1.out.keep (by ((repeat (first | (with_reducible exact Below.refl _ _) | (with_reducible assumption) | (with_reducible refine Below.alloc ?_ ?_ _) | (with_reducible refine Below.setCell ?_ ?_ _) | (with_reducible refine Below.drew ?_) | (with_reducible refine below_setRow ?_ ?_ _) | (refine Below.trans ?_ (Below.mono (by assumption) ?_)))); all_goals (first | omega | (simp; done) | (simp; omega))))) (HS2.out.keep (by ((repeat (first | (with_reducible exact Below.refl _ _) | (with_reducible assumption) | (with_reducible refine Below.alloc ?_ ?_ _) | (with_reducible refine Below.setCell ?_ ?_ _) | (with_reducible refine Below.drew ?_) | (with_reducible refine below_setRow ?_ ?_ _) | (refine Below.trans ?_ (Below.mono (by assumption) ?_)))); all_goals (first | omega | (simp; done) | (simp; omega))))) HX.out HX.out hn hn).mono ?_
  rintro e w1 ⟨rfl, hb1⟩
  obtain ⟨hc1, hf1⟩ := bcell hb1
  have hz1 := hb1.size
  simp only [World.size_alloc, World.size_setCell] at hz1
  go_wp2
  go_ret
  exact ⟨rfl, by ((repeat (first | (with_reducible exact Below.refl _ _) | (with_reducible assumption) | (with_reducible refine Below.alloc ?_ ?_ _) | (with_reducible refine Below.setCell ?_ ?_ _) | (with_reducible refine Below.drew ?_) | (with_reducible refine below_setRow ?_ ?_ _) | (refine Below.trans ?_ (Below.mono (by assumption) ?_)))); all_goals (first | omega | (simp; done) | (simp; omega)))⟩
theorem readerOk_cases (r : Rdr) {n : Nat} (hx : r.script.length = n) : (¬ r.data.size ≤ 4000 ∧ readerOk r = false) ∨ (r.data.size ≤ 4000 ∧ inB r.at_ 0 r.data.size = false ∧ readerOk r = false) ∨ (r.data.size ≤ 4000 ∧ inB r.at_ 0 r.data.size = true ∧ ¬ n ≤ 200 ∧ readerOk r = false) ∨
    (r.data.size ≤ 4000 ∧ inB r.at_ 0 r.data.size = true ∧ n ≤ 200 ∧ inB r.next 0 n = false ∧ readerOk r = false) ∨ (r.data.size ≤ 4000 ∧ inB r.at_ 0 r.data.size = true ∧ n ≤ 200 ∧ inB r.next 0 n = true ∧ readerOk r = codeOk r.code) := by
  simp only [readerOk, hx]
  by_cases h1 : r.data.size ≤ 4000 <;> cases h2 : inB r.at_ 0 r.data.size <;> by_cases h3 : n ≤ 200 <;> cases h4 : inB r.next 0 n <;> simp [h1, h3]
set_option maxHeartbeats 2000000 in
theorem specReaderOk_any (r : Rdr) (a : Option Addr) (cap n : Nat) (w : World) (h : Rds w a r.script) (hx : r.script.length = n) (hn : n ≤ 1048576) (hd : r.data.size ≤ 1048576) :
    Calls Try.prog 18 #[r.val (.slice a n cap)] w fun e w' => e = .returned (.bool (readerOk r)) ∧ Below w.heap.size w w' := by
  have HC := Lib.hid (readerOk_cases r hx)
  have HX := Lib.hid hx; clear hx
  have HSs := Lib.hid h; clear h
  rcases HC.out with ⟨h1, h2⟩ | ⟨h1, h3, h2⟩ | ⟨h1, h3, h4, h2⟩ | ⟨h1, h3, h4, h5, h2⟩ | ⟨h1, h3, h4, h5, h2⟩
  all_goals
    rw [h2]
    clear h2
    go_enter Try.func18, Try.ntmps18
    go_wp2_with (first | (go_at_call 66; refine (l1In_any _ _ _ _).mono ?_; rintro e w2 ⟨rfl, rfl⟩))
    all_goals
      go_ret
      exact ⟨ret_bool (by simp [codeOk, Bool.or_assoc]; try omega), by ((repeat (first | (with_reducible exact Below.refl _ _) | (with_reducible assumption) | (with_reducible refine Below.alloc ?_ ?_ _) | (with_reducible refine Below.setCell ?_ ?_ _) | (with_reducible refine Below.drew ?_) | (with_reducible refine below_setRow ?_ ?_ _) | (refine Below.trans ?_ (Below.mono (by assumption) ?_)))); all_goals (first | omega | (simp; done) | (simp; omega)))⟩
set_option maxHeartbeats 2000000 in
theorem implReaderOk_any (r : Rdr) (a : Option Addr) (cap n : Nat) (w : World) (h : Rds w a r.script) (hx : r.script.length = n) (hn : n ≤ 1048576) (hd : r.data.size ≤ 1048576) :
    Calls Try.prog 20 #[r.val (.slice a n cap)] w fun e w' => e = .returned (.bool (readerOk r)) ∧ Below w.heap.size w w' := by
  have HC := Lib.hid (readerOk_cases r hx)
  have HX := Lib.hid hx; clear hx
  have HSs := Lib.hid h; clear h
  rcases HC.out with ⟨h1, h2⟩ | ⟨h1, h3, h2⟩ | ⟨h1, h3, h4, h2⟩ | ⟨h1, h3, h4, h5, h2⟩ | ⟨h1, h3, h4, h5, h2⟩
  all_goals
    rw [h2]
    clear h2
    go_enter Try.func20, Try.ntmps20
    go_wp2_with (first | (go_at_call 68; refine (within_any _ _ _ _).mono ?_; rintro e w2 ⟨rfl, rfl⟩))
    all_goals
      go_ret
      exact ⟨ret_bool (by simp [codeOk, Bool.or_assoc]; try omega), by ((repeat (first | (with_reducible exact Below.refl _ _) | (with_reducible assumption) | (with_reducible refine Below.alloc ?_ ?_ _) | (with_reducible refine Below.setCell ?_ ?_ _) | (with_reducible refine Below.drew ?_) | (with_reducible refine below_setRow ?_ ?_ _) | (refine Below.trans ?_ (Below.mono (by assumption) ?_)))); all_goals (first | omega | (simp; done) | (simp; omega)))⟩
/-! ### a reader that came in -/
structure RdrArg where
  data : ByteArray
  at_ : Int
  s : SlArg Rd
  next : Int
  code : Int
@[reducible] def RdrArg.r (x : RdrArg) : Rdr := ⟨x.data, x.at_, x.s.xs, x.next, x.code⟩
@[reducible] def RdrArg.val (x : RdrArg) : Value := x.r.val x.s.val
structure RdrArg.ok (x : RdrArg) (w : World) : Prop where
  data : x.data.size ≤ maxLen
  at_ : W64 x.at_
  s : x.s.ok 2 Rd.cs Rd.ok w
  next : W64 x.next
  code : W64 x.code
@[reducible] def rdCK : List CK := [CK.int .i64, .int .i64]
theorem rd_of_cells {w : World} {cs : List Value} {N : Nat} (hl : cs.length = 2) (h : ∀ (j : Nat) (ck : CK), rdCK[j]? = some ck → ∃ x, cs[j]? = some x ∧ ck.ok w (N + 1) x) : ∃ e : Rd, cs = e.cs ∧ e.ok := by
  match cs, hl with
  | [c0, c1], _ =>
    obtain ⟨x0, e0, h0⟩ := h 0 _ rfl
    obtain ⟨x1, e1, h1⟩ := h 1 _ rfl
    obtain ⟨n0, rfl, w0⟩ := ok_int (w := w) (h0 : (CK.int .i64).ok w 1 x0)
    obtain ⟨n1, rfl, w1⟩ := ok_int (w := w) (h1 : (CK.int .i64).ok w 1 x1)
    simp at e0 e1
    exact ⟨⟨n0, n1⟩, by simp [Rd.cs, e0, e1], ⟨w0, w1⟩⟩
section
variable {H : Type} {enc : TypeId × Value → H} {W : World} {base : Nat} {sp : Nat → Bool} {v : Value} {d : DataW H} {ps : List MemPlace}
theorem flat_reader : flat Try.prog 9 26 = some [.str, .int .i64, .sl rdCK, .int .i64, .int .i64] := by kernel_rfl
theorem cells_reader : Try.prog.cellsOf 26 = 5 := by kernel_rfl
set_option maxRecDepth 100000 in
theorem openReader (hv : Value.okWide Try.prog W .any base 26 v) (h : DataW.Trod enc Try.prog W 0 sp true 26 v d ps) : ∃ x : RdrArg, v = x.val ∧ x.ok W := by
  obtain ⟨cs, rfl, hsz⟩ := agg_of_okWide Try.underlying26 hv
  have hf := flat_trod flat_reader cells_reader h
  obtain ⟨x0, e0, k0⟩ := hf 0 _ rfl
  obtain ⟨x1, e1, k1⟩ := hf 1 _ rfl
  obtain ⟨x2, e2, k2⟩ := hf 2 _ rfl
  obtain ⟨x3, e3, k3⟩ := hf 3 _ rfl
  obtain ⟨x4, e4, k4⟩ := hf 4 _ rfl
  obtain ⟨n0, rfl, w0⟩ := ok_str (k0 1)
  obtain ⟨n1, rfl, w1⟩ := ok_int (k1 1)
  obtain ⟨st, rfl, hst⟩ := sl_open (sz := 2) (α := Rd) (cs := Rd.cs) (OK := Rd.ok) (N := 1) (k2 2) rfl (by omega) rd_len fun l hl hj => rd_of_cells (N := 0) hl hj
  obtain ⟨n3, rfl, w3⟩ := ok_int (k3 1)
  obtain ⟨n4, rfl, w4⟩ := ok_int (k4 1)
  refine ⟨⟨n0, n1, st, n3, n4⟩, ?_, ⟨w0, w1, hst, w3, w4⟩⟩
  obtain ⟨l⟩ := cs
  rw [cells_reader] at hsz
  match l, hsz with
  | [c0, c1, c2, c3, c4], _ => simp [Value.cells] at e0 e1 e2 e3 e4; rw [e0, e1, e2, e3, e4]
end
end Go.Proofs.Ytkmenljbajlneaa
