/- Both Cut give the same chunks. -/
import Derived.Test.YtkmenljbajlneaaMarks
import Derived.Deep.RegionLaw
namespace Go.Proofs.Ytkmenljbajlneaa
set_option linter.unusedSimpArgs false
set_option linter.unusedVariables false
open Go.ChangeShapes Go.WideShapes Go.ChangeAt Go.RowKit Go.BigFrame

def clampN (s : ByteArray) (x : Int) : Nat := (max 0 (min x s.size)).toNat
theorem clampN_le (s : ByteArray) (x : Int) : clampN s x ≤ s.size := by unfold clampN; omega
def cutL : ByteArray → List Int → List ByteArray
  | s, [] => if s.size = 0 then [] else [s]
  | s, x :: xs => s.extract 0 (clampN s x) :: cutL (s.extract (clampN s x) s.size) xs
theorem cutL_len : ∀ (xs : List Int) (s : ByteArray), (cutL s xs).length ≤ xs.length + 1
  | [], s => by simp only [cutL]; split <;> simp
  | x :: xs, s => by simp only [cutL, List.length_cons]; have := cutL_len xs (s.extract (clampN s x) s.size); omega
theorem cutL_drop {xs : List Int} {k : Nat} {x : Int} (hx : xs[k]? = some x) (s : ByteArray) : cutL s (xs.drop k) = s.extract 0 (clampN s x) :: cutL (s.extract (clampN s x) s.size) (xs.drop (k + 1)) := by
  have hk : k < xs.length := by
    rcases Nat.lt_or_ge k xs.length with h | h
    · exact h
    · rw [List.getElem?_eq_none h] at hx; simp at hx
  have e : xs[k] = x := by rw [List.getElem?_eq_getElem hk] at hx; simpa using hx
  rw [List.drop_eq_getElem_cons hk, e]; rfl
theorem sv_snoc (l : List ByteArray) (x : ByteArray) : (l ++ [x]).flatMap sv = l.flatMap sv ++ [.string x] := by simp [sv]
theorem cut_step {xs : List Int} {k c : Nat} {x : Int} {s s' : ByteArray} {done : List ByteArray} (hx : xs[k]? = some x) (hc : c = clampN s' x) (h : done.length = k ∧ done ++ cutL s' (xs.drop k) = cutL s xs) :
    (done ++ [s'.extract 0 c]).length = k + 1 ∧ (done ++ [s'.extract 0 c]) ++ cutL (s'.extract c s'.size) (xs.drop (k + 1)) = cutL s xs := by
  refine ⟨by simp [h.1], ?_⟩
  rw [← h.2, cutL_drop hx, hc]; simp
theorem isEmpty_bytes (s : ByteArray) : (s.size = 0 → s.toList.isEmpty = true) ∧ (¬ s.size = 0 → s.toList.isEmpty = false) := by
  rw [ByteArray.toList_eq]
  have e : s.data.toList.length = s.size := Array.length_toList
  rw [← e]
  cases s.data.toList <;> simp
theorem owned_shape {w : World} {base n size : Nat} {t : TypeId} {v : Value} {L : List Value} (h : w.ownsRow base t size v n L) : ∃ a cap, v = .slice a n cap ∧ w.ownsRow base t size (.slice a n cap) n L := by
  rcases h.2 with ⟨rfl, h0⟩ | ⟨g, cap, cur, rfl, _⟩
  · exact ⟨none, 0, by rw [h0], by subst h0; exact h⟩
  · exact ⟨_, _, rfl, h⟩
theorem own_capm {w : World} {base n cap size : Nat} {a : Option Addr} {t : TypeId} {xs : List Value} (h : w.ownsRow base t size (.slice a n cap) n xs) : cap ≤ maxLen := by
  rcases h.2 with ⟨e, h0⟩ | ⟨g, cap', cur, e, _, _, _, hc, _⟩
  · simp only [Value.slice.injEq] at e; omega
  · simp only [Value.slice.injEq] at e
    omega
def FreshR (w : World) (L : List Value) (r : Ending) (w' : World) : Prop :=
  ∃ a cap, r = .returned (.slice a L.length cap) ∧ OwnR w' w.heap.size w'.heap.size a L.length L ∧ Below w.heap.size w w' ∧ L.length ≤ cap
theorem svs_len (xs : List ByteArray) : (xs.flatMap sv).length = xs.length := by rw [flatMap_len sv_len]; omega
theorem specMax_any (x y m : Int) (w : World) (h : m = max x y) : Calls Try.prog 71 #[.int .i64 x, .int .i64 y] w fun r w' => r = .returned (.int .i64 m) ∧ w = w' := by
  subst h
  go_enter Try.func71, Try.ntmps71
  go_wp2
  all_goals
    go_ret
    exact ⟨ret_int (by omega), rfl⟩
theorem specMin_any (x y m : Int) (w : World) (h : m = min x y) : Calls Try.prog 70 #[.int .i64 x, .int .i64 y] w fun r w' => r = .returned (.int .i64 m) ∧ w = w' := by
  subst h
  go_enter Try.func70, Try.ntmps70
  go_wp2
  all_goals
    go_ret
    exact ⟨ret_int (by omega), rfl⟩
set_option maxRecDepth 100000 in
set_option maxHeartbeats 2000000 in
theorem specCut_any (s : ByteArray) (a : Option Addr) (cap n : Nat) (xs : List Int) (w : World) (h : Ints w a xs) (hx : xs.length = n) (hn : n ≤ 1048576) (hs : s.size ≤ 1048576) :
    Calls Try.prog 22 #[.string s, .slice a n cap] w (FreshR w ((cutL s xs).flatMap sv)) := by
  have HX := Lib.hid hx; clear hx
  obtain ⟨i0, hi, hz0, hz1, hz2⟩ := info_parts info_string
  go_enter Try.func22, Try.ntmps22
  go_wp2
  go_loopw [0, 5, 6, 7] (fun t v i m7 wr => ∃ (k : Nat) (s' : ByteArray) (done : List ByteArray), k ≤ n ∧ i = .int .i64 k ∧ t = .string s' ∧ s'.size ≤ 1048576 ∧ Hid (done.length = k ∧ done ++ cutL s' (xs.drop k) = cutL s xs) ∧ wr.ownsRow w.heap.size 9 1 v k (done.flatMap sv) ∧ Below w.heap.size w wr) (fun _ _ i _ _ => n - (intOf i).toNat)
  case atStart => exact ⟨0, s, [], Nat.zero_le _, rfl, rfl, hs, Lib.hid ⟨rfl, by simp⟩, ⟨by simp, .inr ⟨w.heap.size, 0, #[], rfl, Nat.le_refl _, heap_nth0 w _, Nat.le_refl _, Nat.zero_le _, rfl, rfl⟩⟩, by ((repeat (first | (with_reducible exact Below.refl _ _) | (with_reducible assumption) | (with_reducible refine Below.alloc ?_ ?_ _) | (with_reducible refine Below.setCell ?_ ?_ _) | (with_reducible refine Below.drew ?_) | (with_reducible refine below_setRow ?_ ?_ _) | (refine Below.trans ?_ (Below.mono (by assumption) ?_)))); all_goals (first | omega | (simp; done) | (simp; omega)))⟩
  case round =>
    obtain ⟨k, s', done, hk, rfl, rfl, hs', HD, ho, hb⟩ := hrel
    have HO := Lib.hid ho; clear ho
    have hz := hb.size
    by_cases hlt : k < n
    · obtain ⟨x, hx, _⟩ := at_lt (xs := xs) (k := k) (by rw [HX.out]; exact hlt)
      have HE := Lib.hid hx
      obtain ⟨b, off, rfl, hlb, c0⟩ := Ints.at (h.below hb (Nat.le_refl _)) hx
      clear hx
      obtain ⟨c, hc⟩ : ∃ c, c = clampN s' x := ⟨_, rfl⟩
      have hcl : c ≤ s'.size := by rw [hc]; exact clampN_le s' x
      have HC := Lib.hid hc; clear hc
      go_wp2_with (first
        | (go_at_call 71; refine (specMax_any 0 x _ _ rfl).mono ?_; rintro r w2 ⟨rfl, rfl⟩)
        | (go_at_call 70; refine (specMin_any _ _ (c : Int) _ (by rw [HC.out]; unfold clampN; omega)).mono ?_; rintro r w2 ⟨rfl, rfl⟩)
        | (at_builtin; refine wpList_append_own _ rfl _ _ 36 rfl w.heap.size 9 i0 (.string ⟨#[]⟩) 1 16 Try.underlying36 hi hz0 hz1 hz2 rfl (by decide) _ _ _ rfl (HO.out.alloc _) ⟨wr.heap.size, 0, none⟩ 1 1 [.string (s'.extract 0 c)] rfl rfl (one_cell _ _ _) (by intro u hu; simp at hu; subst hu; rfl) (by unfold maxLen; omega) (by omega) (by simp; omega) ?_; intro v1 w1 hown1 hgrow1 hnn1; have hb1 : Below w.heap.size w w1 := Below.grown (by ((repeat (first | (with_reducible exact Below.refl _ _) | (with_reducible assumption) | (with_reducible refine Below.alloc ?_ ?_ _) | (with_reducible refine Below.setCell ?_ ?_ _) | (with_reducible refine Below.drew ?_) | (with_reducible refine below_setRow ?_ ?_ _) | (refine Below.trans ?_ (Below.mono (by assumption) ?_)))); all_goals (first | omega | (simp; done) | (simp; omega)))) hgrow1 (by simp; omega) (fun g hg => (HO.out.lt g hg).1); clear hgrow1 hnn1))
      go_roundw
      case rel => exact ⟨k + 1, s'.extract c s'.size, done ++ [s'.extract 0 c], by omega, by go_num, rfl, by rw [ByteArray.size_extract]; omega, Lib.hid (cut_step HE.out HC.out HD.out), by rw [sv_snoc]; exact hown1, by ((repeat (first | (with_reducible exact Below.refl _ _) | (with_reducible assumption) | (with_reducible refine Below.alloc ?_ ?_ _) | (with_reducible refine Below.setCell ?_ ?_ _) | (with_reducible refine Below.drew ?_) | (with_reducible refine below_setRow ?_ ?_ _) | (refine Below.trans ?_ (Below.mono (by assumption) ?_)))); all_goals (first | omega | (simp; done) | (simp; omega)))⟩
      case measure => simp [intOf]; omega
    · have hkn : k = n := by omega
      subst hkn
      have HDn := Lib.hid (show done ++ cutL s' [] = cutL s xs by have := HD.out.2; rwa [List.drop_of_length_le (by rw [HX.out]; exact Nat.le_refl _)] at this)
      by_cases hsz : s'.size = 0
      · have he := (isEmpty_bytes s').1 hsz
        have HF := Lib.hid (show done = cutL s xs by have := HDn.out; rw [cutL, if_pos hsz] at this; simpa using this)
        have HL := Lib.hid (show (cutL s xs).length = k by rw [← HF.out]; exact HD.out.1)
        have HO2 := Lib.hid (owned_shape HO.out)
        clear HO
        obtain ⟨a5, cap5, rfl, h5⟩ := HO2.out
        have hcap5 := own_cap h5
        clear h5
        go_wp2
        go_ret
        exact ⟨a5, cap5, by rw [svs_len, HL.out]; rfl, by rw [svs_len, HL.out, ← HF.out]; obtain ⟨a6, cap6, e6, h6⟩ := HO2.out; simp only [Value.slice.injEq, true_and] at e6; obtain ⟨rfl, rfl⟩ := e6; exact OwnR.of_owns h6, hb, by rw [svs_len, HL.out]; exact hcap5⟩
      · have he := (isEmpty_bytes s').2 hsz
        have HF := Lib.hid (show done ++ [s'] = cutL s xs by have := HDn.out; rw [cutL, if_neg hsz] at this; exact this)
        have HL := Lib.hid (show (cutL s xs).length = k + 1 by rw [← HF.out, List.length_append, HD.out.1]; rfl)
        go_wp2_with (first | (at_builtin; refine wpList_append_own _ rfl _ _ 36 rfl w.heap.size 9 i0 (.string ⟨#[]⟩) 1 16 Try.underlying36 hi hz0 hz1 hz2 rfl (by decide) _ _ _ rfl (HO.out.alloc _) ⟨wr.heap.size, 0, none⟩ 1 1 [.string s'] rfl rfl (one_cell _ _ _) (by intro u hu; simp at hu; subst hu; rfl) (by unfold maxLen; omega) (by omega) (by simp; omega) ?_; intro v1 w1 hown1 hgrow1 hnn1; have hb1 : Below w.heap.size w w1 := Below.grown (by ((repeat (first | (with_reducible exact Below.refl _ _) | (with_reducible assumption) | (with_reducible refine Below.alloc ?_ ?_ _) | (with_reducible refine Below.setCell ?_ ?_ _) | (with_reducible refine Below.drew ?_) | (with_reducible refine below_setRow ?_ ?_ _) | (refine Below.trans ?_ (Below.mono (by assumption) ?_)))); all_goals (first | omega | (simp; done) | (simp; omega)))) hgrow1 (by simp; omega) (fun g hg => (HO.out.lt g hg).1); clear hgrow1 hnn1))
        have HO3 := Lib.hid (owned_shape hown1)
        clear hown1
        obtain ⟨a5, cap5, rfl, h5⟩ := HO3.out
        have hcap5 := own_cap h5
        clear h5
        go_wp2
        go_ret
        exact ⟨a5, cap5, by rw [svs_len, HL.out]; rfl, by rw [svs_len, HL.out, ← HF.out, sv_snoc]; obtain ⟨a6, cap6, e6, h6⟩ := HO3.out; simp only [Value.slice.injEq, true_and] at e6; obtain ⟨rfl, rfl⟩ := e6; exact OwnR.of_owns h6, hb1, by rw [svs_len, HL.out]; exact hcap5⟩
set_option maxRecDepth 100000 in
theorem clip_any (a : Option Addr) (cap n : Nat) (w : World) (hn : n ≤ cap) (hc : cap ≤ maxLen) :
    Calls Try.prog 72 #[.slice a n cap] w fun r w' => r = .returned (.slice a n n) ∧ w = w' := by
  unfold maxLen at hc
  go_enter Try.func72, Try.ntmps72
  go_wp2
  go_ret
  exact ⟨rfl, rfl⟩
set_option maxRecDepth 100000 in
set_option maxHeartbeats 2000000 in
theorem implCut_any (s : ByteArray) (a : Option Addr) (cap n : Nat) (xs : List Int) (w : World) (h : Ints w a xs) (hx : xs.length = n) (hn : n ≤ 1048576) (hs : s.size ≤ 1048576) :
    Calls Try.prog 24 #[.string s, .slice a n cap] w (FreshR w ((cutL s xs).flatMap sv)) := by
  have HX := Lib.hid hx; clear hx
  obtain ⟨i0, hi, hz0, hz1, hz2⟩ := info_parts info_string
  go_enter Try.func24, Try.ntmps24
  go_wp2
  go_loopw [0, 5, 7, 11] (fun t v m7 i wr => ∃ (k : Nat) (s' : ByteArray) (done : List ByteArray), k ≤ n ∧ i = .int .i64 k ∧ t = .string s' ∧ s'.size ≤ 1048576 ∧ Hid (done.length = k ∧ done ++ cutL s' (xs.drop k) = cutL s xs) ∧ wr.ownsRow w.heap.size 9 1 v k (done.flatMap sv) ∧ Below w.heap.size w wr) (fun _ _ _ i _ => n - (intOf i).toNat)
  case atStart => exact ⟨0, s, [], Nat.zero_le _, rfl, rfl, hs, Lib.hid ⟨rfl, by simp⟩, ⟨by simp, .inr ⟨w.heap.size, 0, #[], rfl, Nat.le_refl _, heap_nth0 w _, Nat.le_refl _, Nat.zero_le _, rfl, rfl⟩⟩, by ((repeat (first | (with_reducible exact Below.refl _ _) | (with_reducible assumption) | (with_reducible refine Below.alloc ?_ ?_ _) | (with_reducible refine Below.setCell ?_ ?_ _) | (with_reducible refine Below.drew ?_) | (with_reducible refine below_setRow ?_ ?_ _) | (refine Below.trans ?_ (Below.mono (by assumption) ?_)))); all_goals (first | omega | (simp; done) | (simp; omega)))⟩
  case round =>
    obtain ⟨k, s', done, hk, rfl, rfl, hs', HD, ho, hb⟩ := hrel
    have HO := Lib.hid ho; clear ho
    have hz := hb.size
    by_cases hlt : k < n
    · obtain ⟨x, hx, _⟩ := at_lt (xs := xs) (k := k) (by rw [HX.out]; exact hlt)
      have HE := Lib.hid hx
      obtain ⟨b, off, rfl, hlb, c0⟩ := Ints.at (h.below hb (Nat.le_refl _)) hx
      clear hx
      obtain ⟨c, hc⟩ : ∃ c, c = clampN s' x := ⟨_, rfl⟩
      have hcl : c ≤ s'.size := by rw [hc]; exact clampN_le s' x
      have hmm : max (min x (s'.size : Int)) 0 = (c : Int) := by rw [hc]; unfold clampN; omega
      have HC := Lib.hid hc; clear hc
      go_wp2_with fail
      go_region_law (first | (rw [if_pos (by rfl)]; (refine wp_append_own _ _ _ _ rfl w.heap.size 9 i0 (.string ⟨#[]⟩) 1 16 Try.underlying36 hi hz0 hz1 hz2 rfl (by decide) _ _ _ rfl (HO.out.drew.alloc _) ⟨wr.heap.size, 0, none⟩ 1 1 [.string (s'.extract 0 c)] rfl rfl (one_cell _ _ _) (by intro u hu; simp at hu; subst hu; rfl) (by unfold maxLen; omega) (by omega) (by simp; omega) ?_; intro v1 w1 hown1 hgrow1 hnn1; have hb1 : Below w.heap.size w w1 := Below.grown (by ((repeat (first | (with_reducible exact Below.refl _ _) | (with_reducible assumption) | (with_reducible refine Below.alloc ?_ ?_ _) | (with_reducible refine Below.setCell ?_ ?_ _) | (with_reducible refine Below.drew ?_) | (with_reducible refine below_setRow ?_ ?_ _) | (refine Below.trans ?_ (Below.mono (by assumption) ?_)))); all_goals (first | omega | (simp; done) | (simp; omega)))) hgrow1 (by simp; omega) (fun g hg => (HO.out.lt g hg).1); clear hgrow1 hnn1)))
      all_goals
        go_wp2
        go_roundw
        case rel => exact ⟨k + 1, s'.extract c s'.size, done ++ [s'.extract 0 c], by omega, by go_num, rfl, by rw [ByteArray.size_extract]; omega, Lib.hid (cut_step HE.out HC.out HD.out), by rw [sv_snoc]; exact hown1, by ((repeat (first | (with_reducible exact Below.refl _ _) | (with_reducible assumption) | (with_reducible refine Below.alloc ?_ ?_ _) | (with_reducible refine Below.setCell ?_ ?_ _) | (with_reducible refine Below.drew ?_) | (with_reducible refine below_setRow ?_ ?_ _) | (refine Below.trans ?_ (Below.mono (by assumption) ?_)))); all_goals (first | omega | (simp; done) | (simp; omega)))⟩
        case measure => simp [intOf]; omega
    · have hkn : k = n := by omega
      subst hkn
      have HDn := Lib.hid (show done ++ cutL s' [] = cutL s xs by have := HD.out.2; rwa [List.drop_of_length_le (by rw [HX.out]; exact Nat.le_refl _)] at this)
      by_cases hsz : s'.size = 0
      · have he := (isEmpty_bytes s').1 hsz
        have HF := Lib.hid (show done = cutL s xs by have := HDn.out; rw [cutL, if_pos hsz] at this; simpa using this)
        have HL := Lib.hid (show (cutL s xs).length = k by rw [← HF.out]; exact HD.out.1)
        have HO2 := Lib.hid (owned_shape HO.out)
        clear HO
        obtain ⟨a5, cap5, rfl, h5⟩ := HO2.out
        have hcap5 := own_cap h5
        have hcm5 := own_capm h5
        clear h5
        go_wp2_with (first | (go_at_call 72; refine (clip_any _ _ _ _ hcap5 hcm5).mono ?_; rintro r w6 ⟨rfl, rfl⟩))
        go_ret
        exact ⟨a5, k, by rw [svs_len, HL.out]; rfl, by rw [svs_len, HL.out, ← HF.out]; obtain ⟨a6, cap6, e6, h6⟩ := HO2.out; simp only [Value.slice.injEq, true_and] at e6; obtain ⟨rfl, rfl⟩ := e6; exact OwnR.of_owns h6, hb, by rw [svs_len, HL.out]; exact Nat.le_refl _⟩
      · have he := (isEmpty_bytes s').2 hsz
        have HF := Lib.hid (show done ++ [s'] = cutL s xs by have := HDn.out; rw [cutL, if_neg hsz] at this; exact this)
        have HL := Lib.hid (show (cutL s xs).length = k + 1 by rw [← HF.out, List.length_append, HD.out.1]; rfl)
        go_wp2_with (first | (go_at_call 72; fail) | (at_builtin; refine wpList_append_own _ rfl _ _ 36 rfl w.heap.size 9 i0 (.string ⟨#[]⟩) 1 16 Try.underlying36 hi hz0 hz1 hz2 rfl (by decide) _ _ _ rfl (HO.out.alloc _) ⟨wr.heap.size, 0, none⟩ 1 1 [.string s'] rfl rfl (one_cell _ _ _) (by intro u hu; simp at hu; subst hu; rfl) (by unfold maxLen; omega) (by omega) (by simp; omega) ?_; intro v1 w1 hown1 hgrow1 hnn1; have hb1 : Below w.heap.size w w1 := Below.grown (by ((repeat (first | (with_reducible exact Below.refl _ _) | (with_reducible assumption) | (with_reducible refine Below.alloc ?_ ?_ _) | (with_reducible refine Below.setCell ?_ ?_ _) | (with_reducible refine Below.drew ?_) | (with_reducible refine below_setRow ?_ ?_ _) | (refine Below.trans ?_ (Below.mono (by assumption) ?_)))); all_goals (first | omega | (simp; done) | (simp; omega)))) hgrow1 (by simp; omega) (fun g hg => (HO.out.lt g hg).1); clear hgrow1 hnn1))
        have HO3 := Lib.hid (owned_shape hown1)
        clear hown1
        obtain ⟨a5, cap5, rfl, h5⟩ := HO3.out
        have hcap5 := own_cap h5
        have hcm5 := own_capm h5
        clear h5
        go_wp2_with (first | (go_at_call 72; refine (clip_any _ _ _ _ hcap5 hcm5).mono ?_; rintro r w6 ⟨rfl, rfl⟩))
        go_ret
        exact ⟨a5, k + 1, by rw [svs_len, HL.out]; rfl, by rw [svs_len, HL.out, ← HF.out, sv_snoc]; obtain ⟨a6, cap6, e6, h6⟩ := HO3.out; simp only [Value.slice.injEq, true_and] at e6; obtain ⟨rfl, rfl⟩ := e6; exact OwnR.of_owns h6, hb1, by rw [svs_len, HL.out]; exact Nat.le_refl _⟩
end Go.Proofs.Ytkmenljbajlneaa
