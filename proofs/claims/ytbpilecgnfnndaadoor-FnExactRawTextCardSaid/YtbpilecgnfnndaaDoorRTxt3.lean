/- Texts that RawTextL leans on, part 3. (Put together by wip/tools/bundle.py.) -/
import Derived.Test.YtbpilecgnfnndaaDoorRTxt1
import Derived.Test.YtbpilecgnfnndaaDoorRTxt2
namespace Go.Proofs.YtbpilecgnfnndaaDoor
set_option linter.unusedSimpArgs false
set_option linter.unusedVariables false
open Go.ChangeShapes Go.WideShapes Go.ChangeAt Go.RowKit Go.BigFrame
def fdAt (n : Int) : Nat → List Fld → Int
  | _, [] => -1
  | k, f :: fs => if f.number = n then k else fdAt n (k + 1) fs
theorem fdAt_yes {n : Int} {k : Nat} {xs : List Fld} {e : Fld} {R : Int} (h : fdAt n k (xs.drop k) = R) (he : xs[k]? = some e) (hi : e.number = n) : (k : Int) = R := by
  rw [drop_cons he, fdAt, if_pos hi] at h; exact h
theorem fdAt_no {n : Int} {k : Nat} {xs : List Fld} {e : Fld} {R : Int} (h : fdAt n k (xs.drop k) = R) (he : xs[k]? = some e) (hi : ¬ e.number = n) : fdAt n (k + 1) (xs.drop (k + 1)) = R := by
  rw [drop_cons he, fdAt, if_neg hi] at h; exact h
theorem fdAt_end {n : Int} {k : Nat} {xs : List Fld} {R : Int} (h : fdAt n k (xs.drop k) = R) (hk : xs.length ≤ k) : (-1 : Int) = R := by
  rw [List.drop_of_length_le hk] at h; exact h
theorem fdAt_has (n : Int) : ∀ (k : Nat) (xs : List Fld), decide ((0 : Int) ≤ fdAt n k xs) = hasNum xs n
  | k, [] => by simp [fdAt, hasNum]
  | k, f :: fs => by
    by_cases h : f.number = n
    · simp [fdAt, hasNum, h]
    · have := fdAt_has n (k + 1) fs
      simp only [hasNum] at this
      rw [fdAt, if_neg h, this]
      simp [hasNum, h]
theorem shAt_has (i : Int) : ∀ (k : Nat) (xs : List Shp), decide ((0 : Int) ≤ shAt i k xs) = hasId xs i
  | k, [] => by simp [shAt, hasId]
  | k, x :: xs => by
    by_cases h : x.id = i
    · simp [shAt, hasId, h]
    · have := shAt_has i (k + 1) xs
      simp only [hasId] at this
      rw [shAt, if_neg h, this]
      simp [hasId, h]
theorem shs_take {w : World} {a : Option Addr} {xs : List Shp} (h : Shs w a xs) (k : Nat) : Shs w a (xs.take k) := fun j x hx => h j x (by
  rw [List.getElem?_take] at hx
  split at hx
  · exact hx
  · simp at hx)
theorem pred_MsgCode (x : Int) (a : Option Addr) (m cap : Nat) (id : Int) (B : Nat) (w : World) (hB : B < w.heap.size) (hc : w.cell? ⟨B, 0, none⟩ = some (.int .i64 id)) :
    Calls Tryd.prog 85 #[.agg #[.int .i64 x, .slice a m cap], .pointer (some ⟨B, 0, none⟩)] w fun r w' => r = .returned (.bool (x == id)) ∧ Below w.heap.size w w' := by
  go_enter Tryd.func85, Tryd.ntmps85
  go_wp2
  go_ret
  exact ⟨rfl, by ((repeat (first | (with_reducible exact Below.refl _ _) | (with_reducible assumption) | (with_reducible refine Below.alloc ?_ ?_ _) | (with_reducible refine Below.setCell ?_ ?_ _) | (with_reducible refine Below.drew ?_) | (with_reducible refine below_setRow ?_ ?_ _) | (refine Below.trans ?_ (Below.mono (by assumption) ?_)))); all_goals (first | omega | (simp; done) | (simp; omega)))⟩
set_option maxHeartbeats 2000000 in
theorem index_MsgCode (a : Option Addr) (cap n : Nat) (xs : List Shp) (id : Int) (B : Nat) (w : World) (h : Shs w a xs) (hx : xs.length = n) (hn : n ≤ 1048576) (hB : B < w.heap.size) (hc : w.cell? ⟨B, 0, none⟩ = some (.int .i64 id)) :
    Calls Tryd.prog 106 #[.slice a n cap, .func (.func 85) #[] #[.pointer (some ⟨B, 0, none⟩)]] w fun r w' => r = .returned (.int .i64 (shAt id 0 xs)) ∧ Below w.heap.size w w' := by
  have HX := Lib.hid hx; clear hx
  obtain ⟨R, hR⟩ : ∃ R, shAt id 0 xs = R := ⟨_, rfl⟩
  rw [hR]
  have HR := Lib.hid hR; clear hR
  have HC := Lib.hid hc; clear hc
  go_enter Tryd.func106, Tryd.ntmps106
  go_wp2
  go_loopw [4, 8] (fun t i wr => ∃ k : Nat, k ≤ n ∧ i = .int .i64 k ∧ Hid (shAt id k (xs.drop k) = R) ∧ Below w.heap.size w wr) (fun _ i _ => n - (intOf i).toNat)
  case atStart => exact ⟨0, Nat.zero_le _, rfl, HR, Below.refl _ _⟩
  case round =>
    obtain ⟨k, hk, rfl, HV, hb⟩ := hrel
    have hz := hb.size
    have HC1 := Lib.hid ((hb.cell (p := ⟨B, 0, none⟩) hB).trans HC.out)
    by_cases hlt : k < n
    · obtain ⟨e, he, _⟩ := at_lt (xs := xs) (k := k) (by rw [HX.out]; exact hlt)
      have HE := Lib.hid he
      obtain ⟨b, off, a1, cap1, rfl, hlb, c0, c1, -⟩ := h.below hb (Nat.le_refl _) k e he
      clear he
      by_cases hi : e.id = id
      · have H := Lib.hid (shAt_yes HV.out HE.out hi)
        have hi' : (e.id == id) = true := by simp [hi]
        clear hi
        go_wp2_with (first | (go_at_call 85; refine (pred_MsgCode _ _ _ _ id B _ (by omega) HC1.out).mono ?_; rintro r w2 ⟨rfl, hb2⟩; obtain ⟨hc2, hf2⟩ := bcell hb2; have hz2 := hb2.size; (try simp only [World.size_alloc, World.size_setCell, World.size_drew] at hz2)))
        go_ret
        exact ⟨ret_int H.out, by ((repeat (first | (with_reducible exact Below.refl _ _) | (with_reducible assumption) | (with_reducible refine Below.alloc ?_ ?_ _) | (with_reducible refine Below.setCell ?_ ?_ _) | (with_reducible refine Below.drew ?_) | (with_reducible refine below_setRow ?_ ?_ _) | (refine Below.trans ?_ (Below.mono (by assumption) ?_)))); all_goals (first | omega | (simp; done) | (simp; omega)))⟩
      · have hi' : (e.id == id) = false := by simp [hi]
        have H := Lib.hid (shAt_no HV.out HE.out hi)
        clear hi
        go_wp2_with (first | (go_at_call 85; refine (pred_MsgCode _ _ _ _ id B _ (by omega) HC1.out).mono ?_; rintro r w2 ⟨rfl, hb2⟩; obtain ⟨hc2, hf2⟩ := bcell hb2; have hz2 := hb2.size; (try simp only [World.size_alloc, World.size_setCell, World.size_drew] at hz2)))
        go_roundw
        case rel => exact ⟨k + 1, by omega, by go_num, H, by ((repeat (first | (with_reducible exact Below.refl _ _) | (with_reducible assumption) | (with_reducible refine Below.alloc ?_ ?_ _) | (with_reducible refine Below.setCell ?_ ?_ _) | (with_reducible refine Below.drew ?_) | (with_reducible refine below_setRow ?_ ?_ _) | (refine Below.trans ?_ (Below.mono (by assumption) ?_)))); all_goals (first | omega | (simp; done) | (simp; omega)))⟩
        case measure => simp [intOf]; omega
    · have H := Lib.hid (shAt_end HV.out (by rw [HX.out]; omega))
      go_wp2
      go_ret
      exact ⟨ret_int H.out, hb⟩
theorem hasM_MsgCode (a : Option Addr) (cap n : Nat) (xs : List Shp) (id : Int) (B : Nat) (w : World) (h : Shs w a xs) (hx : xs.length = n) (hn : n ≤ 1048576) (hB : B < w.heap.size) (hc : w.cell? ⟨B, 0, none⟩ = some (.int .i64 id)) :
    Calls Tryd.prog 84 #[.slice a n cap, .func (.func 85) #[] #[.pointer (some ⟨B, 0, none⟩)]] w fun r w' => r = .returned (.bool (hasId xs id)) ∧ Below w.heap.size w w' := by
  rw [← shAt_has id 0 xs]
  go_enter Tryd.func84, Tryd.ntmps84
  go_wp2_with (first | (go_at_call 106; refine (index_MsgCode _ _ _ xs id B _ h hx hn hB hc).mono ?_; rintro r w1 ⟨rfl, hb1⟩; obtain ⟨hc1, hf1⟩ := bcell hb1; have hz1 := hb1.size; (try simp only [World.size_alloc, World.size_setCell, World.size_drew] at hz1)))
  go_ret
  exact ⟨rfl, by ((repeat (first | (with_reducible exact Below.refl _ _) | (with_reducible assumption) | (with_reducible refine Below.alloc ?_ ?_ _) | (with_reducible refine Below.setCell ?_ ?_ _) | (with_reducible refine Below.drew ?_) | (with_reducible refine below_setRow ?_ ?_ _) | (refine Below.trans ?_ (Below.mono (by assumption) ?_)))); all_goals (first | omega | (simp; done) | (simp; omega)))⟩
theorem pred_hasMsg (x : Int) (a : Option Addr) (m cap : Nat) (id : Int) (B : Nat) (w : World) (hB : B < w.heap.size) (hc : w.cell? ⟨B, 0, none⟩ = some (.int .i64 id)) :
    Calls Tryd.prog 108 #[.agg #[.int .i64 x, .slice a m cap], .pointer (some ⟨B, 0, none⟩)] w fun r w' => r = .returned (.bool (x == id)) ∧ Below w.heap.size w w' := by
  go_enter Tryd.func108, Tryd.ntmps108
  go_wp2
  go_ret
  exact ⟨rfl, by ((repeat (first | (with_reducible exact Below.refl _ _) | (with_reducible assumption) | (with_reducible refine Below.alloc ?_ ?_ _) | (with_reducible refine Below.setCell ?_ ?_ _) | (with_reducible refine Below.drew ?_) | (with_reducible refine below_setRow ?_ ?_ _) | (refine Below.trans ?_ (Below.mono (by assumption) ?_)))); all_goals (first | omega | (simp; done) | (simp; omega)))⟩
set_option maxHeartbeats 2000000 in
theorem index_hasMsg (a : Option Addr) (cap n : Nat) (xs : List Shp) (id : Int) (B : Nat) (w : World) (h : Shs w a xs) (hx : xs.length = n) (hn : n ≤ 1048576) (hB : B < w.heap.size) (hc : w.cell? ⟨B, 0, none⟩ = some (.int .i64 id)) :
    Calls Tryd.prog 106 #[.slice a n cap, .func (.func 108) #[] #[.pointer (some ⟨B, 0, none⟩)]] w fun r w' => r = .returned (.int .i64 (shAt id 0 xs)) ∧ Below w.heap.size w w' := by
  have HX := Lib.hid hx; clear hx
  obtain ⟨R, hR⟩ : ∃ R, shAt id 0 xs = R := ⟨_, rfl⟩
  rw [hR]
  have HR := Lib.hid hR; clear hR
  have HC := Lib.hid hc; clear hc
  go_enter Tryd.func106, Tryd.ntmps106
  go_wp2
  go_loopw [4, 8] (fun t i wr => ∃ k : Nat, k ≤ n ∧ i = .int .i64 k ∧ Hid (shAt id k (xs.drop k) = R) ∧ Below w.heap.size w wr) (fun _ i _ => n - (intOf i).toNat)
  case atStart => exact ⟨0, Nat.zero_le _, rfl, HR, Below.refl _ _⟩
  case round =>
    obtain ⟨k, hk, rfl, HV, hb⟩ := hrel
    have hz := hb.size
    have HC1 := Lib.hid ((hb.cell (p := ⟨B, 0, none⟩) hB).trans HC.out)
    by_cases hlt : k < n
    · obtain ⟨e, he, _⟩ := at_lt (xs := xs) (k := k) (by rw [HX.out]; exact hlt)
      have HE := Lib.hid he
      obtain ⟨b, off, a1, cap1, rfl, hlb, c0, c1, -⟩ := h.below hb (Nat.le_refl _) k e he
      clear he
      by_cases hi : e.id = id
      · have H := Lib.hid (shAt_yes HV.out HE.out hi)
        have hi' : (e.id == id) = true := by simp [hi]
        clear hi
        go_wp2_with (first | (go_at_call 108; refine (pred_hasMsg _ _ _ _ id B _ (by omega) HC1.out).mono ?_; rintro r w2 ⟨rfl, hb2⟩; obtain ⟨hc2, hf2⟩ := bcell hb2; have hz2 := hb2.size; (try simp only [World.size_alloc, World.size_setCell, World.size_drew] at hz2)))
        go_ret
        exact ⟨ret_int H.out, by ((repeat (first | (with_reducible exact Below.refl _ _) | (with_reducible assumption) | (with_reducible refine Below.alloc ?_ ?_ _) | (with_reducible refine Below.setCell ?_ ?_ _) | (with_reducible refine Below.drew ?_) | (with_reducible refine below_setRow ?_ ?_ _) | (refine Below.trans ?_ (Below.mono (by assumption) ?_)))); all_goals (first | omega | (simp; done) | (simp; omega)))⟩
      · have hi' : (e.id == id) = false := by simp [hi]
        have H := Lib.hid (shAt_no HV.out HE.out hi)
        clear hi
        go_wp2_with (first | (go_at_call 108; refine (pred_hasMsg _ _ _ _ id B _ (by omega) HC1.out).mono ?_; rintro r w2 ⟨rfl, hb2⟩; obtain ⟨hc2, hf2⟩ := bcell hb2; have hz2 := hb2.size; (try simp only [World.size_alloc, World.size_setCell, World.size_drew] at hz2)))
        go_roundw
        case rel => exact ⟨k + 1, by omega, by go_num, H, by ((repeat (first | (with_reducible exact Below.refl _ _) | (with_reducible assumption) | (with_reducible refine Below.alloc ?_ ?_ _) | (with_reducible refine Below.setCell ?_ ?_ _) | (with_reducible refine Below.drew ?_) | (with_reducible refine below_setRow ?_ ?_ _) | (refine Below.trans ?_ (Below.mono (by assumption) ?_)))); all_goals (first | omega | (simp; done) | (simp; omega)))⟩
        case measure => simp [intOf]; omega
    · have H := Lib.hid (shAt_end HV.out (by rw [HX.out]; omega))
      go_wp2
      go_ret
      exact ⟨ret_int H.out, hb⟩
theorem hasM_hasMsg (a : Option Addr) (cap n : Nat) (xs : List Shp) (id : Int) (B : Nat) (w : World) (h : Shs w a xs) (hx : xs.length = n) (hn : n ≤ 1048576) (hB : B < w.heap.size) (hc : w.cell? ⟨B, 0, none⟩ = some (.int .i64 id)) :
    Calls Tryd.prog 84 #[.slice a n cap, .func (.func 108) #[] #[.pointer (some ⟨B, 0, none⟩)]] w fun r w' => r = .returned (.bool (hasId xs id)) ∧ Below w.heap.size w w' := by
  rw [← shAt_has id 0 xs]
  go_enter Tryd.func84, Tryd.ntmps84
  go_wp2_with (first | (go_at_call 106; refine (index_hasMsg _ _ _ xs id B _ h hx hn hB hc).mono ?_; rintro r w1 ⟨rfl, hb1⟩; obtain ⟨hc1, hf1⟩ := bcell hb1; have hz1 := hb1.size; (try simp only [World.size_alloc, World.size_setCell, World.size_drew] at hz1)))
  go_ret
  exact ⟨rfl, by ((repeat (first | (with_reducible exact Below.refl _ _) | (with_reducible assumption) | (with_reducible refine Below.alloc ?_ ?_ _) | (with_reducible refine Below.setCell ?_ ?_ _) | (with_reducible refine Below.drew ?_) | (with_reducible refine below_setRow ?_ ?_ _) | (refine Below.trans ?_ (Below.mono (by assumption) ?_)))); all_goals (first | omega | (simp; done) | (simp; omega)))⟩
theorem pred_FieldCode (e : Fld) (id : Int) (B : Nat) (w : World) (hB : B < w.heap.size) (hc : w.cell? ⟨B, 0, none⟩ = some (.int .i64 id)) :
    Calls Tryd.prog 88 #[e.val, .pointer (some ⟨B, 0, none⟩)] w fun r w' => r = .returned (.bool (e.number == id)) ∧ Below w.heap.size w w' := by
  go_enter Tryd.func88, Tryd.ntmps88
  go_wp2
  go_ret
  exact ⟨rfl, by ((repeat (first | (with_reducible exact Below.refl _ _) | (with_reducible assumption) | (with_reducible refine Below.alloc ?_ ?_ _) | (with_reducible refine Below.setCell ?_ ?_ _) | (with_reducible refine Below.drew ?_) | (with_reducible refine below_setRow ?_ ?_ _) | (refine Below.trans ?_ (Below.mono (by assumption) ?_)))); all_goals (first | omega | (simp; done) | (simp; omega)))⟩
set_option maxHeartbeats 2000000 in
theorem index_FieldCode (a : Option Addr) (cap n : Nat) (xs : List Fld) (id : Int) (B : Nat) (w : World) (h : Flds w a xs) (hx : xs.length = n) (hn : n ≤ 1048576) (hB : B < w.heap.size) (hc : w.cell? ⟨B, 0, none⟩ = some (.int .i64 id)) :
    Calls Tryd.prog 107 #[.slice a n cap, .func (.func 88) #[] #[.pointer (some ⟨B, 0, none⟩)]] w fun r w' => r = .returned (.int .i64 (fdAt id 0 xs)) ∧ Below w.heap.size w w' := by
  have HX := Lib.hid hx; clear hx
  obtain ⟨R, hR⟩ : ∃ R, fdAt id 0 xs = R := ⟨_, rfl⟩
  rw [hR]
  have HR := Lib.hid hR; clear hR
  have HC := Lib.hid hc; clear hc
  go_enter Tryd.func107, Tryd.ntmps107
  go_wp2
  go_loopw [4, 8] (fun t i wr => ∃ k : Nat, k ≤ n ∧ i = .int .i64 k ∧ Hid (fdAt id k (xs.drop k) = R) ∧ Below w.heap.size w wr) (fun _ i _ => n - (intOf i).toNat)
  case atStart => exact ⟨0, Nat.zero_le _, rfl, HR, Below.refl _ _⟩
  case round =>
    obtain ⟨k, hk, rfl, HV, hb⟩ := hrel
    have hz := hb.size
    have HC1 := Lib.hid ((hb.cell (p := ⟨B, 0, none⟩) hB).trans HC.out)
    by_cases hlt : k < n
    · obtain ⟨e, he, _⟩ := at_lt (xs := xs) (k := k) (by rw [HX.out]; exact hlt)
      have HE := Lib.hid he
      obtain ⟨b, off, rfl, hlb, c0, c1, c2, c3, c4⟩ := Flds.at (Sl.keep h hb) he
      clear he
      by_cases hi : e.number = id
      · have H := Lib.hid (fdAt_yes HV.out HE.out hi)
        have hi' : (e.number == id) = true := by simp [hi]
        clear hi
        go_wp2_with (first | (go_at_call 88; refine (pred_FieldCode ⟨e.number, e.kind, e.rep, e.packed, e.msg⟩ id B _ (by omega) HC1.out).mono ?_; rintro r w2 ⟨rfl, hb2⟩; obtain ⟨hc2, hf2⟩ := bcell hb2; have hz2 := hb2.size; (try simp only [World.size_alloc, World.size_setCell, World.size_drew] at hz2)))
        go_ret
        exact ⟨ret_int H.out, by ((repeat (first | (with_reducible exact Below.refl _ _) | (with_reducible assumption) | (with_reducible refine Below.alloc ?_ ?_ _) | (with_reducible refine Below.setCell ?_ ?_ _) | (with_reducible refine Below.drew ?_) | (with_reducible refine below_setRow ?_ ?_ _) | (refine Below.trans ?_ (Below.mono (by assumption) ?_)))); all_goals (first | omega | (simp; done) | (simp; omega)))⟩
      · have hi' : (e.number == id) = false := by simp [hi]
        have H := Lib.hid (fdAt_no HV.out HE.out hi)
        clear hi
        go_wp2_with (first | (go_at_call 88; refine (pred_FieldCode ⟨e.number, e.kind, e.rep, e.packed, e.msg⟩ id B _ (by omega) HC1.out).mono ?_; rintro r w2 ⟨rfl, hb2⟩; obtain ⟨hc2, hf2⟩ := bcell hb2; have hz2 := hb2.size; (try simp only [World.size_alloc, World.size_setCell, World.size_drew] at hz2)))
        go_roundw
        case rel => exact ⟨k + 1, by omega, by go_num, H, by ((repeat (first | (with_reducible exact Below.refl _ _) | (with_reducible assumption) | (with_reducible refine Below.alloc ?_ ?_ _) | (with_reducible refine Below.setCell ?_ ?_ _) | (with_reducible refine Below.drew ?_) | (with_reducible refine below_setRow ?_ ?_ _) | (refine Below.trans ?_ (Below.mono (by assumption) ?_)))); all_goals (first | omega | (simp; done) | (simp; omega)))⟩
        case measure => simp [intOf]; omega
    · have H := Lib.hid (fdAt_end HV.out (by rw [HX.out]; omega))
      go_wp2
      go_ret
      exact ⟨ret_int H.out, hb⟩
theorem hasF_FieldCode (a : Option Addr) (cap n : Nat) (xs : List Fld) (id : Int) (B : Nat) (w : World) (h : Flds w a xs) (hx : xs.length = n) (hn : n ≤ 1048576) (hB : B < w.heap.size) (hc : w.cell? ⟨B, 0, none⟩ = some (.int .i64 id)) :
    Calls Tryd.prog 87 #[.slice a n cap, .func (.func 88) #[] #[.pointer (some ⟨B, 0, none⟩)]] w fun r w' => r = .returned (.bool (hasNum xs id)) ∧ Below w.heap.size w w' := by
  rw [← fdAt_has id 0 xs]
  go_enter Tryd.func87, Tryd.ntmps87
  go_wp2_with (first | (go_at_call 107; refine (index_FieldCode _ _ _ xs id B _ h hx hn hB hc).mono ?_; rintro r w1 ⟨rfl, hb1⟩; obtain ⟨hc1, hf1⟩ := bcell hb1; have hz1 := hb1.size; (try simp only [World.size_alloc, World.size_setCell, World.size_drew] at hz1)))
  go_ret
  exact ⟨rfl, by ((repeat (first | (with_reducible exact Below.refl _ _) | (with_reducible assumption) | (with_reducible refine Below.alloc ?_ ?_ _) | (with_reducible refine Below.setCell ?_ ?_ _) | (with_reducible refine Below.drew ?_) | (with_reducible refine below_setRow ?_ ?_ _) | (refine Below.trans ?_ (Below.mono (by assumption) ?_)))); all_goals (first | omega | (simp; done) | (simp; omega)))⟩
set_option maxHeartbeats 4000000 in
theorem implMsgCode_any (a : Option Addr) (cap n i : Nat) (xs : List Shp) (x : Shp) (w : World) (h : ShsL w a xs) (hl : xs.length = n) (hn : n ≤ 1048576) (hcap : n ≤ cap) (hx : xs[i]? = some x) (hi : i < n) (hf : x.flds.length ≤ 1048576) :
    Calls Tryd.prog 63 #[.agg #[.slice a n cap], .int .i64 i] w fun r w' => r = .returned (.int .i64 (msgC xs i x)) ∧ Below w.heap.size w w' := by
  have HL := Lib.hid hl; clear hl
  obtain ⟨R, hR⟩ : ∃ R, msgC xs i x = R := ⟨_, rfl⟩
  rw [hR]
  have HR := Lib.hid hR; clear hR
  obtain ⟨b, off, a', cap', rfl, hbl, c0, c1, -, -⟩ := h i x hx
  have HX := Lib.hid hx; clear hx
  have hb1 : inB (i : Int) 0 ((n : Int) - 1) = true := by simp only [inB, decide_eq_true_eq]; omega
  have hii : (i : Int) < (n : Int) := by omega
  have hi0 : (0 : Int) ≤ (i : Int) := by omega
  have hic : (i : Int) ≤ (cap : Int) := by omega
  have HTl := Lib.hid (show (xs.take i).length = i by rw [List.length_take, HL.out]; omega)
  have HH := Lib.hid (shs_take h.shs i); clear h
  go_enter Tryd.func63, Tryd.ntmps63
  cases h1 : inB x.id 1 99
  · have HB := Lib.hid (show (2 : Int) = R by rw [← HR.out, msgC, if_pos h1])
    go_wp2_with (first | (go_at_call 25; refine (within_any _ _ _ _).mono ?_; rintro r w1 ⟨rfl, rfl⟩))
    go_ret
    exact ⟨ret_int HB.out, by ((repeat (first | (with_reducible exact Below.refl _ _) | (with_reducible assumption) | (with_reducible refine Below.alloc ?_ ?_ _) | (with_reducible refine Below.setCell ?_ ?_ _) | (with_reducible refine Below.drew ?_) | (with_reducible refine below_setRow ?_ ?_ _) | (refine Below.trans ?_ (Below.mono (by assumption) ?_)))); all_goals (first | omega | (simp; done) | (simp; omega)))⟩
  · go_wp2_with (first | (go_at_call 25; refine (within_any _ _ _ _).mono ?_; rintro r w1 ⟨rfl, rfl⟩))
    refine (hasM_MsgCode (some ⟨b, off, none⟩) cap i (xs.take i) x.id _ _ (HH.out.keep (by ((repeat (first | (with_reducible exact Below.refl _ _) | (with_reducible assumption) | (with_reducible refine Below.alloc ?_ ?_ _) | (with_reducible refine Below.setCell ?_ ?_ _) | (with_reducible refine Below.drew ?_) | (with_reducible refine below_setRow ?_ ?_ _) | (refine Below.trans ?_ (Below.mono (by assumption) ?_)))); all_goals (first | omega | (simp; done) | (simp; omega))))) HTl.out (by omega) (by simp) (by simp [go_sem])).mono ?_
    rintro r w2 ⟨rfl, hb2⟩
    have hM := (hb2.block (w.heap.size + 1) (by simp)).trans (hset_new (o := .cells #[.int .i64 x.id, .slice a' x.flds.length cap'] 56) (by simp))
    have kM := box_cells hM
    have hbw : Below w.heap.size w w2 := by ((repeat (first | (with_reducible exact Below.refl _ _) | (with_reducible assumption) | (with_reducible refine Below.alloc ?_ ?_ _) | (with_reducible refine Below.setCell ?_ ?_ _) | (with_reducible refine Below.drew ?_) | (with_reducible refine below_setRow ?_ ?_ _) | (refine Below.trans ?_ (Below.mono (by assumption) ?_)))); all_goals (first | omega | (simp; done) | (simp; omega)))
    clear hb2 hM
    cases h2 : hasId (xs.take i) x.id
    · by_cases h8 : 8 < x.flds.length
      · have HB := Lib.hid (show (4 : Int) = R by rw [← HR.out, msgC, if_neg (by rw [h1]; simp), if_neg (by rw [h2]; simp), if_pos h8])
        have h8' : (8 : Int) < (x.flds.length : Int) := by omega
        go_wp2
        go_ret
        exact ⟨ret_int HB.out, by ((repeat (first | (with_reducible exact Below.refl _ _) | (with_reducible assumption) | (with_reducible refine Below.alloc ?_ ?_ _) | (with_reducible refine Below.setCell ?_ ?_ _) | (with_reducible refine Below.drew ?_) | (with_reducible refine below_setRow ?_ ?_ _) | (refine Below.trans ?_ (Below.mono (by assumption) ?_)))); all_goals (first | omega | (simp; done) | (simp; omega)))⟩
      · have HB := Lib.hid (show (0 : Int) = R by rw [← HR.out, msgC, if_neg (by rw [h1]; simp), if_neg (by rw [h2]; simp), if_neg h8])
        have h8' : decide ((8 : Int) < (x.flds.length : Int)) = false := decide_eq_false (by omega)
        go_wp2
        go_ret
        exact ⟨ret_int HB.out, by ((repeat (first | (with_reducible exact Below.refl _ _) | (with_reducible assumption) | (with_reducible refine Below.alloc ?_ ?_ _) | (with_reducible refine Below.setCell ?_ ?_ _) | (with_reducible refine Below.drew ?_) | (with_reducible refine below_setRow ?_ ?_ _) | (refine Below.trans ?_ (Below.mono (by assumption) ?_)))); all_goals (first | omega | (simp; done) | (simp; omega)))⟩
    · have HB := Lib.hid (show (3 : Int) = R by rw [← HR.out, msgC, if_neg (by rw [h1]; simp), if_pos h2])
      go_wp2
      go_ret
      exact ⟨ret_int HB.out, by ((repeat (first | (with_reducible exact Below.refl _ _) | (with_reducible assumption) | (with_reducible refine Below.alloc ?_ ?_ _) | (with_reducible refine Below.setCell ?_ ?_ _) | (with_reducible refine Below.drew ?_) | (with_reducible refine below_setRow ?_ ?_ _) | (refine Below.trans ?_ (Below.mono (by assumption) ?_)))); all_goals (first | omega | (simp; done) | (simp; omega)))⟩
theorem implHasMsg_any (a : Option Addr) (cap n : Nat) (xs : List Shp) (id : Int) (w : World) (h : Shs w a xs) (hx : xs.length = n) (hn : n ≤ 1048576) :
    Calls Tryd.prog 90 #[.agg #[.slice a n cap], .int .i64 id] w fun r w' => r = .returned (.bool (hasId xs id)) ∧ Below w.heap.size w w' := by
  have HX := Lib.hid hx; clear hx
  have HS := Lib.hid h; clear h
  go_enter Tryd.func90, Tryd.ntmps90
  go_wp2_with (first | (go_at_call 84; refine (hasM_hasMsg _ _ _ xs id _ _ (HS.out.keep (by ((repeat (first | (with_reducible exact Below.refl _ _) | (with_reducible assumption) | (with_reducible refine Below.alloc ?_ ?_ _) | (with_reducible refine Below.setCell ?_ ?_ _) | (with_reducible refine Below.drew ?_) | (with_reducible refine below_setRow ?_ ?_ _) | (refine Below.trans ?_ (Below.mono (by assumption) ?_)))); all_goals (first | omega | (simp; done) | (simp; omega))))) HX.out hn (by simp) (by simp [go_sem])).mono ?_; rintro r w1 ⟨rfl, hb1⟩; obtain ⟨hc1, hf1⟩ := bcell hb1; have hz1 := hb1.size; (try simp only [World.size_alloc, World.size_setCell, World.size_drew] at hz1)))
  go_ret
  exact ⟨rfl, by ((repeat (first | (with_reducible exact Below.refl _ _) | (with_reducible assumption) | (with_reducible refine Below.alloc ?_ ?_ _) | (with_reducible refine Below.setCell ?_ ?_ _) | (with_reducible refine Below.drew ?_) | (with_reducible refine below_setRow ?_ ?_ _) | (refine Below.trans ?_ (Below.mono (by assumption) ?_)))); all_goals (first | omega | (simp; done) | (simp; omega)))⟩
set_option maxRecDepth 100000 in
set_option maxHeartbeats 4000000 in
theorem implFieldCode_any (a : Option Addr) (cap n i k : Nat) (xs : List Shp) (x : Shp) (f : Fld) (w : World) (h : ShsL w a xs) (hl : xs.length = n) (hn : n ≤ 1048576) (hx : xs[i]? = some x) (hi : i < n) (hfl : x.flds.length ≤ 1048576) (hf : x.flds[k]? = some f) (hk : k < x.flds.length) :
    Calls Tryd.prog 64 #[.agg #[.slice a n cap], .int .i64 i, .int .i64 k] w fun r w' => r = .returned (.int .i64 (fldC xs x.flds k f)) ∧ Below w.heap.size w w' := by
  have HL := Lib.hid hl; clear hl
  obtain ⟨R, hR⟩ : ∃ R, fldC xs x.flds k f = R := ⟨_, rfl⟩
  rw [hR]
  have HR := Lib.hid hR; clear hR
  obtain ⟨b, off, a', cap', rfl, hbl, c0, c1, hfs, hcp⟩ := h i x hx
  obtain ⟨b2, off2, rfl, hbl2, d0, d1, d2, d3, d4⟩ := Flds.at hfs hf
  have HX := Lib.hid hx; clear hx
  have HF := Lib.hid hf; clear hf
  have HFS := Lib.hid hfs; clear hfs
  have hb1 : inB (i : Int) 0 ((n : Int) - 1) = true := by simp only [inB, decide_eq_true_eq]; omega
  have hb2' : inB (k : Int) 0 ((x.flds.length : Int) - 1) = true := by simp only [inB, decide_eq_true_eq]; omega
  have hii : (i : Int) < (n : Int) := by omega
  have hki : (k : Int) < (x.flds.length : Int) := by omega
  have hkc : (k : Int) ≤ (cap' : Int) := by omega
  have hk0 : (0 : Int) ≤ (k : Int) := by omega
  have HH := Lib.hid h.shs; clear h
  go_enter Tryd.func64, Tryd.ntmps64
  cases h1 : numOk f.number
  · have HB := Lib.hid (show (5 : Int) = R by rw [← HR.out, fldC, if_pos h1])
    go_wp2_with (first | (go_at_call 25; refine (within_any _ _ _ _).mono ?_; rintro r w1 ⟨rfl, rfl⟩) | (go_at_call 86; refine (implNumberOk_any _ _).mono ?_; rintro r w1 ⟨rfl, rfl⟩))
    go_ret
    exact ⟨ret_int HB.out, by ((repeat (first | (with_reducible exact Below.refl _ _) | (with_reducible assumption) | (with_reducible refine Below.alloc ?_ ?_ _) | (with_reducible refine Below.setCell ?_ ?_ _) | (with_reducible refine Below.drew ?_) | (with_reducible refine below_setRow ?_ ?_ _) | (refine Below.trans ?_ (Below.mono (by assumption) ?_)))); all_goals (first | omega | (simp; done) | (simp; omega)))⟩
  · go_wp2_with (first | (go_at_call 25; refine (within_any _ _ _ _).mono ?_; rintro r w1 ⟨rfl, rfl⟩) | (go_at_call 86; refine (implNumberOk_any _ _).mono ?_; rintro r w1 ⟨rfl, rfl⟩))
    have HKl := Lib.hid (show (x.flds.take k).length = k by rw [List.length_take]; omega)
    refine (hasF_FieldCode (some ⟨b2, off2, none⟩) cap' k (x.flds.take k) f.number _ _ (Sl.keep (flds_take HFS.out k) (by ((repeat (first | (with_reducible exact Below.refl _ _) | (with_reducible assumption) | (with_reducible refine Below.alloc ?_ ?_ _) | (with_reducible refine Below.setCell ?_ ?_ _) | (with_reducible refine Below.drew ?_) | (with_reducible refine below_setRow ?_ ?_ _) | (refine Below.trans ?_ (Below.mono (by assumption) ?_)))); all_goals (first | omega | (simp; done) | (simp; omega))))) HKl.out (by omega) (by simp) (by simp [go_sem])).mono ?_
    rintro r w2 ⟨rfl, hb2⟩
    have hA_ := (hb2.block w.heap.size (by simp; omega)).trans (hset_alloc (hset_new (o := .cells #[.slice (some ⟨b, off, none⟩) n cap] 35) rfl))
    have hG_ := (hb2.block (w.heap.size + 1) (by simp)).trans (hset_new (o := .cells #[.int .i64 f.number, .int .i64 f.kind, .bool f.rep, .bool f.packed, .int .i64 f.msg] 25) (by simp))
    have kA := box_cells hA_; have kG := box_cells hG_; have hlG := box_lt hG_; have hlA := box_lt hA_; have HGx := Lib.hid hG_
    have hbw : Below w.heap.size w w2 := by ((repeat (first | (with_reducible exact Below.refl _ _) | (with_reducible assumption) | (with_reducible refine Below.alloc ?_ ?_ _) | (with_reducible refine Below.setCell ?_ ?_ _) | (with_reducible refine Below.drew ?_) | (with_reducible refine below_setRow ?_ ?_ _) | (refine Below.trans ?_ (Below.mono (by assumption) ?_)))); all_goals (first | omega | (simp; done) | (simp; omega)))
    clear hb2 hA_ hG_
    cases h2 : hasNum (x.flds.take k) f.number
    · cases h3 : inB f.kind 1 8
      · have HB := Lib.hid (show (7 : Int) = R by rw [← HR.out, fldC, if_neg (by rw [h1]; simp), if_neg (by rw [h2]; simp), if_pos h3])
        go_wp2_with (first | (go_at_call 26; refine (isKind_any _ _).mono ?_; rintro r w1 ⟨rfl, rfl⟩))
        go_ret
        exact ⟨ret_int HB.out, by ((repeat (first | (with_reducible exact Below.refl _ _) | (with_reducible assumption) | (with_reducible refine Below.alloc ?_ ?_ _) | (with_reducible refine Below.setCell ?_ ?_ _) | (with_reducible refine Below.drew ?_) | (with_reducible refine below_setRow ?_ ?_ _) | (refine Below.trans ?_ (Below.mono (by assumption) ?_)))); all_goals (first | omega | (simp; done) | (simp; omega)))⟩
      · cases h4 : packOk f
        · have HB := Lib.hid (show (8 : Int) = R by rw [← HR.out, fldC, if_neg (by rw [h1]; simp), if_neg (by rw [h2]; simp), if_neg (by rw [h3]; simp), if_pos h4])
          simp only [packOk, Bool.not_eq_false', Bool.and_eq_true, Bool.or_eq_true, Bool.not_eq_true'] at h4
          obtain ⟨h5, h6⟩ := h4
          rw [h5] at kG d3
          cases h7 : f.rep
          · rw [h7] at kG d2
            go_wp2_with (first | (go_at_call 26; refine (isKind_any _ _).mono ?_; rintro r w1 ⟨rfl, rfl⟩))
            go_ret
            exact ⟨ret_int HB.out, by ((repeat (first | (with_reducible exact Below.refl _ _) | (with_reducible assumption) | (with_reducible refine Below.alloc ?_ ?_ _) | (with_reducible refine Below.setCell ?_ ?_ _) | (with_reducible refine Below.drew ?_) | (with_reducible refine below_setRow ?_ ?_ _) | (refine Below.trans ?_ (Below.mono (by assumption) ?_)))); all_goals (first | omega | (simp; done) | (simp; omega)))⟩
          · have h8 : inB f.kind 1 5 = false := by rcases h6 with h6 | h6; (rw [h7] at h6; simp at h6); exact h6
            rw [h7] at kG d2
            go_wp2_with (first | (go_at_call 26; refine (isKind_any _ _).mono ?_; rintro r w1 ⟨rfl, rfl⟩) | (go_at_call 89; refine (implNumeric_any _ _).mono ?_; rintro r w1 ⟨rfl, rfl⟩))
            go_ret
            exact ⟨ret_int HB.out, by ((repeat (first | (with_reducible exact Below.refl _ _) | (with_reducible assumption) | (with_reducible refine Below.alloc ?_ ?_ _) | (with_reducible refine Below.setCell ?_ ?_ _) | (with_reducible refine Below.drew ?_) | (with_reducible refine below_setRow ?_ ?_ _) | (refine Below.trans ?_ (Below.mono (by assumption) ?_)))); all_goals (first | omega | (simp; done) | (simp; omega)))⟩
        · have HP : f.packed = false ∨ f.packed = true ∧ f.rep = true ∧ inB f.kind 1 5 = true := by
            simp only [packOk] at h4
            cases h5 : f.packed <;> cases h6 : f.rep <;> cases h7 : inB f.kind 1 5 <;> simp [h5, h6, h7] at h4 ⊢
          have HE : ∀ v : Int, (if refBad xs f = true then (9 : Int) else 0) = v → v = R := fun v hv => by rw [← HR.out, fldC, if_neg (by rw [h1]; simp), if_neg (by rw [h2]; simp), if_neg (by rw [h3]; simp), if_neg (by rw [h4]; simp), hv]
          have HE2 := Lib.hid HE; clear HE h4
          by_cases h8 : f.kind = 8
          · have g8 : (f.kind == 8) = true := by simp; omega
            have g8n : (f.kind != 8) = false := by simp; omega
            have HRB := Lib.hid (show refBad xs f = !hasId xs f.msg by rw [refBad, if_pos h8])
            clear h8
            rcases HP with h5 | ⟨h5, h6, h7⟩
            · rw [h5] at kG d3
              go_wp2_with (first | (go_at_call 26; refine (isKind_any _ _).mono ?_; rintro r w1 ⟨rfl, rfl⟩))
              refine (implHasMsg_any (some ⟨b, off, none⟩) cap n xs f.msg _ (HH.out.keep hbw) HL.out hn).mono ?_
              rintro r w3 ⟨rfl, hb3⟩
              have hG3 := (hb3.block _ hlG).trans HGx.out
              have kG3 := box_cells hG3; clear hG3 kG kA
              cases h9 : hasId xs f.msg
              · have HB := Lib.hid (HE2.out 9 (by rw [HRB.out, h9]; rfl))
                go_wp2
                go_ret
                exact ⟨ret_int HB.out, by ((repeat (first | (with_reducible exact Below.refl _ _) | (with_reducible assumption) | (with_reducible refine Below.alloc ?_ ?_ _) | (with_reducible refine Below.setCell ?_ ?_ _) | (with_reducible refine Below.drew ?_) | (with_reducible refine below_setRow ?_ ?_ _) | (refine Below.trans ?_ (Below.mono (by assumption) ?_)))); all_goals (first | omega | (simp; done) | (simp; omega)))⟩
              · have HB := Lib.hid (HE2.out 0 (by rw [HRB.out, h9]; rfl))
                go_wp2
                go_ret
                exact ⟨ret_int HB.out, by ((repeat (first | (with_reducible exact Below.refl _ _) | (with_reducible assumption) | (with_reducible refine Below.alloc ?_ ?_ _) | (with_reducible refine Below.setCell ?_ ?_ _) | (with_reducible refine Below.drew ?_) | (with_reducible refine below_setRow ?_ ?_ _) | (refine Below.trans ?_ (Below.mono (by assumption) ?_)))); all_goals (first | omega | (simp; done) | (simp; omega)))⟩
            · rw [h5] at kG d3
              rw [h6] at kG d2
              go_wp2_with (first | (go_at_call 26; refine (isKind_any _ _).mono ?_; rintro r w1 ⟨rfl, rfl⟩) | (go_at_call 89; refine (implNumeric_any _ _).mono ?_; rintro r w1 ⟨rfl, rfl⟩))
              refine (implHasMsg_any (some ⟨b, off, none⟩) cap n xs f.msg _ (HH.out.keep hbw) HL.out hn).mono ?_
              rintro r w3 ⟨rfl, hb3⟩
              have hG3 := (hb3.block _ hlG).trans HGx.out
              have kG3 := box_cells hG3; clear hG3 kG kA
              cases h9 : hasId xs f.msg
              · have HB := Lib.hid (HE2.out 9 (by rw [HRB.out, h9]; rfl))
                go_wp2
                go_ret
                exact ⟨ret_int HB.out, by ((repeat (first | (with_reducible exact Below.refl _ _) | (with_reducible assumption) | (with_reducible refine Below.alloc ?_ ?_ _) | (with_reducible refine Below.setCell ?_ ?_ _) | (with_reducible refine Below.drew ?_) | (with_reducible refine below_setRow ?_ ?_ _) | (refine Below.trans ?_ (Below.mono (by assumption) ?_)))); all_goals (first | omega | (simp; done) | (simp; omega)))⟩
              · have HB := Lib.hid (HE2.out 0 (by rw [HRB.out, h9]; rfl))
                go_wp2
                go_ret
                exact ⟨ret_int HB.out, by ((repeat (first | (with_reducible exact Below.refl _ _) | (with_reducible assumption) | (with_reducible refine Below.alloc ?_ ?_ _) | (with_reducible refine Below.setCell ?_ ?_ _) | (with_reducible refine Below.drew ?_) | (with_reducible refine below_setRow ?_ ?_ _) | (refine Below.trans ?_ (Below.mono (by assumption) ?_)))); all_goals (first | omega | (simp; done) | (simp; omega)))⟩
          · have g8 : (f.kind == 8) = false := by simp; omega
            have g8n : (f.kind != 8) = true := by simp; omega
            have HRB := Lib.hid (show refBad xs f = !(f.msg == 0) by rw [refBad, if_neg h8])
            clear h8
            rcases HP with h5 | ⟨h5, h6, h7⟩
            · rw [h5] at kG d3
              by_cases h9 : f.msg = 0
              · have g9 : (f.msg == 0) = true := by simp; omega
                have g9n : (f.msg != 0) = false := by simp; omega
                have HB := Lib.hid (HE2.out 0 (by rw [HRB.out, g9]; rfl))
                clear h9
                go_wp2_with (first | (go_at_call 26; refine (isKind_any _ _).mono ?_; rintro r w1 ⟨rfl, rfl⟩))
                go_ret
                exact ⟨ret_int HB.out, by ((repeat (first | (with_reducible exact Below.refl _ _) | (with_reducible assumption) | (with_reducible refine Below.alloc ?_ ?_ _) | (with_reducible refine Below.setCell ?_ ?_ _) | (with_reducible refine Below.drew ?_) | (with_reducible refine below_setRow ?_ ?_ _) | (refine Below.trans ?_ (Below.mono (by assumption) ?_)))); all_goals (first | omega | (simp; done) | (simp; omega)))⟩
              · have g9 : (f.msg == 0) = false := by simp; omega
                have g9n : (f.msg != 0) = true := by simp; omega
                have HB := Lib.hid (HE2.out 9 (by rw [HRB.out, g9]; rfl))
                clear h9
                go_wp2_with (first | (go_at_call 26; refine (isKind_any _ _).mono ?_; rintro r w1 ⟨rfl, rfl⟩))
                go_ret
                exact ⟨ret_int HB.out, by ((repeat (first | (with_reducible exact Below.refl _ _) | (with_reducible assumption) | (with_reducible refine Below.alloc ?_ ?_ _) | (with_reducible refine Below.setCell ?_ ?_ _) | (with_reducible refine Below.drew ?_) | (with_reducible refine below_setRow ?_ ?_ _) | (refine Below.trans ?_ (Below.mono (by assumption) ?_)))); all_goals (first | omega | (simp; done) | (simp; omega)))⟩
            · rw [h5] at kG d3
              rw [h6] at kG d2
              by_cases h9 : f.msg = 0
              · have g9 : (f.msg == 0) = true := by simp; omega
                have g9n : (f.msg != 0) = false := by simp; omega
                have HB := Lib.hid (HE2.out 0 (by rw [HRB.out, g9]; rfl))
                clear h9
                go_wp2_with (first | (go_at_call 26; refine (isKind_any _ _).mono ?_; rintro r w1 ⟨rfl, rfl⟩) | (go_at_call 89; refine (implNumeric_any _ _).mono ?_; rintro r w1 ⟨rfl, rfl⟩))
                go_ret
                exact ⟨ret_int HB.out, by ((repeat (first | (with_reducible exact Below.refl _ _) | (with_reducible assumption) | (with_reducible refine Below.alloc ?_ ?_ _) | (with_reducible refine Below.setCell ?_ ?_ _) | (with_reducible refine Below.drew ?_) | (with_reducible refine below_setRow ?_ ?_ _) | (refine Below.trans ?_ (Below.mono (by assumption) ?_)))); all_goals (first | omega | (simp; done) | (simp; omega)))⟩
              · have g9 : (f.msg == 0) = false := by simp; omega
                have g9n : (f.msg != 0) = true := by simp; omega
                have HB := Lib.hid (HE2.out 9 (by rw [HRB.out, g9]; rfl))
                clear h9
                go_wp2_with (first | (go_at_call 26; refine (isKind_any _ _).mono ?_; rintro r w1 ⟨rfl, rfl⟩) | (go_at_call 89; refine (implNumeric_any _ _).mono ?_; rintro r w1 ⟨rfl, rfl⟩))
                go_ret
                exact ⟨ret_int HB.out, by ((repeat (first | (with_reducible exact Below.refl _ _) | (with_reducible assumption) | (with_reducible refine Below.alloc ?_ ?_ _) | (with_reducible refine Below.setCell ?_ ?_ _) | (with_reducible refine Below.drew ?_) | (with_reducible refine below_setRow ?_ ?_ _) | (refine Below.trans ?_ (Below.mono (by assumption) ?_)))); all_goals (first | omega | (simp; done) | (simp; omega)))⟩
    · have HB := Lib.hid (show (6 : Int) = R by rw [← HR.out, fldC, if_neg (by rw [h1]; simp), if_pos h2])
      go_wp2
      go_ret
      exact ⟨ret_int HB.out, by ((repeat (first | (with_reducible exact Below.refl _ _) | (with_reducible assumption) | (with_reducible refine Below.alloc ?_ ?_ _) | (with_reducible refine Below.setCell ?_ ?_ _) | (with_reducible refine Below.drew ?_) | (with_reducible refine below_setRow ?_ ?_ _) | (refine Below.trans ?_ (Below.mono (by assumption) ?_)))); all_goals (first | omega | (simp; done) | (simp; omega)))⟩
set_option maxRecDepth 100000 in
set_option maxHeartbeats 4000000 in
theorem implFirst_any (a : Option Addr) (cap n : Nat) (xs : List Shp) (w : World) (h : ShsL w a xs) (hl : xs.length = n) (hn : n ≤ 1048576) (hcap : n ≤ cap) (hm : fldSum xs ≤ 1048576) :
    Calls Tryd.prog 47 #[.agg #[.slice a n cap]] w fun r w' => r = .returned (vioV (firstV xs)) ∧ Below w.heap.size w w' := by
  have HL := Lib.hid hl; clear hl
  have HH := Lib.hid h; clear h
  obtain ⟨R, hR⟩ : ∃ R, firstV xs = R := ⟨_, rfl⟩
  rw [hR]
  go_enter Tryd.func47, Tryd.ntmps47
  by_cases h6 : 6 < n
  · have hR1 : R = (1, 6, -1) := by rw [← hR, firstV, if_pos (by rw [HL.out]; exact h6)]
    subst hR1
    have h6' : (6 : Int) < (n : Int) := by omega
    go_wp2
    refine bodyPost_ret (vio_res (B := w.heap.size + 1) (x := 1) (y := 6) (z := -1) Tryd.results47 rfl ?_) rfl ⟨rfl, by ((repeat (first | (with_reducible exact Below.refl _ _) | (with_reducible assumption) | (with_reducible refine Below.alloc ?_ ?_ _) | (with_reducible refine Below.setCell ?_ ?_ _) | (with_reducible refine Below.drew ?_) | (with_reducible refine below_setRow ?_ ?_ _) | (refine Below.trans ?_ (Below.mono (by assumption) ?_)))); all_goals (first | omega | (simp; done) | (simp; omega)))⟩
    exact hset_new (by simp)
  · have HR := Lib.hid (show firstM xs 0 (xs.drop 0) = R by rw [← hR, firstV, if_neg (by rw [HL.out]; exact h6)]; rfl)
    have h6' : decide ((6 : Int) < (n : Int)) = false := decide_eq_false (by omega)
    clear hR
    go_wp2
    go_loopw [16] (fun i wr => ∃ k : Nat, k ≤ n ∧ i = .int .i64 k ∧ Hid (firstM xs k (xs.drop k) = R) ∧ wr.heap[w.heap.size]? = some (.cells #[.slice a n cap] 35 (0, 0)) ∧ wr.heap[w.heap.size + 1]? = some (.cells #[.int .i64 0, .int .i64 0, .int .i64 0] 73 (0, 0)) ∧ Below w.heap.size w wr) (fun i _ => n - (intOf i).toNat)
    case atStart => exact ⟨0, Nat.zero_le _, rfl, HR, hset_alloc (hset_new rfl), hset_new (by simp), by ((repeat (first | (with_reducible exact Below.refl _ _) | (with_reducible assumption) | (with_reducible refine Below.alloc ?_ ?_ _) | (with_reducible refine Below.setCell ?_ ?_ _) | (with_reducible refine Below.drew ?_) | (with_reducible refine below_setRow ?_ ?_ _) | (refine Below.trans ?_ (Below.mono (by assumption) ?_)))); all_goals (first | omega | (simp; done) | (simp; omega)))⟩
    case round =>
      obtain ⟨k, hk, rfl, HK, hA, hV, hb⟩ := hrel
      have kA := box_cells hA 0; have kV := box_cells hV; have fV := box_frozen hV; have hlA := box_lt hA; have hlV := box_lt hV
      simp only [List.getElem?_toArray, List.getElem?_cons_zero] at kA
      have HA := Lib.hid hA; have HV := Lib.hid hV; clear hA hV
      by_cases hlt : k < n
      · obtain ⟨x, hx, _⟩ := at_lt (xs := xs) (k := k) (by rw [HL.out]; exact hlt)
        have hfl : x.flds.length ≤ 1048576 := by have := fldSum_ge hx; omega
        have hsl := HH.out.keep hb
        obtain ⟨b, off, a', cap', rfl, hbl, c0, c1, hfs, hcp⟩ := hsl k x hx
        have HX := Lib.hid hx; clear hx
        have HS := Lib.hid hsl; clear hsl hfs
        go_wp2_with fail
        refine (implMsgCode_any (some ⟨b, off, none⟩) cap n k xs x _ (HS.out.keep (by ((repeat (first | (with_reducible exact Below.refl _ _) | (with_reducible assumption) | (with_reducible refine Below.alloc ?_ ?_ _) | (with_reducible refine Below.setCell ?_ ?_ _) | (with_reducible refine Below.drew ?_) | (with_reducible refine below_setRow ?_ ?_ _) | (refine Below.trans ?_ (Below.mono (by assumption) ?_)))); all_goals (first | omega | (simp; done) | (simp; omega))))) HL.out hn hcap HX.out hlt hfl).mono ?_
        rintro r w1 ⟨rfl, hb1⟩
        have hA1 := (hb1.block _ (by simp; omega)).trans (hset_alloc HA.out)
        have hV1 := (hb1.block _ (by simp; omega)).trans (hset_alloc HV.out)
        have hM1 := (hb1.block wr.heap.size (by simp)).trans (hset_new (o := .cells #[.int .i64 x.id, .slice a' x.flds.length cap'] 56) (by simp))
        have hz1 := hb1.size
        simp only [World.size_alloc] at hz1
        have hbq : Below wr.heap.size wr w1 := by ((repeat (first | (with_reducible exact Below.refl _ _) | (with_reducible assumption) | (with_reducible refine Below.alloc ?_ ?_ _) | (with_reducible refine Below.setCell ?_ ?_ _) | (with_reducible refine Below.drew ?_) | (with_reducible refine below_setRow ?_ ?_ _) | (refine Below.trans ?_ (Below.mono (by assumption) ?_)))); all_goals (first | omega | (simp; done) | (simp; omega)))
        have hbw1 : Below w.heap.size w w1 := hb.trans (hbq.mono hb.size)
        have HS1 := Lib.hid (HS.out.keep hbq)
        have kM := box_cells hM1
        clear kA kV fV hlA hlV c0 c1 hb hb1 hbq HS HA HV hbl hM1
        have kA := box_cells hA1 0; have kV := box_cells hV1; have fV := box_frozen hV1; have hlA := box_lt hA1; have hlV := box_lt hV1
        simp only [List.getElem?_toArray, List.getElem?_cons_zero] at kA
        have HA := Lib.hid hA1; have HV := Lib.hid hV1; clear hA1 hV1
        by_cases hz : msgC xs k x = 0
        · obtain ⟨O, hO⟩ : ∃ O, firstF xs k x.flds 0 x.flds = O := ⟨_, rfl⟩
          have HM := fM_ok HK.out HX.out hz
          rw [hO] at HM
          have HMx := Lib.hid HM; clear HM
          have HO := Lib.hid (show firstF xs k x.flds 0 (x.flds.drop 0) = O from hO); clear hO
          have hz' : (msgC xs k x != 0) = false := by simp [hz]
          rw [hz]
          clear hz hz'
          go_wp2
          obtain ⟨wo, hwo⟩ : ∃ wo : World, wo = w1 := ⟨_, rfl⟩
          rw [← hwo] at HA HV hbw1 HS1 kA kV fV hlA hlV ⊢
          clear kM hz1
          clear hwo
          go_loopw [32] (fun j wi => ∃ q : Nat, q ≤ x.flds.length ∧ j = .int .i64 q ∧ Hid (firstF xs k x.flds q (x.flds.drop q) = O) ∧ Below wo.heap.size wo wi) (fun j _ => x.flds.length - (intOf j).toNat)
          case atStart => exact ⟨0, Nat.zero_le _, rfl, HO, Below.refl _ _⟩
          case round =>
            obtain ⟨q, hq, rfl, HQ, hbi⟩ := hrel
            obtain ⟨wi, hwi⟩ : ∃ wi : World, wi = wr := ⟨_, rfl⟩
            rw [← hwi] at hbi ⊢
            clear hwi
            have hAi := (hbi.block _ hlA).trans HA.out
            have hVi := (hbi.block _ hlV).trans HV.out
            have hbwi : Below w.heap.size w wi := hbw1.trans (hbi.mono hbw1.size)
            have HSi := Lib.hid (HS1.out.keep hbi)
            clear kA kV fV
            have kA := box_cells hAi 0; have kV := box_cells hVi; have fV := box_frozen hVi; have hlAi := box_lt hAi; have hlVi := box_lt hVi
            simp only [List.getElem?_toArray, List.getElem?_cons_zero] at kA
            have HVi := Lib.hid hVi; clear hVi hAi
            by_cases hlq : q < x.flds.length
            · obtain ⟨f, hf, _⟩ := at_lt (xs := x.flds) (k := q) hlq
              have HF := Lib.hid hf; clear hf
              go_wp2_with fail
              refine (implFieldCode_any (some ⟨b, off, none⟩) cap n k q xs x f wi HSi.out HL.out hn HX.out hlt hfl HF.out hlq).mono ?_
              rintro r w3 ⟨rfl, hb3⟩
              have hV3 := (hb3.block _ hlVi).trans HVi.out
              have hbw3 : Below w.heap.size w w3 := hbwi.trans (hb3.mono hbwi.size)
              have kV3 := box_cells hV3; have fV3 := box_frozen hV3; have hlV3 := box_lt hV3
              have HV3 := Lib.hid hV3; clear hV3 kV fV
              by_cases hz : fldC xs x.flds q f = 0
              · rw [hz]
                have HQ2 := Lib.hid (fF_ok HQ.out HF.out hz)
                clear hz
                go_wp2
                go_roundw
                case rel => exact ⟨q + 1, by omega, by go_num, HQ2, hbi.trans (hb3.mono hbi.size)⟩
                case measure => simp [intOf]; omega
              · have hO2 := fF_bad HQ.out HF.out hz
                have hR2 : (fldC xs x.flds q f, (k : Int), (q : Int)) = R := by have := HMx.out; rw [← hO2] at this; exact this
                have HR2 := Lib.hid hR2; clear hR2 hO2
                have gz : (fldC xs x.flds q f == 0) = false := by simp [hz]
                have gzn : (fldC xs x.flds q f != 0) = true := by simp [hz]
                clear hz
                go_wp2
                refine bodyPost_ret (vio_res (B := w.heap.size + 1) (x := fldC xs x.flds q f) (y := k) (z := q) Tryd.results47 rfl ?_) rfl ⟨?_, by ((repeat (first | (with_reducible exact Below.refl _ _) | (with_reducible assumption) | (with_reducible refine Below.alloc ?_ ?_ _) | (with_reducible refine Below.setCell ?_ ?_ _) | (with_reducible refine Below.drew ?_) | (with_reducible refine below_setRow ?_ ?_ _) | (refine Below.trans ?_ (Below.mono (by assumption) ?_)))); all_goals (first | omega | (simp; done) | (simp; omega)))⟩
                · apply hset_eq (hset_set (hset_set (hset_set HV3.out))); simp only [List.setIfInBounds_toArray, List.set_cons_zero, List.set_cons_succ]
                · rw [← HR2.out]; rfl
            · have hO2 := fF_end HQ.out (by omega)
              have HK2 := Lib.hid (show firstM xs (k + 1) (xs.drop (k + 1)) = R by have := HMx.out; rw [← hO2] at this; exact this)
              clear hO2
              go_wp2
              go_roundw
              case rel => exact ⟨k + 1, by omega, by go_num, HK2, (hbi.block _ hlA).trans HA.out, HVi.out, hbwi⟩
              case measure => simp [intOf]; omega
        · have hR2 := fM_bad HK.out HX.out hz
          have HR2 := Lib.hid hR2; clear hR2
          have gz : (msgC xs k x == 0) = false := by simp [hz]
          have gzn : (msgC xs k x != 0) = true := by simp [hz]
          clear hz
          go_wp2
          refine bodyPost_ret (vio_res (B := w.heap.size + 1) (x := msgC xs k x) (y := k) (z := -1) Tryd.results47 rfl ?_) rfl ⟨?_, by ((repeat (first | (with_reducible exact Below.refl _ _) | (with_reducible assumption) | (with_reducible refine Below.alloc ?_ ?_ _) | (with_reducible refine Below.setCell ?_ ?_ _) | (with_reducible refine Below.drew ?_) | (with_reducible refine below_setRow ?_ ?_ _) | (refine Below.trans ?_ (Below.mono (by assumption) ?_)))); all_goals (first | omega | (simp; done) | (simp; omega)))⟩
          · apply hset_eq (hset_set (hset_set (hset_set HV.out))); simp only [List.setIfInBounds_toArray, List.set_cons_zero, List.set_cons_succ]
          · rw [← HR2.out]; rfl
      · obtain rfl : k = n := by omega
        have hR2 := fM_end HK.out (by rw [HL.out]; omega)
        have HR2 := Lib.hid hR2; clear hR2
        go_wp2
        refine bodyPost_ret (vio_res (B := w.heap.size + 1) (x := 0) (y := 0) (z := 0) Tryd.results47 rfl ?_) rfl ⟨?_, by ((repeat (first | (with_reducible exact Below.refl _ _) | (with_reducible assumption) | (with_reducible refine Below.alloc ?_ ?_ _) | (with_reducible refine Below.setCell ?_ ?_ _) | (with_reducible refine Below.drew ?_) | (with_reducible refine below_setRow ?_ ?_ _) | (refine Below.trans ?_ (Below.mono (by assumption) ?_)))); all_goals (first | omega | (simp; done) | (simp; omega)))⟩
        · apply hset_eq (hset_set (hset_set (hset_set HV.out))); simp only [List.setIfInBounds_toArray, List.set_cons_zero, List.set_cons_succ]
        · rw [← HR2.out]; rfl
structure RawVal (xs : List Shp) : Prop where
  n : xs.length ≤ 6
  msg : ∀ (i : Nat) (x : Shp), xs[i]? = some x → msgC xs i x = 0
  fld : ∀ (i : Nat) (x : Shp), xs[i]? = some x → ∀ (k : Nat) (f : Fld), x.flds[k]? = some f → fldC xs x.flds k f = 0
theorem firstF_some {xs : List Shp} {i : Nat} {fs : List Fld} : ∀ {rest : List Fld} {k : Nat} {v : Int × Int × Int}, firstF xs i fs k rest = some v → v.1 ≠ 0
  | [], k, v, h => by simp [firstF] at h
  | f :: rest, k, v, h => by
    rw [firstF] at h
    by_cases hz : fldC xs fs k f = 0
    · rw [if_pos hz] at h; exact firstF_some h
    · rw [if_neg hz] at h; simp only [Option.some.injEq] at h; subst h; exact hz
theorem firstF_no {xs : List Shp} {i : Nat} {fs : List Fld} : ∀ {rest : List Fld} {k : Nat}, fs.drop k = rest → firstF xs i fs k rest = none → ∀ (j : Nat) (f : Fld), k ≤ j → fs[j]? = some f → fldC xs fs j f = 0
  | [], k, hd, h, j, f, hkj, hf => by
    have := List.drop_eq_nil_iff.1 hd
    obtain ⟨hj, _⟩ := List.getElem?_eq_some_iff.1 hf
    omega
  | g :: rest, k, hd, h, j, f, hkj, hf => by
    rw [firstF] at h
    by_cases hz : fldC xs fs k g = 0
    · rw [if_pos hz] at h
      have hg : fs[k]? = some g := by have := congrArg List.head? hd; rw [List.head?_drop] at this; simpa using this
      rcases Nat.eq_or_lt_of_le hkj with rfl | hlt
      · rw [hg] at hf; cases hf; exact hz
      · exact firstF_no (by have := congrArg List.tail hd; rw [List.tail_drop] at this; simpa using this) h j f hlt hf
    · rw [if_neg hz] at h; simp at h
theorem firstM_no {xs : List Shp} : ∀ {rest : List Shp} {i : Nat}, xs.drop i = rest → (firstM xs i rest).1 = 0 → ∀ (j : Nat) (x : Shp), i ≤ j → xs[j]? = some x → msgC xs j x = 0 ∧ ∀ (k : Nat) (f : Fld), x.flds[k]? = some f → fldC xs x.flds k f = 0
  | [], i, hd, h, j, x, hij, hx => by
    have := List.drop_eq_nil_iff.1 hd
    obtain ⟨hj, _⟩ := List.getElem?_eq_some_iff.1 hx
    omega
  | y :: rest, i, hd, h, j, x, hij, hx => by
    rw [firstM] at h
    by_cases hz : msgC xs i y = 0
    · rw [if_pos hz] at h
      have hy : xs[i]? = some y := by have := congrArg List.head? hd; rw [List.head?_drop] at this; simpa using this
      cases hF : firstF xs i y.flds 0 y.flds with
      | some v => rw [hF] at h; exact absurd h (firstF_some hF)
      | none =>
        rw [hF] at h
        rcases Nat.eq_or_lt_of_le hij with rfl | hlt
        · rw [hy] at hx; cases hx
          exact ⟨hz, fun k f hf => firstF_no (by simp) hF k f (Nat.zero_le _) hf⟩
        · exact firstM_no (by have := congrArg List.tail hd; rw [List.tail_drop] at this; simpa using this) h j x hlt hx
    · rw [if_neg hz] at h; exact absurd h hz
theorem val_of {xs : List Shp} (h : (firstV xs).1 = 0) : RawVal xs := by
  by_cases h6 : 6 < xs.length
  · rw [firstV, if_pos h6] at h; simp at h
  · rw [firstV, if_neg h6] at h
    have := firstM_no (xs := xs) (by simp) h
    exact ⟨by omega, fun i x hx => (this i x (Nat.zero_le _) hx).1, fun i x hx => (this i x (Nat.zero_le _) hx).2⟩
theorem RawVal.len {xs : List Shp} (h : RawVal xs) {x : Shp} (hx : x ∈ xs) : x.flds.length ≤ 8 := by
  obtain ⟨i, hi⟩ := List.getElem?_of_mem hx
  have := h.msg i x hi
  unfold msgC at this
  split at this
  · simp at this
  · split at this
    · simp at this
    · split at this
      · simp at this
      · omega
theorem msgC_id {xs : List Shp} {i : Nat} {x : Shp} (h : msgC xs i x = 0) : inB x.id 1 99 = true ∧ hasId (xs.take i) x.id = false := by
  unfold msgC at h
  split at h
  · simp at h
  · rename_i h1
    split at h
    · simp at h
    · rename_i h2
      exact ⟨by simpa using h1, by simpa using h2⟩
theorem firstV_zeroV {xs : List Shp} (h : (firstV xs).1 = 0) : firstV xs = (0, 0, 0) := by
  have hv := val_of h
  have hn := hv.n
  rw [firstV, if_neg (by omega)]
  have := firstM_zero (xs := xs) (fun i x hx => ⟨hv.msg i x hx, hv.fld i x hx⟩) 0
  simpa using this
def rawOk (xs : List Shp) : Bool := decide ((firstV xs).1 = 0)
set_option maxRecDepth 100000 in
theorem implRawOk_any (a : Option Addr) (cap n : Nat) (xs : List Shp) (w : World) (h : ShsL w a xs) (hx : xs.length = n) (hn : n ≤ 1048576) (hcap : n ≤ cap) (hm : fldSum xs ≤ 1048576) :
    Calls Tryd.prog 33 #[.agg #[.slice a n cap]] w fun r w' => r = .returned (.bool (rawOk xs)) ∧ Below w.heap.size w w' := by
  have HSs := Lib.hid h; have HX := Lib.hid hx; clear h hx
  by_cases h0 : (firstV xs).1 = 0
  · have hr : rawOk xs = true := by rw [rawOk, decide_eq_true h0]
    have hcall : ∀ W, ShsL W a xs → Calls Tryd.prog 47 #[.agg #[.slice a n cap]] W fun r w' => r = .returned (.agg #[.int .i64 0, .int .i64 0, .int .i64 0]) ∧ Below W.heap.size W w' := fun W hW => by
      have := implFirst_any a cap n xs W hW HX.out hn hcap hm
      rw [firstV_zeroV h0] at this; exact this
    rw [hr]
    clear h0 hr
    go_enter Tryd.func33, Tryd.ntmps33
    go_wp2_with fail
    refine (hcall _ (HSs.out.keep (by ((repeat (first | (with_reducible exact Below.refl _ _) | (with_reducible assumption) | (with_reducible refine Below.alloc ?_ ?_ _) | (with_reducible refine Below.setCell ?_ ?_ _) | (with_reducible refine Below.drew ?_) | (with_reducible refine below_setRow ?_ ?_ _) | (refine Below.trans ?_ (Below.mono (by assumption) ?_)))); all_goals (first | omega | (simp; done) | (simp; omega)))))).mono ?_
    rintro r w1 ⟨rfl, hb1⟩
    clear hcall
    go_wp2
    go_ret
    exact ⟨rfl, by ((repeat (first | (with_reducible exact Below.refl _ _) | (with_reducible assumption) | (with_reducible refine Below.alloc ?_ ?_ _) | (with_reducible refine Below.setCell ?_ ?_ _) | (with_reducible refine Below.drew ?_) | (with_reducible refine below_setRow ?_ ?_ _) | (refine Below.trans ?_ (Below.mono (by assumption) ?_)))); all_goals (first | omega | (simp; done) | (simp; omega)))⟩
  · have hr : rawOk xs = false := by rw [rawOk, decide_eq_false h0]
    obtain ⟨⟨v0, v1, v2⟩, hv⟩ : ∃ v, firstV xs = v := ⟨_, rfl⟩
    rw [hv] at h0
    have h1 : (v0 == 0) = false := by simpa using h0
    have h2 : decide (v0 = 0) = false := by simpa using h0
    have h3 : ¬ v0 = 0 := h0
    have hcall : ∀ W, ShsL W a xs → Calls Tryd.prog 47 #[.agg #[.slice a n cap]] W fun r w' => r = .returned (.agg #[.int .i64 v0, .int .i64 v1, .int .i64 v2]) ∧ Below W.heap.size W w' := fun W hW => by
      have := implFirst_any a cap n xs W hW HX.out hn hcap hm
      rw [hv] at this; exact this
    rw [hr]
    clear h0 hr hv
    go_enter Tryd.func33, Tryd.ntmps33
    go_wp2_with fail
    refine (hcall _ (HSs.out.keep (by ((repeat (first | (with_reducible exact Below.refl _ _) | (with_reducible assumption) | (with_reducible refine Below.alloc ?_ ?_ _) | (with_reducible refine Below.setCell ?_ ?_ _) | (with_reducible refine Below.drew ?_) | (with_reducible refine below_setRow ?_ ?_ _) | (refine Below.trans ?_ (Below.mono (by assumption) ?_)))); all_goals (first | omega | (simp; done) | (simp; omega)))))).mono ?_
    rintro r w1 ⟨rfl, hb1⟩
    clear hcall
    go_wp2
    go_ret
    exact ⟨rfl, by ((repeat (first | (with_reducible exact Below.refl _ _) | (with_reducible assumption) | (with_reducible refine Below.alloc ?_ ?_ _) | (with_reducible refine Below.setCell ?_ ?_ _) | (with_reducible refine Below.drew ?_) | (with_reducible refine below_setRow ?_ ?_ _) | (refine Below.trans ?_ (Below.mono (by assumption) ?_)))); all_goals (first | omega | (simp; done) | (simp; omega)))⟩
set_option maxRecDepth 100000 in
theorem specRawOk_any (a : Option Addr) (cap n : Nat) (xs : List Shp) (w : World) (h : ShsL w a xs) (hx : xs.length = n) (hn : n ≤ 1048576) (hm : fldSum xs ≤ 1048576) :
    Calls Tryd.prog 30 #[.agg #[.slice a n cap]] w fun r w' => r = .returned (.bool (rawOk xs)) ∧ Below w.heap.size w w' := by
  have HSs := Lib.hid h; have HX := Lib.hid hx; clear h hx
  obtain ⟨⟨v0, v1, v2⟩, hv⟩ : ∃ v, firstV xs = v := ⟨_, rfl⟩
  have hs : rawOk xs = (v0 == 0) := by rw [rawOk, hv]; rfl
  have HV := Lib.hid hv; clear hv
  have hcall : ∀ W, ShsL W a xs → Calls Tryd.prog 45 #[.agg #[.slice a n cap]] W fun r w' => r = .returned (.agg #[.int .i64 v0, .int .i64 v1, .int .i64 v2]) ∧ Below W.heap.size W w' := fun W hW => by
    have := specFirst_any a cap n xs W hW HX.out hn hm
    rw [HV.out] at this; exact this
  rw [hs]
  clear hs
  go_enter Tryd.func30, Tryd.ntmps30
  go_wp2_with fail
  refine (hcall _ (HSs.out.keep (by ((repeat (first | (with_reducible exact Below.refl _ _) | (with_reducible assumption) | (with_reducible refine Below.alloc ?_ ?_ _) | (with_reducible refine Below.setCell ?_ ?_ _) | (with_reducible refine Below.drew ?_) | (with_reducible refine below_setRow ?_ ?_ _) | (refine Below.trans ?_ (Below.mono (by assumption) ?_)))); all_goals (first | omega | (simp; done) | (simp; omega)))))).mono ?_
  rintro r w1 ⟨rfl, hb1⟩
  clear hcall
  have hf : (Instr.field 73 (.agg #[.int .i64 v0, .int .i64 v1, .int .i64 v2]) 0).run Tryd.prog w1 = .ok (.int .i64 v0) w1 := by
    simp [Instr.field, asAgg, go_sem, run_underlying Tryd.underlying73]
  go_wp2
  go_ret
  exact ⟨rfl, by ((repeat (first | (with_reducible exact Below.refl _ _) | (with_reducible assumption) | (with_reducible refine Below.alloc ?_ ?_ _) | (with_reducible refine Below.setCell ?_ ?_ _) | (with_reducible refine Below.drew ?_) | (with_reducible refine below_setRow ?_ ?_ _) | (refine Below.trans ?_ (Below.mono (by assumption) ?_)))); all_goals (first | omega | (simp; done) | (simp; omega)))⟩
def rawTextL (xs : List Shp) : List UInt8 := if rawOk xs = true then txtL xs else []
theorem rawOk_val {xs : List Shp} (h : rawOk xs = true) : RawVal xs := val_of (by simpa [rawOk] using h)
theorem RawVal.txB {xs : List Shp} (h : RawVal xs) : TxB xs := by
  refine ⟨by have := h.n; omega, fun x hx => by have := h.len hx; omega, fun x hx => ?_⟩
  obtain ⟨i, hi⟩ := List.getElem?_of_mem hx
  have := (msgC_id (h.msg i x hi)).1
  simp only [inB, decide_eq_true_eq] at this
  omega
theorem specRawText_any (a : Option Addr) (cap n : Nat) (xs : List Shp) (w : World) (h : ShsL w a xs) (hx : xs.length = n) (hn : n ≤ 1048576) (hm : fldSum xs ≤ 1048576) :
    Calls Tryd.prog 11 #[.agg #[.slice a n cap]] w fun r w' => r = .returned (.string (sB (rawTextL xs))) ∧ Below w.heap.size w w' := by
  have HSs := Lib.hid h; have HX := Lib.hid hx; clear h hx
  obtain ⟨ok, hok⟩ : ∃ ok, rawOk xs = ok := ⟨_, rfl⟩
  have hcall : ∀ W, ShsL W a xs → Calls Tryd.prog 30 #[.agg #[.slice a n cap]] W fun r w' => r = .returned (.bool ok) ∧ Below W.heap.size W w' := fun W hW => by
    have := specRawOk_any a cap n xs W hW HX.out hn hm
    rw [hok] at this; exact this
  have HO := Lib.hid hok; clear hok
  cases ok
  · have hr : rawTextL xs = [] := by rw [rawTextL, HO.out]; rfl
    go_enter Tryd.func11, Tryd.ntmps11
    go_wp2_with fail
    refine (hcall _ (HSs.out.keep (by ((repeat (first | (with_reducible exact Below.refl _ _) | (with_reducible assumption) | (with_reducible refine Below.alloc ?_ ?_ _) | (with_reducible refine Below.setCell ?_ ?_ _) | (with_reducible refine Below.drew ?_) | (with_reducible refine below_setRow ?_ ?_ _) | (refine Below.trans ?_ (Below.mono (by assumption) ?_)))); all_goals (first | omega | (simp; done) | (simp; omega)))))).mono ?_
    rintro r w1 ⟨rfl, hb1⟩
    go_wp2
    go_ret
    exact ⟨ret_str (by rw [hr]), by ((repeat (first | (with_reducible exact Below.refl _ _) | (with_reducible assumption) | (with_reducible refine Below.alloc ?_ ?_ _) | (with_reducible refine Below.setCell ?_ ?_ _) | (with_reducible refine Below.drew ?_) | (with_reducible refine below_setRow ?_ ?_ _) | (refine Below.trans ?_ (Below.mono (by assumption) ?_)))); all_goals (first | omega | (simp; done) | (simp; omega)))⟩
  · have hr : rawTextL xs = txtL xs := by rw [rawTextL, HO.out]; rfl
    rw [hr]
    go_enter Tryd.func11, Tryd.ntmps11
    go_wp2_with fail
    refine (hcall _ (HSs.out.keep (by ((repeat (first | (with_reducible exact Below.refl _ _) | (with_reducible assumption) | (with_reducible refine Below.alloc ?_ ?_ _) | (with_reducible refine Below.setCell ?_ ?_ _) | (with_reducible refine Below.drew ?_) | (with_reducible refine below_setRow ?_ ?_ _) | (refine Below.trans ?_ (Below.mono (by assumption) ?_)))); all_goals (first | omega | (simp; done) | (simp; omega)))))).mono ?_
    rintro r w1 ⟨rfl, hb1⟩
    have hz1 := hb1.size
    try simp only [World.size_alloc, World.size_setCell, World.size_drew] at hz1
    have hb1b : Below w.heap.size w w1 := by ((repeat (first | (with_reducible exact Below.refl _ _) | (with_reducible assumption) | (with_reducible refine Below.alloc ?_ ?_ _) | (with_reducible refine Below.setCell ?_ ?_ _) | (with_reducible refine Below.drew ?_) | (with_reducible refine below_setRow ?_ ?_ _) | (refine Below.trans ?_ (Below.mono (by assumption) ?_)))); all_goals (first | omega | (simp; done) | (simp; omega)))
    have kA := box_new0 hb1
    have hBA := box_lt0 hb1
    try simp only [World.size_alloc, World.size_setCell, World.size_drew] at kA
    try simp only [World.size_alloc, World.size_setCell, World.size_drew] at hBA
    clear hb1; have hb1 := hb1b; clear hb1b
    have hT1 : Below w.heap.size w w1 := by ((repeat (first | (with_reducible exact Below.refl _ _) | (with_reducible assumption) | (with_reducible refine Below.alloc ?_ ?_ _) | (with_reducible refine Below.setCell ?_ ?_ _) | (with_reducible refine Below.drew ?_) | (with_reducible refine below_setRow ?_ ?_ _) | (refine Below.trans ?_ (Below.mono (by assumption) ?_)))); all_goals (first | omega | (simp; done) | (simp; omega)))
    go_wp2_with fail
    refine (l9Text_any a cap n xs _ ((HSs.out.keep hT1).keep (by ((repeat (first | (with_reducible exact Below.refl _ _) | (with_reducible assumption) | (with_reducible refine Below.alloc ?_ ?_ _) | (with_reducible refine Below.setCell ?_ ?_ _) | (with_reducible refine Below.drew ?_) | (with_reducible refine below_setRow ?_ ?_ _) | (refine Below.trans ?_ (Below.mono (by assumption) ?_)))); all_goals (first | omega | (simp; done) | (simp; omega))))).shs HX.out (rawOk_val HO.out).txB).mono ?_
    rintro r w2 ⟨rfl, hb2⟩
    have hz2 := hb2.size
    try simp only [World.size_alloc, World.size_setCell, World.size_drew] at hz2
    have hb2b : Below w1.heap.size w1 w2 := by ((repeat (first | (with_reducible exact Below.refl _ _) | (with_reducible assumption) | (with_reducible refine Below.alloc ?_ ?_ _) | (with_reducible refine Below.setCell ?_ ?_ _) | (with_reducible refine Below.drew ?_) | (with_reducible refine below_setRow ?_ ?_ _) | (refine Below.trans ?_ (Below.mono (by assumption) ?_)))); all_goals (first | omega | (simp; done) | (simp; omega)))
    have kA_ := box_next hb2b hBA kA; clear kA
    have kA := kA_; clear kA_
    have hBA_ := Nat.lt_of_lt_of_le hBA hb2b.size; clear hBA; have hBA := hBA_; clear hBA_
    clear hb2; have hb2 := hb2b; clear hb2b
    go_wp2
    go_ret
    exact ⟨rfl, hT1.trans (hb2.mono hT1.size)⟩
theorem info_strT : (Tryd.prog.info? 9).map (fun i => (i.zero, i.size, i.bytes)) = some (some (.string ByteArray.empty), 1, 16) := by kernel_rfl
theorem own_atT {w : World} {base n cap size g : Nat} {t : TypeId} {L : List Value} (h : w.ownsRow base t size (.slice (some ⟨g, 0, none⟩) n cap) n L) {j : Nat} {u : Value} (hj : L[j]? = some u) : w.cell? ⟨g, j, none⟩ = some u := by
  have := h.cells (g := g) rfl j u hj
  by_cases h0 : j = 0
  · subst h0; simpa [Addr.add] using this
  · simpa [Addr.add, h0] using this
@[reducible] def strRow (L : List (List UInt8)) : List Value := L.map fun l => .string (sB l)
theorem joinRow_any (base : Nat) (v : Value) (n : Nat) (L : List (List UInt8)) (sep : List UInt8) (w : World) (ho : w.ownsRow base 9 1 v n (strRow L)) (hl : L.length = n) (hn : n ≤ 20) (hj : (Lib.join L sep).length ≤ 10000) :
    Calls Tryd.prog 34 #[v, .string (sB sep)] w fun r w' => r = .returned (.string (sB (Lib.join L sep))) ∧ Below w.heap.size w w' := by
  obtain ⟨a, cap, rfl, _⟩ := own_sh ho
  by_cases h0 : n = 0
  · subst h0
    have hL : L = [] := List.length_eq_zero_iff.1 hl
    subst hL
    refine (Tryd.strings_Join_none a cap (sB sep) w).mono ?_
    rintro r w' ⟨rfl, rfl⟩
    exact ⟨rfl, Below.refl _ _⟩
  · obtain ⟨g, cap', e, hg, hgl⟩ := ho.form (by omega)
    simp only [Value.slice.injEq, true_and] at e
    obtain ⟨rfl, rfl⟩ := e
    have hcap := own_lecapR ho
    have hm : (L.map sB).map (·.data.toList) = L := by simp [Function.comp_def]
    have := Tryd.strings_Join g 0 cap (L.map sB) (sB sep) w (fun j x hx => ?_) hgl (by simp; omega) (by simpa [hl] using hcap) (by rw [hm]; simp; omega)
    · rw [hm, List.length_map, hl] at this
      exact this
    · rw [List.getElem?_map, Option.map_eq_some_iff] at hx
      obtain ⟨l, hlx, rfl⟩ := hx
      rw [Nat.zero_add]
      exact own_atT ho (by rw [strRow, List.getElem?_map, hlx]; rfl)
set_option maxRecDepth 100000 in
set_option maxHeartbeats 8000000 in
theorem implRawText_any (a : Option Addr) (cap n : Nat) (xs : List Shp) (w : World) (h : ShsL w a xs) (hx : xs.length = n) (hn : n ≤ 1048576) (hcap : n ≤ cap) (hm : fldSum xs ≤ 1048576) (ht : TabW w) :
    Calls Tryd.prog 13 #[.agg #[.slice a n cap]] w fun r w' => r = .returned (.string (sB (rawTextL xs))) ∧ Below w.heap.size w w' := by
  have HSs := Lib.hid h; have HX := Lib.hid hx; have HT := Lib.hid ht; clear h hx ht
  obtain ⟨iS, hiS, hs0, hs1, hs2⟩ := info_parts info_strT
  obtain ⟨ok, hok⟩ : ∃ ok, rawOk xs = ok := ⟨_, rfl⟩
  have hcall : ∀ W, ShsL W a xs → Calls Tryd.prog 33 #[.agg #[.slice a n cap]] W fun r w' => r = .returned (.bool ok) ∧ Below W.heap.size W w' := fun W hW => by
    have := implRawOk_any a cap n xs W hW HX.out hn hcap hm
    rw [hok] at this; exact this
  have HO := Lib.hid hok; clear hok
  cases ok
  · have hr : rawTextL xs = [] := by rw [rawTextL, HO.out]; rfl
    go_enter Tryd.func13, Tryd.ntmps13
    go_wp2_with fail
    refine (hcall _ (HSs.out.keep (by ((repeat (first | (with_reducible exact Below.refl _ _) | (with_reducible assumption) | (with_reducible refine Below.alloc ?_ ?_ _) | (with_reducible refine Below.setCell ?_ ?_ _) | (with_reducible refine Below.drew ?_) | (with_reducible refine below_setRow ?_ ?_ _) | (refine Below.trans ?_ (Below.mono (by assumption) ?_)))); all_goals (first | omega | (simp; done) | (simp; omega)))))).mono ?_
    rintro r w1 ⟨rfl, hb1⟩
    go_wp2
    go_ret
    exact ⟨ret_str (by rw [hr]), by ((repeat (first | (with_reducible exact Below.refl _ _) | (with_reducible assumption) | (with_reducible refine Below.alloc ?_ ?_ _) | (with_reducible refine Below.setCell ?_ ?_ _) | (with_reducible refine Below.drew ?_) | (with_reducible refine below_setRow ?_ ?_ _) | (refine Below.trans ?_ (Below.mono (by assumption) ?_)))); all_goals (first | omega | (simp; done) | (simp; omega)))⟩
  · have hr : rawTextL xs = txtL xs := by rw [rawTextL, HO.out]; rfl
    rw [hr]
    have HBb := Lib.hid (rawOk_val HO.out).txB
    have hn7 : n ≤ 7 := by have := HBb.out.n; have := HX.out; omega
    clear hr HO
    go_enter Tryd.func13, Tryd.ntmps13
    go_wp2_with fail
    refine (hcall _ (HSs.out.keep (by ((repeat (first | (with_reducible exact Below.refl _ _) | (with_reducible assumption) | (with_reducible refine Below.alloc ?_ ?_ _) | (with_reducible refine Below.setCell ?_ ?_ _) | (with_reducible refine Below.drew ?_) | (with_reducible refine below_setRow ?_ ?_ _) | (refine Below.trans ?_ (Below.mono (by assumption) ?_)))); all_goals (first | omega | (simp; done) | (simp; omega)))))).mono ?_
    rintro r w1 ⟨rfl, hb1⟩
    have hz1 := hb1.size
    try simp only [World.size_alloc, World.size_setCell, World.size_drew] at hz1
    have hb1b : Below w.heap.size w w1 := by ((repeat (first | (with_reducible exact Below.refl _ _) | (with_reducible assumption) | (with_reducible refine Below.alloc ?_ ?_ _) | (with_reducible refine Below.setCell ?_ ?_ _) | (with_reducible refine Below.drew ?_) | (with_reducible refine below_setRow ?_ ?_ _) | (refine Below.trans ?_ (Below.mono (by assumption) ?_)))); all_goals (first | omega | (simp; done) | (simp; omega)))
    have kA := box_new0 hb1
    have hBA := box_lt0 hb1
    try simp only [World.size_alloc, World.size_setCell, World.size_drew] at kA
    try simp only [World.size_alloc, World.size_setCell, World.size_drew] at hBA
    clear hb1; have hb1 := hb1b; clear hb1b
    have hT1 : Below w.heap.size w w1 := hb1
    have HS1 := Lib.hid (HSs.out.keep hT1).shs
    have HT1 := Lib.hid (HT.out.keep hT1)
    have kA0 := kA 0
    simp only [List.getElem?_toArray, List.getElem?_cons_zero] at kA0
    clear kA hcall hb1 HT HSs
    go_wp2_with fail
    go_loopw [3, 16] (fun v i wr => ∃ k : Nat, k ≤ n ∧ i = .int .i64 k ∧ wr.ownsRow w1.heap.size 9 1 v k (strRow ((xs.take k).map msgL)) ∧ Below w1.heap.size w1 wr) (fun _ i _ => n - (intOf i).toNat)
    case atStart => exact ⟨0, Nat.zero_le _, rfl, ⟨by simp [strRow], .inr ⟨w1.heap.size, 0, #[], rfl, Nat.le_refl _, heap_nth0 w1 _, Nat.le_refl _, Nat.zero_le _, rfl, rfl⟩⟩, by ((repeat (first | (with_reducible exact Below.refl _ _) | (with_reducible assumption) | (with_reducible refine Below.alloc ?_ ?_ _) | (with_reducible refine Below.setCell ?_ ?_ _) | (with_reducible refine Below.drew ?_) | (with_reducible refine below_setRow ?_ ?_ _) | (refine Below.trans ?_ (Below.mono (by assumption) ?_)))); all_goals (first | omega | (simp; done) | (simp; omega)))⟩
    case round =>
      obtain ⟨k, hk, rfl, ho, hb⟩ := hrel
      have hz := hb.size
      have HO := Lib.hid ho; clear ho
      by_cases hlt : k < n
      · obtain ⟨x, hx, hxm⟩ := at_lt (xs := xs) (k := k) (by rw [HX.out]; exact hlt)
        have hx14 := HBb.out.len x hxm
        have hml := HBb.out.msg hxm
        obtain ⟨hi0, hi1⟩ := HBb.out.id x hxm
        have HXk := Lib.hid hx; clear hx hxm
        obtain ⟨b, off, a', cap', rfl, hbl, c0, c1, hfs⟩ := Shs.at (HS1.out.keep hb) HXk.out
        have HF := Lib.hid hfs; clear hfs
        have hkn : (k : Int) < (n : Int) := by omega
        go_wp2_with fail
        obtain ⟨wo, hwo⟩ : ∃ wo : World, wo = wr := ⟨_, rfl⟩
        rw [← hwo] at HO hb hz hbl c0 c1 HF ⊢
        clear hwo
        go_loopw [6, 24] (fun v j wi => ∃ q : Nat, q ≤ x.flds.length ∧ j = .int .i64 q ∧ wi.ownsRow (wo.heap.size + 1) 9 1 v q (strRow ((x.flds.take q).map fieldL)) ∧ wi.heap[wo.heap.size]? = some (.cells #[.int .i64 x.id, .slice a' x.flds.length cap'] 56 (0, 0)) ∧ Below wo.heap.size wo wi) (fun _ j _ => x.flds.length - (intOf j).toNat)
        case atStart => exact ⟨0, Nat.zero_le _, rfl, ⟨by simp [strRow], .inr ⟨wo.heap.size + 1, 0, #[], rfl, Nat.le_refl _, hset_new (by simp), Nat.le_refl _, Nat.zero_le _, rfl, rfl⟩⟩, hset_alloc (hset_new rfl), by ((repeat (first | (with_reducible exact Below.refl _ _) | (with_reducible assumption) | (with_reducible refine Below.alloc ?_ ?_ _) | (with_reducible refine Below.setCell ?_ ?_ _) | (with_reducible refine Below.drew ?_) | (with_reducible refine below_setRow ?_ ?_ _) | (refine Below.trans ?_ (Below.mono (by assumption) ?_)))); all_goals (first | omega | (simp; done) | (simp; omega)))⟩
        case round =>
          obtain ⟨q, hq, rfl, ho, hM, hbi⟩ := hrel
          have hzi := hbi.size
          have hMl := box_lt hM
          have HOq := Lib.hid ho; have HM := Lib.hid hM; clear ho hM
          have hFi := Sl.keep HF.out hbi
          by_cases hlq : q < x.flds.length
          · obtain ⟨f, hf, hfm⟩ := at_lt (xs := x.flds) (k := q) hlq
            obtain ⟨b3, off3, rfl, hl3, d0, d1, d2, d3, d4⟩ := Flds.at hFi hf
            have HFk := Lib.hid hf
            obtain ⟨G, hG⟩ : ∃ G, fieldL f = G := ⟨_, rfl⟩
            have hft : ∀ W : World, TabW W → Calls Tryd.prog 9 #[.agg #[.int .i64 f.number, .int .i64 f.kind, .bool f.rep, .bool f.packed, .int .i64 f.msg]] W fun r w' => r = .returned (.string ⟨G.toArray⟩) ∧ Below W.heap.size W w' := fun W hW => by
              have := implFieldText_any f W hW
              rw [sB, hG] at this; exact this
            have HG := Lib.hid hG; clear hG hf hfm hFi
            have hqn : (q : Int) < (x.flds.length : Int) := by omega
            have hTi : Below w1.heap.size w1 wr := hb.trans (hbi.mono hb.size)
            go_wp2_with fail
            refine (hft _ (HT1.out.keep (by ((repeat (first | (with_reducible exact Below.refl _ _) | (with_reducible assumption) | (with_reducible refine Below.alloc ?_ ?_ _) | (with_reducible refine Below.setCell ?_ ?_ _) | (with_reducible refine Below.drew ?_) | (with_reducible refine below_setRow ?_ ?_ _) | (refine Below.trans ?_ (Below.mono (by assumption) ?_)))); all_goals (first | omega | (simp; done) | (simp; omega)))))).mono ?_
            rintro r w2 ⟨rfl, hb2⟩
            have hz2 := hb2.size
            simp only [World.size_alloc] at hz2
            have hb2' : Below wr.heap.size wr w2 := by ((repeat (first | (with_reducible exact Below.refl _ _) | (with_reducible assumption) | (with_reducible refine Below.alloc ?_ ?_ _) | (with_reducible refine Below.setCell ?_ ?_ _) | (with_reducible refine Below.drew ?_) | (with_reducible refine below_setRow ?_ ?_ _) | (refine Below.trans ?_ (Below.mono (by assumption) ?_)))); all_goals (first | omega | (simp; done) | (simp; omega)))
            have HO2 := Lib.hid (owns_below HOq.out hb2' (Nat.le_refl _))
            have hM2 := (hb2'.block wo.heap.size hMl).trans HM.out
            have HM2 := Lib.hid hM2
            have hMl2 := box_lt hM2
            have hTo : Below wo.heap.size wo w2 := hbi.trans (hb2'.mono hzi)
            clear hM2 d0 d1 d2 d3 d4 hl3 hft HOq HM hMl hb2
            have HA := Lib.hid (World.ownsRow.alloc HO2.out (.cells #[.string ⟨G.toArray⟩] 9 (0, 0)))
            go_wp2_with (first | (at_builtin; refine wpList_append_lies _ rfl _ _ 53 rfl (wo.heap.size + 1) 9 iS _ 1 16 Tryd.underlying53 hiS hs0 hs1 hs2 rfl (by decide) _ q (strRow ((x.flds.take q).map fieldL)) rfl HA.out ⟨w2.heap.size, 0, none⟩ 1 1 [.string ⟨G.toArray⟩] rfl rfl (World.news_of_block (cs := #[.string ⟨G.toArray⟩]) (t := 9) (fr := (0, 0)) (hset_new rfl)) (by simp [Value.oneCell']) (by omega) (by unfold maxLen; omega) (by omega) (by simp; omega) _ rfl ?_; intro gn capn w11 hown11 hgr11 hat11 hlt11; have hgb : Below (wo.heap.size + 1) w2 w11 := below_grown ((Below.refl _ _).alloc (by omega) _) hgr11 (fun b e => (HA.out.lt b e).1) (by simp; omega); have HO11 := Lib.hid hown11; clear hown11 hgr11 hat11))
            have hrow : strRow ((x.flds.take q).map fieldL) ++ [.string ⟨G.toArray⟩] = strRow ((x.flds.take (q + 1)).map fieldL) := by
              rw [List.take_add_one, HFk.out, Option.toList_some, List.map_append, List.map_cons, List.map_nil, strRow, strRow, List.map_append, List.map_cons, List.map_nil, ← HG.out]
            rw [hrow] at HO11
            go_roundw
            case rel => exact ⟨q + 1, by omega, by go_num, HO11.out, (hgb.block _ (by omega)).trans HM2.out, hTo.trans (hgb.mono (by omega))⟩
            case measure => simp [intOf]; omega
          · have hqe : q = x.flds.length := by omega
            subst hqe
            have hTi : Below w1.heap.size w1 wr := hb.trans (hbi.mono hb.size)
            have kM := box_cells HM.out; have kM0 := kM 0
            simp only [List.getElem?_toArray, List.getElem?_cons_zero] at kM0
            have hD := Lib.itoa_length_le x.id hi0 hi1
            obtain ⟨D, hDe⟩ : ∃ D, Lib.itoa x.id = D := ⟨_, rfl⟩
            have hdig : ∀ W : World, TabW W → Calls Tryd.prog 27 #[.int .i64 x.id] W fun r w' => r = .returned (.string ⟨D.toArray⟩) ∧ Below W.heap.size W w' := fun W hW => by
              have := implDigits_any x.id W hW hi0 hi1
              rw [numB, hDe] at this; exact this
            rw [hDe] at hD
            have HDE := Lib.hid hDe
            have hJl := flds_len hx14
            obtain ⟨J, hJ⟩ : ∃ J, Lib.join (x.flds.map fieldL) [44] = J := ⟨_, rfl⟩
            have HOq' := HOq.out
            rw [List.take_of_length_le (Nat.le_refl _)] at HOq'
            have hjoin : ∀ (W : World) (v : Value), W.ownsRow (wo.heap.size + 1) 9 1 v x.flds.length (strRow (x.flds.map fieldL)) → Calls Tryd.prog 34 #[v, .string ⟨#[44]⟩] W fun r w' => r = .returned (.string ⟨J.toArray⟩) ∧ Below W.heap.size W w' := fun W v hv => by
              have := joinRow_any (wo.heap.size + 1) v x.flds.length (x.flds.map fieldL) [44] W hv (by simp) (by omega) (by omega)
              rw [hJ] at this; exact this
            rw [hJ] at hJl
            have HQ := Lib.hid HOq'; clear HOq' HOq
            have HMG := Lib.hid (show msgL x = D ++ [58] ++ J by rw [msgL, hDe, hJ])
            clear hDe hJ
            have e1 : ¬ 9223372036854775807 < D.length + 1 := by omega
            have e2 : ¬ 9223372036854775807 < D.length + 1 + J.length := by omega
            have hcat : ((⟨D.toArray⟩ : ByteArray) ++ ⟨[58].toArray⟩) ++ ⟨J.toArray⟩ = ⟨(D ++ [58] ++ J).toArray⟩ := by rw [bytes_cat, bytes_cat]
            obtain ⟨Z, hZ⟩ : ∃ Z, D ++ [58] ++ J = Z := ⟨_, rfl⟩
            rw [hZ] at hcat
            have HZ := Lib.hid (HMG.out.trans hZ); clear hZ HMG
            go_wp2_with fail
            refine (hdig _ (HT1.out.keep hTi)).mono ?_
            rintro r w2 ⟨rfl, hb2⟩
            have hTo2 : Below wo.heap.size wo w2 := hbi.trans (hb2.mono hzi)
            have HQ2 := Lib.hid (owns_below HQ.out hb2 (Nat.le_refl _)); clear HQ hdig
            go_wp2_with fail
            refine (hjoin _ _ HQ2.out).mono ?_
            rintro r w3 ⟨rfl, hb3⟩
            have hTo3 : Below wo.heap.size wo w3 := hTo2.trans (hb3.mono hTo2.size)
            have hz3 := hTo3.size
            have HW3 := Lib.hid (owns_below HO.out hTo3 (Nat.le_refl _)); clear hjoin HQ2 hTo2 hb2 hb3
            have HA := Lib.hid (World.ownsRow.alloc HW3.out (.cells #[.string ⟨Z.toArray⟩] 9 (0, 0)))
            go_wp2_with (first | (at_builtin; refine wpList_append_lies _ rfl _ _ 53 rfl w1.heap.size 9 iS _ 1 16 Tryd.underlying53 hiS hs0 hs1 hs2 rfl (by decide) _ k (strRow ((xs.take k).map msgL)) rfl HA.out ⟨w3.heap.size, 0, none⟩ 1 1 [.string ⟨Z.toArray⟩] rfl rfl (World.news_of_block (cs := #[.string ⟨Z.toArray⟩]) (t := 9) (fr := (0, 0)) (hset_new rfl)) (by simp [Value.oneCell']) (by omega) (by unfold maxLen; omega) (by omega) (by simp; omega) _ rfl ?_; intro gn capn w11 hown11 hgr11 hat11 hlt11; have hgb : Below w1.heap.size w3 w11 := below_grown ((Below.refl _ _).alloc (by omega) _) hgr11 (fun b e => (HA.out.lt b e).1) (by simp; omega); have HO11 := Lib.hid hown11; clear hown11 hgr11 hat11))
            have hrow : strRow ((xs.take k).map msgL) ++ [.string ⟨Z.toArray⟩] = strRow ((xs.take (k + 1)).map msgL) := by
              rw [List.take_add_one, HXk.out, Option.toList_some, List.map_append, List.map_cons, List.map_nil, strRow, strRow, List.map_append, List.map_cons, List.map_nil, HZ.out]
            rw [hrow] at HO11
            go_roundw
            case rel => exact ⟨k + 1, by omega, by go_num, HO11.out, (hb.trans (hTo3.mono hz)).trans (hgb.mono (Nat.le_refl _))⟩
            case measure => simp [intOf]; omega
      · have hke : k = n := by omega
        subst hke
        have hjl := HBb.out.txt k
        rw [List.take_of_length_le (by rw [HX.out]; exact Nat.le_refl _)] at hjl HO
        have hjoin : ∀ (W : World) (v : Value), W.ownsRow w1.heap.size 9 1 v k (strRow (xs.map msgL)) → Calls Tryd.prog 34 #[v, .string ⟨#[59]⟩] W fun r w' => r = .returned (.string (sB (txtL xs))) ∧ Below W.heap.size W w' := fun W v hv =>
          joinRow_any w1.heap.size v k (xs.map msgL) [59] W hv (by simpa using HX.out) (by omega) (by simp only [txtL] at hjl; omega)
        have hTi : Below w.heap.size w wr := hT1.trans (hb.mono hT1.size)
        go_wp2_with fail
        refine (hjoin _ _ HO.out).mono ?_
        rintro r w2 ⟨rfl, hb2⟩
        go_wp2
        go_ret
        exact ⟨rfl, hTi.trans (hb2.mono hTi.size)⟩
end Go.Proofs.YtbpilecgnfnndaaDoor
