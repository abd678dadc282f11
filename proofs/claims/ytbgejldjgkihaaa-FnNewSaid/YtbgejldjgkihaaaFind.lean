/- Finding shapes and fields. -/
import Derived.Test.YtbgejldjgkihaaaSchOk
namespace Go.Proofs.Ytbgejldjgkihaaa
set_option linter.unusedSimpArgs false
set_option linter.unusedVariables false
open Go.ChangeShapes Go.WideShapes Go.ChangeAt Go.RowKit Go.BigFrame

/-- Where the first shape with an id stands, counted from k. -/
def shAt (id : Int) : Nat → List Shp → Int
  | _, [] => -1
  | k, x :: xs => if x.id = id then k else shAt id (k + 1) xs
def zeroF : Fld := ⟨0, 0, false, false, 0⟩
/-- The first field with a number. -/
def fAt (n : Int) : List Fld → Fld × Bool
  | [] => (zeroF, false)
  | f :: fs => if f.number = n then (f, true) else fAt n fs
def fieldAt (xs : List Shp) (s n : Int) : Fld × Bool := if inB s 0 (xs.length - 1) then fAt n ((xs[s.toNat]?.map Shp.flds).getD []) else (zeroF, false)
theorem shAt_yes {id : Int} {k : Nat} {xs : List Shp} {e : Shp} {R : Int} (h : shAt id k (xs.drop k) = R) (he : xs[k]? = some e) (hi : e.id = id) : (k : Int) = R := by
  rw [drop_cons he, shAt, if_pos hi] at h; exact h
theorem shAt_no {id : Int} {k : Nat} {xs : List Shp} {e : Shp} {R : Int} (h : shAt id k (xs.drop k) = R) (he : xs[k]? = some e) (hi : ¬ e.id = id) : shAt id (k + 1) (xs.drop (k + 1)) = R := by
  rw [drop_cons he, shAt, if_neg hi] at h; exact h
theorem shAt_end {id : Int} {k : Nat} {xs : List Shp} {R : Int} (h : shAt id k (xs.drop k) = R) (hk : xs.length ≤ k) : (-1 : Int) = R := by
  rw [List.drop_of_length_le hk] at h; exact h
theorem fAt_yes {n : Int} {k : Nat} {xs : List Fld} {e : Fld} {R : Fld × Bool} (h : fAt n (xs.drop k) = R) (he : xs[k]? = some e) (hi : e.number = n) : (e, true) = R := by
  rw [drop_cons he, fAt, if_pos hi] at h; exact h
theorem fAt_no {n : Int} {k : Nat} {xs : List Fld} {e : Fld} {R : Fld × Bool} (h : fAt n (xs.drop k) = R) (he : xs[k]? = some e) (hi : ¬ e.number = n) : fAt n (xs.drop (k + 1)) = R := by
  rw [drop_cons he, fAt, if_neg hi] at h; exact h
theorem fAt_end {n : Int} {k : Nat} {xs : List Fld} {R : Fld × Bool} (h : fAt n (xs.drop k) = R) (hk : xs.length ≤ k) : (zeroF, false) = R := by
  rw [List.drop_of_length_le hk] at h; exact h
theorem block_lt {w : World} {b : Nat} {o : Obj} (h : w.heap[b]? = some o) : b < w.heap.size := by
  rcases Nat.lt_or_ge b w.heap.size with h1 | h1
  · exact h1
  · rw [Array.getElem?_eq_none h1] at h; simp at h
theorem heap_new1 (w : World) (o1 o2 : Obj) : ((w.alloc o1).alloc o2).heap[w.heap.size + 1]? = some o2 := by
  have h := heap_alloc_new (w.alloc o1) o2
  rw [World.size_alloc] at h; exact h
theorem cell_of_blk {w : World} {b : Nat} {cs : Array Value} {t : TypeId} (h : w.heap[b]? = some (.cells cs t (0, 0))) (i : Nat) : w.cell? ⟨b, i, none⟩ = cs[i]? := by simp [World.cell?, h]
theorem frozen_of_blk {w : World} {b : Nat} {cs : Array Value} {t : TypeId} (h : w.heap[b]? = some (.cells cs t (0, 0))) (i : Nat) : w.frozen? ⟨b, i, none⟩ = false := by simp [World.frozen?, h]
theorem heap_alloc_old {w : World} {b : Nat} {o : Obj} (h : b < w.heap.size) : (w.alloc o).heap[b]? = w.heap[b]? := Below.heap_alloc w o b h
theorem shapeAt1_any (x : Int) (a : Option Addr) (m cap : Nat) (id : Int) (B : Nat) (w : World) (hB : B < w.heap.size) (hc : w.cell? ⟨B, 0, none⟩ = some (.int .i64 id)) :
    Calls Try.prog 59 #[.agg #[.int .i64 x, .slice a m cap], .pointer (some ⟨B, 0, none⟩)] w fun r w' => r = .returned (.bool (x == id)) ∧ Below w.heap.size w w' := by
  go_enter Try.func59, Try.ntmps59
  go_wp2
  go_ret
  exact ⟨rfl, by ((repeat (first | (with_reducible exact Below.refl _ _) | (with_reducible assumption) | (with_reducible refine Below.alloc ?_ ?_ _) | (with_reducible refine Below.setCell ?_ ?_ _) | (with_reducible refine Below.drew ?_) | (with_reducible refine below_setRow ?_ ?_ _) | (refine Below.trans ?_ (Below.mono (by assumption) ?_)))); all_goals (first | omega | (simp; done) | (simp; omega)))⟩
set_option maxHeartbeats 2000000 in
theorem indexFuncShp_any (a : Option Addr) (cap n : Nat) (xs : List Shp) (id : Int) (B : Nat) (w : World) (h : Shs w a xs) (hx : xs.length = n) (hn : n ≤ 1048576) (hB : B < w.heap.size) (hc : w.cell? ⟨B, 0, none⟩ = some (.int .i64 id)) :
    Calls Try.prog 58 #[.slice a n cap, .func (.func 59) #[] #[.pointer (some ⟨B, 0, none⟩)]] w fun r w' => r = .returned (.int .i64 (shAt id 0 xs)) ∧ Below w.heap.size w w' := by
  have HX := Lib.hid hx; clear hx
  obtain ⟨R, hR⟩ : ∃ R, shAt id 0 xs = R := ⟨_, rfl⟩
  rw [hR]
  have HR := Lib.hid hR; clear hR
  have HC := Lib.hid hc; clear hc
  go_enter Try.func58, Try.ntmps58
  go_wp2
  go_loopw [4, 8] (fun t i wr => ∃ k : Nat, k ≤ n ∧ i = .int .i64 k ∧ Hid (shAt id k (xs.drop k) = R) ∧ Below w.heap.size w wr) (fun _ i _ => n - (intOf i).toNat)
  case atStart => exact ⟨0, Nat.zero_le _, rfl, HR, Below.refl _ _⟩
  case round =>
    obtain ⟨k, hk, rfl, HV, hb⟩ := hrel
    have hz := hb.size
    have HC1 := Lib.hid ((hb.cell (p := ⟨B, 0, none⟩) hB).trans HC.out)
    by_cases hlt : k < n
    · obtain ⟨e, he, _⟩ := at_lt (xs := xs) (k := k) (by rw [HX.out]; exact hlt)
      have HE := Lib.hid he
      obtain ⟨b, off, a1, cap1, rfl, hlb, c0, c1, -⟩ := h.below hb (Nat.le_refl _) k e he
      clear he
      by_cases hi : e.id = id
      · have H := Lib.hid (shAt_yes HV.out HE.out hi)
        have hi' : (e.id == id) = true := by simp [hi]
        clear hi
        go_wp2_with (first | (go_at_call 59; refine (shapeAt1_any _ _ _ _ id B _ (by omega) HC1.out).mono ?_; rintro r w2 ⟨rfl, hb2⟩; obtain ⟨hc2, hf2⟩ := bcell hb2; have hz2 := hb2.size; (try simp only [World.size_alloc, World.size_setCell, World.size_drew] at hz2)))
        go_ret
        exact ⟨ret_int H.out, by ((repeat (first | (with_reducible exact Below.refl _ _) | (with_reducible assumption) | (with_reducible refine Below.alloc ?_ ?_ _) | (with_reducible refine Below.setCell ?_ ?_ _) | (with_reducible refine Below.drew ?_) | (with_reducible refine below_setRow ?_ ?_ _) | (refine Below.trans ?_ (Below.mono (by assumption) ?_)))); all_goals (first | omega | (simp; done) | (simp; omega)))⟩
      · have hi' : (e.id == id) = false := by simp [hi]
        have H := Lib.hid (shAt_no HV.out HE.out hi)
        clear hi
        go_wp2_with (first | (go_at_call 59; refine (shapeAt1_any _ _ _ _ id B _ (by omega) HC1.out).mono ?_; rintro r w2 ⟨rfl, hb2⟩; obtain ⟨hc2, hf2⟩ := bcell hb2; have hz2 := hb2.size; (try simp only [World.size_alloc, World.size_setCell, World.size_drew] at hz2)))
        go_roundw
        case rel => exact ⟨k + 1, by omega, by go_num, H, by ((repeat (first | (with_reducible exact Below.refl _ _) | (with_reducible assumption) | (with_reducible refine Below.alloc ?_ ?_ _) | (with_reducible refine Below.setCell ?_ ?_ _) | (with_reducible refine Below.drew ?_) | (with_reducible refine below_setRow ?_ ?_ _) | (refine Below.trans ?_ (Below.mono (by assumption) ?_)))); all_goals (first | omega | (simp; done) | (simp; omega)))⟩
        case measure => simp [intOf]; omega
    · have H := Lib.hid (shAt_end HV.out (by rw [HX.out]; omega))
      go_wp2
      go_ret
      exact ⟨ret_int H.out, hb⟩
theorem implShapeAt_any (a : Option Addr) (cap n : Nat) (xs : List Shp) (id : Int) (w : World) (h : Shs w a xs) (hx : xs.length = n) (hn : n ≤ 1048576) :
    Calls Try.prog 14 #[.agg #[.slice a n cap], .int .i64 id] w fun r w' => r = .returned (.int .i64 (shAt id 0 xs)) ∧ Below w.heap.size w w' := by
  have HX := Lib.hid hx; clear hx
  have HSs := Lib.hid h; clear h
  go_enter Try.func14, Try.ntmps14
  go_wp2_with (first | (go_at_call 58; refine (indexFuncShp_any _ _ _ xs id _ _ (HSs.out.keep (by ((repeat (first | (with_reducible exact Below.refl _ _) | (with_reducible assumption) | (with_reducible refine Below.alloc ?_ ?_ _) | (with_reducible refine Below.setCell ?_ ?_ _) | (with_reducible refine Below.drew ?_) | (with_reducible refine below_setRow ?_ ?_ _) | (refine Below.trans ?_ (Below.mono (by assumption) ?_)))); all_goals (first | omega | (simp; done) | (simp; omega))))) HX.out hn (by simp) (by simp [go_sem])).mono ?_; rintro r w1 ⟨rfl, hb1⟩; obtain ⟨hc1, hf1⟩ := bcell hb1; have hz1 := hb1.size; (try simp only [World.size_alloc, World.size_setCell, World.size_drew] at hz1)))
  go_ret
  exact ⟨rfl, by ((repeat (first | (with_reducible exact Below.refl _ _) | (with_reducible assumption) | (with_reducible refine Below.alloc ?_ ?_ _) | (with_reducible refine Below.setCell ?_ ?_ _) | (with_reducible refine Below.drew ?_) | (with_reducible refine below_setRow ?_ ?_ _) | (refine Below.trans ?_ (Below.mono (by assumption) ?_)))); all_goals (first | omega | (simp; done) | (simp; omega)))⟩
set_option maxHeartbeats 4000000 in
theorem specFieldAt_any (a : Option Addr) (cap n : Nat) (xs : List Shp) (s m : Int) (w : World) (h : Shs w a xs) (hx : xs.length = n) (hn : n ≤ 1048576) (hm : fldSum xs ≤ 1048576) :
    Calls Try.prog 15 #[.agg #[.slice a n cap], .int .i64 s, .int .i64 m] w fun r w' => r = .returned (.tuple #[(fieldAt xs s m).1.val, .bool (fieldAt xs s m).2]) ∧ Below w.heap.size w w' := by
  have HX := Lib.hid hx; clear hx
  obtain ⟨R, hR⟩ : ∃ R, fieldAt xs s m = R := ⟨_, rfl⟩
  rw [hR]
  by_cases hin : inB s 0 (n - 1) = true
  · have hs : 0 ≤ s ∧ s ≤ n - 1 := by simpa [inB] using hin
    obtain ⟨j, rfl⟩ := Int.eq_ofNat_of_zero_le hs.1
    have hjn : j < n := by omega
    obtain ⟨x, hxj, _⟩ := at_lt (xs := xs) (k := j) (by rw [HX.out]; exact hjn)
    have HR := Lib.hid (show fAt m (x.flds.drop 0) = R by rw [← hR, fieldAt, HX.out, if_pos hin]; simp [hxj])
    have hxl := Nat.le_trans (fldSum_ge hxj) hm
    clear hR
    obtain ⟨b, off, a1, cap1, rfl, hlb, c0, c1, hfl⟩ := h j x hxj
    have HXJ := Lib.hid hxj; clear hxj
    have HSs := Lib.hid h; clear h
    clear hs
    go_enter Try.func15, Try.ntmps15
    go_wp2_with (first | (go_at_call 56; refine (l1In_any _ _ _ _).mono ?_; rintro r w1 ⟨rfl, rfl⟩))
    have hbx : ((w.alloc (.cells #[.slice (some ⟨b, off, none⟩) n cap] 30)).alloc (.cells #[.int .i64 0, .int .i64 0, .bool false, .bool false, .int .i64 0] 47)).heap[w.heap.size + 1]? = some (.cells #[.int .i64 0, .int .i64 0, .bool false, .bool false, .int .i64 0] 47 (0, 0)) := heap_new1 w _ _
    have HBX := Lib.hid hbx; clear hbx
    go_loopw [7, 9] (fun t i wr => ∃ k : Nat, k ≤ x.flds.length ∧ i = .int .i64 k ∧ Hid (fAt m (x.flds.drop k) = R) ∧ Hid (wr.heap[w.heap.size + 1]? = some (.cells #[.int .i64 0, .int .i64 0, .bool false, .bool false, .int .i64 0] 47 (0, 0))) ∧ Below w.heap.size w wr) (fun _ i _ => x.flds.length - (intOf i).toNat)
    case atStart => exact ⟨0, Nat.zero_le _, rfl, HR, HBX, by ((repeat (first | (with_reducible exact Below.refl _ _) | (with_reducible assumption) | (with_reducible refine Below.alloc ?_ ?_ _) | (with_reducible refine Below.setCell ?_ ?_ _) | (with_reducible refine Below.drew ?_) | (with_reducible refine below_setRow ?_ ?_ _) | (refine Below.trans ?_ (Below.mono (by assumption) ?_)))); all_goals (first | omega | (simp; done) | (simp; omega)))⟩
    case round =>
      obtain ⟨k, hk, rfl, HV, HB, hb⟩ := hrel
      have hz := hb.size
      have hz1 : w.heap.size + 1 < wr.heap.size := block_lt HB.out
      by_cases hlt : k < x.flds.length
      · obtain ⟨e, he, _⟩ := at_lt (xs := x.flds) (k := k) hlt
        have HE := Lib.hid he
        obtain ⟨b2, off2, rfl, hlb2, d0, d1, d2, d3, d4⟩ := Flds.at (hfl.below hb (Nat.le_refl _)) he
        clear he
        have x0 := cell_of_blk HB.out 0
        have x1 := cell_of_blk HB.out 1
        have x2 := cell_of_blk HB.out 2
        have x3 := cell_of_blk HB.out 3
        have x4 := cell_of_blk HB.out 4
        have hfz : ∀ j, wr.frozen? ⟨w.heap.size + 1, j, none⟩ = false := fun j => frozen_of_blk HB.out j
        simp only [List.getElem?_toArray, List.getElem?_cons_zero, List.getElem?_cons_succ] at x0 x1 x2 x3 x4
        by_cases hi : e.number = m
        · have H := Lib.hid (fAt_yes HV.out HE.out hi)
          go_wp2
          refine bodyPost_ret (v := .tuple #[e.val, .bool true]) (by simp [results, Try.results15, go_sem, x0, x1, x2, x3, x4, hz1]; try exact hi.symm) rfl ⟨by rw [← H.out], by ((repeat (first | (with_reducible exact Below.refl _ _) | (with_reducible assumption) | (with_reducible refine Below.alloc ?_ ?_ _) | (with_reducible refine Below.setCell ?_ ?_ _) | (with_reducible refine Below.drew ?_) | (with_reducible refine below_setRow ?_ ?_ _) | (refine Below.trans ?_ (Below.mono (by assumption) ?_)))); all_goals (first | omega | (simp; done) | (simp; omega)))⟩
        · have hi' : (e.number == m) = false := by simp [hi]
          have H := Lib.hid (fAt_no HV.out HE.out hi)
          clear hi
          go_wp2
          go_roundw
          case rel => exact ⟨k + 1, by omega, by go_num, H, Lib.hid (by first | exact HB.out | exact (heap_alloc_old hz1).trans HB.out), by ((repeat (first | (with_reducible exact Below.refl _ _) | (with_reducible assumption) | (with_reducible refine Below.alloc ?_ ?_ _) | (with_reducible refine Below.setCell ?_ ?_ _) | (with_reducible refine Below.drew ?_) | (with_reducible refine below_setRow ?_ ?_ _) | (refine Below.trans ?_ (Below.mono (by assumption) ?_)))); all_goals (first | omega | (simp; done) | (simp; omega)))⟩
          case measure => simp [intOf]; omega
      · have H := Lib.hid (fAt_end HV.out (by omega))
        have x0 := cell_of_blk HB.out 0
        have x1 := cell_of_blk HB.out 1
        have x2 := cell_of_blk HB.out 2
        have x3 := cell_of_blk HB.out 3
        have x4 := cell_of_blk HB.out 4
        have hfz : ∀ j, wr.frozen? ⟨w.heap.size + 1, j, none⟩ = false := fun j => frozen_of_blk HB.out j
        simp only [List.getElem?_toArray, List.getElem?_cons_zero, List.getElem?_cons_succ] at x0 x1 x2 x3 x4
        go_wp2
        refine bodyPost_ret (v := .tuple #[zeroF.val, .bool false]) (by simp [results, Try.results15, go_sem, zeroF, x0, x1, x2, x3, x4]) rfl ⟨by rw [← H.out], by ((repeat (first | (with_reducible exact Below.refl _ _) | (with_reducible assumption) | (with_reducible refine Below.alloc ?_ ?_ _) | (with_reducible refine Below.setCell ?_ ?_ _) | (with_reducible refine Below.drew ?_) | (with_reducible refine below_setRow ?_ ?_ _) | (refine Below.trans ?_ (Below.mono (by assumption) ?_)))); all_goals (first | omega | (simp; done) | (simp; omega)))⟩
  · have hin' : inB s 0 (n - 1) = false := by simpa using hin
    have H := Lib.hid (show (zeroF, false) = R by rw [← hR, fieldAt, HX.out, if_neg hin])
    clear hin hR
    have HSs := Lib.hid h; clear h
    go_enter Try.func15, Try.ntmps15
    go_wp2_with (first | (go_at_call 56; refine (l1In_any _ _ _ _).mono ?_; rintro r w1 ⟨rfl, rfl⟩))
    refine bodyPost_ret (v := .tuple #[zeroF.val, .bool false]) (by simp [results, Try.results15, go_sem, zeroF]) rfl ⟨by rw [← H.out], by ((repeat (first | (with_reducible exact Below.refl _ _) | (with_reducible assumption) | (with_reducible refine Below.alloc ?_ ?_ _) | (with_reducible refine Below.setCell ?_ ?_ _) | (with_reducible refine Below.drew ?_) | (with_reducible refine below_setRow ?_ ?_ _) | (refine Below.trans ?_ (Below.mono (by assumption) ?_)))); all_goals (first | omega | (simp; done) | (simp; omega)))⟩
set_option maxHeartbeats 4000000 in
theorem implFieldAt_any (a : Option Addr) (cap n : Nat) (xs : List Shp) (s m : Int) (w : World) (h : Shs w a xs) (hx : xs.length = n) (hn : n ≤ 1048576) (hm : fldSum xs ≤ 1048576) :
    Calls Try.prog 16 #[.agg #[.slice a n cap], .int .i64 s, .int .i64 m] w fun r w' => r = .returned (.tuple #[(fieldAt xs s m).1.val, .bool (fieldAt xs s m).2]) ∧ Below w.heap.size w w' := by
  have HX := Lib.hid hx; clear hx
  obtain ⟨R, hR⟩ : ∃ R, fieldAt xs s m = R := ⟨_, rfl⟩
  rw [hR]
  by_cases hin : inB s 0 (n - 1) = true
  · have hs : 0 ≤ s ∧ s ≤ n - 1 := by simpa [inB] using hin
    obtain ⟨j, rfl⟩ := Int.eq_ofNat_of_zero_le hs.1
    have hjn : j < n := by omega
    obtain ⟨x, hxj, _⟩ := at_lt (xs := xs) (k := j) (by rw [HX.out]; exact hjn)
    have HR := Lib.hid (show fAt m (x.flds.drop 0) = R by rw [← hR, fieldAt, HX.out, if_pos hin]; simp [hxj])
    have hxl := Nat.le_trans (fldSum_ge hxj) hm
    clear hR
    obtain ⟨b, off, a1, cap1, rfl, hlb, c0, c1, hfl⟩ := h j x hxj
    have HXJ := Lib.hid hxj; clear hxj
    have HSs := Lib.hid h; clear h
    clear hs
    go_enter Try.func16, Try.ntmps16
    go_wp2_with (first | (go_at_call 60; refine (within_any _ _ _ _).mono ?_; rintro r w1 ⟨rfl, rfl⟩))
    have hbx : ((w.alloc (.cells #[.slice (some ⟨b, off, none⟩) n cap] 30)).alloc (.cells #[.int .i64 0, .int .i64 0, .bool false, .bool false, .int .i64 0] 47)).heap[w.heap.size + 1]? = some (.cells #[.int .i64 0, .int .i64 0, .bool false, .bool false, .int .i64 0] 47 (0, 0)) := heap_new1 w _ _
    have HBX := Lib.hid hbx; clear hbx
    go_loopw [7, 25] (fun t i wr => ∃ k : Nat, k ≤ x.flds.length ∧ i = .int .i64 k ∧ Hid (fAt m (x.flds.drop k) = R) ∧ Hid (wr.heap[w.heap.size + 1]? = some (.cells #[.int .i64 0, .int .i64 0, .bool false, .bool false, .int .i64 0] 47 (0, 0))) ∧ Below w.heap.size w wr) (fun _ i _ => x.flds.length - (intOf i).toNat)
    case atStart => exact ⟨0, Nat.zero_le _, rfl, HR, HBX, by ((repeat (first | (with_reducible exact Below.refl _ _) | (with_reducible assumption) | (with_reducible refine Below.alloc ?_ ?_ _) | (with_reducible refine Below.setCell ?_ ?_ _) | (with_reducible refine Below.drew ?_) | (with_reducible refine below_setRow ?_ ?_ _) | (refine Below.trans ?_ (Below.mono (by assumption) ?_)))); all_goals (first | omega | (simp; done) | (simp; omega)))⟩
    case round =>
      obtain ⟨k, hk, rfl, HV, HB, hb⟩ := hrel
      have hz := hb.size
      have hz1 : w.heap.size + 1 < wr.heap.size := block_lt HB.out
      by_cases hlt : k < x.flds.length
      · obtain ⟨e, he, _⟩ := at_lt (xs := x.flds) (k := k) hlt
        have HE := Lib.hid he
        obtain ⟨b2, off2, rfl, hlb2, d0, d1, d2, d3, d4⟩ := Flds.at (hfl.below hb (Nat.le_refl _)) he
        clear he
        have x0 := cell_of_blk HB.out 0
        have x1 := cell_of_blk HB.out 1
        have x2 := cell_of_blk HB.out 2
        have x3 := cell_of_blk HB.out 3
        have x4 := cell_of_blk HB.out 4
        have hfz : ∀ j, wr.frozen? ⟨w.heap.size + 1, j, none⟩ = false := fun j => frozen_of_blk HB.out j
        simp only [List.getElem?_toArray, List.getElem?_cons_zero, List.getElem?_cons_succ] at x0 x1 x2 x3 x4
        by_cases hi : e.number = m
        · have H := Lib.hid (fAt_yes HV.out HE.out hi)
          go_wp2
          refine bodyPost_ret (v := .tuple #[e.val, .bool true]) (by simp [results, Try.results16, go_sem, x0, x1, x2, x3, x4, hz1]; try exact hi.symm) rfl ⟨by rw [← H.out], by ((repeat (first | (with_reducible exact Below.refl _ _) | (with_reducible assumption) | (with_reducible refine Below.alloc ?_ ?_ _) | (with_reducible refine Below.setCell ?_ ?_ _) | (with_reducible refine Below.drew ?_) | (with_reducible refine below_setRow ?_ ?_ _) | (refine Below.trans ?_ (Below.mono (by assumption) ?_)))); all_goals (first | omega | (simp; done) | (simp; omega)))⟩
        · have hi' : (e.number == m) = false := by simp [hi]
          have H := Lib.hid (fAt_no HV.out HE.out hi)
          clear hi
          go_wp2
          go_roundw
          case rel => exact ⟨k + 1, by omega, by go_num, H, Lib.hid (by first | exact HB.out | exact (heap_alloc_old hz1).trans HB.out), by ((repeat (first | (with_reducible exact Below.refl _ _) | (with_reducible assumption) | (with_reducible refine Below.alloc ?_ ?_ _) | (with_reducible refine Below.setCell ?_ ?_ _) | (with_reducible refine Below.drew ?_) | (with_reducible refine below_setRow ?_ ?_ _) | (refine Below.trans ?_ (Below.mono (by assumption) ?_)))); all_goals (first | omega | (simp; done) | (simp; omega)))⟩
          case measure => simp [intOf]; omega
      · have H := Lib.hid (fAt_end HV.out (by omega))
        have x0 := cell_of_blk HB.out 0
        have x1 := cell_of_blk HB.out 1
        have x2 := cell_of_blk HB.out 2
        have x3 := cell_of_blk HB.out 3
        have x4 := cell_of_blk HB.out 4
        have hfz : ∀ j, wr.frozen? ⟨w.heap.size + 1, j, none⟩ = false := fun j => frozen_of_blk HB.out j
        simp only [List.getElem?_toArray, List.getElem?_cons_zero, List.getElem?_cons_succ] at x0 x1 x2 x3 x4
        go_wp2
        refine bodyPost_ret (v := .tuple #[zeroF.val, .bool false]) (by simp [results, Try.results16, go_sem, zeroF, x0, x1, x2, x3, x4]) rfl ⟨by rw [← H.out], by ((repeat (first | (with_reducible exact Below.refl _ _) | (with_reducible assumption) | (with_reducible refine Below.alloc ?_ ?_ _) | (with_reducible refine Below.setCell ?_ ?_ _) | (with_reducible refine Below.drew ?_) | (with_reducible refine below_setRow ?_ ?_ _) | (refine Below.trans ?_ (Below.mono (by assumption) ?_)))); all_goals (first | omega | (simp; done) | (simp; omega)))⟩
  · have hin' : inB s 0 (n - 1) = false := by simpa using hin
    have H := Lib.hid (show (zeroF, false) = R by rw [← hR, fieldAt, HX.out, if_neg hin])
    clear hin hR
    have HSs := Lib.hid h; clear h
    go_enter Try.func16, Try.ntmps16
    go_wp2_with (first | (go_at_call 60; refine (within_any _ _ _ _).mono ?_; rintro r w1 ⟨rfl, rfl⟩))
    refine bodyPost_ret (v := .tuple #[zeroF.val, .bool false]) (by simp [results, Try.results16, go_sem, zeroF]) rfl ⟨by rw [← H.out], by ((repeat (first | (with_reducible exact Below.refl _ _) | (with_reducible assumption) | (with_reducible refine Below.alloc ?_ ?_ _) | (with_reducible refine Below.setCell ?_ ?_ _) | (with_reducible refine Below.drew ?_) | (with_reducible refine below_setRow ?_ ?_ _) | (refine Below.trans ?_ (Below.mono (by assumption) ?_)))); all_goals (first | omega | (simp; done) | (simp; omega)))⟩

end Go.Proofs.Ytbgejldjgkihaaa
