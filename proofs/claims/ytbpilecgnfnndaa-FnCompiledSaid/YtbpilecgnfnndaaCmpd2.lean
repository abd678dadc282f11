/- Texts that FnCompiled leans on, part 2. (Put together by wip/tools/bundle.py.) -/
import Derived.IntWalk
import Derived.Test.YtbpilecgnfnndaaCmpd1
namespace Go.Proofs.Ytbpilecgnfnndaa
set_option linter.unusedSimpArgs false
set_option linter.unusedVariables false
open Go.ChangeShapes Go.WideShapes Go.ChangeAt Go.RowKit Go.BigFrame
def shAt (id : Int) : Nat → List Shp → Int
  | _, [] => -1
  | k, x :: xs => if x.id = id then k else shAt id (k + 1) xs
def zeroF : Fld := ⟨0, 0, false, false, 0⟩
def fAt (n : Int) : List Fld → Fld × Bool
  | [] => (zeroF, false)
  | f :: fs => if f.number = n then (f, true) else fAt n fs
def fieldAt (xs : List Shp) (s n : Int) : Fld × Bool := if inB s 0 (xs.length - 1) then fAt n ((xs[s.toNat]?.map Shp.flds).getD []) else (zeroF, false)
theorem shAt_yes {id : Int} {k : Nat} {xs : List Shp} {e : Shp} {R : Int} (h : shAt id k (xs.drop k) = R) (he : xs[k]? = some e) (hi : e.id = id) : (k : Int) = R := by
  rw [drop_cons he, shAt, if_pos hi] at h; exact h
theorem shAt_no {id : Int} {k : Nat} {xs : List Shp} {e : Shp} {R : Int} (h : shAt id k (xs.drop k) = R) (he : xs[k]? = some e) (hi : ¬ e.id = id) : shAt id (k + 1) (xs.drop (k + 1)) = R := by
  rw [drop_cons he, shAt, if_neg hi] at h; exact h
theorem shAt_end {id : Int} {k : Nat} {xs : List Shp} {R : Int} (h : shAt id k (xs.drop k) = R) (hk : xs.length ≤ k) : (-1 : Int) = R := by
  rw [List.drop_of_length_le hk] at h; exact h
theorem fAt_yes {n : Int} {k : Nat} {xs : List Fld} {e : Fld} {R : Fld × Bool} (h : fAt n (xs.drop k) = R) (he : xs[k]? = some e) (hi : e.number = n) : (e, true) = R := by
  rw [drop_cons he, fAt, if_pos hi] at h; exact h
theorem fAt_no {n : Int} {k : Nat} {xs : List Fld} {e : Fld} {R : Fld × Bool} (h : fAt n (xs.drop k) = R) (he : xs[k]? = some e) (hi : ¬ e.number = n) : fAt n (xs.drop (k + 1)) = R := by
  rw [drop_cons he, fAt, if_neg hi] at h; exact h
theorem fAt_end {n : Int} {k : Nat} {xs : List Fld} {R : Fld × Bool} (h : fAt n (xs.drop k) = R) (hk : xs.length ≤ k) : (zeroF, false) = R := by
  rw [List.drop_of_length_le hk] at h; exact h
theorem block_lt {w : World} {b : Nat} {o : Obj} (h : w.heap[b]? = some o) : b < w.heap.size := by
  rcases Nat.lt_or_ge b w.heap.size with h1 | h1
  · exact h1
  · rw [Array.getElem?_eq_none h1] at h; simp at h
theorem heap_new1 (w : World) (o1 o2 : Obj) : ((w.alloc o1).alloc o2).heap[w.heap.size + 1]? = some o2 := by
  have h := heap_alloc_new (w.alloc o1) o2
  rw [World.size_alloc] at h; exact h
theorem cell_of_blk {w : World} {b : Nat} {cs : Array Value} {t : TypeId} (h : w.heap[b]? = some (.cells cs t (0, 0))) (i : Nat) : w.cell? ⟨b, i, none⟩ = cs[i]? := by simp [World.cell?, h]
theorem frozen_of_blk {w : World} {b : Nat} {cs : Array Value} {t : TypeId} (h : w.heap[b]? = some (.cells cs t (0, 0))) (i : Nat) : w.frozen? ⟨b, i, none⟩ = false := by simp [World.frozen?, h]
theorem heap_alloc_old {w : World} {b : Nat} {o : Obj} (h : b < w.heap.size) : (w.alloc o).heap[b]? = w.heap[b]? := Below.heap_alloc w o b h
theorem shapeAt1_any (x : Int) (a : Option Addr) (m cap : Nat) (id : Int) (B : Nat) (w : World) (hB : B < w.heap.size) (hc : w.cell? ⟨B, 0, none⟩ = some (.int .i64 id)) :
    Calls Try.prog 46 #[.agg #[.int .i64 x, .slice a m cap], .pointer (some ⟨B, 0, none⟩)] w fun r w' => r = .returned (.bool (x == id)) ∧ Below w.heap.size w w' := by
  go_enter Try.func46, Try.ntmps46
  go_wp2
  go_ret
  exact ⟨rfl, by ((repeat (first | (with_reducible exact Below.refl _ _) | (with_reducible assumption) | (with_reducible refine Below.alloc ?_ ?_ _) | (with_reducible refine Below.setCell ?_ ?_ _) | (with_reducible refine Below.drew ?_) | (with_reducible refine below_setRow ?_ ?_ _) | (refine Below.trans ?_ (Below.mono (by assumption) ?_)))); all_goals (first | omega | (simp; done) | (simp; omega)))⟩
set_option maxHeartbeats 2000000 in
theorem indexFuncShp_any (a : Option Addr) (cap n : Nat) (xs : List Shp) (id : Int) (B : Nat) (w : World) (h : Shs w a xs) (hx : xs.length = n) (hn : n ≤ 1048576) (hB : B < w.heap.size) (hc : w.cell? ⟨B, 0, none⟩ = some (.int .i64 id)) :
    Calls Try.prog 45 #[.slice a n cap, .func (.func 46) #[] #[.pointer (some ⟨B, 0, none⟩)]] w fun r w' => r = .returned (.int .i64 (shAt id 0 xs)) ∧ Below w.heap.size w w' := by
  have HX := Lib.hid hx; clear hx
  obtain ⟨R, hR⟩ : ∃ R, shAt id 0 xs = R := ⟨_, rfl⟩
  rw [hR]
  have HR := Lib.hid hR; clear hR
  have HC := Lib.hid hc; clear hc
  go_enter Try.func45, Try.ntmps45
  go_wp2
  go_loopw [4, 8] (fun t i wr => ∃ k : Nat, k ≤ n ∧ i = .int .i64 k ∧ Hid (shAt id k (xs.drop k) = R) ∧ Below w.heap.size w wr) (fun _ i _ => n - (intOf i).toNat)
  case atStart => exact ⟨0, Nat.zero_le _, rfl, HR, Below.refl _ _⟩
  case round =>
    obtain ⟨k, hk, rfl, HV, hb⟩ := hrel
    have hz := hb.size
    have HC1 := Lib.hid ((hb.cell (p := ⟨B, 0, none⟩) hB).trans HC.out)
    by_cases hlt : k < n
    · obtain ⟨e, he, _⟩ := at_lt (xs := xs) (k := k) (by rw [HX.out]; exact hlt)
      have HE := Lib.hid he
      obtain ⟨b, off, a1, cap1, rfl, hlb, c0, c1, -⟩ := h.below hb (Nat.le_refl _) k e he
      clear he
      by_cases hi : e.id = id
      · have H := Lib.hid (shAt_yes HV.out HE.out hi)
        have hi' : (e.id == id) = true := by simp [hi]
        clear hi
        go_wp2_with (first | (go_at_call 46; refine (shapeAt1_any _ _ _ _ id B _ (by omega) HC1.out).mono ?_; rintro r w2 ⟨rfl, hb2⟩; obtain ⟨hc2, hf2⟩ := bcell hb2; have hz2 := hb2.size; (try simp only [World.size_alloc, World.size_setCell, World.size_drew] at hz2)))
        go_ret
        exact ⟨ret_int H.out, by ((repeat (first | (with_reducible exact Below.refl _ _) | (with_reducible assumption) | (with_reducible refine Below.alloc ?_ ?_ _) | (with_reducible refine Below.setCell ?_ ?_ _) | (with_reducible refine Below.drew ?_) | (with_reducible refine below_setRow ?_ ?_ _) | (refine Below.trans ?_ (Below.mono (by assumption) ?_)))); all_goals (first | omega | (simp; done) | (simp; omega)))⟩
      · have hi' : (e.id == id) = false := by simp [hi]
        have H := Lib.hid (shAt_no HV.out HE.out hi)
        clear hi
        go_wp2_with (first | (go_at_call 46; refine (shapeAt1_any _ _ _ _ id B _ (by omega) HC1.out).mono ?_; rintro r w2 ⟨rfl, hb2⟩; obtain ⟨hc2, hf2⟩ := bcell hb2; have hz2 := hb2.size; (try simp only [World.size_alloc, World.size_setCell, World.size_drew] at hz2)))
        go_roundw
        case rel => exact ⟨k + 1, by omega, by go_num, H, by ((repeat (first | (with_reducible exact Below.refl _ _) | (with_reducible assumption) | (with_reducible refine Below.alloc ?_ ?_ _) | (with_reducible refine Below.setCell ?_ ?_ _) | (with_reducible refine Below.drew ?_) | (with_reducible refine below_setRow ?_ ?_ _) | (refine Below.trans ?_ (Below.mono (by assumption) ?_)))); all_goals (first | omega | (simp; done) | (simp; omega)))⟩
        case measure => simp [intOf]; omega
    · have H := Lib.hid (shAt_end HV.out (by rw [HX.out]; omega))
      go_wp2
      go_ret
      exact ⟨ret_int H.out, hb⟩
theorem implShapeAt_any (a : Option Addr) (cap n : Nat) (xs : List Shp) (id : Int) (w : World) (h : Shs w a xs) (hx : xs.length = n) (hn : n ≤ 1048576) :
    Calls Try.prog 12 #[.agg #[.slice a n cap], .int .i64 id] w fun r w' => r = .returned (.int .i64 (shAt id 0 xs)) ∧ Below w.heap.size w w' := by
  have HX := Lib.hid hx; clear hx
  have HSs := Lib.hid h; clear h
  go_enter Try.func12, Try.ntmps12
  go_wp2_with (first | (go_at_call 45; refine (indexFuncShp_any _ _ _ xs id _ _ (HSs.out.keep (by ((repeat (first | (with_reducible exact Below.refl _ _) | (with_reducible assumption) | (with_reducible refine Below.alloc ?_ ?_ _) | (with_reducible refine Below.setCell ?_ ?_ _) | (with_reducible refine Below.drew ?_) | (with_reducible refine below_setRow ?_ ?_ _) | (refine Below.trans ?_ (Below.mono (by assumption) ?_)))); all_goals (first | omega | (simp; done) | (simp; omega))))) HX.out hn (by simp) (by simp [go_sem])).mono ?_; rintro r w1 ⟨rfl, hb1⟩; obtain ⟨hc1, hf1⟩ := bcell hb1; have hz1 := hb1.size; (try simp only [World.size_alloc, World.size_setCell, World.size_drew] at hz1)))
  go_ret
  exact ⟨rfl, by ((repeat (first | (with_reducible exact Below.refl _ _) | (with_reducible assumption) | (with_reducible refine Below.alloc ?_ ?_ _) | (with_reducible refine Below.setCell ?_ ?_ _) | (with_reducible refine Below.drew ?_) | (with_reducible refine below_setRow ?_ ?_ _) | (refine Below.trans ?_ (Below.mono (by assumption) ?_)))); all_goals (first | omega | (simp; done) | (simp; omega)))⟩
set_option maxHeartbeats 4000000 in
theorem specFieldAt_any (a : Option Addr) (cap n : Nat) (xs : List Shp) (s m : Int) (w : World) (h : Shs w a xs) (hx : xs.length = n) (hn : n ≤ 1048576) (hm : fldSum xs ≤ 1048576) :
    Calls Try.prog 13 #[.agg #[.slice a n cap], .int .i64 s, .int .i64 m] w fun r w' => r = .returned (.tuple #[(fieldAt xs s m).1.val, .bool (fieldAt xs s m).2]) ∧ Below w.heap.size w w' := by
  have HX := Lib.hid hx; clear hx
  obtain ⟨R, hR⟩ : ∃ R, fieldAt xs s m = R := ⟨_, rfl⟩
  rw [hR]
  by_cases hin : inB s 0 (n - 1) = true
  · have hs : 0 ≤ s ∧ s ≤ n - 1 := by simpa [inB] using hin
    obtain ⟨j, rfl⟩ := Int.eq_ofNat_of_zero_le hs.1
    have hjn : j < n := by omega
    obtain ⟨x, hxj, _⟩ := at_lt (xs := xs) (k := j) (by rw [HX.out]; exact hjn)
    have HR := Lib.hid (show fAt m (x.flds.drop 0) = R by rw [← hR, fieldAt, HX.out, if_pos hin]; simp [hxj])
    have hxl := Nat.le_trans (fldSum_ge hxj) hm
    clear hR
    obtain ⟨b, off, a1, cap1, rfl, hlb, c0, c1, hfl⟩ := h j x hxj
    have HXJ := Lib.hid hxj; clear hxj
    have HSs := Lib.hid h; clear h
    clear hs
    go_enter Try.func13, Try.ntmps13
    go_wp2_with (first | (go_at_call 43; refine (l1In_any _ _ _ _).mono ?_; rintro r w1 ⟨rfl, rfl⟩))
    have hbx : ((w.alloc (.cells #[.slice (some ⟨b, off, none⟩) n cap] 30)).alloc (.cells #[.int .i64 0, .int .i64 0, .bool false, .bool false, .int .i64 0] 47)).heap[w.heap.size + 1]? = some (.cells #[.int .i64 0, .int .i64 0, .bool false, .bool false, .int .i64 0] 47 (0, 0)) := heap_new1 w _ _
    have HBX := Lib.hid hbx; clear hbx
    go_loopw [7, 9] (fun t i wr => ∃ k : Nat, k ≤ x.flds.length ∧ i = .int .i64 k ∧ Hid (fAt m (x.flds.drop k) = R) ∧ Hid (wr.heap[w.heap.size + 1]? = some (.cells #[.int .i64 0, .int .i64 0, .bool false, .bool false, .int .i64 0] 47 (0, 0))) ∧ Below w.heap.size w wr) (fun _ i _ => x.flds.length - (intOf i).toNat)
    case atStart => exact ⟨0, Nat.zero_le _, rfl, HR, HBX, by ((repeat (first | (with_reducible exact Below.refl _ _) | (with_reducible assumption) | (with_reducible refine Below.alloc ?_ ?_ _) | (with_reducible refine Below.setCell ?_ ?_ _) | (with_reducible refine Below.drew ?_) | (with_reducible refine below_setRow ?_ ?_ _) | (refine Below.trans ?_ (Below.mono (by assumption) ?_)))); all_goals (first | omega | (simp; done) | (simp; omega)))⟩
    case round =>
      obtain ⟨k, hk, rfl, HV, HB, hb⟩ := hrel
      have hz := hb.size
      have hz1 : w.heap.size + 1 < wr.heap.size := block_lt HB.out
      by_cases hlt : k < x.flds.length
      · obtain ⟨e, he, _⟩ := at_lt (xs := x.flds) (k := k) hlt
        have HE := Lib.hid he
        obtain ⟨b2, off2, rfl, hlb2, d0, d1, d2, d3, d4⟩ := Flds.at (hfl.below hb (Nat.le_refl _)) he
        clear he
        have x0 := cell_of_blk HB.out 0
        have x1 := cell_of_blk HB.out 1
        have x2 := cell_of_blk HB.out 2
        have x3 := cell_of_blk HB.out 3
        have x4 := cell_of_blk HB.out 4
        have hfz : ∀ j, wr.frozen? ⟨w.heap.size + 1, j, none⟩ = false := fun j => frozen_of_blk HB.out j
        simp only [List.getElem?_toArray, List.getElem?_cons_zero, List.getElem?_cons_succ] at x0 x1 x2 x3 x4
        by_cases hi : e.number = m
        · have H := Lib.hid (fAt_yes HV.out HE.out hi)
          go_wp2
          refine bodyPost_ret (v := .tuple #[e.val, .bool true]) (by simp [results, Try.results13, go_sem, x0, x1, x2, x3, x4, hz1]; try exact hi.symm) rfl ⟨by rw [← H.out], by ((repeat (first | (with_reducible exact Below.refl _ _) | (with_reducible assumption) | (with_reducible refine Below.alloc ?_ ?_ _) | (with_reducible refine Below.setCell ?_ ?_ _) | (with_reducible refine Below.drew ?_) | (with_reducible refine below_setRow ?_ ?_ _) | (refine Below.trans ?_ (Below.mono (by assumption) ?_)))); all_goals (first | omega | (simp; done) | (simp; omega)))⟩
        · have hi' : (e.number == m) = false := by simp [hi]
          have H := Lib.hid (fAt_no HV.out HE.out hi)
          clear hi
          go_wp2
          go_roundw
          case rel => exact ⟨k + 1, by omega, by go_num, H, Lib.hid (by first | exact HB.out | exact (heap_alloc_old hz1).trans HB.out), by ((repeat (first | (with_reducible exact Below.refl _ _) | (with_reducible assumption) | (with_reducible refine Below.alloc ?_ ?_ _) | (with_reducible refine Below.setCell ?_ ?_ _) | (with_reducible refine Below.drew ?_) | (with_reducible refine below_setRow ?_ ?_ _) | (refine Below.trans ?_ (Below.mono (by assumption) ?_)))); all_goals (first | omega | (simp; done) | (simp; omega)))⟩
          case measure => simp [intOf]; omega
      · have H := Lib.hid (fAt_end HV.out (by omega))
        have x0 := cell_of_blk HB.out 0
        have x1 := cell_of_blk HB.out 1
        have x2 := cell_of_blk HB.out 2
        have x3 := cell_of_blk HB.out 3
        have x4 := cell_of_blk HB.out 4
        have hfz : ∀ j, wr.frozen? ⟨w.heap.size + 1, j, none⟩ = false := fun j => frozen_of_blk HB.out j
        simp only [List.getElem?_toArray, List.getElem?_cons_zero, List.getElem?_cons_succ] at x0 x1 x2 x3 x4
        go_wp2
        refine bodyPost_ret (v := .tuple #[zeroF.val, .bool false]) (by simp [results, Try.results13, go_sem, zeroF, x0, x1, x2, x3, x4]) rfl ⟨by rw [← H.out], by ((repeat (first | (with_reducible exact Below.refl _ _) | (with_reducible assumption) | (with_reducible refine Below.alloc ?_ ?_ _) | (with_reducible refine Below.setCell ?_ ?_ _) | (with_reducible refine Below.drew ?_) | (with_reducible refine below_setRow ?_ ?_ _) | (refine Below.trans ?_ (Below.mono (by assumption) ?_)))); all_goals (first | omega | (simp; done) | (simp; omega)))⟩
  · have hin' : inB s 0 (n - 1) = false := by simpa using hin
    have H := Lib.hid (show (zeroF, false) = R by rw [← hR, fieldAt, HX.out, if_neg hin])
    clear hin hR
    have HSs := Lib.hid h; clear h
    go_enter Try.func13, Try.ntmps13
    go_wp2_with (first | (go_at_call 43; refine (l1In_any _ _ _ _).mono ?_; rintro r w1 ⟨rfl, rfl⟩))
    refine bodyPost_ret (v := .tuple #[zeroF.val, .bool false]) (by simp [results, Try.results13, go_sem, zeroF]) rfl ⟨by rw [← H.out], by ((repeat (first | (with_reducible exact Below.refl _ _) | (with_reducible assumption) | (with_reducible refine Below.alloc ?_ ?_ _) | (with_reducible refine Below.setCell ?_ ?_ _) | (with_reducible refine Below.drew ?_) | (with_reducible refine below_setRow ?_ ?_ _) | (refine Below.trans ?_ (Below.mono (by assumption) ?_)))); all_goals (first | omega | (simp; done) | (simp; omega)))⟩
set_option maxHeartbeats 4000000 in
theorem implFieldAt_any (a : Option Addr) (cap n : Nat) (xs : List Shp) (s m : Int) (w : World) (h : Shs w a xs) (hx : xs.length = n) (hn : n ≤ 1048576) (hm : fldSum xs ≤ 1048576) :
    Calls Try.prog 14 #[.agg #[.slice a n cap], .int .i64 s, .int .i64 m] w fun r w' => r = .returned (.tuple #[(fieldAt xs s m).1.val, .bool (fieldAt xs s m).2]) ∧ Below w.heap.size w w' := by
  have HX := Lib.hid hx; clear hx
  obtain ⟨R, hR⟩ : ∃ R, fieldAt xs s m = R := ⟨_, rfl⟩
  rw [hR]
  by_cases hin : inB s 0 (n - 1) = true
  · have hs : 0 ≤ s ∧ s ≤ n - 1 := by simpa [inB] using hin
    obtain ⟨j, rfl⟩ := Int.eq_ofNat_of_zero_le hs.1
    have hjn : j < n := by omega
    obtain ⟨x, hxj, _⟩ := at_lt (xs := xs) (k := j) (by rw [HX.out]; exact hjn)
    have HR := Lib.hid (show fAt m (x.flds.drop 0) = R by rw [← hR, fieldAt, HX.out, if_pos hin]; simp [hxj])
    have hxl := Nat.le_trans (fldSum_ge hxj) hm
    clear hR
    obtain ⟨b, off, a1, cap1, rfl, hlb, c0, c1, hfl⟩ := h j x hxj
    have HXJ := Lib.hid hxj; clear hxj
    have HSs := Lib.hid h; clear h
    clear hs
    go_enter Try.func14, Try.ntmps14
    go_wp2_with (first | (go_at_call 47; refine (within_any _ _ _ _).mono ?_; rintro r w1 ⟨rfl, rfl⟩))
    have hbx : ((w.alloc (.cells #[.slice (some ⟨b, off, none⟩) n cap] 30)).alloc (.cells #[.int .i64 0, .int .i64 0, .bool false, .bool false, .int .i64 0] 47)).heap[w.heap.size + 1]? = some (.cells #[.int .i64 0, .int .i64 0, .bool false, .bool false, .int .i64 0] 47 (0, 0)) := heap_new1 w _ _
    have HBX := Lib.hid hbx; clear hbx
    go_loopw [7, 25] (fun t i wr => ∃ k : Nat, k ≤ x.flds.length ∧ i = .int .i64 k ∧ Hid (fAt m (x.flds.drop k) = R) ∧ Hid (wr.heap[w.heap.size + 1]? = some (.cells #[.int .i64 0, .int .i64 0, .bool false, .bool false, .int .i64 0] 47 (0, 0))) ∧ Below w.heap.size w wr) (fun _ i _ => x.flds.length - (intOf i).toNat)
    case atStart => exact ⟨0, Nat.zero_le _, rfl, HR, HBX, by ((repeat (first | (with_reducible exact Below.refl _ _) | (with_reducible assumption) | (with_reducible refine Below.alloc ?_ ?_ _) | (with_reducible refine Below.setCell ?_ ?_ _) | (with_reducible refine Below.drew ?_) | (with_reducible refine below_setRow ?_ ?_ _) | (refine Below.trans ?_ (Below.mono (by assumption) ?_)))); all_goals (first | omega | (simp; done) | (simp; omega)))⟩
    case round =>
      obtain ⟨k, hk, rfl, HV, HB, hb⟩ := hrel
      have hz := hb.size
      have hz1 : w.heap.size + 1 < wr.heap.size := block_lt HB.out
      by_cases hlt : k < x.flds.length
      · obtain ⟨e, he, _⟩ := at_lt (xs := x.flds) (k := k) hlt
        have HE := Lib.hid he
        obtain ⟨b2, off2, rfl, hlb2, d0, d1, d2, d3, d4⟩ := Flds.at (hfl.below hb (Nat.le_refl _)) he
        clear he
        have x0 := cell_of_blk HB.out 0
        have x1 := cell_of_blk HB.out 1
        have x2 := cell_of_blk HB.out 2
        have x3 := cell_of_blk HB.out 3
        have x4 := cell_of_blk HB.out 4
        have hfz : ∀ j, wr.frozen? ⟨w.heap.size + 1, j, none⟩ = false := fun j => frozen_of_blk HB.out j
        simp only [List.getElem?_toArray, List.getElem?_cons_zero, List.getElem?_cons_succ] at x0 x1 x2 x3 x4
        by_cases hi : e.number = m
        · have H := Lib.hid (fAt_yes HV.out HE.out hi)
          go_wp2
          refine bodyPost_ret (v := .tuple #[e.val, .bool true]) (by simp [results, Try.results14, go_sem, x0, x1, x2, x3, x4, hz1]; try exact hi.symm) rfl ⟨by rw [← H.out], by ((repeat (first | (with_reducible exact Below.refl _ _) | (with_reducible assumption) | (with_reducible refine Below.alloc ?_ ?_ _) | (with_reducible refine Below.setCell ?_ ?_ _) | (with_reducible refine Below.drew ?_) | (with_reducible refine below_setRow ?_ ?_ _) | (refine Below.trans ?_ (Below.mono (by assumption) ?_)))); all_goals (first | omega | (simp; done) | (simp; omega)))⟩
        · have hi' : (e.number == m) = false := by simp [hi]
          have H := Lib.hid (fAt_no HV.out HE.out hi)
          clear hi
          go_wp2
          go_roundw
          case rel => exact ⟨k + 1, by omega, by go_num, H, Lib.hid (by first | exact HB.out | exact (heap_alloc_old hz1).trans HB.out), by ((repeat (first | (with_reducible exact Below.refl _ _) | (with_reducible assumption) | (with_reducible refine Below.alloc ?_ ?_ _) | (with_reducible refine Below.setCell ?_ ?_ _) | (with_reducible refine Below.drew ?_) | (with_reducible refine below_setRow ?_ ?_ _) | (refine Below.trans ?_ (Below.mono (by assumption) ?_)))); all_goals (first | omega | (simp; done) | (simp; omega)))⟩
          case measure => simp [intOf]; omega
      · have H := Lib.hid (fAt_end HV.out (by omega))
        have x0 := cell_of_blk HB.out 0
        have x1 := cell_of_blk HB.out 1
        have x2 := cell_of_blk HB.out 2
        have x3 := cell_of_blk HB.out 3
        have x4 := cell_of_blk HB.out 4
        have hfz : ∀ j, wr.frozen? ⟨w.heap.size + 1, j, none⟩ = false := fun j => frozen_of_blk HB.out j
        simp only [List.getElem?_toArray, List.getElem?_cons_zero, List.getElem?_cons_succ] at x0 x1 x2 x3 x4
        go_wp2
        refine bodyPost_ret (v := .tuple #[zeroF.val, .bool false]) (by simp [results, Try.results14, go_sem, zeroF, x0, x1, x2, x3, x4]) rfl ⟨by rw [← H.out], by ((repeat (first | (with_reducible exact Below.refl _ _) | (with_reducible assumption) | (with_reducible refine Below.alloc ?_ ?_ _) | (with_reducible refine Below.setCell ?_ ?_ _) | (with_reducible refine Below.drew ?_) | (with_reducible refine below_setRow ?_ ?_ _) | (refine Below.trans ?_ (Below.mono (by assumption) ?_)))); all_goals (first | omega | (simp; done) | (simp; omega)))⟩
  · have hin' : inB s 0 (n - 1) = false := by simpa using hin
    have H := Lib.hid (show (zeroF, false) = R by rw [← hR, fieldAt, HX.out, if_neg hin])
    clear hin hR
    have HSs := Lib.hid h; clear h
    go_enter Try.func14, Try.ntmps14
    go_wp2_with (first | (go_at_call 47; refine (within_any _ _ _ _).mono ?_; rintro r w1 ⟨rfl, rfl⟩))
    refine bodyPost_ret (v := .tuple #[zeroF.val, .bool false]) (by simp [results, Try.results14, go_sem, zeroF]) rfl ⟨by rw [← H.out], by ((repeat (first | (with_reducible exact Below.refl _ _) | (with_reducible assumption) | (with_reducible refine Below.alloc ?_ ?_ _) | (with_reducible refine Below.setCell ?_ ?_ _) | (with_reducible refine Below.drew ?_) | (with_reducible refine below_setRow ?_ ?_ _) | (refine Below.trans ?_ (Below.mono (by assumption) ?_)))); all_goals (first | omega | (simp; done) | (simp; omega)))⟩
section
variable {m b : Int} {k : Nat} {xs : List Shp} {e : Shp} {R : Bool} {fs : List Fld} {f : Fld}
theorem so_bad (h : shpsOk m b (xs.drop k) = R) (he : xs[k]? = some e) (hh : shpHead b e = false) : false = R := by
  rw [drop_cons he, shpsOk, hh] at h; simpa using h
theorem so_bad2 (h : shpsOk m b (xs.drop k) = R) (he : xs[k]? = some e) (hh : shpHead b e = true) (hf : fldsOk m 0 e.flds = false) : false = R := by
  rw [drop_cons he, shpsOk, hh, hf] at h; simpa using h
theorem so_ok (h : shpsOk m b (xs.drop k) = R) (he : xs[k]? = some e) (hh : shpHead b e = true) (hf : fldsOk m 0 e.flds = true) : shpsOk m e.id (xs.drop (k + 1)) = R := by
  rw [drop_cons he, shpsOk, hh, hf] at h; simpa using h
theorem so_end (h : shpsOk m b (xs.drop k) = R) (hk : xs.length ≤ k) : true = R := by
  rw [List.drop_of_length_le hk] at h; simpa [shpsOk] using h
theorem fo_bad (h : fldsOk m b (fs.drop k) = R) (he : fs[k]? = some f) (hh : (fldOk m f && decide (b < f.number)) = false) : R = false := by
  rw [drop_cons he, fldsOk, hh] at h; simpa using h.symm
theorem fo_ok (h : fldsOk m b (fs.drop k) = R) (he : fs[k]? = some f) (hh : (fldOk m f && decide (b < f.number)) = true) : fldsOk m f.number (fs.drop (k + 1)) = R := by
  rw [drop_cons he, fldsOk, hh] at h; simpa using h
theorem fo_end (h : fldsOk m b (fs.drop k) = R) (hk : fs.length ≤ k) : R = true := by
  rw [List.drop_of_length_le hk] at h; simpa [fldsOk] using h.symm
end
set_option maxRecDepth 100000 in
set_option maxHeartbeats 4000000 in
theorem implSchemaOk_any (a : Option Addr) (cap n : Nat) (xs : List Shp) (w : World) (h : Shs w a xs) (hx : xs.length = n) (hn : n ≤ 1048576) (hm : fldSum xs ≤ 1048576) :
    Calls Try.prog 10 #[.agg #[.slice a n cap]] w fun r w' => r = .returned (.bool (schOk xs)) ∧ Below w.heap.size w w' := by
  have HX := Lib.hid hx; clear hx
  by_cases h6 : n ≤ 6
  · obtain ⟨R, hR⟩ : ∃ R, schOk xs = R := ⟨_, rfl⟩
    have HR := Lib.hid (show shpsOk n 0 (xs.drop 0) = R by rw [← hR, schOk, HX.out]; simp [h6])
    rw [hR]; clear hR
    go_enter Try.func10, Try.ntmps10
    go_wp2
    have hbx0 := Lib.hid (box_cells (heap_nth0 w (.cells #[.slice a n cap] 30)))
    go_loopw [2, 3, 16] (fun t id j wr => ∃ k : Nat, k ≤ n ∧ j = .int .i64 k ∧ t = .bool false ∧ (∃ b : Int, id = .int .i64 b ∧ Hid (shpsOk n b (xs.drop k) = R)) ∧ Below w.heap.size w wr ∧ (∀ i, wr.cell? ⟨w.heap.size, i, none⟩ = (#[.slice a n cap] : Array Value)[i]?) ∧ w.heap.size < wr.heap.size) (fun _ _ i _ => n - (intOf i).toNat)
    case atStart => exact ⟨0, Nat.zero_le _, rfl, rfl, ⟨0, rfl, HR⟩, by ((repeat (first | (with_reducible exact Below.refl _ _) | (with_reducible assumption) | (with_reducible refine Below.alloc ?_ ?_ _) | (with_reducible refine Below.setCell ?_ ?_ _) | (with_reducible refine Below.drew ?_) | (with_reducible refine below_setRow ?_ ?_ _) | (refine Below.trans ?_ (Below.mono (by assumption) ?_)))); all_goals (first | omega | (simp; done) | (simp; omega))), hbx0.out, by simp⟩
    case round =>
      obtain ⟨k, hk, rfl, rfl, ⟨b, rfl, HV⟩, hb, kA, hzz⟩ := hrel
      by_cases hlt : k < n
      · obtain ⟨e, he, _⟩ := at_lt (xs := xs) (k := k) (by rw [HX.out]; exact hlt)
        have HE := Lib.hid he
        have hne := Nat.le_trans (fldSum_ge he) hm
        obtain ⟨p, off, a1, cap1, rfl, hlb, c0, c1, hs1⟩ := h.below hb (Nat.le_refl _) k e he
        clear he
        have HS1 := Lib.hid hs1; clear hs1
        by_cases hh : shpHead b e = true
        · have hh' := hh
          simp only [shpHead, Bool.and_eq_true, decide_eq_true_eq] at hh'
          obtain ⟨hh1, hh2, hh3⟩ := hh'
          have HH := Lib.hid hh; clear hh
          go_wp2
          obtain ⟨S, hS⟩ : ∃ S, fldsOk n 0 e.flds = S := ⟨_, rfl⟩
          have HS := Lib.hid hS
          have HSd := Lib.hid (show fldsOk n 0 (e.flds.drop 0) = S from hS)
          clear hS
          obtain ⟨wo, rfl⟩ : ∃ wo : World, wo = wr := ⟨_, rfl⟩
          have hbx1 := Lib.hid (box_cells (heap_nth0 wo (.cells #[.int .i64 e.id, .slice a1 e.flds.length cap1] 43)))
          go_loopw [2, 6, 8, 38] (fun t z x j wr => ∃ q : Nat, q ≤ e.flds.length ∧ j = .int .i64 q ∧ t = .bool false ∧ (∃ v : Int, z = .int .i64 v ∧ Hid (fldsOk n v (e.flds.drop q) = S)) ∧ Below wo.heap.size wo wr ∧ (∀ i, wr.cell? ⟨wo.heap.size, i, none⟩ = (#[.int .i64 e.id, .slice a1 e.flds.length cap1] : Array Value)[i]?) ∧ wo.heap.size < wr.heap.size) (fun _ _ _ i _ => e.flds.length - (intOf i).toNat)
          case atStart => exact ⟨0, Nat.zero_le _, rfl, rfl, ⟨0, rfl, HSd⟩, by ((repeat (first | (with_reducible exact Below.refl _ _) | (with_reducible assumption) | (with_reducible refine Below.alloc ?_ ?_ _) | (with_reducible refine Below.setCell ?_ ?_ _) | (with_reducible refine Below.drew ?_) | (with_reducible refine below_setRow ?_ ?_ _) | (refine Below.trans ?_ (Below.mono (by assumption) ?_)))); all_goals (first | omega | (simp; done) | (simp; omega))), hbx1.out, by simp⟩
          case round =>
            obtain ⟨q, hq, rfl, rfl, ⟨v, rfl, HT1⟩, hb1, kC, hzi⟩ := hrel
            have hzi0 : w.heap.size < wr.heap.size := by omega
            have hB1 := Lib.hid hb1
            have kA1 := box_next hb1 hzz kA
            by_cases hqlt : q < e.flds.length
            · obtain ⟨g, hg, _⟩ := at_lt (xs := e.flds) (k := q) hqlt
              have HG := Lib.hid hg
              obtain ⟨p', o, rfl, hp, x0, x1, x2, x3, x4⟩ := Flds.at (Sl.keep HS1.out hb1) hg
              clear hg
              obtain ⟨z, hz⟩ : ∃ z, (fldOk n g && decide (v < g.number)) = z := ⟨_, rfl⟩
              have HZ := Lib.hid hz; clear hz
              go_wp2_with fail
              refine (fieldOk_any g v n _ (by omega) (by omega)).mono ?_
              rintro r w2 ⟨rfl, hb2⟩
              obtain ⟨hc2, hf2⟩ := bcell hb2
              have hz2 := hb2.size
              simp only [World.size_alloc] at hz2
              rw [HZ.out]
              cases z
              · have H := Lib.hid (so_bad2 HV.out HE.out HH.out (by rw [HS.out]; exact fo_bad HT1.out HG.out HZ.out))
                go_wp2
                go_ret
                exact ⟨ret_bool H.out, by ((repeat (first | (with_reducible exact Below.refl _ _) | (with_reducible assumption) | (with_reducible refine Below.alloc ?_ ?_ _) | (with_reducible refine Below.setCell ?_ ?_ _) | (with_reducible refine Below.drew ?_) | (with_reducible refine below_setRow ?_ ?_ _) | (refine Below.trans ?_ (Below.mono (by assumption) ?_)))); all_goals (first | omega | (simp; done) | (simp; omega)))⟩
              · have H := Lib.hid (fo_ok HT1.out HG.out HZ.out)
                go_wp2
                go_roundw
                case rel => exact ⟨q + 1, by omega, by go_num, rfl, ⟨_, rfl, H⟩, by ((repeat (first | (with_reducible exact Below.refl _ _) | (with_reducible assumption) | (with_reducible refine Below.alloc ?_ ?_ _) | (with_reducible refine Below.setCell ?_ ?_ _) | (with_reducible refine Below.drew ?_) | (with_reducible refine below_setRow ?_ ?_ _) | (refine Below.trans ?_ (Below.mono (by assumption) ?_)))); all_goals (first | omega | (simp; done) | (simp; omega))), box_next (w := wr) (by ((repeat (first | (with_reducible exact Below.refl _ _) | (with_reducible assumption) | (with_reducible refine Below.alloc ?_ ?_ _) | (with_reducible refine Below.setCell ?_ ?_ _) | (with_reducible refine Below.drew ?_) | (with_reducible refine below_setRow ?_ ?_ _) | (refine Below.trans ?_ (Below.mono (by assumption) ?_)))); all_goals (first | omega | (simp; done) | (simp; omega)))) hzi kC, by omega⟩
                case measure => simp [intOf]; omega
            · have H := Lib.hid (so_ok HV.out HE.out HH.out (by rw [HS.out]; exact fo_end HT1.out (by omega)))
              go_wp2
              go_roundw
              case rel => exact ⟨k + 1, by omega, by go_num, rfl, ⟨_, rfl, H⟩, by ((repeat (first | (with_reducible exact Below.refl _ _) | (with_reducible assumption) | (with_reducible refine Below.alloc ?_ ?_ _) | (with_reducible refine Below.setCell ?_ ?_ _) | (with_reducible refine Below.drew ?_) | (with_reducible refine below_setRow ?_ ?_ _) | (refine Below.trans ?_ (Below.mono (by assumption) ?_)))); all_goals (first | omega | (simp; done) | (simp; omega))), kA1, by omega⟩
              case measure => simp [intOf]; omega
        · have hh' : shpHead b e = false := by simpa using hh
          have H := Lib.hid (so_bad HV.out HE.out hh')
          clear hh'
          have hh2 : e.id ≤ b ∨ b < e.id ∧ 99 < e.id ∨ b < e.id ∧ e.id ≤ 99 ∧ 8 < e.flds.length := by
            simp only [shpHead, Bool.and_eq_true, decide_eq_true_eq] at hh; omega
          clear hh
          rcases hh2 with hh2 | ⟨hh3, hh2⟩ | ⟨hh3, hh4, hh2⟩
          all_goals
            go_wp2
            go_ret
            exact ⟨ret_bool H.out, by ((repeat (first | (with_reducible exact Below.refl _ _) | (with_reducible assumption) | (with_reducible refine Below.alloc ?_ ?_ _) | (with_reducible refine Below.setCell ?_ ?_ _) | (with_reducible refine Below.drew ?_) | (with_reducible refine below_setRow ?_ ?_ _) | (refine Below.trans ?_ (Below.mono (by assumption) ?_)))); all_goals (first | omega | (simp; done) | (simp; omega)))⟩
      · have H := Lib.hid (so_end HV.out (by rw [HX.out]; omega))
        go_wp2
        go_ret
        exact ⟨ret_bool H.out, hb⟩
  · have H := Lib.hid (show false = schOk xs by rw [schOk, HX.out]; simp; omega)
    go_enter Try.func10, Try.ntmps10
    go_wp2
    go_ret
    exact ⟨ret_bool H.out, by ((repeat (first | (with_reducible exact Below.refl _ _) | (with_reducible assumption) | (with_reducible refine Below.alloc ?_ ?_ _) | (with_reducible refine Below.setCell ?_ ?_ _) | (with_reducible refine Below.drew ?_) | (with_reducible refine below_setRow ?_ ?_ _) | (refine Below.trans ?_ (Below.mono (by assumption) ?_)))); all_goals (first | omega | (simp; done) | (simp; omega)))⟩
def PrevS (xs : List Shp) (k : Nat) (b : Int) : Prop := (k = 0 ∧ b = 0) ∨ ∃ j p, k = j + 1 ∧ xs[j]? = some p ∧ p.id = b ∧ 1 ≤ b
def PrevF (fs : List Fld) (k : Nat) (b : Int) : Prop := (k = 0 ∧ b = 0) ∨ ∃ j p, k = j + 1 ∧ fs[j]? = some p ∧ p.number = b ∧ 1 ≤ b
theorem inB99 {x : Int} : inB x 1 99 = true ↔ 1 ≤ x ∧ x ≤ 99 := by simp [inB]
theorem head_cases {m b : Int} {k : Nat} {xs : List Shp} {e : Shp} {R : Bool} (hp : PrevS xs k b) (h : shpsOk m b (xs.drop k) = R) (he : xs[k]? = some e) :
    (inB e.id 1 99 = false ∧ false = R) ∨ (inB e.id 1 99 = true ∧ ∃ j y, k = j + 1 ∧ xs[j]? = some y ∧ e.id ≤ y.id ∧ false = R) ∨ (inB e.id 1 99 = true ∧ k = 0 ∧ 8 < e.flds.length ∧ false = R) ∨
    (inB e.id 1 99 = true ∧ ∃ j y, k = j + 1 ∧ xs[j]? = some y ∧ y.id < e.id ∧ 8 < e.flds.length ∧ false = R) ∨ (inB e.id 1 99 = true ∧ e.flds.length ≤ 8 ∧ shpHead b e = true ∧ (k = 0 ∨ ∃ j y, k = j + 1 ∧ xs[j]? = some y ∧ y.id < e.id)) := by
  have hb : 0 ≤ b := by rcases hp with ⟨_, rfl⟩ | ⟨_, _, _, _, _, h1⟩ <;> omega
  by_cases hA : inB e.id 1 99 = true
  · have hA' := inB99.1 hA
    by_cases h8 : e.flds.length ≤ 8
    · rcases hp with ⟨hk, rfl⟩ | ⟨j, y, hk, hy, rfl, h1⟩
      · exact .inr (.inr (.inr (.inr ⟨hA, h8, by simp [shpHead, h8]; omega, .inl hk⟩)))
      · by_cases hlt : y.id < e.id
        · exact .inr (.inr (.inr (.inr ⟨hA, h8, by simp [shpHead, h8]; omega, .inr ⟨j, y, hk, hy, hlt⟩⟩)))
        · exact .inr (.inl ⟨hA, j, y, hk, hy, by omega, so_bad h he (by simp [shpHead]; omega)⟩)
    · have hf : false = R := so_bad h he (by simp [shpHead]; omega)
      rcases hp with ⟨hk, rfl⟩ | ⟨j, y, hk, hy, rfl, h1⟩
      · exact .inr (.inr (.inl ⟨hA, hk, by omega, hf⟩))
      · by_cases hlt : y.id < e.id
        · exact .inr (.inr (.inr (.inl ⟨hA, j, y, hk, hy, hlt, by omega, hf⟩)))
        · exact .inr (.inl ⟨hA, j, y, hk, hy, by omega, hf⟩)
  · have hA' : inB e.id 1 99 = false := by simpa using hA
    refine .inl ⟨hA', so_bad h he ?_⟩
    have : ¬ (1 ≤ e.id ∧ e.id ≤ 99) := fun h => hA (inB99.2 h)
    simp [shpHead]; omega
theorem prevS_next {xs : List Shp} {k : Nat} {e : Shp} (he : xs[k]? = some e) (h : 1 ≤ e.id) : PrevS xs (k + 1) e.id := .inr ⟨k, e, rfl, he, rfl, h⟩
theorem prevF_next {xs : List Fld} {k : Nat} {e : Fld} (he : xs[k]? = some e) (h : 1 ≤ e.number) : PrevF xs (k + 1) e.number := .inr ⟨k, e, rfl, he, rfl, h⟩
theorem fldOk_pos {m : Int} {f : Fld} (h : fldOk m f = true) : 1 ≤ f.number := by
  simp only [fldOk, numOk, Bool.and_eq_true] at h
  have := h.1.1
  simp [inB] at this; omega
theorem fld_cases {m v : Int} {q : Nat} {fs : List Fld} {g : Fld} {S : Bool} (hp : PrevF fs q v) (h : fldsOk m v (fs.drop q) = S) (hg : fs[q]? = some g) :
    (fldOk m g = false ∧ S = false) ∨ (fldOk m g = true ∧ ∃ j y, q = j + 1 ∧ fs[j]? = some y ∧ g.number ≤ y.number ∧ S = false) ∨
    (fldOk m g = true ∧ (q = 0 ∨ ∃ j y, q = j + 1 ∧ fs[j]? = some y ∧ y.number < g.number) ∧ fldsOk m g.number (fs.drop (q + 1)) = S ∧ 1 ≤ g.number) := by
  by_cases hz : fldOk m g = true
  · have h1 := fldOk_pos hz
    rcases hp with ⟨hk, rfl⟩ | ⟨j, y, hk, hy, rfl, _⟩
    · exact .inr (.inr ⟨hz, .inl hk, fo_ok h hg (by simp [hz]; omega), h1⟩)
    · by_cases hlt : y.number < g.number
      · exact .inr (.inr ⟨hz, .inr ⟨j, y, hk, hy, hlt⟩, fo_ok h hg (by simp [hz, hlt]), h1⟩)
      · exact .inr (.inl ⟨hz, j, y, hk, hy, by omega, fo_bad h hg (by simp; omega)⟩)
  · have hz' : fldOk m g = false := by simpa using hz
    exact .inl ⟨hz', fo_bad h hg (by simp [hz'])⟩
set_option maxRecDepth 100000 in
set_option maxHeartbeats 8000000 in
theorem specSchemaOk_any (a : Option Addr) (cap n : Nat) (xs : List Shp) (w : World) (h : Shs w a xs) (hx : xs.length = n) (hn : n ≤ 1048576) (hm : fldSum xs ≤ 1048576) :
    Calls Try.prog 11 #[.agg #[.slice a n cap]] w fun r w' => r = .returned (.bool (schOk xs)) ∧ Below w.heap.size w w' := by
  have HX := Lib.hid hx; clear hx
  by_cases h6 : n ≤ 6
  · obtain ⟨R, hR⟩ : ∃ R, schOk xs = R := ⟨_, rfl⟩
    have HR := Lib.hid (show shpsOk n 0 (xs.drop 0) = R by rw [← hR, schOk, HX.out]; simp [h6])
    rw [hR]; clear hR
    go_enter Try.func11, Try.ntmps11
    go_wp2
    have hbx0 := Lib.hid (box_cells (heap_nth0 w (.cells #[.slice a n cap] 30)))
    go_loopw [2, 3] (fun t j wr => ∃ k : Nat, k ≤ n ∧ j = .int .i64 k ∧ t = .bool false ∧ (∃ b : Int, Hid (PrevS xs k b) ∧ Hid (shpsOk n b (xs.drop k) = R)) ∧ Below w.heap.size w wr ∧ (∀ i, wr.cell? ⟨w.heap.size, i, none⟩ = (#[.slice a n cap] : Array Value)[i]?) ∧ w.heap.size < wr.heap.size) (fun _ i _ => n - (intOf i).toNat)
    case atStart => exact ⟨0, Nat.zero_le _, rfl, rfl, ⟨0, Lib.hid (.inl ⟨rfl, rfl⟩), HR⟩, by ((repeat (first | (with_reducible exact Below.refl _ _) | (with_reducible assumption) | (with_reducible refine Below.alloc ?_ ?_ _) | (with_reducible refine Below.setCell ?_ ?_ _) | (with_reducible refine Below.drew ?_) | (with_reducible refine below_setRow ?_ ?_ _) | (refine Below.trans ?_ (Below.mono (by assumption) ?_)))); all_goals (first | omega | (simp; done) | (simp; omega))), hbx0.out, by simp⟩
    case round =>
      obtain ⟨k, hk, rfl, rfl, ⟨b, HP, HV⟩, hb, kA, hzz⟩ := hrel
      by_cases hlt : k < n
      · obtain ⟨e, he, _⟩ := at_lt (xs := xs) (k := k) (by rw [HX.out]; exact hlt)
        have HE := Lib.hid he
        have hne := Nat.le_trans (fldSum_ge he) hm
        obtain ⟨p, off, a1, cap1, rfl, hlb, c0, c1, hs1⟩ := h.below hb (Nat.le_refl _) k e he
        clear he
        have HS1 := Lib.hid hs1; clear hs1
        have HC := Lib.hid (head_cases HP.out HV.out HE.out)
        rcases HC.out with ⟨hA, H⟩ | ⟨hA, j, y, hkj, hy, hp1, H⟩ | ⟨hA, hk0, h8, H⟩ | ⟨hA, j, y, hkj, hy, hp1, h8, H⟩ | HD
        · have H' := Lib.hid H
          clear H
          go_wp2_with fail
          (refine wp_region_ext (by kernel_rfl) (by kernel_rfl) ?_; (repeat (go_big_quiet_step (first | (go_at_call 43; refine Calls.ext_of_same (l1In_any _ _ _ _))))); refine wpQuiet_nil ?_; intro w1 hb1; obtain ⟨hc1, hf1⟩ := bcell hb1; have hz1 := hb1.size; (try simp only [World.size_alloc, World.size_setCell, World.size_drew] at hz1))
          go_wp2
          go_ret
          exact ⟨ret_bool H'.out, by ((repeat (first | (with_reducible exact Below.refl _ _) | (with_reducible assumption) | (with_reducible refine Below.alloc ?_ ?_ _) | (with_reducible refine Below.setCell ?_ ?_ _) | (with_reducible refine Below.drew ?_) | (with_reducible refine below_setRow ?_ ?_ _) | (refine Below.trans ?_ (Below.mono (by assumption) ?_)))); all_goals (first | omega | (simp; done) | (simp; omega)))⟩
        · have H' := Lib.hid H
          clear H
          obtain ⟨_, _, _, _, e0, _, y0, _, _⟩ := h.below hb (Nat.le_refl _) j y hy
          obtain ⟨rfl, rfl⟩ : p = _ ∧ off = _ := by simpa using e0
          have hy' := Lib.hid hy; clear hy e0
          have hw : (k : Int) - 1 = j := by omega
          have hw2 : IntKind.i64.wrap ((k : Int) - 1) = j := by rw [hw]; exact IntWalk.i64_in _ (by omega)
          have hk0 : 0 < k := by omega
          have hj0 : (0 : Int) ≤ j := by omega
          have hjn : (j : Int) < n := by omega
          have HKJ := Lib.hid hkj; clear hkj
          go_wp2_with fail
          (refine wp_region_ext (by kernel_rfl) (by kernel_rfl) ?_; (repeat (go_big_quiet_step (first | (go_at_call 43; refine Calls.ext_of_same (l1In_any _ _ _ _))))); refine wpQuiet_nil ?_; intro w1 hb1; obtain ⟨hc1, hf1⟩ := bcell hb1; have hz1 := hb1.size; (try simp only [World.size_alloc, World.size_setCell, World.size_drew] at hz1))
          go_wp2
          go_ret
          exact ⟨ret_bool H'.out, by ((repeat (first | (with_reducible exact Below.refl _ _) | (with_reducible assumption) | (with_reducible refine Below.alloc ?_ ?_ _) | (with_reducible refine Below.setCell ?_ ?_ _) | (with_reducible refine Below.drew ?_) | (with_reducible refine below_setRow ?_ ?_ _) | (refine Below.trans ?_ (Below.mono (by assumption) ?_)))); all_goals (first | omega | (simp; done) | (simp; omega)))⟩
        · have H' := Lib.hid H
          clear H
          subst hk0
          simp only [Nat.zero_mul, Nat.add_zero] at c0 c1
          go_wp2_with fail
          (refine wp_region_ext (by kernel_rfl) (by kernel_rfl) ?_; (repeat (go_big_quiet_step (first | (go_at_call 43; refine Calls.ext_of_same (l1In_any _ _ _ _))))); refine wpQuiet_nil ?_; intro w1 hb1; obtain ⟨hc1, hf1⟩ := bcell hb1; have hz1 := hb1.size; (try simp only [World.size_alloc, World.size_setCell, World.size_drew] at hz1))
          go_wp2
          go_ret
          exact ⟨ret_bool H'.out, by ((repeat (first | (with_reducible exact Below.refl _ _) | (with_reducible assumption) | (with_reducible refine Below.alloc ?_ ?_ _) | (with_reducible refine Below.setCell ?_ ?_ _) | (with_reducible refine Below.drew ?_) | (with_reducible refine below_setRow ?_ ?_ _) | (refine Below.trans ?_ (Below.mono (by assumption) ?_)))); all_goals (first | omega | (simp; done) | (simp; omega)))⟩
        · have H' := Lib.hid H
          clear H
          obtain ⟨_, _, _, _, e0, _, y0, _, _⟩ := h.below hb (Nat.le_refl _) j y hy
          obtain ⟨rfl, rfl⟩ : p = _ ∧ off = _ := by simpa using e0
          have hy' := Lib.hid hy; clear hy e0
          have hw : (k : Int) - 1 = j := by omega
          have hw2 : IntKind.i64.wrap ((k : Int) - 1) = j := by rw [hw]; exact IntWalk.i64_in _ (by omega)
          have hk0 : 0 < k := by omega
          have hj0 : (0 : Int) ≤ j := by omega
          have hjn : (j : Int) < n := by omega
          have HKJ := Lib.hid hkj; clear hkj
          have hp2 : decide (e.id ≤ y.id) = false := by simp; omega
          go_wp2_with fail
          (refine wp_region_ext (by kernel_rfl) (by kernel_rfl) ?_; (repeat (go_big_quiet_step (first | (go_at_call 43; refine Calls.ext_of_same (l1In_any _ _ _ _))))); refine wpQuiet_nil ?_; intro w1 hb1; obtain ⟨hc1, hf1⟩ := bcell hb1; have hz1 := hb1.size; (try simp only [World.size_alloc, World.size_setCell, World.size_drew] at hz1))
          go_wp2
          go_ret
          exact ⟨ret_bool H'.out, by ((repeat (first | (with_reducible exact Below.refl _ _) | (with_reducible assumption) | (with_reducible refine Below.alloc ?_ ?_ _) | (with_reducible refine Below.setCell ?_ ?_ _) | (with_reducible refine Below.drew ?_) | (with_reducible refine below_setRow ?_ ?_ _) | (refine Below.trans ?_ (Below.mono (by assumption) ?_)))); all_goals (first | omega | (simp; done) | (simp; omega)))⟩
        · obtain ⟨hA, h8, hh, hpv⟩ := HD
          have HH := Lib.hid hh; clear hh
          have HPS := Lib.hid (prevS_next HE.out (inB99.1 hA).1)
          obtain ⟨S, hS⟩ : ∃ S, fldsOk n 0 e.flds = S := ⟨_, rfl⟩
          have HS := Lib.hid hS
          have HSd := Lib.hid (show fldsOk n 0 (e.flds.drop 0) = S from hS)
          clear hS
          have h8' : ¬ (8 : Int) < e.flds.length := by omega
          rcases hpv with hk0 | ⟨j, y, hkj, hy, hp1⟩
          · have hkz : decide (0 < k) = false := by simp [hk0]
            have HK0 := Lib.hid hk0; clear hk0
            go_wp2_with fail
            (refine wp_region_ext (by kernel_rfl) (by kernel_rfl) ?_; (repeat (go_big_quiet_step (first | (go_at_call 43; refine Calls.ext_of_same (l1In_any _ _ _ _))))); refine wpQuiet_nil ?_; intro w1 hb1; obtain ⟨hc1, hf1⟩ := bcell hb1; have hz1 := hb1.size; (try simp only [World.size_alloc, World.size_setCell, World.size_drew] at hz1))
            go_wp2
            obtain ⟨wo, rfl⟩ : ∃ wo : World, wo = wr := ⟨_, rfl⟩
            have hbx1 := Lib.hid (box_new0 hb1)
            have hbl1 := box_lt0 hb1
            have hbw1 : Below wo.heap.size wo w1 := by ((repeat (first | (with_reducible exact Below.refl _ _) | (with_reducible assumption) | (with_reducible refine Below.alloc ?_ ?_ _) | (with_reducible refine Below.setCell ?_ ?_ _) | (with_reducible refine Below.drew ?_) | (with_reducible refine below_setRow ?_ ?_ _) | (refine Below.trans ?_ (Below.mono (by assumption) ?_)))); all_goals (first | omega | (simp; done) | (simp; omega)))
            have kA1 := Lib.hid (box_next hbw1 hzz kA)
            have hzw1 := hbw1.size
            go_loopw [2, 5] (fun t j wr => ∃ q : Nat, q ≤ e.flds.length ∧ j = .int .i64 q ∧ t = .bool false ∧ (∃ v : Int, Hid (PrevF e.flds q v) ∧ Hid (fldsOk n v (e.flds.drop q) = S)) ∧ Below wo.heap.size wo wr ∧ (∀ i, wr.cell? ⟨w.heap.size, i, none⟩ = (#[.slice (some ⟨p, off, none⟩) n cap] : Array Value)[i]?) ∧ (∀ i, wr.cell? ⟨wo.heap.size, i, none⟩ = (#[.int .i64 e.id, .slice a1 e.flds.length cap1] : Array Value)[i]?) ∧ wo.heap.size < wr.heap.size) (fun _ i _ => e.flds.length - (intOf i).toNat)
            case atStart => exact ⟨0, Nat.zero_le _, rfl, rfl, ⟨0, Lib.hid (.inl ⟨rfl, rfl⟩), HSd⟩, hbw1, kA1.out, hbx1.out, hbl1⟩
            case round =>
              obtain ⟨q, hq, rfl, rfl, ⟨v, HPF, HT1⟩, hb2, kA2, kC, hzi⟩ := hrel
              have hzi0 : w.heap.size < wr.heap.size := by omega
              by_cases hqlt : q < e.flds.length
              · obtain ⟨g, hg, _⟩ := at_lt (xs := e.flds) (k := q) hqlt
                have HG := Lib.hid hg
                obtain ⟨p', o, rfl, hp, x0, x1, x2, x3, x4⟩ := Flds.at (Sl.keep HS1.out hb2) hg
                clear hg
                have HC2 := Lib.hid (fld_cases HPF.out HT1.out HG.out)
                rcases HC2.out with ⟨hz, H⟩ | ⟨hz, j2, y2, hqj, hy2, hle2, H⟩ | ⟨hz, hpv2, H, hg1⟩
                · have H' := Lib.hid (so_bad2 HV.out HE.out HH.out (by rw [HS.out]; exact H))
                  clear H
                  go_wp2_with fail
                  (refine wp_region_ext (by kernel_rfl) (by kernel_rfl) ?_; (repeat (go_big_quiet_step (first | (go_at_call 44; refine Calls.ext_of (l8FieldOk_any _ _ _ g _ hn))))); refine wpQuiet_nil ?_; intro w3 hb3; obtain ⟨hc3, hf3⟩ := bcell hb3; have hz3 := hb3.size; (try simp only [World.size_alloc, World.size_setCell, World.size_drew] at hz3))
                  go_wp2
                  go_ret
                  exact ⟨ret_bool H'.out, by ((repeat (first | (with_reducible exact Below.refl _ _) | (with_reducible assumption) | (with_reducible refine Below.alloc ?_ ?_ _) | (with_reducible refine Below.setCell ?_ ?_ _) | (with_reducible refine Below.drew ?_) | (with_reducible refine below_setRow ?_ ?_ _) | (refine Below.trans ?_ (Below.mono (by assumption) ?_)))); all_goals (first | omega | (simp; done) | (simp; omega)))⟩
                · have H' := Lib.hid (so_bad2 HV.out HE.out HH.out (by rw [HS.out]; exact H))
                  clear H
                  obtain ⟨_, _, e0', _, y0', _⟩ := Flds.at (Sl.keep HS1.out hb2) hy2
                  obtain ⟨rfl, rfl⟩ : p' = _ ∧ o = _ := by simpa using e0'
                  have hy2' := Lib.hid hy2; clear hy2 e0'
                  have hwq : (q : Int) - 1 = j2 := by omega
                  have hwq2 : IntKind.i64.wrap ((q : Int) - 1) = j2 := by rw [hwq]; exact IntWalk.i64_in _ (by omega)
                  have hq0 : 0 < q := by omega
                  have hj20 : (0 : Int) ≤ j2 := by omega
                  have hj2n : (j2 : Int) < e.flds.length := by omega
                  have HQJ := Lib.hid hqj; clear hqj
                  go_wp2_with fail
                  (refine wp_region_ext (by kernel_rfl) (by kernel_rfl) ?_; (repeat (go_big_quiet_step (first | (go_at_call 44; refine Calls.ext_of (l8FieldOk_any _ _ _ g _ hn))))); refine wpQuiet_nil ?_; intro w3 hb3; obtain ⟨hc3, hf3⟩ := bcell hb3; have hz3 := hb3.size; (try simp only [World.size_alloc, World.size_setCell, World.size_drew] at hz3))
                  go_wp2
                  go_ret
                  exact ⟨ret_bool H'.out, by ((repeat (first | (with_reducible exact Below.refl _ _) | (with_reducible assumption) | (with_reducible refine Below.alloc ?_ ?_ _) | (with_reducible refine Below.setCell ?_ ?_ _) | (with_reducible refine Below.drew ?_) | (with_reducible refine below_setRow ?_ ?_ _) | (refine Below.trans ?_ (Below.mono (by assumption) ?_)))); all_goals (first | omega | (simp; done) | (simp; omega)))⟩
                · have H' := Lib.hid H
                  clear H
                  have HPN := Lib.hid (prevF_next HG.out hg1)
                  rcases hpv2 with hq0 | ⟨j2, y2, hqj, hy2, hle2⟩
                  · have hqz : decide (0 < q) = false := by simp [hq0]
                    have HQ0 := Lib.hid hq0; clear hq0
                    go_wp2_with fail
                    (refine wp_region_ext (by kernel_rfl) (by kernel_rfl) ?_; (repeat (go_big_quiet_step (first | (go_at_call 44; refine Calls.ext_of (l8FieldOk_any _ _ _ g _ hn))))); refine wpQuiet_nil ?_; intro w3 hb3; obtain ⟨hc3, hf3⟩ := bcell hb3; have hz3 := hb3.size; (try simp only [World.size_alloc, World.size_setCell, World.size_drew] at hz3))
                    go_wp2
                    go_roundw
                    case rel => exact ⟨q + 1, by omega, by go_num, rfl, ⟨_, HPN, H'⟩, by ((repeat (first | (with_reducible exact Below.refl _ _) | (with_reducible assumption) | (with_reducible refine Below.alloc ?_ ?_ _) | (with_reducible refine Below.setCell ?_ ?_ _) | (with_reducible refine Below.drew ?_) | (with_reducible refine below_setRow ?_ ?_ _) | (refine Below.trans ?_ (Below.mono (by assumption) ?_)))); all_goals (first | omega | (simp; done) | (simp; omega))), box_next (w := wr) (by ((repeat (first | (with_reducible exact Below.refl _ _) | (with_reducible assumption) | (with_reducible refine Below.alloc ?_ ?_ _) | (with_reducible refine Below.setCell ?_ ?_ _) | (with_reducible refine Below.drew ?_) | (with_reducible refine below_setRow ?_ ?_ _) | (refine Below.trans ?_ (Below.mono (by assumption) ?_)))); all_goals (first | omega | (simp; done) | (simp; omega)))) hzi0 kA2, box_next (w := wr) (by ((repeat (first | (with_reducible exact Below.refl _ _) | (with_reducible assumption) | (with_reducible refine Below.alloc ?_ ?_ _) | (with_reducible refine Below.setCell ?_ ?_ _) | (with_reducible refine Below.drew ?_) | (with_reducible refine below_setRow ?_ ?_ _) | (refine Below.trans ?_ (Below.mono (by assumption) ?_)))); all_goals (first | omega | (simp; done) | (simp; omega)))) hzi kC, by omega⟩
                    case measure => simp [intOf]; omega
                  · obtain ⟨_, _, e0', _, y0', _⟩ := Flds.at (Sl.keep HS1.out hb2) hy2
                    obtain ⟨rfl, rfl⟩ : p' = _ ∧ o = _ := by simpa using e0'
                    have hy2' := Lib.hid hy2; clear hy2 e0'
                    have hwq : (q : Int) - 1 = j2 := by omega
                    have hwq2 : IntKind.i64.wrap ((q : Int) - 1) = j2 := by rw [hwq]; exact IntWalk.i64_in _ (by omega)
                    have hq0 : 0 < q := by omega
                    have hj20 : (0 : Int) ≤ j2 := by omega
                    have hj2n : (j2 : Int) < e.flds.length := by omega
                    have hle3 : decide (g.number ≤ y2.number) = false := by simp; omega
                    have HQJ := Lib.hid hqj; clear hqj
                    go_wp2_with fail
                    (refine wp_region_ext (by kernel_rfl) (by kernel_rfl) ?_; (repeat (go_big_quiet_step (first | (go_at_call 44; refine Calls.ext_of (l8FieldOk_any _ _ _ g _ hn))))); refine wpQuiet_nil ?_; intro w3 hb3; obtain ⟨hc3, hf3⟩ := bcell hb3; have hz3 := hb3.size; (try simp only [World.size_alloc, World.size_setCell, World.size_drew] at hz3))
                    go_wp2
                    go_roundw
                    case rel => exact ⟨q + 1, by omega, by go_num, rfl, ⟨_, HPN, H'⟩, by ((repeat (first | (with_reducible exact Below.refl _ _) | (with_reducible assumption) | (with_reducible refine Below.alloc ?_ ?_ _) | (with_reducible refine Below.setCell ?_ ?_ _) | (with_reducible refine Below.drew ?_) | (with_reducible refine below_setRow ?_ ?_ _) | (refine Below.trans ?_ (Below.mono (by assumption) ?_)))); all_goals (first | omega | (simp; done) | (simp; omega))), box_next (w := wr) (by ((repeat (first | (with_reducible exact Below.refl _ _) | (with_reducible assumption) | (with_reducible refine Below.alloc ?_ ?_ _) | (with_reducible refine Below.setCell ?_ ?_ _) | (with_reducible refine Below.drew ?_) | (with_reducible refine below_setRow ?_ ?_ _) | (refine Below.trans ?_ (Below.mono (by assumption) ?_)))); all_goals (first | omega | (simp; done) | (simp; omega)))) hzi0 kA2, box_next (w := wr) (by ((repeat (first | (with_reducible exact Below.refl _ _) | (with_reducible assumption) | (with_reducible refine Below.alloc ?_ ?_ _) | (with_reducible refine Below.setCell ?_ ?_ _) | (with_reducible refine Below.drew ?_) | (with_reducible refine below_setRow ?_ ?_ _) | (refine Below.trans ?_ (Below.mono (by assumption) ?_)))); all_goals (first | omega | (simp; done) | (simp; omega)))) hzi kC, by omega⟩
                    case measure => simp [intOf]; omega
              · have H := Lib.hid (so_ok HV.out HE.out HH.out (by rw [HS.out]; exact fo_end HT1.out (by omega)))
                go_wp2
                go_roundw
                case rel => exact ⟨k + 1, by omega, by go_num, rfl, ⟨_, HPS, H⟩, by ((repeat (first | (with_reducible exact Below.refl _ _) | (with_reducible assumption) | (with_reducible refine Below.alloc ?_ ?_ _) | (with_reducible refine Below.setCell ?_ ?_ _) | (with_reducible refine Below.drew ?_) | (with_reducible refine below_setRow ?_ ?_ _) | (refine Below.trans ?_ (Below.mono (by assumption) ?_)))); all_goals (first | omega | (simp; done) | (simp; omega))), kA2, by omega⟩
                case measure => simp [intOf]; omega
          ·
            obtain ⟨_, _, _, _, e0, _, y0, _, _⟩ := h.below hb (Nat.le_refl _) j y hy
            obtain ⟨rfl, rfl⟩ : p = _ ∧ off = _ := by simpa using e0
            have hy' := Lib.hid hy; clear hy e0
            have hw : (k : Int) - 1 = j := by omega
            have hw2 : IntKind.i64.wrap ((k : Int) - 1) = j := by rw [hw]; exact IntWalk.i64_in _ (by omega)
            have hk0 : 0 < k := by omega
            have hj0 : (0 : Int) ≤ j := by omega
            have hjn : (j : Int) < n := by omega
            have HKJ := Lib.hid hkj; clear hkj
            have hp2 : decide (e.id ≤ y.id) = false := by simp; omega
            go_wp2_with fail
            (refine wp_region_ext (by kernel_rfl) (by kernel_rfl) ?_; (repeat (go_big_quiet_step (first | (go_at_call 43; refine Calls.ext_of_same (l1In_any _ _ _ _))))); refine wpQuiet_nil ?_; intro w1 hb1; obtain ⟨hc1, hf1⟩ := bcell hb1; have hz1 := hb1.size; (try simp only [World.size_alloc, World.size_setCell, World.size_drew] at hz1))
            go_wp2
            obtain ⟨wo, rfl⟩ : ∃ wo : World, wo = wr := ⟨_, rfl⟩
            have hbx1 := Lib.hid (box_new0 hb1)
            have hbl1 := box_lt0 hb1
            have hbw1 : Below wo.heap.size wo w1 := by ((repeat (first | (with_reducible exact Below.refl _ _) | (with_reducible assumption) | (with_reducible refine Below.alloc ?_ ?_ _) | (with_reducible refine Below.setCell ?_ ?_ _) | (with_reducible refine Below.drew ?_) | (with_reducible refine below_setRow ?_ ?_ _) | (refine Below.trans ?_ (Below.mono (by assumption) ?_)))); all_goals (first | omega | (simp; done) | (simp; omega)))
            have kA1 := Lib.hid (box_next hbw1 hzz kA)
            have hzw1 := hbw1.size
            go_loopw [2, 5] (fun t j wr => ∃ q : Nat, q ≤ e.flds.length ∧ j = .int .i64 q ∧ t = .bool false ∧ (∃ v : Int, Hid (PrevF e.flds q v) ∧ Hid (fldsOk n v (e.flds.drop q) = S)) ∧ Below wo.heap.size wo wr ∧ (∀ i, wr.cell? ⟨w.heap.size, i, none⟩ = (#[.slice (some ⟨p, off, none⟩) n cap] : Array Value)[i]?) ∧ (∀ i, wr.cell? ⟨wo.heap.size, i, none⟩ = (#[.int .i64 e.id, .slice a1 e.flds.length cap1] : Array Value)[i]?) ∧ wo.heap.size < wr.heap.size) (fun _ i _ => e.flds.length - (intOf i).toNat)
            case atStart => exact ⟨0, Nat.zero_le _, rfl, rfl, ⟨0, Lib.hid (.inl ⟨rfl, rfl⟩), HSd⟩, hbw1, kA1.out, hbx1.out, hbl1⟩
            case round =>
              obtain ⟨q, hq, rfl, rfl, ⟨v, HPF, HT1⟩, hb2, kA2, kC, hzi⟩ := hrel
              have hzi0 : w.heap.size < wr.heap.size := by omega
              by_cases hqlt : q < e.flds.length
              · obtain ⟨g, hg, _⟩ := at_lt (xs := e.flds) (k := q) hqlt
                have HG := Lib.hid hg
                obtain ⟨p', o, rfl, hp, x0, x1, x2, x3, x4⟩ := Flds.at (Sl.keep HS1.out hb2) hg
                clear hg
                have HC2 := Lib.hid (fld_cases HPF.out HT1.out HG.out)
                rcases HC2.out with ⟨hz, H⟩ | ⟨hz, j2, y2, hqj, hy2, hle2, H⟩ | ⟨hz, hpv2, H, hg1⟩
                · have H' := Lib.hid (so_bad2 HV.out HE.out HH.out (by rw [HS.out]; exact H))
                  clear H
                  go_wp2_with fail
                  (refine wp_region_ext (by kernel_rfl) (by kernel_rfl) ?_; (repeat (go_big_quiet_step (first | (go_at_call 44; refine Calls.ext_of (l8FieldOk_any _ _ _ g _ hn))))); refine wpQuiet_nil ?_; intro w3 hb3; obtain ⟨hc3, hf3⟩ := bcell hb3; have hz3 := hb3.size; (try simp only [World.size_alloc, World.size_setCell, World.size_drew] at hz3))
                  go_wp2
                  go_ret
                  exact ⟨ret_bool H'.out, by ((repeat (first | (with_reducible exact Below.refl _ _) | (with_reducible assumption) | (with_reducible refine Below.alloc ?_ ?_ _) | (with_reducible refine Below.setCell ?_ ?_ _) | (with_reducible refine Below.drew ?_) | (with_reducible refine below_setRow ?_ ?_ _) | (refine Below.trans ?_ (Below.mono (by assumption) ?_)))); all_goals (first | omega | (simp; done) | (simp; omega)))⟩
                · have H' := Lib.hid (so_bad2 HV.out HE.out HH.out (by rw [HS.out]; exact H))
                  clear H
                  obtain ⟨_, _, e0', _, y0', _⟩ := Flds.at (Sl.keep HS1.out hb2) hy2
                  obtain ⟨rfl, rfl⟩ : p' = _ ∧ o = _ := by simpa using e0'
                  have hy2' := Lib.hid hy2; clear hy2 e0'
                  have hwq : (q : Int) - 1 = j2 := by omega
                  have hwq2 : IntKind.i64.wrap ((q : Int) - 1) = j2 := by rw [hwq]; exact IntWalk.i64_in _ (by omega)
                  have hq0 : 0 < q := by omega
                  have hj20 : (0 : Int) ≤ j2 := by omega
                  have hj2n : (j2 : Int) < e.flds.length := by omega
                  have HQJ := Lib.hid hqj; clear hqj
                  go_wp2_with fail
                  (refine wp_region_ext (by kernel_rfl) (by kernel_rfl) ?_; (repeat (go_big_quiet_step (first | (go_at_call 44; refine Calls.ext_of (l8FieldOk_any _ _ _ g _ hn))))); refine wpQuiet_nil ?_; intro w3 hb3; obtain ⟨hc3, hf3⟩ := bcell hb3; have hz3 := hb3.size; (try simp only [World.size_alloc, World.size_setCell, World.size_drew] at hz3))
                  go_wp2
                  go_ret
                  exact ⟨ret_bool H'.out, by ((repeat (first | (with_reducible exact Below.refl _ _) | (with_reducible assumption) | (with_reducible refine Below.alloc ?_ ?_ _) | (with_reducible refine Below.setCell ?_ ?_ _) | (with_reducible refine Below.drew ?_) | (with_reducible refine below_setRow ?_ ?_ _) | (refine Below.trans ?_ (Below.mono (by assumption) ?_)))); all_goals (first | omega | (simp; done) | (simp; omega)))⟩
                · have H' := Lib.hid H
                  clear H
                  have HPN := Lib.hid (prevF_next HG.out hg1)
                  rcases hpv2 with hq0 | ⟨j2, y2, hqj, hy2, hle2⟩
                  · have hqz : decide (0 < q) = false := by simp [hq0]
                    have HQ0 := Lib.hid hq0; clear hq0
                    go_wp2_with fail
                    (refine wp_region_ext (by kernel_rfl) (by kernel_rfl) ?_; (repeat (go_big_quiet_step (first | (go_at_call 44; refine Calls.ext_of (l8FieldOk_any _ _ _ g _ hn))))); refine wpQuiet_nil ?_; intro w3 hb3; obtain ⟨hc3, hf3⟩ := bcell hb3; have hz3 := hb3.size; (try simp only [World.size_alloc, World.size_setCell, World.size_drew] at hz3))
                    go_wp2
                    go_roundw
                    case rel => exact ⟨q + 1, by omega, by go_num, rfl, ⟨_, HPN, H'⟩, by ((repeat (first | (with_reducible exact Below.refl _ _) | (with_reducible assumption) | (with_reducible refine Below.alloc ?_ ?_ _) | (with_reducible refine Below.setCell ?_ ?_ _) | (with_reducible refine Below.drew ?_) | (with_reducible refine below_setRow ?_ ?_ _) | (refine Below.trans ?_ (Below.mono (by assumption) ?_)))); all_goals (first | omega | (simp; done) | (simp; omega))), box_next (w := wr) (by ((repeat (first | (with_reducible exact Below.refl _ _) | (with_reducible assumption) | (with_reducible refine Below.alloc ?_ ?_ _) | (with_reducible refine Below.setCell ?_ ?_ _) | (with_reducible refine Below.drew ?_) | (with_reducible refine below_setRow ?_ ?_ _) | (refine Below.trans ?_ (Below.mono (by assumption) ?_)))); all_goals (first | omega | (simp; done) | (simp; omega)))) hzi0 kA2, box_next (w := wr) (by ((repeat (first | (with_reducible exact Below.refl _ _) | (with_reducible assumption) | (with_reducible refine Below.alloc ?_ ?_ _) | (with_reducible refine Below.setCell ?_ ?_ _) | (with_reducible refine Below.drew ?_) | (with_reducible refine below_setRow ?_ ?_ _) | (refine Below.trans ?_ (Below.mono (by assumption) ?_)))); all_goals (first | omega | (simp; done) | (simp; omega)))) hzi kC, by omega⟩
                    case measure => simp [intOf]; omega
                  · obtain ⟨_, _, e0', _, y0', _⟩ := Flds.at (Sl.keep HS1.out hb2) hy2
                    obtain ⟨rfl, rfl⟩ : p' = _ ∧ o = _ := by simpa using e0'
                    have hy2' := Lib.hid hy2; clear hy2 e0'
                    have hwq : (q : Int) - 1 = j2 := by omega
                    have hwq2 : IntKind.i64.wrap ((q : Int) - 1) = j2 := by rw [hwq]; exact IntWalk.i64_in _ (by omega)
                    have hq0 : 0 < q := by omega
                    have hj20 : (0 : Int) ≤ j2 := by omega
                    have hj2n : (j2 : Int) < e.flds.length := by omega
                    have hle3 : decide (g.number ≤ y2.number) = false := by simp; omega
                    have HQJ := Lib.hid hqj; clear hqj
                    go_wp2_with fail
                    (refine wp_region_ext (by kernel_rfl) (by kernel_rfl) ?_; (repeat (go_big_quiet_step (first | (go_at_call 44; refine Calls.ext_of (l8FieldOk_any _ _ _ g _ hn))))); refine wpQuiet_nil ?_; intro w3 hb3; obtain ⟨hc3, hf3⟩ := bcell hb3; have hz3 := hb3.size; (try simp only [World.size_alloc, World.size_setCell, World.size_drew] at hz3))
                    go_wp2
                    go_roundw
                    case rel => exact ⟨q + 1, by omega, by go_num, rfl, ⟨_, HPN, H'⟩, by ((repeat (first | (with_reducible exact Below.refl _ _) | (with_reducible assumption) | (with_reducible refine Below.alloc ?_ ?_ _) | (with_reducible refine Below.setCell ?_ ?_ _) | (with_reducible refine Below.drew ?_) | (with_reducible refine below_setRow ?_ ?_ _) | (refine Below.trans ?_ (Below.mono (by assumption) ?_)))); all_goals (first | omega | (simp; done) | (simp; omega))), box_next (w := wr) (by ((repeat (first | (with_reducible exact Below.refl _ _) | (with_reducible assumption) | (with_reducible refine Below.alloc ?_ ?_ _) | (with_reducible refine Below.setCell ?_ ?_ _) | (with_reducible refine Below.drew ?_) | (with_reducible refine below_setRow ?_ ?_ _) | (refine Below.trans ?_ (Below.mono (by assumption) ?_)))); all_goals (first | omega | (simp; done) | (simp; omega)))) hzi0 kA2, box_next (w := wr) (by ((repeat (first | (with_reducible exact Below.refl _ _) | (with_reducible assumption) | (with_reducible refine Below.alloc ?_ ?_ _) | (with_reducible refine Below.setCell ?_ ?_ _) | (with_reducible refine Below.drew ?_) | (with_reducible refine below_setRow ?_ ?_ _) | (refine Below.trans ?_ (Below.mono (by assumption) ?_)))); all_goals (first | omega | (simp; done) | (simp; omega)))) hzi kC, by omega⟩
                    case measure => simp [intOf]; omega
              · have H := Lib.hid (so_ok HV.out HE.out HH.out (by rw [HS.out]; exact fo_end HT1.out (by omega)))
                go_wp2
                go_roundw
                case rel => exact ⟨k + 1, by omega, by go_num, rfl, ⟨_, HPS, H⟩, by ((repeat (first | (with_reducible exact Below.refl _ _) | (with_reducible assumption) | (with_reducible refine Below.alloc ?_ ?_ _) | (with_reducible refine Below.setCell ?_ ?_ _) | (with_reducible refine Below.drew ?_) | (with_reducible refine below_setRow ?_ ?_ _) | (refine Below.trans ?_ (Below.mono (by assumption) ?_)))); all_goals (first | omega | (simp; done) | (simp; omega))), kA2, by omega⟩
                case measure => simp [intOf]; omega
      · have H := Lib.hid (so_end HV.out (by rw [HX.out]; omega))
        go_wp2
        go_ret
        exact ⟨ret_bool H.out, hb⟩
  · have H := Lib.hid (show false = schOk xs by rw [schOk, HX.out]; simp; omega)
    go_enter Try.func11, Try.ntmps11
    go_wp2
    go_ret
    exact ⟨ret_bool H.out, by ((repeat (first | (with_reducible exact Below.refl _ _) | (with_reducible assumption) | (with_reducible refine Below.alloc ?_ ?_ _) | (with_reducible refine Below.setCell ?_ ?_ _) | (with_reducible refine Below.drew ?_) | (with_reducible refine below_setRow ?_ ?_ _) | (refine Below.trans ?_ (Below.mono (by assumption) ?_)))); all_goals (first | omega | (simp; done) | (simp; omega)))⟩
end Go.Proofs.Ytbpilecgnfnndaa
