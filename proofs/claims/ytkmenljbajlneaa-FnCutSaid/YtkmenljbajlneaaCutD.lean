/- What DrawCut draws. -/
import Derived.Test.YtkmenljbajlneaaDrawR
import Derived.Test.YtkmenljbajlneaaCut
import Derived.Deep.RegionHeld3
namespace Go.Proofs.Ytkmenljbajlneaa
set_option linter.unusedSimpArgs false
set_option linter.unusedVariables false
open Go.ChangeShapes Go.WideShapes Go.ChangeAt Go.RowKit Go.BigFrame

theorem iv_snoc (l : List Int) (x : Int) : (l ++ [x]).flatMap iv = l.flatMap iv ++ [.int .i64 x] := by simp [iv]
def DrawnZ (B : Nat) (w : World) (r : Ending) (w' : World) : Prop := ∃ (a : Option Addr) (cap : Nat) (xs : List Int), r = .returned (.slice a xs.length cap) ∧ xs.length ≤ 10 ∧ Ints w' a xs ∧ Up B w w'
set_option maxRecDepth 100000 in
set_option maxHeartbeats 2000000 in
theorem l17Sizes_any (B : Nat) (w : World) (hc : Cur w B) : Calls Try.prog 80 #[.pointer (some ⟨B, 0, none⟩)] w (DrawnZ B w) := by
  have hB := hc.lt
  obtain ⟨i0, hi, hz0, hz1, hz2⟩ := info_parts info_int
  go_enter Try.func80, Try.ntmps80
  go_wp2_with fail
  have hu0 := (Up.refl hc).alloc hB (.cells #[] 3)
  refine (l1Below_any B 9 _ hu0.cur (by omega) (by omega)).mono ?_
  rintro r w1 ⟨x, rfl, hx0, hx1, hc1, ho1⟩
  obtain ⟨n, rfl⟩ := Int.eq_ofNat_of_zero_le hx0
  have hn : n ≤ 8 := by omega
  have hu1 := hu0.step hc1 ho1
  have HO1 := Lib.hid (owns_oth (show (w.alloc (.cells #[] 3)).ownsRow w.heap.size 3 1 (.slice (some ⟨w.heap.size, 0, none⟩) 0 0) 0 (([] : List Int).flatMap iv) from ⟨by simp, .inr ⟨w.heap.size, 0, #[], rfl, Nat.le_refl _, heap_nth0 w _, Nat.le_refl _, Nat.zero_le _, rfl, rfl⟩⟩) ho1 hB)
  clear hu0 hc1 ho1 hx0 hx1
  go_wp2_with fail
  go_loopw [3, 5] (fun v i wr => ∃ (k : Nat) (xs : List Int), k ≤ n ∧ i = .int .i64 k ∧ Hid (xs.length = k) ∧ wr.ownsRow w.heap.size 3 1 v k (xs.flatMap iv) ∧ Up B w wr) (fun _ i _ => n - (intOf i).toNat)
  case atStart => exact ⟨0, [], Nat.zero_le _, rfl, Lib.hid rfl, HO1.out, hu1⟩
  case round =>
    obtain ⟨k, xs, hk, rfl, HL, ho, hu⟩ := hrel
    have HO := Lib.hid ho; clear ho
    have hsz := hu.oth.size
    by_cases hlt : k < n
    · go_wp2_with fail
      have hua := hu.alloc hB (.cells #[.int .i64 0, .int .i64 1, .int .i64 1, .int .i64 2, .int .i64 3, .int .i64 5, .int .i64 9, .int .i64 30, .int .i64 (-1)] 3)
      refine (l1PickInt_any B wr.heap.size 9 [0, 1, 1, 2, 3, 5, 9, 30, -1] 3 _ hua.cur (by omega) (heap_nth0 wr _) (by decide) (by decide)).mono ?_
      rintro r w2 ⟨y, rfl, hc2, ho2⟩
      have hu2 := hua.step hc2 ho2
      have HO2 := Lib.hid (owns_oth (HO.out.alloc _) ho2 hB)
      have hsz2 := hu2.oth.size
      clear HO hc2 ho2 hua
      go_wp2_with (first | (at_builtin; refine wpList_append_own _ rfl _ _ 35 rfl w.heap.size 3 i0 (.int .i64 0) 1 8 Try.underlying35 hi hz0 hz1 hz2 rfl (by decide) _ _ _ rfl (HO2.out.alloc _) ⟨w2.heap.size, 0, none⟩ 1 1 [.int .i64 y] rfl rfl (one_cell _ _ _) (by intro u hu; simp at hu; subst hu; rfl) (by unfold maxLen; omega) (by omega) (by simp; omega) ?_; intro v1 w3 hown1 hgrow1 hnn1; have hu1 := (hu2.alloc hB _).grown hB hgrow1 (fun g hg => (HO2.out.lt g hg).1); clear hgrow1 hnn1))
      go_roundw
      case rel => exact ⟨k + 1, xs ++ [y], by omega, by go_num, Lib.hid (by rw [List.length_append, HL.out]; rfl), by rw [iv_snoc]; exact hown1, hu1⟩
      case measure => simp [intOf]; omega
    · have hkn : k = n := by omega
      subst hkn
      go_wp2_with fail
      refine (l1Once_any B 12 wr hu.cur (by omega) (by omega)).mono ?_
      rintro r w4 ⟨b, rfl, hc4, ho4⟩
      have hu4 := hu.step hc4 ho4
      have HO4 := Lib.hid (owns_oth HO.out ho4 hB)
      have hsz4 := hu4.oth.size
      clear HO hc4 ho4
      cases b
      · have HO5 := Lib.hid (owned_shape HO4.out)
        obtain ⟨a5, cap5, rfl, h5⟩ := HO5.out
        have HI := Lib.hid (ints_of_own h5 HL.out)
        clear h5 HO5 HO4
        go_wp2
        go_ret
        exact ⟨a5, cap5, xs, by rw [HL.out]; rfl, by rw [HL.out]; omega, HI.out, hu4⟩
      · go_wp2_with fail
        have hua := hu4.alloc hB (.cells #[.int .i64 9223372036854775807, .int .i64 (-9223372036854775808)] 3)
        refine (l1PickInt_any B w4.heap.size 2 [9223372036854775807, -9223372036854775808] 3 _ hua.cur (by omega) (heap_nth0 w4 _) (by decide) (by decide)).mono ?_
        rintro r w2 ⟨y, rfl, hc2, ho2⟩
        have hu2 := hua.step hc2 ho2
        have HO2 := Lib.hid (owns_oth (HO4.out.alloc _) ho2 hB)
        have hsz2 := hu2.oth.size
        clear HO4 hc2 ho2 hua
        go_wp2_with (first | (at_builtin; refine wpList_append_own _ rfl _ _ 35 rfl w.heap.size 3 i0 (.int .i64 0) 1 8 Try.underlying35 hi hz0 hz1 hz2 rfl (by decide) _ _ _ rfl (HO2.out.alloc _) ⟨w2.heap.size, 0, none⟩ 1 1 [.int .i64 y] rfl rfl (one_cell _ _ _) (by intro u hu; simp at hu; subst hu; rfl) (by unfold maxLen; omega) (by omega) (by simp; omega) ?_; intro v1 w3 hown1 hgrow1 hnn1; have hu1 := (hu2.alloc hB _).grown hB hgrow1 (fun g hg => (HO2.out.lt g hg).1); clear hgrow1 hnn1))
        have HO5 := Lib.hid (owned_shape hown1)
        clear hown1
        obtain ⟨a5, cap5, rfl, h5⟩ := HO5.out
        rw [← iv_snoc] at h5
        have HI := Lib.hid (ints_of_own h5 (by rw [List.length_append, HL.out]; rfl))
        clear h5 HO5
        go_wp2
        go_ret
        exact ⟨a5, cap5, xs ++ [y], by rw [List.length_append, HL.out]; rfl, by rw [List.length_append, HL.out]; simp; omega, HI.out, hu1⟩
def DrawnCut (w : World) (r : Ending) (w' : World) : Prop := ∃ (s : ByteArray) (a : Option Addr) (cap : Nat) (xs : List Int), r = .returned (.tuple #[.string s, .slice a xs.length cap]) ∧ s.size ≤ 13 ∧ xs.length ≤ 10 ∧ Ints w' a xs ∧ Below w.heap.size w w'
set_option maxRecDepth 100000 in
set_option maxHeartbeats 2000000 in
theorem drawCut_any (a : Option Addr) (cap n : Nat) (w : World) (h : Code w a n) (hn : n ≤ 1048576) :
    Calls Try.prog 39 #[.slice a n cap] w (DrawnCut w) := by
  go_enter Try.func39, Try.ntmps39
  go_wp2_with fail
  refine (l1New_any a cap n w h hn).mono ?_
  rintro r w1 ⟨B, rfl, hB, hc, hb1⟩
  have hBl := hc.lt
  go_wp2_with fail
  have hcd : Cur w1.drew B := hc.same (fun _ _ => rfl)
  refine wp_region_held_drew (S := fun _ => True) (by kernel_rfl) trivial (fun _ => ?_)
  refine wpAnyH_take (i := 0) (oi := _) (v := (.pointer (some ⟨B, 0, none⟩))) rfl (by kernel_rfl) (by kernel_rfl) (by kernel_rfl) (fun _ _ _ h => h) (Or.inl ⟨by rfl, fun w _ => by go_simp⟩) trivial ?_
  try simp only [Act.put, List.setIfInBounds_toArray, List.set_cons_zero, List.set_cons_succ]
  refine wpAnyH_take (i := 1) (oi := _) (v := (.pointer (some ⟨B, 0, none⟩))) rfl (by kernel_rfl) (by kernel_rfl) (by kernel_rfl) (fun _ _ _ h => h) (Or.inl ⟨by rfl, fun w _ => by go_simp⟩) trivial ?_
  try simp only [Act.put, List.setIfInBounds_toArray, List.set_cons_zero, List.set_cons_succ]
  refine wpAnyH_take (i := 5) (oi := _) (v := (.pointer (some ⟨B, 0, none⟩))) rfl (by kernel_rfl) (by kernel_rfl) (by kernel_rfl) (fun _ _ _ h => h) (Or.inl ⟨by rfl, fun w _ => by go_simp⟩) trivial ?_
  try simp only [Act.put, List.setIfInBounds_toArray, List.set_cons_zero, List.set_cons_succ]
  refine wpAnyH_ready (rs := [2]) (by kernel_rfl) (by simp) ?_
  refine AllReadyH.cons rfl (fun K hK => ?_) AllReadyH.nil
  go_simp
  refine (l1Below_any B 14 w1.drew hcd (by omega) (by omega)).mono ?_
  rintro r w2 ⟨x, rfl, hx0, hx1, hc2, ho2⟩
  obtain ⟨m, rfl⟩ := Int.eq_ofNat_of_zero_le hx0
  have hu2 : Up B w1 w2 := ⟨hc2, Oth.undrew ho2⟩
  clear hc2 ho2
  refine hK.out _ _ trivial (fun _ => ?_)
  clear hK K
  try simp only [Act.put, List.setIfInBounds_toArray, List.set_cons_zero, List.set_cons_succ]
  refine wpAnyH_ready (rs := [3]) (by kernel_rfl) (by simp) ?_
  refine AllReadyH.cons rfl (fun K hK => ?_) AllReadyH.nil
  go_simp
  refine (l1Bytes_any B m _ hu2.cur (by omega)).mono ?_
  rintro r w3 ⟨v3, l3, rfl, hl3, hnn3, ho3, hu3⟩
  have HN3 := Lib.hid hnn3; have HO3 := Lib.hid ho3; have HL3 := Lib.hid hl3; clear hnn3 ho3 hl3
  have hstr3 := own_string0 HO3.out HN3.out Try.underlying47 Try.underlying5 Try.underlying9
  have hz2 := hu2.oth.size
  refine hK.out _ _ trivial (fun _ => ?_)
  clear hK K
  try simp only [Act.put, List.setIfInBounds_toArray, List.set_cons_zero, List.set_cons_succ]
  refine wpAnyH_ready (rs := [4, 6]) (by kernel_rfl) (by simp) ?_
  refine AllReadyH.cons rfl (fun K hK => ?_) (AllReadyH.cons rfl (fun K hK => ?_) AllReadyH.nil)
  · go_simp
    refine hK.out _ _ trivial (fun _ => ?_)
    clear hK K
    try simp only [Act.put, List.setIfInBounds_toArray, List.set_cons_zero, List.set_cons_succ]
    refine wpAnyH_ready (rs := [6]) (by kernel_rfl) (by simp) ?_
    refine AllReadyH.cons rfl (fun K hK => ?_) AllReadyH.nil
    go_simp
    refine (l17Sizes_any B _ hu3.cur).mono ?_
    rintro r w4 ⟨a4, cap4, xs4, rfl, hx4, hi4, hu4⟩
    have HI4 := Lib.hid hi4; clear hi4
    have hz3 := hu3.oth.size
    refine hK.out _ _ trivial (fun _ => ?_)
    clear hK K
    try simp only [Act.put, List.setIfInBounds_toArray, List.set_cons_zero, List.set_cons_succ]
    refine wpAnyH_ready (rs := [7]) (by kernel_rfl) (by simp) ?_
    refine AllReadyH.cons rfl (fun K hK => ?_) AllReadyH.nil
    go_simp
    refine hK.out _ _ trivial (fun _ => ?_)
    clear hK K
    try simp only [Act.put, List.setIfInBounds_toArray, List.set_cons_zero, List.set_cons_succ]
    refine wpAnyH_ready (rs := [8]) (by kernel_rfl) (by simp) ?_
    refine AllReadyH.cons rfl (fun K hK => ?_) AllReadyH.nil
    go_simp
    refine hK.out _ _ trivial (fun _ => ?_)
    clear hK K
    try simp only [Act.put, List.setIfInBounds_toArray, List.set_cons_zero, List.set_cons_succ]
    refine wpAnyH_done (by kernel_rfl) ?_ _
    have hoT : Below w.heap.size w1 w4 := ((hu2.oth.trans hu3.oth).trans hu4.oth).below hB hBl
    have hs3 : (⟨l3.toArray⟩ : ByteArray).size ≤ 13 := by show l3.toArray.size ≤ 13; rw [List.size_toArray, HL3.out]; omega
    clear hstr3
    go_wp2
    go_ret2
    exact ⟨_, a4, cap4, xs4, rfl, hs3, hx4, HI4.out, hb1.trans hoT⟩
  · go_simp
    refine (l17Sizes_any B _ hu3.cur).mono ?_
    rintro r w4 ⟨a4, cap4, xs4, rfl, hx4, hi4, hu4⟩
    have HI4 := Lib.hid hi4; clear hi4
    have hz3 := hu3.oth.size
    have hstr4 := own_string0 (owns_oth HO3.out hu4.oth (by omega)) HN3.out Try.underlying47 Try.underlying5 Try.underlying9
    refine hK.out _ _ trivial (fun _ => ?_)
    clear hK K
    try simp only [Act.put, List.setIfInBounds_toArray, List.set_cons_zero, List.set_cons_succ]
    refine wpAnyH_ready (rs := [4]) (by kernel_rfl) (by simp) ?_
    refine AllReadyH.cons rfl (fun K hK => ?_) AllReadyH.nil
    go_simp
    refine hK.out _ _ trivial (fun _ => ?_)
    clear hK K
    try simp only [Act.put, List.setIfInBounds_toArray, List.set_cons_zero, List.set_cons_succ]
    refine wpAnyH_ready (rs := [7]) (by kernel_rfl) (by simp) ?_
    refine AllReadyH.cons rfl (fun K hK => ?_) AllReadyH.nil
    go_simp
    refine hK.out _ _ trivial (fun _ => ?_)
    clear hK K
    try simp only [Act.put, List.setIfInBounds_toArray, List.set_cons_zero, List.set_cons_succ]
    refine wpAnyH_ready (rs := [8]) (by kernel_rfl) (by simp) ?_
    refine AllReadyH.cons rfl (fun K hK => ?_) AllReadyH.nil
    go_simp
    refine hK.out _ _ trivial (fun _ => ?_)
    clear hK K
    try simp only [Act.put, List.setIfInBounds_toArray, List.set_cons_zero, List.set_cons_succ]
    refine wpAnyH_done (by kernel_rfl) ?_ _
    have hoT : Below w.heap.size w1 w4 := ((hu2.oth.trans hu3.oth).trans hu4.oth).below hB hBl
    have hs3 : (⟨l3.toArray⟩ : ByteArray).size ≤ 13 := by show l3.toArray.size ≤ 13; rw [List.size_toArray, HL3.out]; omega
    clear hstr3 hstr4
    go_wp2
    go_ret2
    exact ⟨_, a4, cap4, xs4, rfl, hs3, hx4, HI4.out, hb1.trans hoT⟩
end Go.Proofs.Ytkmenljbajlneaa
