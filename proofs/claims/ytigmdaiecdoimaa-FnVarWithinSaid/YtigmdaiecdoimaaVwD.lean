/- Draws of varints in strings. -/
import Derived.Test.YtigmdaiecdoimaaPad
import Derived.Test.YtigmdaiecdoimaaDrawE
import Derived.Test.YtigmdaiecdoimaaReg
namespace Go.Proofs.Ytigmdaiecdoimaa
set_option linter.unusedSimpArgs false
set_option linter.unusedVariables false
open Go.ChangeShapes Go.WideShapes Go.ChangeAt Go.RowKit Go.BigFrame

/-- A short string; the cursor is a cursor; nothing else is changed. -/
def DrawnSt (B m : Nat) (w : World) (r : Ending) (w' : World) : Prop := ∃ s : ByteArray, r = .returned (.string s) ∧ s.size ≤ m ∧ Cur w' B ∧ Oth B w w'
theorem varLen_any (n : Nat) (w : World) (hn : n < 2 ^ 64) : Calls Try.prog 172 #[.int .u64 n] w fun r w' => ∃ k : Nat, r = .returned (.int .i64 k) ∧ k ≤ 10 ∧ Below w.heap.size w w' := by
  go_enter Try.func172, Try.ntmps172
  go_wp2_with fail
  refine (specPutVar_any n w hn).mono ?_
  rintro r w1 ⟨⟨k, hk, rfl⟩, hb1⟩
  have hk9 := len_le hn hk.below
  obtain ⟨s, hs⟩ : ∃ s : ByteArray, s = ⟨(putB n k).toArray⟩ := ⟨_, rfl⟩
  have hsz : s.size ≤ 10 := by rw [hs]; simp [ByteArray.size, putB, hiB_len]; omega
  rw [← hs]
  clear hs hk
  go_wp2
  go_ret
  exact ⟨s.size, rfl, hsz, hb1⟩
set_option maxHeartbeats 2000000 in
theorem l2Var_any (B n : Nat) (w : World) (hc : Cur w B) (hn : n < 2 ^ 64) : Calls Try.prog 128 #[.pointer (some ⟨B, 0, none⟩), .int .u64 n] w (DrawnSt B 10 w) := by
  have hB := hc.lt
  have put : ∀ wq : World, Cur wq B → Oth B w wq → Calls Try.prog 173 #[.int .u64 n] wq (DrawnSt B 10 w) := fun wq hcq hoq => (specPutVar_any n wq hn).mono fun r w' ⟨⟨k, hk, hr⟩, hb⟩ => by
    have hk9 := len_le hn hk.below
    exact ⟨_, hr, by simp [ByteArray.size, putB, hiB_len]; omega, hcq.below hb, hoq.trans (Oth.of_below hb)⟩
  go_enter Try.func128, Try.ntmps128
  go_wp2_with fail
  refine (l1Once_any B 4 w hc (by omega) (by omega)).mono ?_
  rintro r w1 ⟨b, rfl, hc1, ho1⟩
  cases b
  · go_wp2_with fail
    refine (put w1 hc1 ho1).mono ?_
    rintro r w2 ⟨s, rfl, hs, hc2, ho2⟩
    go_wp2
    go_ret
    exact ⟨s, rfl, hs, hc2, ho2⟩
  · go_wp2_with fail
    refine (varLen_any n w1 hn).mono ?_
    rintro r w2 ⟨k, rfl, hk, hb2⟩
    have hc2 := hc1.below hb2
    have ho2 := ho1.trans (Oth.of_below hb2)
    go_wp2_with fail
    refine (l1Below_any B 3 w2 hc2 (by omega) (by omega)).mono ?_
    rintro r w3 ⟨x, rfl, hx0, hx1, hc3, ho3⟩
    have ho3' := ho2.trans ho3
    go_wp2_with fail
    refine (padVar_any n _ w3 hn).mono ?_
    rintro r w4 ⟨s, rfl, hs, hb4⟩
    have hc4 := hc3.below hb4
    have ho4 := ho3'.trans (Oth.of_below hb4)
    cases he : s.toList.isEmpty
    · go_wp2
      go_ret
      exact ⟨s, rfl, hs, hc4, ho4⟩
    · go_wp2_with fail
      refine (put w4 hc4 ho4).mono ?_
      rintro r w5 ⟨s, rfl, hs, hc5, ho5⟩
      go_wp2
      go_ret
      exact ⟨s, rfl, hs, hc5, ho5⟩
theorem DrawnI.up {B : Nat} {w w' : World} {r : Ending} (h : DrawnI B w r w') : ∃ x : Int, r = .returned (.int .i64 x) ∧ Cur w' B ∧ Oth B w w' := h
theorem wu64_nat {u : Int} (h : WU64 u) : ∃ n : Nat, u = n ∧ n < 2 ^ 64 := by
  obtain ⟨h0, h1⟩ := WU64.lo h
  obtain ⟨n, rfl⟩ := Int.eq_ofNat_of_zero_le h0
  exact ⟨n, rfl, by omega⟩
set_option maxRecDepth 100000 in
set_option maxHeartbeats 4000000 in
theorem drawGetVar_any (a : Option Addr) (cap n : Nat) (w : World) (h : Code w a n) (hn : n ≤ 1048576) :
    Calls Try.prog 54 #[.slice a n cap] w fun r w' => ∃ (s : ByteArray) (x : Int), r = .returned (.tuple #[.string s, .int .i64 x]) ∧ s.size ≤ 100 ∧ Below w.heap.size w w' := by
  go_enter Try.func54, Try.ntmps54
  go_wp2_with fail
  refine (l1New_any a cap n w h hn).mono ?_
  rintro r w1 ⟨B, rfl, hB, hc, hb1⟩
  have hBl := hc.lt
  go_wp2_with fail
  refine (l1Below_any B 3 w1 hc (by omega) (by omega)).mono ?_
  rintro r w2 ⟨x, rfl, hx0, hx1, hc2, ho2⟩
  obtain ⟨m, rfl⟩ := Int.eq_ofNat_of_zero_le hx0
  go_wp2_with fail
  refine (l1Bytes_any B m w2 hc2 (by omega)).mono ?_
  rintro r w3 ⟨v3, l3, rfl, hl3, hv3, hr3, hu3⟩
  have hstr3 := own_string0 hr3 hv3 Try.underlying22 Try.underlying5 Try.underlying9
  obtain ⟨s3, hs3⟩ : ∃ s : ByteArray, s = ⟨l3.toArray⟩ := ⟨_, rfl⟩
  have hz3 : s3.size = m := by rw [hs3]; simp [ByteArray.size, hl3]
  rw [← hs3] at hstr3
  clear hs3
  have ho3 : Oth B w1 w3 := ho2.trans hu3.oth
  have hc3 := hu3.cur
  clear hr3 hu3
  go_wp2_with fail
  refine (l1Wide_any B w3 hc3).mono ?_
  rintro r w4 ⟨u, rfl, hu, hc4, ho4⟩
  obtain ⟨n4, rfl, hn4⟩ := wu64_nat hu
  clear hu
  go_wp2_with fail
  refine (l2Var_any B n4 w4 hc4 hn4).mono ?_
  rintro r w5 ⟨s5, rfl, hs5, hc5, ho5⟩
  go_wp2_with fail
  refine (l1Below_any B 2 w5 hc5 (by omega) (by omega)).mono ?_
  rintro r w6 ⟨y, rfl, hy0, hy1, hc6, ho6⟩
  obtain ⟨q, rfl⟩ := Int.eq_ofNat_of_zero_le hy0
  go_wp2_with fail
  refine (l1Bytes_any B q w6 hc6 (by omega)).mono ?_
  rintro r w7 ⟨v7, l7, rfl, hl7, hv7, hr7, hu7⟩
  have hstr7 := own_string0 hr7 hv7 Try.underlying22 Try.underlying5 Try.underlying9
  obtain ⟨s7, hs7⟩ : ∃ s : ByteArray, s = ⟨l7.toArray⟩ := ⟨_, rfl⟩
  have hz7 : s7.size ≤ 1 := by rw [hs7]; simp [ByteArray.size, hl7]; omega
  rw [← hs7] at hstr7
  clear hs7
  have ho7 : Oth B w1 w7 := (((ho3.trans ho4).trans ho5).trans ho6).trans hu7.oth
  have hc7 := hu7.cur
  clear hr7 hu7 ho3 ho4 ho5 ho6 hc3 hc4 hc5 hc6 hc2 ho2
  have hm2 : m ≤ 2 := by omega
  go_wp2_with fail
  generalize hS : s3 ++ s5 ++ s7 = S
  have hSz : S.size = m + s5.size + s7.size := by rw [← hS, ByteArray.size_append, ByteArray.size_append, hz3]
  have hS1 : m ≤ S.size := by omega
  have hS2 : S.size ≤ 13 := by omega
  clear hS hSz hz3 hstr3 hstr7 hs5 hz7
  refine (l1Below_any B 6 w7 hc7 (by omega) (by omega)).mono ?_
  rintro r w8 ⟨z, rfl, hz0, hz1, hc8, ho8⟩
  have ho8' := ho7.trans ho8
  have hT : ∀ wq : World, Oth B w1 wq → Below w.heap.size w wq := fun wq hq => hb1.trans (hq.below hB hBl)
  clear ho7 ho8
  by_cases h0 : z = 0
  · subst h0
    have hnn : IntKind.i64.wrap ((S.size : Int) - m) = (S.size : Int) - m := IntWalk.i64_in _ (by omega)
    go_wp2_with fail
    refine (l1Below_any B _ w8 hc8 (by omega) (by omega)).mono ?_
    rintro r w9 ⟨x, rfl, hx0, hx1, hc9, ho9⟩
    obtain ⟨k, rfl⟩ := Int.eq_ofNat_of_zero_le hx0
    have hk1 : (m : Int) + k ≤ S.size := by omega
    have hk2 : (0 : Int) ≤ (m : Int) + k := by omega
    go_wp2
    go_ret2
    refine ⟨_, _, rfl, ?_, hT _ (ho8'.trans ho9)⟩
    rw [ByteArray.size_extract]; omega
  · have g0 : (z == 0) = false := by simp [h0]
    by_cases h1 : z = 1
    · subst h1
      have hmS : (m : Int) ≤ (S.size : Int) := by omega
      have hm0 : (0 : Int) ≤ (m : Int) := by omega
      have hcat1 : ¬ 9223372036854775807 < m + 9 := by omega
      go_wp2_with fail
      refine wp_region_till (fun _ => True) (fun _ => false) (by kernel_rfl) ?_
      have hS : (fun _ : World => True) w8.drew := trivial
      refine wpTill_take (i := 0) (v := ?v0_1) rfl (by kernel_rfl) (by kernel_rfl) (by kernel_rfl) (by kernel_rfl) (fun _ _ _ h => h) (Or.inl ⟨by rfl, ?y0_1⟩) hS ?r0_1
      case y0_1 => (intro wq hq; (try simp only [cells_cons, cells_nil, and_true] at hq); first | (go_simp; done) | (go_simp; with_reducible rfl) | (obtain ⟨hq1, hq2⟩ := hq; go_simp; with_reducible rfl))
      try simp only [List.getElem_toArray, List.getElem_cons_succ, List.getElem_cons_zero, Act.put, List.setIfInBounds_toArray, List.set_cons_zero, List.set_cons_succ]
      refine wpTill_take (i := 1) (v := ?v1_2) rfl (by kernel_rfl) (by kernel_rfl) (by kernel_rfl) (by kernel_rfl) (fun _ _ _ h => h) (Or.inl ⟨by rfl, ?y1_2⟩) hS ?r1_2
      case y1_2 => (intro wq hq; (try simp only [cells_cons, cells_nil, and_true] at hq); first | (go_simp; done) | (go_simp; with_reducible rfl) | (obtain ⟨hq1, hq2⟩ := hq; go_simp; with_reducible rfl))
      try simp only [List.getElem_toArray, List.getElem_cons_succ, List.getElem_cons_zero, Act.put, List.setIfInBounds_toArray, List.set_cons_zero, List.set_cons_succ]
      refine wpTill_take (i := 2) (v := ?v2_3) rfl (by kernel_rfl) (by kernel_rfl) (by kernel_rfl) (by kernel_rfl) (fun _ _ _ h => h) (Or.inl ⟨by rfl, ?y2_3⟩) hS ?r2_3
      case y2_3 => (intro wq hq; (try simp only [cells_cons, cells_nil, and_true] at hq); first | (go_simp; done) | (go_simp; with_reducible rfl) | (obtain ⟨hq1, hq2⟩ := hq; go_simp; with_reducible rfl))
      try simp only [List.getElem_toArray, List.getElem_cons_succ, List.getElem_cons_zero, Act.put, List.setIfInBounds_toArray, List.set_cons_zero, List.set_cons_succ]
      refine wpTill_take (i := 3) (v := ?v3_4) rfl (by kernel_rfl) (by kernel_rfl) (by kernel_rfl) (by kernel_rfl) (fun _ _ _ h => h) (Or.inl ⟨by rfl, ?y3_4⟩) hS ?r3_4
      case y3_4 => (intro wq hq; (try simp only [cells_cons, cells_nil, and_true] at hq); first | (go_simp; done) | (go_simp; with_reducible rfl) | (obtain ⟨hq1, hq2⟩ := hq; go_simp; with_reducible rfl))
      try simp only [List.getElem_toArray, List.getElem_cons_succ, List.getElem_cons_zero, Act.put, List.setIfInBounds_toArray, List.set_cons_zero, List.set_cons_succ]
      refine wpTill_take (i := 4) (v := ?v4_5) rfl (by kernel_rfl) (by kernel_rfl) (by kernel_rfl) (by kernel_rfl) (fun _ _ _ h => h) (Or.inl ⟨by rfl, ?y4_5⟩) hS ?r4_5
      case y4_5 => (intro wq hq; (try simp only [cells_cons, cells_nil, and_true] at hq); first | (go_simp; done) | (go_simp; with_reducible rfl) | (obtain ⟨hq1, hq2⟩ := hq; go_simp; with_reducible rfl))
      try simp only [List.getElem_toArray, List.getElem_cons_succ, List.getElem_cons_zero, Act.put, List.setIfInBounds_toArray, List.set_cons_zero, List.set_cons_succ]
      refine wpTill_take (i := 8) (v := ?v8_6) rfl (by kernel_rfl) (by kernel_rfl) (by kernel_rfl) (by kernel_rfl) (fun _ _ _ h => h) (Or.inl ⟨by rfl, ?y8_6⟩) hS ?r8_6
      case y8_6 => (intro wq hq; (try simp only [cells_cons, cells_nil, and_true] at hq); first | (go_simp; done) | (go_simp; with_reducible rfl) | (obtain ⟨hq1, hq2⟩ := hq; go_simp; with_reducible rfl))
      try simp only [List.getElem_toArray, List.getElem_cons_succ, List.getElem_cons_zero, Act.put, List.setIfInBounds_toArray, List.set_cons_zero, List.set_cons_succ]
      refine wpTill_take (i := 9) (v := ?v9_7) rfl (by kernel_rfl) (by kernel_rfl) (by kernel_rfl) (by kernel_rfl) (fun _ _ _ h => h) (Or.inl ⟨by rfl, ?y9_7⟩) hS ?r9_7
      case y9_7 => (intro wq hq; (try simp only [cells_cons, cells_nil, and_true] at hq); first | (go_simp; done) | (go_simp; with_reducible rfl) | (obtain ⟨hq1, hq2⟩ := hq; go_simp; with_reducible rfl))
      try simp only [List.getElem_toArray, List.getElem_cons_succ, List.getElem_cons_zero, Act.put, List.setIfInBounds_toArray, List.set_cons_zero, List.set_cons_succ]
      refine wpTill_take (i := 10) (v := ?v10_8) rfl (by kernel_rfl) (by kernel_rfl) (by kernel_rfl) (by kernel_rfl) (fun _ _ _ h => h) (Or.inl ⟨by rfl, ?y10_8⟩) hS ?r10_8
      case y10_8 => (intro wq hq; (try simp only [cells_cons, cells_nil, and_true] at hq); first | (go_simp; done) | (go_simp; with_reducible rfl) | (obtain ⟨hq1, hq2⟩ := hq; go_simp; with_reducible rfl))
      try simp only [List.getElem_toArray, List.getElem_cons_succ, List.getElem_cons_zero, Act.put, List.setIfInBounds_toArray, List.set_cons_zero, List.set_cons_succ]
      refine wpTill_op (i := 5) (by kernel_rfl) rfl (fun K hK => ?_)
      go_simp
      refine hK.out _ _ (fun _ => trivial) ?_
      clear hK K
      try simp only [Act.put, List.setIfInBounds_toArray, List.set_cons_zero, List.set_cons_succ]
      refine wpTill_op (i := 6) (by kernel_rfl) rfl (fun K hK => ?_)
      go_simp
      refine (l1Pick_any B w8.heap.size _ [⟨#[1]⟩, ⟨#[2]⟩, ⟨#[129]⟩, ⟨#[0]⟩, ⟨#[]⟩] 9 _ (Cur.same hc8 (fun k hk => by have := hc8.lt; exact (Below.heap_alloc w8 _ k (by omega)))) (by have := hc8.lt; omega) (hset_drew (hset_new rfl)) (by simp) (by simp)).mono ?_
      rintro r w9 ⟨x, rfl, hx, hc9, ho9⟩
      have hxs : x.size ≤ 1 := by
        simp only [List.mem_cons, List.not_mem_nil, or_false] at hx
        rcases hx with rfl | rfl | rfl | rfl | rfl <;> decide
      refine hK.out _ _ (fun _ => trivial) ?_
      clear hK K
      try simp only [Act.put, List.setIfInBounds_toArray, List.set_cons_zero, List.set_cons_succ]
      have hcat2 : ¬ 9223372036854775807 < m + 9 + x.size := by omega
      have hcat3 : ¬ 9223372036854775807 < m + 9 + x.size + (S.size - m) := by omega
      refine wpTill_take (i := 7) (v := ?v7_9) rfl (by kernel_rfl) (by kernel_rfl) (by kernel_rfl) (by kernel_rfl) (fun _ _ _ h => h) (Or.inl ⟨by rfl, ?y7_9⟩) hS ?r7_9
      case y7_9 => (intro wq hq; (try simp only [cells_cons, cells_nil, and_true] at hq); first | (go_simp; done) | (go_simp; with_reducible rfl) | (obtain ⟨hq1, hq2⟩ := hq; go_simp; with_reducible rfl))
      try simp only [List.getElem_toArray, List.getElem_cons_succ, List.getElem_cons_zero, Act.put, List.setIfInBounds_toArray, List.set_cons_zero, List.set_cons_succ]
      refine wpTill_take (i := 11) (v := ?v11_10) rfl (by kernel_rfl) (by kernel_rfl) (by kernel_rfl) (by kernel_rfl) (fun _ _ _ h => h) (Or.inl ⟨by rfl, ?y11_10⟩) hS ?r11_10
      case y11_10 => (intro wq hq; (try simp only [cells_cons, cells_nil, and_true] at hq); first | (go_simp; done) | (go_simp; with_reducible rfl) | (obtain ⟨hq1, hq2⟩ := hq; go_simp; with_reducible rfl))
      try simp only [List.getElem_toArray, List.getElem_cons_succ, List.getElem_cons_zero, Act.put, List.setIfInBounds_toArray, List.set_cons_zero, List.set_cons_succ]
      refine wpTill_op (i := 12) (by kernel_rfl) rfl (fun K hK => ?_)
      go_simp
      refine hK.out _ _ (fun _ => trivial) ?_
      clear hK K
      try simp only [Act.put, List.setIfInBounds_toArray, List.set_cons_zero, List.set_cons_succ]
      refine wpTill_done (by kernel_rfl) ?_ _
      go_wp2
      go_ret2
      refine ⟨_, ⟨_, rfl⟩, ?_, hT _ (ho8'.trans ?_)⟩
      · simp only [ByteArray.size_append, ByteArray.size_extract]
        have : (⟨#[255, 255, 255, 255, 255, 255, 255, 255, 255]⟩ : ByteArray).size = 9 := rfl
        omega
      · exact (Oth.of_below (((Below.refl _ _).alloc (Nat.le_refl _) _).drew)).trans ho9
    · have g1 : (z == 1) = false := by simp [h1]
      by_cases h2 : z = 2
      · subst h2
        go_wp2_with fail
        refine (l1PickInt_any B w8.heap.size _ [0, -1, (S.size : Int), (S.size : Int) + 1, 9223372036854775807, -9223372036854775808] 3 _ (hc8.below ((Below.refl _ _).alloc (Nat.le_refl _) _)) (by have := hc8.lt; omega) (hset_new rfl) (by simp) (by simp)).mono ?_
        rintro r w9 ⟨x, rfl, hc9, ho9⟩
        go_wp2
        go_ret2
        exact ⟨S, x, rfl, by omega, hT _ (ho8'.trans ((Oth.of_below ((Below.refl _ _).alloc (Nat.le_refl _) _)).trans ho9))⟩
      · have g2 : (z == 2) = false := by simp [h2]
        go_wp2
        go_ret2
        exact ⟨S, m, rfl, by omega, hT _ ho8'⟩
set_option maxRecDepth 100000 in
set_option maxHeartbeats 4000000 in
theorem drawVarWithin_any (a : Option Addr) (cap n : Nat) (w : World) (h : Code w a n) (hn : n ≤ 1048576) :
    Calls Try.prog 11 #[.slice a n cap] w fun r w' => ∃ (s : ByteArray) (x y : Int), r = .returned (.tuple #[.string s, .int .i64 x, .int .i64 y]) ∧ s.size ≤ 100 ∧ Below w.heap.size w w' := by
  go_enter Try.func11, Try.ntmps11
  go_wp2_with fail
  refine (l1New_any a cap n w h hn).mono ?_
  rintro r w1 ⟨B, rfl, hB, hc, hb1⟩
  have hBl := hc.lt
  go_wp2_with fail
  refine (drawGetVar_any a cap n w1 (h.keep hb1) hn).mono ?_
  rintro r w2 ⟨s, x, rfl, hs, hb2⟩
  have hc2 := hc.below hb2
  have hb12 : Below w.heap.size w w2 := hb1.trans (hb2.mono hb1.size)
  have hz2 := hb2.size
  go_wp2_with fail
  refine (l1Below_any B 8 w2 hc2 (by omega) (by omega)).mono ?_
  rintro r w3 ⟨z, rfl, hz0, hz1, hc3, ho3⟩
  have hz3 := ho3.size
  have hc3l := hc3.lt
  go_wp2_with fail
  refine (l1PickInt_any B w3.heap.size _ [(s.size : Int), (s.size : Int), (s.size : Int) + 5, x, z, -1, 9223372036854775807, -9223372036854775808] 3 _ (hc3.below ((Below.refl _ _).alloc (Nat.le_refl _) _)) (by omega) (hset_new rfl) (by simp) (by simp)).mono ?_
  rintro r w4 ⟨y, rfl, hc4, ho4⟩
  go_wp2
  go_ret3
  refine ⟨s, x, y, rfl, hs, ?_⟩
  exact hb12.trans ((ho3.trans ((Oth.of_below ((Below.refl _ _).alloc (Nat.le_refl _) _)).trans ho4)).below (by omega) (by omega))
end Go.Proofs.Ytigmdaiecdoimaa
