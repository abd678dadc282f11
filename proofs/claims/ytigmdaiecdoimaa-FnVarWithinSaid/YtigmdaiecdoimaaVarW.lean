/- Contracts of the two VarWithin. -/
import Derived.Test.YtigmdaiecdoimaaVar
namespace Go.Proofs.Ytigmdaiecdoimaa
set_option linter.unusedSimpArgs false
set_option linter.unusedVariables false
open Go.ChangeShapes Go.WideShapes Go.ChangeAt Go.RowKit Go.BigFrame

@[reducible] def tri (R : Int × Int × Int) : Value := .tuple #[.int .u64 R.1, .int .i64 R.2.1, .int .i64 R.2.2]
theorem ret_tri {R : Int × Int × Int} {x y z : Int} (h : (x, y, z) = R) : Ending.returned (.tuple #[.int .u64 x, .int .i64 y, .int .i64 z]) = .returned (tri R) := by subst h; rfl
section
variable {s : ByteArray} {a k f : Nat} {e u : Int} {R : Int × Int × Int}
theorem vw_end (h : vwGo s a e (f + 1) k u = R) (he : e ≤ (a : Int) + k) : ((0 : Int), e, (9 : Int)) = R := by
  rw [← h, vwGo, if_pos (by omega)]
theorem vw_cut (h : vwGo s a e (f + 1) k u = R) (he : ¬ e ≤ (a : Int) + k) (hl : s.size ≤ a + k) : ((0 : Int), (s.size : Int), (10 : Int)) = R := by
  rw [← h, vwGo, if_neg (by omega), if_pos hl]
theorem vw_over (h : vwGo s a e (f + 1) 9 u = R) (he : ¬ e ≤ (a : Int) + 9) (hl : a + 9 < s.size) (hb : 1 < s[a + 9].toNat) : ((0 : Int), (a : Int) + 9, (1 : Int)) = R := by
  rw [← h, vwGo, if_neg (by omega), if_neg (by omega), if_pos ⟨rfl, by rw [byteAt_eq hl]; exact hb⟩]; rfl
theorem vw_last (h : vwGo s a e (f + 1) k u = R) (he : ¬ e ≤ (a : Int) + k) (hl : a + k < s.size) (h9 : k = 9 → s[a + k].toNat ≤ 1) (hb : s[a + k].toNat < 128) : (u + (s[a + k].toNat % 128 : Nat) * 2 ^ (7 * k), (a : Int) + k + 1, (0 : Int)) = R := by
  rw [← h, vwGo, if_neg (by omega), if_neg (by omega), if_neg (by rw [byteAt_eq hl]; intro h; have := h9 h.1; omega), if_pos (by rw [byteAt_eq hl]; exact hb), byteAt_eq hl]
  simp
theorem vw_more (h : vwGo s a e (f + 1) k u = R) (he : ¬ e ≤ (a : Int) + k) (hl : a + k < s.size) (h9 : k = 9 → s[a + k].toNat ≤ 1) (hb : ¬ s[a + k].toNat < 128) : vwGo s a e f (k + 1) (u + (s[a + k].toNat % 128 : Nat) * 2 ^ (7 * k)) = R := by
  rw [vwGo, if_neg (by omega), if_neg (by omega), if_neg (by rw [byteAt_eq hl]; intro h; have := h9 h.1; omega), if_neg (by rw [byteAt_eq hl]; exact hb), byteAt_eq hl] at h
  exact h
end
set_option maxRecDepth 100000 in
set_option maxHeartbeats 4000000 in
theorem specVarWithin_any (s : ByteArray) (a e : Int) (w : World) (hs : s.size ≤ 1048576) :
    Calls Try.prog 13 #[.string s, .int .i64 a, .int .i64 e] w fun r w' => r = .returned (tri (varWithin s a e)) ∧ w = w' := by
  by_cases hin : 0 ≤ a ∧ a ≤ s.size
  · obtain ⟨R, hR⟩ : ∃ R, varWithin s a e = R := ⟨_, rfl⟩
    have hR' : vwGo s a.toNat e 10 0 0 = R := by rw [← hR, varWithin, if_pos hin]
    rw [hR]
    obtain ⟨a, rfl⟩ := Int.eq_ofNat_of_zero_le hin.1
    have hi : inB (a : Int) 0 s.size = true := by simp [inB]; omega
    have ha : a ≤ s.size := by omega
    simp only [Int.toNat_natCast] at hR'
    have HR := Lib.hid hR'
    clear hR hR' hin
    go_enter Try.func13, Try.ntmps13
    go_wp2_with (first | (go_at_call 58; refine (l1In_any _ _ _ _).mono ?_; rintro r w1 ⟨rfl, rfl⟩))
    go_loop [6, 7, 8, 9, 10, 11] (fun r0 r1 r2 t i x => ∃ k : Nat, k ≤ 10 ∧ i = .int .i64 k ∧ ∃ u : Int, 0 ≤ u ∧ Hid (u < 2 ^ (7 * k)) ∧ Hid (vwGo s a e (10 - k) k u = R) ∧ t = .int .u64 u) (fun _ _ _ _ i _ => 10 - (intOf i).toNat)
    case atStart => exact ⟨0, by omega, rfl, 0, by omega, Lib.hid (by simp), HR, rfl⟩
    case round =>
      obtain ⟨k, hk, rfl, u, hu0, HU, HV, rfl⟩ := hrel
      by_cases hlt : k < 10
      · obtain ⟨f, hf⟩ : ∃ f, 10 - k = f + 1 := ⟨9 - k, by omega⟩
        rw [hf] at HV
        have HF := Lib.hid (show 10 - (k + 1) = f by omega)
        clear hf
        by_cases he : e ≤ (a : Int) + k
        · have H := Lib.hid (vw_end HV.out he)
          go_wp2
          go_ret3
          exact ⟨ret_tri H.out, rfl⟩
        · by_cases hl : a + k < s.size
          · have hb := UInt8.toNat_lt s[a + k]
            by_cases h9 : k = 9 ∧ 1 < s[a + k].toNat
            · obtain ⟨rfl, h1⟩ := h9
              have H := Lib.hid (vw_over HV.out (by simpa using he) hl h1)
              have h9' : (((9 : Nat) : Int) == 9) = true := rfl
              go_wp2
              go_ret3
              exact ⟨ret_tri H.out, rfl⟩
            · have hb1 : k = 9 → s[a + k].toNat ≤ 1 := fun h => by omega
              have HS := Lib.hid (step_fits hu0 HU.out (by omega) hlt hb1)
              have HT := Lib.hid (step_spec hu0 HU.out (by omega) hlt hb1).2
              by_cases hb8 : s[a + k].toNat < 128
              · have H := Lib.hid (vw_last HV.out he hl hb1 hb8)
                by_cases hk9 : k = 9
                · subst hk9
                  have h1 : ¬ 1 < s[a + 9].toNat := by omega
                  have h9' : (((9 : Nat) : Int) == 9) = true := rfl
                  clear hb1 h9
                  go_wp2
                  go_ret3
                  exact ⟨ret_tri (Eq.trans (by rw [step_fits9 hu0 HU.out (by omega)]; rfl) H.out), rfl⟩
                · have h9' : ((k : Int) == 9) = false := by simp; omega
                  clear hb1 h9 hk9
                  go_wp2
                  go_ret3
                  exact ⟨ret_tri (Eq.trans (by rw [HS.out]) H.out), rfl⟩
              · have H := Lib.hid (vw_more HV.out he hl hb1 hb8)
                have hk9 : k < 9 := by omega
                have h9' : ((k : Int) == 9) = false := by simp; omega
                clear hb1 h9
                go_wp2
                go_round
                case rel => exact ⟨k + 1, by omega, by go_num, _, by have := Int.natCast_nonneg (s[a + k].toNat % 128); have h2 : (0 : Int) ≤ 2 ^ (7 * k) := Int.pow_nonneg (by omega); exact Int.add_nonneg hu0 (Int.mul_nonneg this h2), Lib.hid HT.out, by rw [HF.out]; exact H, by rw [HS.out]⟩
                case measure => simp [intOf]; omega
          · have H := Lib.hid (vw_cut HV.out he (by omega))
            go_wp2
            go_ret3
            exact ⟨ret_tri H.out, rfl⟩
      · obtain rfl : k = 10 := by omega
        have H := Lib.hid (show ((0 : Int), (s.size : Int), (10 : Int)) = R from HV.out)
        go_wp2
        go_ret3
        exact ⟨ret_tri H.out, rfl⟩
  · have hi : inB a 0 s.size = false := by simp only [inB, decide_eq_false_iff_not]; exact hin
    have H := Lib.hid (show ((0 : Int), (s.size : Int), (10 : Int)) = varWithin s a e by rw [varWithin, if_neg hin])
    clear hin
    go_enter Try.func13, Try.ntmps13
    go_wp2_with (first | (go_at_call 58; refine (l1In_any _ _ _ _).mono ?_; rintro r w1 ⟨rfl, rfl⟩))
    go_ret3
    exact ⟨ret_tri H.out, rfl⟩
set_option maxRecDepth 100000 in
set_option maxHeartbeats 4000000 in
theorem implVarWithin_any (s : ByteArray) (a e : Int) (w : World) (hs : s.size ≤ 1048576) :
    Calls Try.prog 12 #[.string s, .int .i64 a, .int .i64 e] w fun r w' => r = .returned (tri (varWithin s a e)) ∧ w = w' := by
  by_cases hin : 0 ≤ a ∧ a ≤ s.size
  · obtain ⟨R, hR⟩ : ∃ R, varWithin s a e = R := ⟨_, rfl⟩
    have hR' : vwGo s a.toNat e 10 0 0 = R := by rw [← hR, varWithin, if_pos hin]
    rw [hR]
    obtain ⟨a, rfl⟩ := Int.eq_ofNat_of_zero_le hin.1
    have hi : inB (a : Int) 0 s.size = true := by simp [inB]; omega
    have ha : a ≤ s.size := by omega
    simp only [Int.toNat_natCast] at hR'
    have HR := Lib.hid hR'
    clear hR hR' hin
    go_enter Try.func12, Try.ntmps12
    go_wp2_with (first | (go_at_call 57; refine (within_any _ _ _ _).mono ?_; rintro r w1 ⟨rfl, rfl⟩))
    go_loop [6, 7, 8, 9, 10, 11] (fun r0 r1 r2 t i x => ∃ k : Nat, k < 10 ∧ i = .int .i64 k ∧ ∃ u : Int, 0 ≤ u ∧ Hid (u < 2 ^ (7 * k)) ∧ Hid (vwGo s a e (10 - k) k u = R) ∧ t = .int .u64 u) (fun _ _ _ _ i _ => 10 - (intOf i).toNat)
    case atStart => exact ⟨0, by omega, rfl, 0, by omega, Lib.hid (by simp), HR, rfl⟩
    case round =>
      obtain ⟨k, hlt, rfl, u, hu0, HU, HV, rfl⟩ := hrel
      · obtain ⟨f, hf⟩ : ∃ f, 10 - k = f + 1 := ⟨9 - k, by omega⟩
        rw [hf] at HV
        have HF := Lib.hid (show 10 - (k + 1) = f by omega)
        clear hf
        by_cases he : e ≤ (a : Int) + k
        · have H := Lib.hid (vw_end HV.out he)
          go_wp2
          go_ret3
          exact ⟨ret_tri H.out, rfl⟩
        · by_cases hl : a + k < s.size
          · have hb := UInt8.toNat_lt s[a + k]
            by_cases h9 : k = 9 ∧ 1 < s[a + k].toNat
            · obtain ⟨rfl, h1⟩ := h9
              have H := Lib.hid (vw_over HV.out (by simpa using he) hl h1)
              have h9' : (((9 : Nat) : Int) == 9) = true := rfl
              go_wp2
              go_ret3
              exact ⟨ret_tri H.out, rfl⟩
            · have hb1 : k = 9 → s[a + k].toNat ≤ 1 := fun h => by omega
              have HS := Lib.hid (step_impl hu0 HU.out (by omega) hlt hb1)
              have HT := Lib.hid (step_spec hu0 HU.out (by omega) hlt hb1).2
              by_cases hb8 : s[a + k].toNat < 128
              · have H := Lib.hid (vw_last HV.out he hl hb1 hb8)
                by_cases hk9 : k = 9
                · subst hk9
                  have h1 : ¬ 1 < s[a + 9].toNat := by omega
                  have h9' : (((9 : Nat) : Int) == 9) = true := rfl
                  clear hb1 h9
                  go_wp2
                  go_ret3
                  exact ⟨ret_tri (Eq.trans (by have h := HS.out; have e9 : (2 : Int) ^ (7 * 9) = 9223372036854775808 := rfl; rw [e9] at h ⊢; rw [h]; rfl) H.out), rfl⟩
                · have h9' : ((k : Int) == 9) = false := by simp; omega
                  clear hb1 h9 hk9
                  go_wp2
                  go_ret3
                  exact ⟨ret_tri (Eq.trans (by rw [HS.out]) H.out), rfl⟩
              · have H := Lib.hid (vw_more HV.out he hl hb1 hb8)
                have hk9 : k < 9 := by omega
                have h9' : ((k : Int) == 9) = false := by simp; omega
                clear hb1 h9
                go_wp2
                go_round
                case rel => exact ⟨k + 1, by omega, by go_num, _, by have := Int.natCast_nonneg (s[a + k].toNat % 128); have h2 : (0 : Int) ≤ 2 ^ (7 * k) := Int.pow_nonneg (by omega); exact Int.add_nonneg hu0 (Int.mul_nonneg this h2), Lib.hid HT.out, by rw [HF.out]; exact H, by rw [HS.out]⟩
                case measure => simp [intOf]; omega
          · have H := Lib.hid (vw_cut HV.out he (by omega))
            go_wp2
            go_ret3
            exact ⟨ret_tri H.out, rfl⟩
  · have hi : inB a 0 s.size = false := by simp only [inB, decide_eq_false_iff_not]; exact hin
    have H := Lib.hid (show ((0 : Int), (s.size : Int), (10 : Int)) = varWithin s a e by rw [varWithin, if_neg hin])
    clear hin
    go_enter Try.func12, Try.ntmps12
    go_wp2_with (first | (go_at_call 57; refine (within_any _ _ _ _).mono ?_; rintro r w1 ⟨rfl, rfl⟩))
    go_ret3
    exact ⟨ret_tri H.out, rfl⟩
end Go.Proofs.Ytigmdaiecdoimaa
