/- GetVar, and how VarWithin agrees with it. -/
import Derived.Test.YtigmdaiecdoimaaVarW
namespace Go.Proofs.Ytigmdaiecdoimaa
set_option linter.unusedSimpArgs false
set_option linter.unusedVariables false
open Go.ChangeShapes Go.WideShapes Go.ChangeAt Go.RowKit Go.BigFrame

/-- What is read from the k-th byte on: the number, where it ends, what is wrong. -/
def gvGo (s : ByteArray) (a : Nat) : Nat → Nat → Int → Int × Int × Int
  | 0, _, _ => (0, s.size, 1)
  | f + 1, k, u =>
    if s.size ≤ a + k then (0, s.size, 1)
    else if k = 9 ∧ 1 < byteAt s (a + k) then (0, (a + k : Nat), 2)
    else if byteAt s (a + k) < 128 then (u + (byteAt s (a + k) % 128 : Nat) * 2 ^ (7 * k), (a + k + 1 : Nat), 0)
    else gvGo s a f (k + 1) (u + (byteAt s (a + k) % 128 : Nat) * 2 ^ (7 * k))
def getVar (s : ByteArray) (a : Int) : Int × Int × Int :=
  if 0 ≤ a ∧ a ≤ s.size then gvGo s a.toNat 10 0 0 else (0, 0, 1)
section
variable {s : ByteArray} {a k f : Nat} {u : Int} {R : Int × Int × Int}
theorem gv_cut (h : gvGo s a (f + 1) k u = R) (hl : s.size ≤ a + k) : ((0 : Int), (s.size : Int), (1 : Int)) = R := by
  rw [← h, gvGo, if_pos hl]
theorem gv_over (h : gvGo s a (f + 1) 9 u = R) (hl : a + 9 < s.size) (hb : 1 < s[a + 9].toNat) : ((0 : Int), (a : Int) + 9, (2 : Int)) = R := by
  rw [← h, gvGo, if_neg (by omega), if_pos ⟨rfl, by rw [byteAt_eq hl]; exact hb⟩]; rfl
theorem gv_last (h : gvGo s a (f + 1) k u = R) (hl : a + k < s.size) (h9 : k = 9 → s[a + k].toNat ≤ 1) (hb : s[a + k].toNat < 128) : (u + (s[a + k].toNat % 128 : Nat) * 2 ^ (7 * k), (a : Int) + k + 1, (0 : Int)) = R := by
  rw [← h, gvGo, if_neg (by omega), if_neg (by rw [byteAt_eq hl]; intro h; have := h9 h.1; omega), if_pos (by rw [byteAt_eq hl]; exact hb), byteAt_eq hl]
  simp
theorem gv_more (h : gvGo s a (f + 1) k u = R) (hl : a + k < s.size) (h9 : k = 9 → s[a + k].toNat ≤ 1) (hb : ¬ s[a + k].toNat < 128) : gvGo s a f (k + 1) (u + (s[a + k].toNat % 128 : Nat) * 2 ^ (7 * k)) = R := by
  rw [gvGo, if_neg (by omega), if_neg (by rw [byteAt_eq hl]; intro h; have := h9 h.1; omega), if_neg (by rw [byteAt_eq hl]; exact hb), byteAt_eq hl] at h
  exact h
end
/-! ### the two agree -/
/-- How the two answers go together. -/
def Agree (s : ByteArray) (a : Int) (e : Int) (V G : Int × Int × Int) : Prop :=
  (G.2.2 = 0 ∧ G.2.1 ≤ e → V = (G.1, G.2.1, 0)) ∧ (G.2.2 = 0 ∧ ¬ G.2.1 ≤ e → V = (0, e, 9)) ∧ (¬ G.2.2 = 0 ∧ e ≤ s.size ∧ e < G.2.1 + 1 ∧ G.2.2 = 1 → V = (0, e, 9)) ∧ (¬ G.2.2 = 0 → ¬ V.2.2 = 0)
theorem gv_far (s : ByteArray) (a : Nat) : ∀ (f k : Nat) (u : Int), (gvGo s a f k u).2.2 = 0 → (a : Int) + k < (gvGo s a f k u).2.1
  | 0, k, u, h => by simp [gvGo] at h
  | f + 1, k, u, h => by
    have ih := gv_far s a f (k + 1) (u + (byteAt s (a + k) % 128 : Nat) * 2 ^ (7 * k))
    simp only [gvGo] at h ⊢
    by_cases h1 : s.size ≤ a + k
    · rw [if_pos h1] at h; simp at h
    · rw [if_neg h1] at h ⊢
      by_cases h2 : k = 9 ∧ 1 < byteAt s (a + k)
      · rw [if_pos h2] at h; simp at h
      · rw [if_neg h2] at h ⊢
        by_cases h3 : byteAt s (a + k) < 128
        · rw [if_pos h3]; simp only; omega
        · rw [if_neg h3] at h ⊢
          have := ih h
          omega
theorem agree_go (s : ByteArray) (a : Nat) (e : Int) : ∀ (f k : Nat) (u : Int), f + 1 + k = 10 → Agree s a e (vwGo s a e (f + 1) k u) (gvGo s a (f + 1) k u)
  | f, k, u, h => by
    have hfar := gv_far s a (f + 1) k u
    by_cases he : e ≤ (a + k : Nat)
    · have hv : vwGo s a e (f + 1) k u = (0, e, 9) := by rw [vwGo, if_pos he]
      rw [hv]
      refine ⟨?_, fun _ => rfl, fun _ => rfl, by simp⟩
      rintro ⟨h1, h2⟩
      have := hfar h1
      omega
    · rw [vwGo, if_neg he, gvGo]
      by_cases h1 : s.size ≤ a + k
      · rw [if_pos h1, if_pos h1]
        refine ⟨by simp, by simp, ?_, by simp⟩
        rintro ⟨_, h2, _⟩
        omega
      · rw [if_neg h1, if_neg h1]
        by_cases h2 : k = 9 ∧ 1 < byteAt s (a + k)
        · rw [if_pos h2, if_pos h2]
          exact ⟨by simp, by simp, by simp, by simp⟩
        · rw [if_neg h2, if_neg h2]
          by_cases h3 : byteAt s (a + k) < 128
          · rw [if_pos h3, if_pos h3]
            refine ⟨by simp, ?_, by simp, by simp⟩
            rintro ⟨_, h4⟩
            simp only at h4
            omega
          · rw [if_neg h3, if_neg h3]
            match f, h with
            | 0, h => omega
            | f + 1, h => exact agree_go s a e f (k + 1) _ (by omega)
theorem agree (s : ByteArray) (a e : Int) (h : 0 ≤ a ∧ a ≤ s.size) : Agree s a e (varWithin s a e) (getVar s a) := by
  obtain ⟨n, rfl⟩ := Int.eq_ofNat_of_zero_le h.1
  rw [varWithin, if_pos h, getVar, if_pos h]
  exact agree_go s n e 9 0 0 rfl
set_option maxRecDepth 100000 in
set_option maxHeartbeats 4000000 in
theorem specGetVar_any (s : ByteArray) (a : Int) (w : World) (hs : s.size ≤ 1048576) :
    Calls Try.prog 14 #[.string s, .int .i64 a] w fun r w' => r = .returned (tri (getVar s a)) ∧ w = w' := by
  by_cases hin : 0 ≤ a ∧ a ≤ s.size
  · obtain ⟨R, hR⟩ : ∃ R, getVar s a = R := ⟨_, rfl⟩
    have hR' : gvGo s a.toNat 10 0 0 = R := by rw [← hR, getVar, if_pos hin]
    rw [hR]
    obtain ⟨a, rfl⟩ := Int.eq_ofNat_of_zero_le hin.1
    have hi : inB (a : Int) 0 s.size = true := by simp [inB]; omega
    have ha : a ≤ s.size := by omega
    simp only [Int.toNat_natCast] at hR'
    have HR := Lib.hid hR'
    clear hR hR' hin
    go_enter Try.func14, Try.ntmps14
    go_wp2_with (first | (go_at_call 58; refine (l1In_any _ _ _ _).mono ?_; rintro r w1 ⟨rfl, rfl⟩))
    go_loop [4, 5, 6, 7, 8, 9] (fun r0 r1 r2 t i x => ∃ k : Nat, k ≤ 10 ∧ i = .int .i64 k ∧ ∃ u : Int, 0 ≤ u ∧ Hid (u < 2 ^ (7 * k)) ∧ Hid (gvGo s a (10 - k) k u = R) ∧ t = .int .u64 u) (fun _ _ _ _ i _ => 10 - (intOf i).toNat)
    case atStart => exact ⟨0, by omega, rfl, 0, by omega, Lib.hid (by simp), HR, rfl⟩
    case round =>
      obtain ⟨k, hk, rfl, u, hu0, HU, HV, rfl⟩ := hrel
      by_cases hlt : k < 10
      · obtain ⟨f, hf⟩ : ∃ f, 10 - k = f + 1 := ⟨9 - k, by omega⟩
        rw [hf] at HV
        have HF := Lib.hid (show 10 - (k + 1) = f by omega)
        clear hf
        by_cases hl : a + k < s.size
        · have hb := UInt8.toNat_lt s[a + k]
          by_cases h9 : k = 9 ∧ 1 < s[a + k].toNat
          · obtain ⟨rfl, h1⟩ := h9
            have H := Lib.hid (gv_over HV.out hl h1)
            have h9' : (((9 : Nat) : Int) == 9) = true := rfl
            go_wp2
            go_ret3
            exact ⟨ret_tri H.out, rfl⟩
          · have hb1 : k = 9 → s[a + k].toNat ≤ 1 := fun h => by omega
            have HS := Lib.hid (step_fits hu0 HU.out (by omega) hlt hb1)
            have HT := Lib.hid (step_spec hu0 HU.out (by omega) hlt hb1).2
            by_cases hb8 : s[a + k].toNat < 128
            · have H := Lib.hid (gv_last HV.out hl hb1 hb8)
              by_cases hk9 : k = 9
              · subst hk9
                have h1 : ¬ 1 < s[a + 9].toNat := by omega
                have h9' : (((9 : Nat) : Int) == 9) = true := rfl
                clear hb1 h9
                go_wp2
                go_ret3
                exact ⟨ret_tri (Eq.trans (by rw [step_fits9 hu0 HU.out (by omega)]; rfl) H.out), rfl⟩
              · have h9' : ((k : Int) == 9) = false := by simp; omega
                clear hb1 h9 hk9
                go_wp2
                go_ret3
                exact ⟨ret_tri (Eq.trans (by rw [HS.out]) H.out), rfl⟩
            · have H := Lib.hid (gv_more HV.out hl hb1 hb8)
              have hk9 : k < 9 := by omega
              have h9' : ((k : Int) == 9) = false := by simp; omega
              clear hb1 h9
              go_wp2
              go_round
              case rel => exact ⟨k + 1, by omega, by go_num, _, by have := Int.natCast_nonneg (s[a + k].toNat % 128); have h2 : (0 : Int) ≤ 2 ^ (7 * k) := Int.pow_nonneg (by omega); exact Int.add_nonneg hu0 (Int.mul_nonneg this h2), Lib.hid HT.out, by rw [HF.out]; exact H, by rw [HS.out]⟩
              case measure => simp [intOf]; omega
        · have H := Lib.hid (gv_cut HV.out (by omega))
          go_wp2
          go_ret3
          exact ⟨ret_tri H.out, rfl⟩
      · obtain rfl : k = 10 := by omega
        have H := Lib.hid (show ((0 : Int), (s.size : Int), (1 : Int)) = R from HV.out)
        go_wp2
        go_ret3
        exact ⟨ret_tri H.out, rfl⟩
  · have hi : inB a 0 s.size = false := by simp only [inB, decide_eq_false_iff_not]; exact hin
    have H := Lib.hid (show ((0 : Int), (0 : Int), (1 : Int)) = getVar s a by rw [getVar, if_neg hin])
    clear hin
    go_enter Try.func14, Try.ntmps14
    go_wp2_with (first | (go_at_call 58; refine (l1In_any _ _ _ _).mono ?_; rintro r w1 ⟨rfl, rfl⟩))
    go_ret3
    exact ⟨ret_tri H.out, rfl⟩
end Go.Proofs.Ytigmdaiecdoimaa
