/- PrefixOf (under way). -/
import Derived.Test.YtkmenljbajlneaaMerge
import Derived.Test.YtkmenljbajlneaaEvList
import Derived.Test.YtkmenljbajlneaaShelf
namespace Go.Proofs.Ytkmenljbajlneaa
set_option linter.unusedSimpArgs false
set_option linter.unusedVariables false
open Go.ChangeShapes Go.WideShapes Go.ChangeAt Go.RowKit Go.BigFrame

/-- Is p's text a beginning of q's? -/
def textPre (p q : ByteArray) : Bool := decide (p.size ≤ q.size ∧ q.extract 0 p.size = p)
/-- Are merged events a beginning of others? -/
def preL (X Y : List Ev) : Bool :=
  match X.getLast? with
  | none => true
  | some p => match Y[X.length - 1]? with
    | none => false
    | some q => decide (X.dropLast = Y.take (X.length - 1)) && (decide (p = q) || (decide (p.kind = 4) && (decide (q.kind = 4) && textPre p.text q.text)))
theorem preL_nil (Y : List Ev) : preL [] Y = true := rfl
theorem preL_short {ds Y : List Ev} {p : Ev} (h : Y.length < ds.length + 1) : preL (ds ++ [p]) Y = false := by
  simp only [preL, List.getLast?_concat, List.length_append, List.length_singleton, Nat.add_sub_cancel]
  rw [List.getElem?_eq_none (by omega)]
theorem preL_at {ds Y : List Ev} {p q : Ev} (h : Y[ds.length]? = some q) : preL (ds ++ [p]) Y = (decide (ds = Y.take ds.length) && (decide (p = q) || (decide (p.kind = 4) && (decide (q.kind = 4) && textPre p.text q.text)))) := by
  simp only [preL, List.getLast?_concat, List.length_append, List.length_singleton, Nat.add_sub_cancel, h, List.dropLast_concat]
theorem Evs.take {w : World} {a : Option Addr} {xs : List Ev} (h : Evs w a xs) (m : Nat) : Evs w a (xs.take m) := by
  intro k e he
  rw [List.getElem?_take] at he
  split at he
  · exact h k e he
  · cases he
theorem run_eql_ev (k f b l c a k' f' b' l' c' a' : Int) (t t' : ByteArray) (w : World) :
    (binOp .eql 68 (.agg #[.int .i64 k, .int .i64 f, .int .u64 b, .int .i64 l, .string t, .int .i64 c, .int .i64 a]) (.agg #[.int .i64 k', .int .i64 f', .int .u64 b', .int .i64 l', .string t', .int .i64 c', .int .i64 a'])).run Try.prog w
      = .ok (.bool (sameEv (Ev.mk k f b l t c a) (Ev.mk k' f' b' l' t' c' a'))) w := by
  simp [go_sem, beq_bytes, sameEv]
  by_cases h1 : k = k' <;> by_cases h2 : f = f' <;> by_cases h3 : b = b' <;> by_cases h4 : l = l' <;> by_cases h5 : t = t' <;> by_cases h6 : c = c' <;> by_cases h7 : a = a' <;> simp [h1, h2, h3, h4, h5, h6, h7]
set_option maxRecDepth 100000 in
set_option maxHeartbeats 4000000 in
theorem specPrefixOf_any (a a' : Option Addr) (cap cap' n n' : Nat) (xs ys : List Ev) (w : World) (h : Evs w a xs) (h' : Evs w a' ys) (hx : xs.length = n) (hy : ys.length = n') (hn : n ≤ 1048576) (hn' : n' ≤ 1048576) (hm : textSum xs ≤ 1048576) (hm' : textSum ys ≤ 1048576) :
    Calls Try.prog 42 #[.slice a n cap, .slice a' n' cap'] w fun r w' => r = .returned (.bool (preL (merged xs) (merged ys))) ∧ Below w.heap.size w w' := by
  have hX1 := (merged_le xs).1
  have hY1 := (merged_le ys).1
  go_enter Try.func42, Try.ntmps42
  go_wp2_with fail
  refine (specMerged_any a cap n xs _ h hx hn hm).mono ?_
  rintro r w1 ⟨v1, rfl, ho1, hb1⟩
  obtain ⟨a1, cap1, rfl, h1⟩ := owned_shape ho1
  have hc1 := own_cap h1
  have hm1 := own_capm h1
  have hE1 := evs_of_own h1 rfl
  clear ho1 h1
  go_wp2_with fail
  refine (specMerged_any a' cap' n' ys _ (Sl.keep h' hb1) hy hn' hm').mono ?_
  rintro r w2 ⟨v2, rfl, ho2, hb2⟩
  obtain ⟨a2, cap2, rfl, h2⟩ := owned_shape ho2
  have hc2 := own_cap h2
  have hm2 := own_capm h2
  have hE2 := evs_of_own h2 rfl
  have hE1' := Sl.keep hE1 hb2
  clear ho2 h2 hE1
  have hz1 := hb1.size
  have hz2 := hb2.size
  have hT : Below w.heap.size w w2 := hb1.trans (hb2.mono hz1)
  clear hb1 hb2
  obtain ⟨X, hX⟩ : ∃ X, X = merged xs := ⟨_, rfl⟩
  obtain ⟨Y, hY⟩ : ∃ Y, Y = merged ys := ⟨_, rfl⟩
  rw [← hX] at hE1' hX1 hc1 ⊢
  rw [← hY] at hE2 hY1 hc2 ⊢
  have HXX := Lib.hid hX; have HYY := Lib.hid hY
  clear hX hY
  unfold maxLen at hm1 hm2
  rcases List.eq_nil_or_concat X with rfl | ⟨ds, p, rfl⟩
  · have hr := preL_nil Y
    go_wp2
    go_ret
    exact ⟨ret_bool (by rw [← HXX.out, ← HYY.out]; exact hr.symm), hT⟩
  · rw [List.concat_eq_append] at *
    obtain ⟨m, hm0⟩ : ∃ m, ds.length = m := ⟨_, rfl⟩
    have hlen : (ds ++ [p]).length = m + 1 := by simp [hm0]
    rw [hlen] at hX1 hc1 ⊢
    by_cases hl : Y.length < m + 1
    · have HR := Lib.hid (preL_short (p := p) (show Y.length < ds.length + 1 by omega))
      have hl1 : ((Y.length : Int) < (m : Int) + 1) := by omega
      clear hm0 hlen
      go_wp2_with fail
      (refine wp_region_ext (by kernel_rfl) (by kernel_rfl) ?_; (repeat (go_big_quiet_step (fail))); refine wpQuiet_nil ?_; intro w3 hb3; obtain ⟨hc3, hf3⟩ := bcell hb3; have hz3 := hb3.size; (try simp only [World.size_alloc, World.size_setCell, World.size_drew] at hz3))
      go_wp2
      go_ret
      exact ⟨ret_bool (by rw [← HXX.out, ← HYY.out]; exact HR.out.symm), by ((repeat (first | (with_reducible exact Below.refl _ _) | (with_reducible assumption) | (with_reducible refine Below.alloc ?_ ?_ _) | (with_reducible refine Below.setCell ?_ ?_ _) | (with_reducible refine Below.drew ?_) | (with_reducible refine below_setRow ?_ ?_ _) | (refine Below.trans ?_ (Below.mono (by assumption) ?_)))); all_goals (first | omega | (simp; done) | (simp; omega)))⟩
    · obtain ⟨q, hq, _⟩ := at_lt (xs := Y) (k := m) (by omega)
      obtain ⟨es, hes⟩ : ∃ es, es = Y.take m := ⟨_, rfl⟩
      have hel : es.length = m := by rw [hes, List.length_take]; omega
      have HR0 := preL_at (p := p) (show Y[ds.length]? = some q by rw [hm0]; exact hq)
      rw [hm0, ← hes] at HR0
      have HR := Lib.hid HR0; clear HR0
      have hd1 : Evs w2 a1 ds := by have h1 := Evs.take hE1' m; rwa [List.take_append_of_le_length (by omega), List.take_of_length_le (by omega)] at h1
      have hd2 : Evs w2 a2 es := by rw [hes]; exact Evs.take hE2 m
      obtain ⟨b1, o1, rfl, hlb1, p0, p1, p2, p3, p4, p5, p6⟩ := Evs.at hE1' (k := m) (e := p) (by rw [List.getElem?_append_right (by omega)]; simp [hm0])
      obtain ⟨b2, o2, rfl, hlb2, q0, q1, q2, q3, q4, q5, q6⟩ := Evs.at hE2 hq
      have hl1 : decide ((Y.length : Int) < (m : Int) + 1) = false := by simp; omega
      have hmc : m ≤ cap1 := by omega
      have hmc2 : m ≤ cap2 := by omega
      have HL := Lib.hid hel; have HM0 := Lib.hid hm0
      clear hq hes hE1' hE2 hel hm0 hlen
      by_cases hde : ds = es
      · have hdd : decide (ds = es) = true := by simp [hde]
        have HDE := Lib.hid hde; clear hde
        go_wp2_with fail
        (refine wp_region_ext (by kernel_rfl) (by kernel_rfl) ?_; (repeat (go_big_quiet_step (first | (go_at_call 82; refine Calls.ext_of (specSameEvents_any _ _ _ _ m m ds es _ (Sl.keep hd1 (World.ext_below _ _)) (Sl.keep hd2 (World.ext_below _ _)) HM0.out HL.out (by omega) (by omega)))))); refine wpQuiet_nil ?_; intro w3 hb3; obtain ⟨hc3, hf3⟩ := bcell hb3; have hz3 := hb3.size; (try simp only [World.size_alloc, World.size_setCell, World.size_drew] at hz3))
        rw [← hc3 _ _ hlb1] at p0 p1 p2 p3 p4 p5 p6
        rw [← hc3 _ _ hlb2] at q0 q1 q2 q3 q4 q5 q6
        have hlb1' : b1 < w3.heap.size := by omega
        have hlb2' : b2 < w3.heap.size := by omega
        by_cases hpq : p = q
        · have hd : sameEv p q = true := by simp [sameEv, hpq]
          have HPQ := Lib.hid hpq; clear hpq
          have hne := run_eql_ev
          go_wp2
          go_ret
          exact ⟨ret_bool (by rw [← HXX.out, ← HYY.out, HR.out, hdd, HPQ.out]; simp), by ((repeat (first | (with_reducible exact Below.refl _ _) | (with_reducible assumption) | (with_reducible refine Below.alloc ?_ ?_ _) | (with_reducible refine Below.setCell ?_ ?_ _) | (with_reducible refine Below.drew ?_) | (with_reducible refine below_setRow ?_ ?_ _) | (refine Below.trans ?_ (Below.mono (by assumption) ?_)))); all_goals (first | omega | (simp; done) | (simp; omega)))⟩
        · have hd : sameEv p q = false := by simp [sameEv, hpq]
          have hne := run_eql_ev
          have hpx : decide (p = q) = false := hd
          clear hpq
          by_cases hpk : p.kind = 4
          · have hpk1 : (p.kind == 4) = true := by simp [hpk]
            have hpk2 : decide (p.kind = 4) = true := by simp [hpk]
            clear hpk
            by_cases hqk : q.kind = 4
            · have hqk1 : (q.kind == 4) = true := by simp [hqk]
              have hqk2 : decide (q.kind = 4) = true := by simp [hqk]
              clear hqk
              by_cases hsz : p.text.size ≤ q.text.size
              · have hsz1 : decide ((p.text.size : Int) ≤ q.text.size) = true := by simp; omega
                have hsz2 : (p.text.size : Int) ≤ q.text.size := by omega
                go_wp2_with fail
                (refine wp_region_ext (by kernel_rfl) (by kernel_rfl) ?_; (repeat (go_big_quiet_step (fail))); refine wpQuiet_nil ?_; intro w4 hb4; obtain ⟨hc4, hf4⟩ := bcell hb4; have hz4 := hb4.size; (try simp only [World.size_alloc, World.size_setCell, World.size_drew] at hz4))
                go_wp2
                go_ret
                exact ⟨ret_bool (by rw [← HXX.out, ← HYY.out, HR.out, hdd, hpx, hpk2, hqk2, beq_bytes]; simp [textPre, hsz]), by ((repeat (first | (with_reducible exact Below.refl _ _) | (with_reducible assumption) | (with_reducible refine Below.alloc ?_ ?_ _) | (with_reducible refine Below.setCell ?_ ?_ _) | (with_reducible refine Below.drew ?_) | (with_reducible refine below_setRow ?_ ?_ _) | (refine Below.trans ?_ (Below.mono (by assumption) ?_)))); all_goals (first | omega | (simp; done) | (simp; omega)))⟩
              · have hsz1 : decide ((p.text.size : Int) ≤ q.text.size) = false := by simp; omega
                go_wp2_with fail
                (refine wp_region_ext (by kernel_rfl) (by kernel_rfl) ?_; (repeat (go_big_quiet_step (fail))); refine wpQuiet_nil ?_; intro w4 hb4; obtain ⟨hc4, hf4⟩ := bcell hb4; have hz4 := hb4.size; (try simp only [World.size_alloc, World.size_setCell, World.size_drew] at hz4))
                go_wp2
                go_ret
                exact ⟨ret_bool (by rw [← HXX.out, ← HYY.out, HR.out, hdd, hpx, hpk2, hqk2]; simp [textPre, hsz]), by ((repeat (first | (with_reducible exact Below.refl _ _) | (with_reducible assumption) | (with_reducible refine Below.alloc ?_ ?_ _) | (with_reducible refine Below.setCell ?_ ?_ _) | (with_reducible refine Below.drew ?_) | (with_reducible refine below_setRow ?_ ?_ _) | (refine Below.trans ?_ (Below.mono (by assumption) ?_)))); all_goals (first | omega | (simp; done) | (simp; omega)))⟩
            · have hqk1 : (q.kind == 4) = false := by simp [hqk]
              have hqk2 : decide (q.kind = 4) = false := by simp [hqk]
              clear hqk
              go_wp2_with fail
              (refine wp_region_ext (by kernel_rfl) (by kernel_rfl) ?_; (repeat (go_big_quiet_step (fail))); refine wpQuiet_nil ?_; intro w4 hb4; obtain ⟨hc4, hf4⟩ := bcell hb4; have hz4 := hb4.size; (try simp only [World.size_alloc, World.size_setCell, World.size_drew] at hz4))
              go_wp2
              go_ret
              exact ⟨ret_bool (by rw [← HXX.out, ← HYY.out, HR.out, hdd, hpx, hpk2, hqk2]; rfl), by ((repeat (first | (with_reducible exact Below.refl _ _) | (with_reducible assumption) | (with_reducible refine Below.alloc ?_ ?_ _) | (with_reducible refine Below.setCell ?_ ?_ _) | (with_reducible refine Below.drew ?_) | (with_reducible refine below_setRow ?_ ?_ _) | (refine Below.trans ?_ (Below.mono (by assumption) ?_)))); all_goals (first | omega | (simp; done) | (simp; omega)))⟩
          · have hpk1 : (p.kind == 4) = false := by simp [hpk]
            have hpk2 : decide (p.kind = 4) = false := by simp [hpk]
            clear hpk
            go_wp2_with fail
            (refine wp_region_ext (by kernel_rfl) (by kernel_rfl) ?_; (repeat (go_big_quiet_step (fail))); refine wpQuiet_nil ?_; intro w4 hb4; obtain ⟨hc4, hf4⟩ := bcell hb4; have hz4 := hb4.size; (try simp only [World.size_alloc, World.size_setCell, World.size_drew] at hz4))
            go_wp2
            go_ret
            exact ⟨ret_bool (by rw [← HXX.out, ← HYY.out, HR.out, hdd, hpx, hpk2]; rfl), by ((repeat (first | (with_reducible exact Below.refl _ _) | (with_reducible assumption) | (with_reducible refine Below.alloc ?_ ?_ _) | (with_reducible refine Below.setCell ?_ ?_ _) | (with_reducible refine Below.drew ?_) | (with_reducible refine below_setRow ?_ ?_ _) | (refine Below.trans ?_ (Below.mono (by assumption) ?_)))); all_goals (first | omega | (simp; done) | (simp; omega)))⟩
      · have hdd : decide (ds = es) = false := by simp [hde]
        have HDE := Lib.hid hde; clear hde
        go_wp2_with fail
        (refine wp_region_ext (by kernel_rfl) (by kernel_rfl) ?_; (repeat (go_big_quiet_step (first | (go_at_call 82; refine Calls.ext_of (specSameEvents_any _ _ _ _ m m ds es _ (Sl.keep hd1 (World.ext_below _ _)) (Sl.keep hd2 (World.ext_below _ _)) HM0.out HL.out (by omega) (by omega)))))); refine wpQuiet_nil ?_; intro w3 hb3; obtain ⟨hc3, hf3⟩ := bcell hb3; have hz3 := hb3.size; (try simp only [World.size_alloc, World.size_setCell, World.size_drew] at hz3))
        go_wp2
        go_ret
        exact ⟨ret_bool (by rw [← HXX.out, ← HYY.out, HR.out, hdd]; rfl), by ((repeat (first | (with_reducible exact Below.refl _ _) | (with_reducible assumption) | (with_reducible refine Below.alloc ?_ ?_ _) | (with_reducible refine Below.setCell ?_ ?_ _) | (with_reducible refine Below.drew ?_) | (with_reducible refine below_setRow ?_ ?_ _) | (refine Below.trans ?_ (Below.mono (by assumption) ?_)))); all_goals (first | omega | (simp; done) | (simp; omega)))⟩
theorem hasPrefix_text (p q : ByteArray) : Lib.hasPrefix q.data.toList p.data.toList = textPre p q := by
  rw [Bool.eq_iff_iff]
  simp only [Lib.hasPrefix, textPre, List.isPrefixOf_iff_prefix, decide_eq_true_eq]
  rw [List.prefix_iff_eq_take]
  have hl : ∀ b : ByteArray, b.data.toList.length = b.size := fun b => Array.length_toList
  rw [hl]
  have hx : (q.extract 0 p.size).data.toList = q.data.toList.take p.size := by simp
  constructor
  · intro h
    have h1 : p.size ≤ q.size := by have h2 := congrArg List.length h; rw [List.length_take, hl, hl] at h2; omega
    refine ⟨h1, ?_⟩
    apply ByteArray.ext; apply Array.toList_inj.1; rw [hx, ← h]
  · rintro ⟨h1, h2⟩
    rw [← hx, h2]
theorem hasPrefix_any (q p : ByteArray) (w : World) : Calls Try.prog 85 #[.string q, .string p] w fun r w' => r = .returned (.bool (textPre p q)) ∧ w = w' := by
  refine (Try.strings_HasPrefix q p w).mono ?_
  rintro r w' ⟨rfl, rfl⟩
  exact ⟨by rw [hasPrefix_text], rfl⟩
set_option maxRecDepth 100000 in
set_option maxHeartbeats 4000000 in
theorem implPrefixOf_any (a a' : Option Addr) (cap cap' n n' : Nat) (xs ys : List Ev) (w : World) (h : Evs w a xs) (h' : Evs w a' ys) (hx : xs.length = n) (hy : ys.length = n') (hn : n ≤ 1048576) (hn' : n' ≤ 1048576) (hm : textSum xs ≤ 1048576) (hm' : textSum ys ≤ 1048576) :
    Calls Try.prog 44 #[.slice a n cap, .slice a' n' cap'] w fun r w' => r = .returned (.bool (preL (merged xs) (merged ys))) ∧ Below w.heap.size w w' := by
  have hX1 := (merged_le xs).1
  have hY1 := (merged_le ys).1
  go_enter Try.func44, Try.ntmps44
  go_wp2_with fail
  refine (implMerged_any a cap n xs _ h hx hn hm).mono ?_
  rintro r w1 ⟨v1, rfl, ho1, hb1⟩
  obtain ⟨a1, cap1, rfl, h1⟩ := owned_shape ho1
  have hc1 := own_cap h1
  have hm1 := own_capm h1
  have hE1 := evs_of_own h1 rfl
  clear ho1 h1
  go_wp2_with fail
  refine (implMerged_any a' cap' n' ys _ (Sl.keep h' hb1) hy hn' hm').mono ?_
  rintro r w2 ⟨v2, rfl, ho2, hb2⟩
  obtain ⟨a2, cap2, rfl, h2⟩ := owned_shape ho2
  have hc2 := own_cap h2
  have hm2 := own_capm h2
  have hE2 := evs_of_own h2 rfl
  have hE1' := Sl.keep hE1 hb2
  clear ho2 h2 hE1
  have hz1 := hb1.size
  have hz2 := hb2.size
  have hT : Below w.heap.size w w2 := hb1.trans (hb2.mono hz1)
  clear hb1 hb2
  obtain ⟨X, hX⟩ : ∃ X, X = merged xs := ⟨_, rfl⟩
  obtain ⟨Y, hY⟩ : ∃ Y, Y = merged ys := ⟨_, rfl⟩
  rw [← hX] at hE1' hX1 hc1 ⊢
  rw [← hY] at hE2 hY1 hc2 ⊢
  have HXX := Lib.hid hX; have HYY := Lib.hid hY
  clear hX hY
  unfold maxLen at hm1 hm2
  rcases List.eq_nil_or_concat X with rfl | ⟨ds, p, rfl⟩
  · have hr := preL_nil Y
    go_wp2
    go_ret
    exact ⟨ret_bool (by rw [← HXX.out, ← HYY.out]; exact hr.symm), hT⟩
  · rw [List.concat_eq_append] at *
    obtain ⟨m, hm0⟩ : ∃ m, ds.length = m := ⟨_, rfl⟩
    have hlen : (ds ++ [p]).length = m + 1 := by simp [hm0]
    rw [hlen] at hX1 hc1 ⊢
    by_cases hl : Y.length < m + 1
    · have HR := Lib.hid (preL_short (p := p) (show Y.length < ds.length + 1 by omega))
      have hl1 : ((Y.length : Int) < (m : Int) + 1) := by omega
      clear hm0 hlen
      go_wp2_with fail
      (refine wp_region_ext (by kernel_rfl) (by kernel_rfl) ?_; (repeat (go_big_quiet_step (fail))); refine wpQuiet_nil ?_; intro w3 hb3; obtain ⟨hc3, hf3⟩ := bcell hb3; have hz3 := hb3.size; (try simp only [World.size_alloc, World.size_setCell, World.size_drew] at hz3))
      go_wp2
      go_ret
      exact ⟨ret_bool (by rw [← HXX.out, ← HYY.out]; exact HR.out.symm), by ((repeat (first | (with_reducible exact Below.refl _ _) | (with_reducible assumption) | (with_reducible refine Below.alloc ?_ ?_ _) | (with_reducible refine Below.setCell ?_ ?_ _) | (with_reducible refine Below.drew ?_) | (with_reducible refine below_setRow ?_ ?_ _) | (refine Below.trans ?_ (Below.mono (by assumption) ?_)))); all_goals (first | omega | (simp; done) | (simp; omega)))⟩
    · obtain ⟨q, hq, _⟩ := at_lt (xs := Y) (k := m) (by omega)
      obtain ⟨es, hes⟩ : ∃ es, es = Y.take m := ⟨_, rfl⟩
      have hel : es.length = m := by rw [hes, List.length_take]; omega
      have HR0 := preL_at (p := p) (show Y[ds.length]? = some q by rw [hm0]; exact hq)
      rw [hm0, ← hes] at HR0
      have HR := Lib.hid HR0; clear HR0
      have hd1 : Evs w2 a1 ds := by have h1 := Evs.take hE1' m; rwa [List.take_append_of_le_length (by omega), List.take_of_length_le (by omega)] at h1
      have hd2 : Evs w2 a2 es := by rw [hes]; exact Evs.take hE2 m
      obtain ⟨b1, o1, rfl, hlb1, p0, p1, p2, p3, p4, p5, p6⟩ := Evs.at hE1' (k := m) (e := p) (by rw [List.getElem?_append_right (by omega)]; simp [hm0])
      obtain ⟨b2, o2, rfl, hlb2, q0, q1, q2, q3, q4, q5, q6⟩ := Evs.at hE2 hq
      have hl1 : decide ((Y.length : Int) < (m : Int) + 1) = false := by simp; omega
      have hmc : m ≤ cap1 := by omega
      have hmc2 : m ≤ cap2 := by omega
      have HL := Lib.hid hel; have HM0 := Lib.hid hm0
      clear hq hes hE1' hE2 hel hm0 hlen
      by_cases hde : ds = es
      · have hdd : decide (ds = es) = true := by simp [hde]
        have HDE := Lib.hid hde; clear hde
        go_wp2_with fail
        (refine wp_region_ext (by kernel_rfl) (by kernel_rfl) ?_; (repeat (go_big_quiet_step (first | (go_at_call 84; refine Calls.ext_of (slicesEqualEv_any _ _ _ _ m m ds es _ (Sl.keep hd1 (World.ext_below _ _)) (Sl.keep hd2 (World.ext_below _ _)) HM0.out HL.out (by omega) (by omega)))))); refine wpQuiet_nil ?_; intro w3 hb3; obtain ⟨hc3, hf3⟩ := bcell hb3; have hz3 := hb3.size; (try simp only [World.size_alloc, World.size_setCell, World.size_drew] at hz3))
        rw [← hc3 _ _ hlb1] at p0 p1 p2 p3 p4 p5 p6
        rw [← hc3 _ _ hlb2] at q0 q1 q2 q3 q4 q5 q6
        have hlb1' : b1 < w3.heap.size := by omega
        have hlb2' : b2 < w3.heap.size := by omega
        have hne := run_eql_ev
        by_cases hpq : p = q
        · have hd : sameEv p q = true := by simp [sameEv, hpq]
          have HPQ := Lib.hid hpq; clear hpq
          go_wp2_with fail
          (refine wp_region_ext (by kernel_rfl) (by kernel_rfl) ?_; (repeat (go_big_quiet_step (fail))); refine wpQuiet_nil ?_; intro w4 hb4; obtain ⟨hc4, hf4⟩ := bcell hb4; have hz4 := hb4.size; (try simp only [World.size_alloc, World.size_setCell, World.size_drew] at hz4))
          go_wp2
          go_ret
          exact ⟨ret_bool (by rw [← HXX.out, ← HYY.out, HR.out, hdd, HPQ.out]; simp), by ((repeat (first | (with_reducible exact Below.refl _ _) | (with_reducible assumption) | (with_reducible refine Below.alloc ?_ ?_ _) | (with_reducible refine Below.setCell ?_ ?_ _) | (with_reducible refine Below.drew ?_) | (with_reducible refine below_setRow ?_ ?_ _) | (refine Below.trans ?_ (Below.mono (by assumption) ?_)))); all_goals (first | omega | (simp; done) | (simp; omega)))⟩
        · have hd : sameEv p q = false := by simp [sameEv, hpq]
          have hpx : decide (p = q) = false := hd
          clear hpq
          by_cases hpk : p.kind = 4
          · have hpk1 : (p.kind == 4) = true := by simp [hpk]
            have hpk2 : decide (p.kind = 4) = true := by simp [hpk]
            clear hpk
            by_cases hqk : q.kind = 4
            · have hqk1 : (q.kind == 4) = true := by simp [hqk]
              have hqk2 : decide (q.kind = 4) = true := by simp [hqk]
              clear hqk
              go_wp2_with fail
              (refine wp_region_ext (by kernel_rfl) (by kernel_rfl) ?_; (repeat (go_big_quiet_step (first | (go_at_call 85; refine Calls.ext_of_same (hasPrefix_any q.text p.text _))))); refine wpQuiet_nil ?_; intro w4 hb4; obtain ⟨hc4, hf4⟩ := bcell hb4; have hz4 := hb4.size; (try simp only [World.size_alloc, World.size_setCell, World.size_drew] at hz4))
              go_wp2
              go_ret
              exact ⟨ret_bool (by rw [← HXX.out, ← HYY.out, HR.out, hdd, hpx, hpk2, hqk2]; rfl), by ((repeat (first | (with_reducible exact Below.refl _ _) | (with_reducible assumption) | (with_reducible refine Below.alloc ?_ ?_ _) | (with_reducible refine Below.setCell ?_ ?_ _) | (with_reducible refine Below.drew ?_) | (with_reducible refine below_setRow ?_ ?_ _) | (refine Below.trans ?_ (Below.mono (by assumption) ?_)))); all_goals (first | omega | (simp; done) | (simp; omega)))⟩
            · have hqk1 : (q.kind == 4) = false := by simp [hqk]
              have hqk2 : decide (q.kind = 4) = false := by simp [hqk]
              clear hqk
              go_wp2_with fail
              (refine wp_region_ext (by kernel_rfl) (by kernel_rfl) ?_; (repeat (go_big_quiet_step (fail))); refine wpQuiet_nil ?_; intro w4 hb4; obtain ⟨hc4, hf4⟩ := bcell hb4; have hz4 := hb4.size; (try simp only [World.size_alloc, World.size_setCell, World.size_drew] at hz4))
              go_wp2
              go_ret
              exact ⟨ret_bool (by rw [← HXX.out, ← HYY.out, HR.out, hdd, hpx, hpk2, hqk2]; rfl), by ((repeat (first | (with_reducible exact Below.refl _ _) | (with_reducible assumption) | (with_reducible refine Below.alloc ?_ ?_ _) | (with_reducible refine Below.setCell ?_ ?_ _) | (with_reducible refine Below.drew ?_) | (with_reducible refine below_setRow ?_ ?_ _) | (refine Below.trans ?_ (Below.mono (by assumption) ?_)))); all_goals (first | omega | (simp; done) | (simp; omega)))⟩
          · have hpk1 : (p.kind == 4) = false := by simp [hpk]
            have hpk2 : decide (p.kind = 4) = false := by simp [hpk]
            clear hpk
            go_wp2_with fail
            (refine wp_region_ext (by kernel_rfl) (by kernel_rfl) ?_; (repeat (go_big_quiet_step (fail))); refine wpQuiet_nil ?_; intro w4 hb4; obtain ⟨hc4, hf4⟩ := bcell hb4; have hz4 := hb4.size; (try simp only [World.size_alloc, World.size_setCell, World.size_drew] at hz4))
            go_wp2
            go_ret
            exact ⟨ret_bool (by rw [← HXX.out, ← HYY.out, HR.out, hdd, hpx, hpk2]; rfl), by ((repeat (first | (with_reducible exact Below.refl _ _) | (with_reducible assumption) | (with_reducible refine Below.alloc ?_ ?_ _) | (with_reducible refine Below.setCell ?_ ?_ _) | (with_reducible refine Below.drew ?_) | (with_reducible refine below_setRow ?_ ?_ _) | (refine Below.trans ?_ (Below.mono (by assumption) ?_)))); all_goals (first | omega | (simp; done) | (simp; omega)))⟩
      · have hdd : decide (ds = es) = false := by simp [hde]
        have HDE := Lib.hid hde; clear hde
        go_wp2_with fail
        (refine wp_region_ext (by kernel_rfl) (by kernel_rfl) ?_; (repeat (go_big_quiet_step (first | (go_at_call 84; refine Calls.ext_of (slicesEqualEv_any _ _ _ _ m m ds es _ (Sl.keep hd1 (World.ext_below _ _)) (Sl.keep hd2 (World.ext_below _ _)) HM0.out HL.out (by omega) (by omega)))))); refine wpQuiet_nil ?_; intro w3 hb3; obtain ⟨hc3, hf3⟩ := bcell hb3; have hz3 := hb3.size; (try simp only [World.size_alloc, World.size_setCell, World.size_drew] at hz3))
        go_wp2
        go_ret
        exact ⟨ret_bool (by rw [← HXX.out, ← HYY.out, HR.out, hdd]; rfl), by ((repeat (first | (with_reducible exact Below.refl _ _) | (with_reducible assumption) | (with_reducible refine Below.alloc ?_ ?_ _) | (with_reducible refine Below.setCell ?_ ?_ _) | (with_reducible refine Below.drew ?_) | (with_reducible refine below_setRow ?_ ?_ _) | (refine Below.trans ?_ (Below.mono (by assumption) ?_)))); all_goals (first | omega | (simp; done) | (simp; omega)))⟩
end Go.Proofs.Ytkmenljbajlneaa
