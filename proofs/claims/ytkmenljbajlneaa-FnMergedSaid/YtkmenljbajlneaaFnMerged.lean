/- FnMerged: merging restores the texts that were divided, for every code. No condition. -/
import Derived.Test.YtkmenljbajlneaaNewE
import Derived.Test.YtkmenljbajlneaaEvList
namespace Go.Proofs.Ytkmenljbajlneaa.fnMerged
set_option linter.unusedSimpArgs false
set_option linter.unusedVariables false
open Go.ChangeShapes Go.WideShapes Go.ChangeAt Go.RowKit Go.BigFrame

set_option maxHeartbeats 4000000 in
theorem walk (w : World) (x : SlArg Int) (hx : x.ok 1 byCs ByOk w) :
    Calls Try.prog 14 #[.slice x.a x.xs.length x.cap] w fun r w' => r = .returned (.bool true) ∧ Below w.heap.size w w' := by
  have hcode := code_of hx
  obtain ⟨a, cap, bs⟩ := x
  obtain ⟨_, _, hle, hcap⟩ := hx
  simp only at hcode hle hcap ⊢
  by_cases hbig : (1048576 : Int) < (bs.length : Int)
  · go_enter Try.func14, Try.ntmps14
    go_wp2_with (first | (go_at_call 34; refine (big_any _ _ _ _).mono ?_; rintro r w1 ⟨rfl, rfl⟩))
    go_ret
    exact ⟨rfl, by ((repeat (first | (with_reducible exact Below.refl _ _) | (with_reducible assumption) | (with_reducible refine Below.alloc ?_ ?_ _) | (with_reducible refine Below.setCell ?_ ?_ _) | (with_reducible refine Below.drew ?_) | (with_reducible refine below_setRow ?_ ?_ _) | (refine Below.trans ?_ (Below.mono (by assumption) ?_)))); all_goals (first | omega | (simp; done) | (simp; omega)))⟩
  · go_enter Try.func14, Try.ntmps14
    go_wp2_with (first | (go_at_call 34; refine (big_any _ _ _ _).mono ?_; rintro r w1 ⟨rfl, rfl⟩))
    refine (drawShattered_any a cap bs.length w hcode (by omega)).mono ?_
    rintro r w1 ⟨a1, cap1, xs, n, rfl, hxl, hxt, hnm, he1, hnil1, hb1⟩
    have hz1 := hb1.size
    obtain ⟨ms, hms⟩ : ∃ ms, ms = merged xs := ⟨_, rfl⟩
    obtain ⟨cs, hcs⟩ : ∃ cs, cs = shattered n xs := ⟨_, rfl⟩
    have hml : ms.length ≤ 56 ∧ textSum ms ≤ 48 := by have := merged_le xs; rw [hms]; omega
    have hcl : cs.length ≤ 56 ∧ textSum cs ≤ 48 := by have := shattered_len n xs; have := textSum_shattered n xs; rw [hcs]; omega
    have HMS := Lib.hid hms; clear hms
    have HCS := Lib.hid hcs; clear hcs
    have HE1 := Lib.hid he1; clear he1
    have HNIL := Lib.hid hnil1; clear hnil1
    go_wp2_with fail
    refine (implMergN a1 cap1 _ xs _ HE1.out rfl (by omega) (by omega)).mono ?_
    rw [← HMS.out]
    rintro r w2 ⟨a2, cap2, rfl, he2, hnil2, hb2⟩
    have hz2 := hb2.size
    have HE1' := Lib.hid (Sl.keep HE1.out hb2); clear HE1
    have HE2 := Lib.hid he2; clear he2 hnil2
    go_wp2_with fail
    refine (implShatN a1 cap1 _ xs n _ HE1'.out rfl (by omega) (by omega) hnm HNIL.out).mono ?_
    rw [← HCS.out]
    rintro r w3 ⟨a3, cap3, rfl, he3, hnil3, hb3⟩
    have hz3 := hb3.size
    have HE1 := Lib.hid (Sl.keep HE1'.out hb3); clear HE1'
    have HE2' := Lib.hid (Sl.keep HE2.out hb3); clear HE2
    have HE3 := Lib.hid he3; clear he3 hnil3
    go_wp2_with fail
    refine (specMergN a1 cap1 _ xs _ HE1.out rfl (by omega) (by omega)).mono ?_
    rw [← HMS.out]
    rintro r w4 ⟨a4, cap4, rfl, _, _, hb4⟩
    have hz4 := hb4.size
    have HF1 := Lib.hid (Sl.keep HE1.out hb4); clear HE1
    have HF2 := Lib.hid (Sl.keep HE2'.out hb4); clear HE2'
    have HF3 := Lib.hid (Sl.keep HE3.out hb4); clear HE3
    go_wp2_with fail
    refine (specShatN a1 cap1 _ xs n _ HF1.out rfl (by omega) (by omega) hnm HNIL.out).mono ?_
    rw [← HCS.out]
    rintro r w5 ⟨a5, cap5, rfl, _, _, hb5⟩
    have hz5 := hb5.size
    have HE1 := Lib.hid (Sl.keep HF1.out hb5); clear HF1
    have HE2 := Lib.hid (Sl.keep HF2.out hb5); clear HF2
    have HE3 := Lib.hid (Sl.keep HF3.out hb5); clear HF3
    have hT : Below w.heap.size w w5 := by ((repeat (first | (with_reducible exact Below.refl _ _) | (with_reducible assumption) | (with_reducible refine Below.alloc ?_ ?_ _) | (with_reducible refine Below.setCell ?_ ?_ _) | (with_reducible refine Below.drew ?_) | (with_reducible refine below_setRow ?_ ?_ _) | (refine Below.trans ?_ (Below.mono (by assumption) ?_)))); all_goals (first | omega | (simp; done) | (simp; omega)))
    clear hb1 hb2 hb3 hb4 hb5
    go_wp2_with fail
    go_loopw [7] (fun i wr => ∃ k : Nat, 1 ≤ k ∧ i = .int .i64 k ∧ Below w5.heap.size w5 wr) (fun i _ => ms.length - (intOf i).toNat)
    case atStart => exact ⟨1, Nat.le_refl _, rfl, Below.refl _ _⟩
    case round =>
      obtain ⟨k, hk, rfl, hb⟩ := hrel
      have hz := hb.size
      obtain ⟨j, rfl⟩ : ∃ j, k = j + 1 := ⟨k - 1, by omega⟩
      by_cases hlt : j + 1 < ms.length
      · obtain ⟨e, he, _⟩ := at_lt (xs := ms) (k := j + 1) hlt
        obtain ⟨f, hf, _⟩ := at_lt (xs := ms) (k := j) (by omega)
        have hno : ¬ (f.kind = 4 ∧ e.kind = 4) := by
          have := noTwo_merged xs j
          rw [← HMS.out] at this
          simp only [kinds', List.getElem?_map, he, hf, Option.map_some, Option.some.injEq] at this
          exact fun h => this h.1 h.2
        obtain ⟨b, off, hae, hlb, c0, _⟩ := Evs.at (HE2.out.below hb (Nat.le_refl _)) he
        obtain ⟨b', off', hae', _, d0, _⟩ := Evs.at (HE2.out.below hb (Nat.le_refl _)) hf
        rw [hae] at hae'
        simp only [Option.some.injEq, Addr.mk.injEq, and_true] at hae'
        obtain ⟨rfl, rfl⟩ := hae'
        subst hae
        clear he hf
        by_cases h4 : e.kind = 4
        · have hf4 : (f.kind == 4) = false := by simp; exact fun h => hno ⟨h, h4⟩
          have he4 : (e.kind == 4) = true := by simp [h4]
          clear h4 hno
          go_wp2
          all_goals
            go_roundw
            case rel => exact ⟨j + 1 + 1, by omega, by go_num, by ((repeat (first | (with_reducible exact Below.refl _ _) | (with_reducible assumption) | (with_reducible refine Below.alloc ?_ ?_ _) | (with_reducible refine Below.setCell ?_ ?_ _) | (with_reducible refine Below.drew ?_) | (with_reducible refine below_setRow ?_ ?_ _) | (refine Below.trans ?_ (Below.mono (by assumption) ?_)))); all_goals (first | omega | (simp; done) | (simp; omega)))⟩
            case measure => simp [intOf]; omega
        · have he4 : (e.kind == 4) = false := by simp [h4]
          clear h4 hno
          go_wp2
          all_goals
            go_roundw
            case rel => exact ⟨j + 1 + 1, by omega, by go_num, by ((repeat (first | (with_reducible exact Below.refl _ _) | (with_reducible assumption) | (with_reducible refine Below.alloc ?_ ?_ _) | (with_reducible refine Below.setCell ?_ ?_ _) | (with_reducible refine Below.drew ?_) | (with_reducible refine below_setRow ?_ ?_ _) | (refine Below.trans ?_ (Below.mono (by assumption) ?_)))); all_goals (first | omega | (simp; done) | (simp; omega)))⟩
            case measure => simp [intOf]; omega
      · have hzT := hT.size
        have HH2 := Lib.hid (HE2.out.below hb (Nat.le_refl _)); clear HE2
        have HH1 := Lib.hid (HE1.out.below hb (Nat.le_refl _)); clear HE1
        have HH3 := Lib.hid (HE3.out.below hb (Nat.le_refl _)); clear HE3
        have hTT : Below w.heap.size w wr := hT.trans (hb.mono (by omega))
        go_wp2_with fail
        refine (implMergN a2 cap2 _ ms _ HH2.out rfl (by omega) (by omega)).mono ?_
        rw [show merged ms = ms by rw [HMS.out, merged_twice]]
        rintro r w6 ⟨a6, cap6, rfl, he6, _, hb6⟩
        have HE6 := Lib.hid he6; clear he6
        have HE2 := Lib.hid (Sl.keep HH2.out hb6); clear HH2
        have HE1 := Lib.hid (Sl.keep HH1.out hb6); clear HH1
        have HE3 := Lib.hid (Sl.keep HH3.out hb6); clear HH3
        have hz6 := hb6.size
        go_wp2_with fail
        refine (implSameEvents_any a6 a2 cap6 cap2 _ _ ms ms _ HE6.out HE2.out rfl rfl (by omega) (by omega)).mono ?_
        rintro r w7 ⟨rfl, hb7⟩
        have hz7 := hb7.size
        rw [show decide (ms = ms) = true by simp]
        have HF2 := Lib.hid (Sl.keep HE2.out hb7); clear HE2
        have HF1 := Lib.hid (Sl.keep HE1.out hb7); clear HE1
        have HF3 := Lib.hid (Sl.keep HE3.out hb7); clear HE3
        go_wp2_with fail
        refine (implPartBytes_any a2 cap2 _ ms _ HF2.out rfl (by omega) (by omega)).mono ?_
        rw [show partB ms = partB xs by rw [HMS.out, partB_merged]]
        rintro r w8 ⟨rfl, hb8⟩
        have hz8 := hb8.size
        have HE1 := Lib.hid (Sl.keep HF1.out hb8); clear HF1
        have HE2 := Lib.hid (Sl.keep HF2.out hb8); clear HF2
        have HE3 := Lib.hid (Sl.keep HF3.out hb8); clear HF3
        go_wp2_with fail
        refine (implPartBytes_any a1 cap1 _ xs _ HE1.out rfl (by omega) (by omega)).mono ?_
        rintro r w9 ⟨rfl, hb9⟩
        have hz9 := hb9.size
        have HF1 := Lib.hid (Sl.keep HE1.out hb9); clear HE1
        have HF2 := Lib.hid (Sl.keep HE2.out hb9); clear HE2
        have HF3 := Lib.hid (Sl.keep HE3.out hb9); clear HE3
        go_wp2_with fail
        refine (implPartBytes_any a3 cap3 _ cs _ HF3.out rfl (by omega) (by omega)).mono ?_
        rw [show partB cs = partB xs by rw [HCS.out, partB_shattered]]
        rintro r w10 ⟨rfl, hb10⟩
        have hz10 := hb10.size
        have HE1 := Lib.hid (Sl.keep HF1.out hb10); clear HF1
        have HE2 := Lib.hid (Sl.keep HF2.out hb10); clear HF2
        have HE3 := Lib.hid (Sl.keep HF3.out hb10); clear HF3
        go_wp2_with fail
        refine (implPartBytes_any a1 cap1 _ xs _ HE1.out rfl (by omega) (by omega)).mono ?_
        rintro r w11 ⟨rfl, hb11⟩
        have hz11 := hb11.size
        have HF1 := Lib.hid (Sl.keep HE1.out hb11); clear HE1
        have HF2 := Lib.hid (Sl.keep HE2.out hb11); clear HE2
        have HF3 := Lib.hid (Sl.keep HE3.out hb11); clear HE3
        by_cases hn1 : n < 1
        · go_wp2
          go_ret
          exact ⟨rfl, by ((repeat (first | (with_reducible exact Below.refl _ _) | (with_reducible assumption) | (with_reducible refine Below.alloc ?_ ?_ _) | (with_reducible refine Below.setCell ?_ ?_ _) | (with_reducible refine Below.drew ?_) | (with_reducible refine below_setRow ?_ ?_ _) | (refine Below.trans ?_ (Below.mono (by assumption) ?_)))); all_goals (first | omega | (simp; done) | (simp; omega)))⟩
        · have hlg : (longest cs : Int) ≤ n := by rw [HCS.out]; exact longest_shattered hn1 xs
          go_wp2_with fail
          refine (implLongestPart_any a3 cap3 _ cs _ HF3.out rfl (by omega) (by omega)).mono ?_
          rintro r w12 ⟨rfl, hb12⟩
          have hz12 := hb12.size
          go_wp2
          go_ret
          exact ⟨ret_bool (by simp), by ((repeat (first | (with_reducible exact Below.refl _ _) | (with_reducible assumption) | (with_reducible refine Below.alloc ?_ ?_ _) | (with_reducible refine Below.setCell ?_ ?_ _) | (with_reducible refine Below.drew ?_) | (with_reducible refine below_setRow ?_ ?_ _) | (refine Below.trans ?_ (Below.mono (by assumption) ?_)))); all_goals (first | omega | (simp; done) | (simp; omega)))⟩
set_option maxRecDepth 100000 in
theorem lifted (os : Os) (started : os.Started) (H : Type) (enc : TypeId × Value → H) :
    ReturnsInHanded {} Try.checked os 14 .any (Rows.fnMergedSpec.pre6 enc Try.prog Try.f14 Rows.fnMergedRow.domain false) (Rows.fnMergedSpec.post enc Try.prog Try.f14 false true false false) := by
  refine returnsInHanded_of_change (C := Try.checked) own started (by kernel_rfl) Try.func14
    (ChangeSpec.witness6 (enc := enc) (C := Try.checked) false ⟨#[], #[.slice none 0 0], []⟩ 8 (by kernel_rfl) (by kernel_rfl) (by kernel_rfl) (by kernel_rfl)) ?_
  intro W base args ds gs before hval0 hW hcnd _
  have hval : ∀ (j : Nat) t v, Try.f14.params[j]? = some t → args[j]? = some v → Value.okWide Try.prog W .any base t v := hval0
  have hW' := hW
  obtain ⟨p, q, hA0, hV, rfl, hfz, hnd⟩ := hW
  have hA : DataW.TrodAll enc Try.prog W 0 (fun _ => true) true Try.f14.params.toList args.toList ds p := hA0
  rw [Try.params14] at hA hval
  obtain ⟨v0, vs0, d0, ds0, p0, q0, hargs, rfl, rfl, h0, r0⟩ := trodAll_cons hA
  obtain ⟨rfl, rfl, rfl⟩ := trodAll_nil r0
  obtain rfl : args = #[v0] := by cases args; simp_all
  obtain ⟨rfl, rfl⟩ := trodVars_none hV
  have k0 := h0
  have lt0 : ∀ x ∈ p0, x.block < W.heap.size := by obtain ⟨m, hm⟩ := k0; exact DataW.trod_lt m _ _ _ hm
  obtain ⟨x0, e0, w0⟩ := openBytes (hval 0 47 v0 rfl rfl) h0
  subst e0
  clear hA0 hval0
  refine (walk W x0 w0).mono fun e W' ⟨he, bel⟩ => ?_
  subst he
  exact ⟨_, rfl, _, _, _, [], _, [], hW', trodAll_mk1 (shut_bool Try.underlying4 _), (trodAll_cons_mk (Below.trod laidOut (by kernel_rfl) (of_decide_eq_true (by kernel_rfl)) k0 bel lt0) trodAll_mk0), rfl, bel.frame _, fun h => by cases h⟩

theorem over : Rows.fnMergedRow.holds Try.pinned (OpenSpec.ofChange Rows.fnMergedSpec) :=
  OpenClaim.holds_of_wide 14 Try.f14 rfl rfl rfl rfl rfl rfl rfl ⟨rfl, rfl, rfl, rfl, rfl⟩ rfl rfl rfl rfl rfl (by kernel_rfl) Try.func14 (by kernel_rfl)
    (of_decide_eq_true (by kernel_rfl)) (by unfold Func.isWrapper; first | (rw [if_pos (by decide +kernel)]; kernel_rfl) | (rw [if_neg (by decide +kernel)]; exact ⟨rfl, rfl⟩))
    (fun os started H enc _ => lifted os started H enc)

/-- The given statement. -/
theorem proved : Rows.FnMergedSaid := over
end Go.Proofs.Ytkmenljbajlneaa.fnMerged
