/- FnCut: the drawn chunks concatenate to the input and have the sizes asked for. No condition. -/
import Derived.Test.YtkmenljbajlneaaCutD
namespace Go.Proofs.Ytkmenljbajlneaa.fnCut
set_option linter.unusedSimpArgs false
set_option linter.unusedVariables false
open Go.ChangeShapes Go.WideShapes Go.ChangeAt Go.RowKit Go.BigFrame

theorem cutL_ge : ∀ (xs : List Int) (s : ByteArray), xs.length ≤ (cutL s xs).length
  | [], s => by simp
  | x :: xs, s => by simp only [cutL, List.length_cons]; have := cutL_ge xs (s.extract (clampN s x) s.size); omega
theorem bytes_split (s : ByteArray) (c : Nat) (h : c ≤ s.size) : s.data.toList = (s.extract 0 c).data.toList ++ (s.extract c s.size).data.toList := by
  simp only [ByteArray.data_extract, Array.toList_extract, List.extract_eq_take_drop, Nat.sub_zero, List.drop_zero]
  have e : s.size - c = (s.data.toList.drop c).length := by rw [List.length_drop, Array.length_toList]; rfl
  rw [e, List.take_length, List.take_append_drop]
theorem joinB_cutL : ∀ (xs : List Int) (s : ByteArray), joinB (cutL s xs) = s.data.toList
  | [], s => by
    simp only [cutL]
    split
    · rename_i h
      have h1 : s.data.toList.length = 0 := by rw [Array.length_toList]; exact h
      rw [List.length_eq_zero_iff.1 h1]; rfl
    · simp [joinB]
  | x :: xs, s => by
    have ih := joinB_cutL xs (s.extract (clampN s x) s.size)
    rw [bytes_split s (clampN s x) (clampN_le s x), ← ih]
    simp only [cutL, joinB, List.flatMap_cons]
theorem strSum_cutL (s : ByteArray) (xs : List Int) : strSum (cutL s xs) = s.size := by
  rw [← joinB_len, joinB_cutL, Array.length_toList]; rfl
theorem cutL_at : ∀ (xs : List Int) (s : ByteArray) (k : Nat) (x : Int), xs[k]? = some x → ∃ y, (cutL s xs)[k]? = some y ∧ (y.size : Int) ≤ max 0 x
  | [], s, k, x, h => by simp at h
  | x' :: xs, s, 0, x, h => by
    simp at h; subst h
    refine ⟨_, rfl, ?_⟩
    rw [ByteArray.size_extract]
    unfold clampN
    omega
  | x' :: xs, s, k + 1, x, h => by
    simp at h
    exact cutL_at xs (s.extract (clampN s x') s.size) k x h
theorem most_any (x y m : Int) (w : World) (h : m = max x y) : Calls Try.prog 40 #[.int .i64 x, .int .i64 y] w fun r w' => r = .returned (.int .i64 m) ∧ w = w' := by
  subst h
  go_enter Try.func40, Try.ntmps40
  go_wp2
  all_goals
    go_ret
    exact ⟨ret_int (by omega), rfl⟩
theorem freshM {f : FuncId} {args : Array Value} {w : World} {s : ByteArray} {xs : List Int} {ys : List ByteArray} (h : Calls Try.prog f args w (FreshR w ((cutL s xs).flatMap sv))) (hy : ys = cutL s xs) :
    Calls Try.prog f args w fun r w' => ∃ a cap, r = .returned (.slice a ys.length cap) ∧ Strs w' a ys ∧ Below w.heap.size w w' ∧ ys.length ≤ cap := by
  subst hy
  refine h.mono ?_
  rintro r w' ⟨a, cap, rfl, h1, h2, h3⟩
  have e := svs_len (cutL s xs)
  refine ⟨a, cap, by rw [e], OwnR.sl sv_len h1, h2, by rw [← e]; exact h3⟩
set_option maxHeartbeats 2000000 in
theorem walk (w : World) (x : SlArg Int) (hx : x.ok 1 byCs ByOk w) :
    Calls Try.prog 8 #[.slice x.a x.xs.length x.cap] w fun r w' => r = .returned (.bool true) ∧ Below w.heap.size w w' := by
  have hcode := code_of hx
  obtain ⟨a, cap, bs⟩ := x
  obtain ⟨_, _, hle, hcap⟩ := hx
  simp only at hcode hle hcap ⊢
  by_cases hbig : (1048576 : Int) < (bs.length : Int)
  · go_enter Try.func8, Try.ntmps8
    go_wp2_with (first | (go_at_call 34; refine (big_any _ _ _ _).mono ?_; rintro r w1 ⟨rfl, rfl⟩))
    go_ret
    exact ⟨rfl, by ((repeat (first | (with_reducible exact Below.refl _ _) | (with_reducible assumption) | (with_reducible refine Below.alloc ?_ ?_ _) | (with_reducible refine Below.setCell ?_ ?_ _) | (with_reducible refine Below.drew ?_) | (with_reducible refine below_setRow ?_ ?_ _) | (refine Below.trans ?_ (Below.mono (by assumption) ?_)))); all_goals (first | omega | (simp; done) | (simp; omega)))⟩
  · go_enter Try.func8, Try.ntmps8
    go_wp2_with (first | (go_at_call 34; refine (big_any _ _ _ _).mono ?_; rintro r w1 ⟨rfl, rfl⟩))
    refine (drawCut_any a cap bs.length w hcode (by omega)).mono ?_
    rintro r w1 ⟨s, a1, cap1, xs, rfl, hs, hn, hi, hb1⟩
    obtain ⟨ys, hy⟩ : ∃ ys, ys = cutL s xs := ⟨_, rfl⟩
    have hm : ys.length ≤ 11 := by have := cutL_len xs s; rw [hy]; omega
    have hm1 : ys.length ≤ xs.length + 1 := by have := cutL_len xs s; rw [hy]; omega
    have hm2 : xs.length ≤ ys.length := by rw [hy]; exact cutL_ge xs s
    have hss : strSum ys ≤ 1048576 := by rw [hy, strSum_cutL]; omega
    have HJ := Lib.hid (show (⟨(joinB ys).toArray⟩ : ByteArray) = s by rw [hy, joinB_cutL])
    have HY := Lib.hid hy; clear hy
    go_wp2_with fail
    refine (freshM (implCut_any s a1 cap1 _ xs _ hi rfl (by omega) (by omega)) HY.out).mono ?_
    rintro r w2 ⟨a2, cap2, rfl, hst2, hb2, hcp2⟩
    have HI := Lib.hid (Sl.keep hi hb2); clear hi
    go_wp2_with fail
    refine (freshM (specCut_any s a1 cap1 _ xs _ HI.out rfl (by omega) (by omega)) HY.out).mono ?_
    rintro r w3 ⟨a3, cap3, rfl, hst3, hb3, hcp3⟩
    have HI3 := Lib.hid (Sl.keep HI.out hb3); clear HI
    have HS3 := Lib.hid (Sl.keep hst2 hb3); clear hst2 hst3
    go_wp2_with fail
    refine (implJoined_any a2 cap2 _ ys _ HS3.out rfl hcp2 (by omega) hss).mono ?_
    rintro r w4 ⟨rfl, hb4⟩
    rw [HJ.out]
    have HI4 := Lib.hid (Sl.keep HI3.out hb4); clear HI3
    have HS4 := Lib.hid (Sl.keep HS3.out hb4); clear HS3
    have hz1 := hb1.size; have hz2 := hb2.size; have hz3 := hb3.size; have hz4 := hb4.size
    have hT : Below w.heap.size w w4 := by ((repeat (first | (with_reducible exact Below.refl _ _) | (with_reducible assumption) | (with_reducible refine Below.alloc ?_ ?_ _) | (with_reducible refine Below.setCell ?_ ?_ _) | (with_reducible refine Below.drew ?_) | (with_reducible refine below_setRow ?_ ?_ _) | (refine Below.trans ?_ (Below.mono (by assumption) ?_)))); all_goals (first | omega | (simp; done) | (simp; omega)))
    clear hb1 hb2 hb3 hb4
    go_wp2
    go_loopw [6] (fun i wr => ∃ k : Nat, k ≤ xs.length ∧ i = .int .i64 k ∧ Below w4.heap.size w4 wr) (fun i _ => xs.length - (intOf i).toNat)
    case atStart => exact ⟨0, Nat.zero_le _, rfl, Below.refl _ _⟩
    case round =>
      obtain ⟨k, hk, rfl, hb⟩ := hrel
      have hz := hb.size
      by_cases hlt : k < xs.length
      · obtain ⟨x, hx, _⟩ := at_lt (xs := xs) (k := k) hlt
        obtain ⟨y, hy, hle⟩ := cutL_at xs s k x hx
        rw [← HY.out] at hy
        obtain ⟨b, off, rfl, hlb, c0⟩ := Ints.at (HI4.out.below hb (Nat.le_refl _)) hx
        obtain ⟨b', off', rfl, hlb', d0⟩ := Strs.at (HS4.out.below hb (Nat.le_refl _)) hy
        clear hx hy
        have hklt : k < ys.length := by omega
        obtain ⟨m, hmm⟩ : ∃ m, m = max 0 x := ⟨_, rfl⟩
        rw [← hmm] at hle
        have HM := Lib.hid hmm; clear hmm
        have hyz : (y.size : Int) ≤ m := hle
        have hng : ¬ (m < (y.size : Int)) := by omega
        go_wp2_with fail
        (refine wp_region_ext (by kernel_rfl) (by kernel_rfl) ?_; (repeat (go_big_quiet_step (first | (go_at_call 40; refine Calls.ext_of_same (most_any 0 x m _ HM.out))))); refine wpQuiet_nil ?_; intro w1 hb1; obtain ⟨hc1, hf1⟩ := bcell hb1; have hz1 := hb1.size; (try simp only [World.size_alloc, World.size_setCell, World.size_drew] at hz1))
        go_wp2
        go_roundw
        case rel => exact ⟨k + 1, by omega, by go_num, by ((repeat (first | (with_reducible exact Below.refl _ _) | (with_reducible assumption) | (with_reducible refine Below.alloc ?_ ?_ _) | (with_reducible refine Below.setCell ?_ ?_ _) | (with_reducible refine Below.drew ?_) | (with_reducible refine below_setRow ?_ ?_ _) | (refine Below.trans ?_ (Below.mono (by assumption) ?_)))); all_goals (first | omega | (simp; done) | (simp; omega)))⟩
        case measure => simp [intOf]; omega
      · have hkn : k = xs.length := by omega
        subst hkn
        have hg1 : ((xs.length : Int) ≤ (ys.length : Int)) := by omega
        have hg2 : ((ys.length : Int) ≤ (xs.length : Int) + 1) := by omega
        go_wp2
        go_ret
        exact ⟨ret_bool (by simp), hT.trans (hb.mono (by have := hT.size; omega))⟩
set_option maxRecDepth 100000 in
theorem lifted (os : Os) (started : os.Started) (H : Type) (enc : TypeId × Value → H) :
    ReturnsInHanded {} Try.checked os 8 .any (Rows.fnCutSpec.pre6 enc Try.prog Try.f8 Rows.fnCutRow.domain false) (Rows.fnCutSpec.post enc Try.prog Try.f8 false true false false) := by
  refine returnsInHanded_of_change (C := Try.checked) own started (by kernel_rfl) Try.func8
    (ChangeSpec.witness6 (enc := enc) (C := Try.checked) false ⟨#[], #[.slice none 0 0], []⟩ 8 (by kernel_rfl) (by kernel_rfl) (by kernel_rfl) (by kernel_rfl)) ?_
  intro W base args ds gs before hval0 hW hcnd _
  have hval : ∀ (j : Nat) t v, Try.f8.params[j]? = some t → args[j]? = some v → Value.okWide Try.prog W .any base t v := hval0
  have hW' := hW
  obtain ⟨p, q, hA0, hV, rfl, hfz, hnd⟩ := hW
  have hA : DataW.TrodAll enc Try.prog W 0 (fun _ => true) true Try.f8.params.toList args.toList ds p := hA0
  rw [Try.params8] at hA hval
  obtain ⟨v0, vs0, d0, ds0, p0, q0, hargs, rfl, rfl, h0, r0⟩ := trodAll_cons hA
  obtain ⟨rfl, rfl, rfl⟩ := trodAll_nil r0
  obtain rfl : args = #[v0] := by cases args; simp_all
  obtain ⟨rfl, rfl⟩ := trodVars_none hV
  have k0 := h0
  have lt0 : ∀ x ∈ p0, x.block < W.heap.size := by obtain ⟨m, hm⟩ := k0; exact DataW.trod_lt m _ _ _ hm
  obtain ⟨x0, e0, w0⟩ := openBytes (hval 0 47 v0 rfl rfl) h0
  subst e0
  clear hA0 hval0
  refine (walk W x0 w0).mono fun e W' ⟨he, bel⟩ => ?_
  subst he
  exact ⟨_, rfl, _, _, _, [], _, [], hW', trodAll_mk1 (shut_bool Try.underlying4 _), (trodAll_cons_mk (Below.trod laidOut (by kernel_rfl) (of_decide_eq_true (by kernel_rfl)) k0 bel lt0) trodAll_mk0), rfl, bel.frame _, fun h => by cases h⟩

theorem over : Rows.fnCutRow.holds Try.pinned (OpenSpec.ofChange Rows.fnCutSpec) :=
  OpenClaim.holds_of_wide 8 Try.f8 rfl rfl rfl rfl rfl rfl rfl ⟨rfl, rfl, rfl, rfl, rfl⟩ rfl rfl rfl rfl rfl (by kernel_rfl) Try.func8 (by kernel_rfl)
    (of_decide_eq_true (by kernel_rfl)) (by unfold Func.isWrapper; first | (rw [if_pos (by decide +kernel)]; kernel_rfl) | (rw [if_neg (by decide +kernel)]; exact ⟨rfl, rfl⟩))
    (fun os started H enc _ => lifted os started H enc)

/-- The given statement. -/
theorem proved : Rows.FnCutSaid := over
end Go.Proofs.Ytkmenljbajlneaa.fnCut
