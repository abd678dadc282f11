/- FnCompiled: a description that is drawn is compiled exactly if it is valid, and then the schema holds its messages and fields and no others, for every code. No condition. -/
import Derived.Test.YtbpilecgnfnndaaCmpd1
import Derived.Test.YtbpilecgnfnndaaCmpd2
import Derived.Test.YtbpilecgnfnndaaCmpd3
import Derived.Test.YtbpilecgnfnndaaCmpd4
import Derived.Test.YtbpilecgnfnndaaCmpd5
import Derived.Test.YtbpilecgnfnndaaCmpd6
import Derived.Test.YtbpilecgnfnndaaCmpd7
namespace Go.Proofs.Ytbpilecgnfnndaa.fnCompiled
set_option linter.unusedSimpArgs false
set_option linter.unusedVariables false
open Go.ChangeShapes Go.WideShapes Go.ChangeAt Go.RowKit Go.BigFrame
def DrawnRF (w : World) (r : Ending) (w' : World) : Prop :=
  ∃ a n cap rs xs, r = .returned (.agg #[.slice a n cap]) ∧ OwnShs w' w.heap.size 40 45 (.slice a n cap) n rs xs ∧ RawB xs ∧ Below w.heap.size w w'
set_option maxHeartbeats 2000000 in
theorem drawCompile_any (a : Option Addr) (cap n : Nat) (w : World) (h : Code w a n) (hn : n ≤ 1048576) :
    Calls Try.prog 7 #[.slice a n cap] w (DrawnRF w) := by
  go_enter Try.func7, Try.ntmps7
  go_wp2_with fail
  refine (l1New_any a cap n _ (h.keep (by ((repeat (first | (with_reducible exact Below.refl _ _) | (with_reducible assumption) | (with_reducible refine Below.alloc ?_ ?_ _) | (with_reducible refine Below.setCell ?_ ?_ _) | (with_reducible refine Below.drew ?_) | (with_reducible refine below_setRow ?_ ?_ _) | (refine Below.trans ?_ (Below.mono (by assumption) ?_)))); all_goals (first | omega | (simp; done) | (simp; omega))))) hn).mono ?_
  rintro r w1 ⟨B, rfl, hB, hc, hb1⟩
  simp only [World.size_alloc] at hB
  go_wp2_with fail
  refine (l6Bent_any B w1 hc).mono ?_
  rintro r w2 ⟨a2, m, cap2, rs, xs, rfl, ho, hg, hu⟩
  have hb2 : Below (w.heap.size + 1) w1 w2 := hu.oth.below hB hc.lt
  have hbw : Below w.heap.size w w2 := ((Below.refl _ _).alloc (Nat.le_refl _) _).trans ((hb1.mono (by simp)).trans (hb2.mono (by omega)))
  have hz1 := hb1.size
  simp only [World.size_alloc] at hz1
  have hR2 := (hb2.block w.heap.size (by omega)).trans ((hb1.block w.heap.size (by simp)).trans (hset_new (o := .cells #[.slice none 0 0] 26 (0, 0)) rfl))
  have kR := box_cells hR2 0; have fR := box_frozen hR2; have hlR := box_lt hR2
  simp only [List.getElem?_toArray, List.getElem?_cons_zero] at kR
  have HR2 := Lib.hid hR2; have HO := Lib.hid ho; clear hR2 ho
  go_wp2_with fail
  refine bodyPost_ret (results_cell Try.results7 rfl (run_loadVar_mid _ w.heap.size 0 26 [.slice a2 m cap2] _ (range_of_box (t := 26) ?_) Try.underlying26 rfl (by kernel_rfl))) rfl ⟨_, _, _, _, _, rfl, (HO.out.set (by simp; omega) _).le (by omega), hg, hbw.setCell (Nat.le_refl _) _⟩
  apply hset_eq (hset_set HR2.out); simp only [List.setIfInBounds_toArray, List.set_cons_zero]
theorem drawNumber_any (a : Option Addr) (cap n : Nat) (w : World) (h : Code w a n) (hn : n ≤ 1048576) :
    Calls Try.prog 15 #[.slice a n cap] w fun r w' => ∃ z : Int, r = .returned (.int .i64 z) ∧ Below w.heap.size w w' := by
  go_enter Try.func15, Try.ntmps15
  go_wp2_with fail
  refine (l1New_any a cap n _ (h.keep (by ((repeat (first | (with_reducible exact Below.refl _ _) | (with_reducible assumption) | (with_reducible refine Below.alloc ?_ ?_ _) | (with_reducible refine Below.setCell ?_ ?_ _) | (with_reducible refine Below.drew ?_) | (with_reducible refine below_setRow ?_ ?_ _) | (refine Below.trans ?_ (Below.mono (by assumption) ?_)))); all_goals (first | omega | (simp; done) | (simp; omega))))) hn).mono ?_
  rintro r w1 ⟨B, rfl, hB, hc, hb1⟩
  go_wp2_with fail
  refine (l4Number_w B w1 hc).mono ?_
  rintro r w2 ⟨z, rfl, hz, hc2, ho2⟩
  have hb2 : Below w.heap.size w1 w2 := ho2.below (by omega) hc.lt
  go_wp2
  go_ret
  exact ⟨z, rfl, hb1.trans hb2⟩
theorem run_neq_vio (a b e : Int) (w : World) :
    (binOp .neq 32 (.agg #[.int .i64 a, .int .i64 b, .int .i64 e]) (.agg #[.int .i64 a, .int .i64 b, .int .i64 e])).run Try.prog w = .ok (.bool false) w := by
  simp [go_sem]
theorem run_neq_same (a b e : Int) (p q : Bool) (w : World) :
    (binOp .neq 47 (.agg #[.int .i64 a, .int .i64 b, .bool p, .bool q, .int .i64 e]) (.agg #[.int .i64 a, .int .i64 b, .bool p, .bool q, .int .i64 e])).run Try.prog w = .ok (.bool false) w := by
  rw [run_neq_fld]; simp [sameF]
def CmpN (w : World) (ys : List Shp) (v0 v1 v2 : Int) (r : Ending) (w' : World) : Prop :=
  ∃ a' cap' rs, r = .returned (.tuple #[.agg #[.slice a' ys.length cap'], .agg #[.int .i64 v0, .int .i64 v1, .int .i64 v2]]) ∧ OwnShs w' w.heap.size 43 47 (.slice a' ys.length cap') ys.length rs ys ∧ Below w.heap.size w w'
theorem implCmp_N (a : Option Addr) (cap n : Nat) (xs ys : List Shp) (v0 v1 v2 : Int) (w : World) (h : ShsL w a xs) (hx : xs.length = n) (hn : n ≤ 1048576) (hcap : n ≤ cap) (hm : fldSum xs ≤ 1048576) (hy : compR xs = ys) (hv : firstV xs = (v0, v1, v2)) :
    Calls Try.prog 8 #[.agg #[.slice a n cap]] w (CmpN w ys v0 v1 v2) :=
  (implCompile_any a cap n xs w h hx hn hcap hm).mono fun r w' h' => by
    subst hy
    unfold FreshCmp at h'
    rw [hv] at h'
    exact h'
structure HeldC (R S : Nat) (a1 : Option Addr) (n cap1 : Nat) (a2 : Option Addr) (m cap2 : Nat) (xs ys : List Shp) (w : World) : Prop where
  rb : w.cell? ⟨R, 0, none⟩ = some (.slice a1 n cap1)
  rl : R < w.heap.size
  sb : w.cell? ⟨S, 0, none⟩ = some (.slice a2 m cap2)
  sl : S < w.heap.size
  raw : Shs w a1 xs
  sch : Shs w a2 ys
section
variable {R S n m cap1 cap2 : Nat} {a1 a2 : Option Addr} {xs ys : List Shp} {w w' : World}
theorem HeldC.keep (h : HeldC R S a1 n cap1 a2 m cap2 xs ys w) (hb : Below w.heap.size w w') : HeldC R S a1 n cap1 a2 m cap2 xs ys w' :=
  ⟨(hb.cell (p := ⟨R, 0, none⟩) h.rl).trans h.rb, Nat.lt_of_lt_of_le h.rl hb.size, (hb.cell (p := ⟨S, 0, none⟩) h.sl).trans h.sb, Nat.lt_of_lt_of_le h.sl hb.size, h.raw.keep hb, h.sch.keep hb⟩
theorem shs_look {b off k : Nat} {x : Shp} {xs : List Shp} (h : Shs w (some ⟨b, off, none⟩) xs) (hx : xs[k]? = some x) : ∃ a' cap', b < w.heap.size ∧ w.cell? ⟨b, off + k * 2, none⟩ = some (.int .i64 x.id) ∧ w.cell? ⟨b, off + k * 2 + 1, none⟩ = some (.slice a' x.flds.length cap') ∧ Flds w a' x.flds := by
  obtain ⟨b', off', a', cap', e, hl, c0, c1, hf⟩ := Shs.at h hx
  simp only [Option.some.injEq, Addr.mk.injEq, and_true] at e
  obtain ⟨rfl, rfl⟩ := e
  exact ⟨a', cap', hl, c0, c1, hf⟩
end
set_option maxRecDepth 100000 in
set_option maxHeartbeats 8000000 in
theorem walk (w : World) (x : SlArg Int) (hx : x.ok 1 byCs ByOk w) :
    Calls Try.prog 3 #[.slice x.a x.xs.length x.cap] w fun r w' => r = .returned (.bool true) ∧ Below w.heap.size w w' := by
  have hcode := code_of hx
  obtain ⟨a, cap, bs⟩ := x
  obtain ⟨_, _, hle, hcap⟩ := hx
  simp only at hcode hle hcap ⊢
  by_cases hbig : (1048576 : Int) < (bs.length : Int)
  · go_enter Try.func3, Try.ntmps3
    go_wp2_with (first | (go_at_call 6; refine (big_any _ _ _ _).mono ?_; rintro r w1 ⟨rfl, rfl⟩))
    go_ret
    exact ⟨rfl, by ((repeat (first | (with_reducible exact Below.refl _ _) | (with_reducible assumption) | (with_reducible refine Below.alloc ?_ ?_ _) | (with_reducible refine Below.setCell ?_ ?_ _) | (with_reducible refine Below.drew ?_) | (with_reducible refine below_setRow ?_ ?_ _) | (refine Below.trans ?_ (Below.mono (by assumption) ?_)))); all_goals (first | omega | (simp; done) | (simp; omega)))⟩
  · go_enter Try.func3, Try.ntmps3
    go_wp2_with (first | (go_at_call 6; refine (big_any _ _ _ _).mono ?_; rintro r w1 ⟨rfl, rfl⟩))
    have HC := Lib.hid hcode
    refine (drawCompile_any a cap bs.length w hcode (by omega)).mono ?_
    clear hcode
    rintro r w1 ⟨a1, n, cap1, rs, xs, rfl, ho, hg, hb1⟩
    have hms := hg.sum
    have hcp1 := own_lecapR ho.outer
    have HX := Lib.hid ho.lenx
    have HL := Lib.hid ho.shsL; clear ho
    have hn7 : n ≤ 7 := by have := hg.n; have := HX.out; omega
    obtain ⟨ys, hy⟩ : ∃ ys, compR xs = ys := ⟨_, rfl⟩
    obtain ⟨⟨v0, v1, v2⟩, hv⟩ : ∃ v, firstV xs = v := ⟨_, rfl⟩
    have HY := Lib.hid hy; have HV := Lib.hid hv; clear hy hv
    go_wp2_with fail
    refine (implCmp_N a1 cap1 n xs ys v0 v1 v2 _ (HL.out.keep (by ((repeat (first | (with_reducible exact Below.refl _ _) | (with_reducible assumption) | (with_reducible refine Below.alloc ?_ ?_ _) | (with_reducible refine Below.setCell ?_ ?_ _) | (with_reducible refine Below.drew ?_) | (with_reducible refine below_setRow ?_ ?_ _) | (refine Below.trans ?_ (Below.mono (by assumption) ?_)))); all_goals (first | omega | (simp; done) | (simp; omega))))) HX.out (by omega) hcp1 hms HY.out HV.out).mono ?_
    rintro r w2 ⟨a2, cap2, rs2, rfl, ho2, hb2⟩
    have hz2 := hb2.size
    try simp only [World.size_alloc, World.size_setCell, World.size_drew] at hz2
    have hb2b : Below w1.heap.size w1 w2 := by ((repeat (first | (with_reducible exact Below.refl _ _) | (with_reducible assumption) | (with_reducible refine Below.alloc ?_ ?_ _) | (with_reducible refine Below.setCell ?_ ?_ _) | (with_reducible refine Below.drew ?_) | (with_reducible refine below_setRow ?_ ?_ _) | (refine Below.trans ?_ (Below.mono (by assumption) ?_)))); all_goals (first | omega | (simp; done) | (simp; omega)))
    have kR := box_new0 hb2
    have hBR := box_lt0 hb2
    try simp only [World.size_alloc, World.size_setCell, World.size_drew] at kR
    try simp only [World.size_alloc, World.size_setCell, World.size_drew] at hBR
    clear hb2; have hb2 := hb2b; clear hb2b
    have hT2 : Below w.heap.size w w2 := hb1.trans (hb2.mono hb1.size)
    have HS2 := Lib.hid ho2.shs; clear ho2
    have HL2 := Lib.hid (HL.out.keep hb2); clear HL
    have hfirst : ∀ W : World, ShsL W a1 xs → Calls Try.prog 9 #[.agg #[.slice a1 n cap1]] W fun r w' => r = .returned (.agg #[.int .i64 v0, .int .i64 v1, .int .i64 v2]) ∧ Below W.heap.size W w' := by
      intro W hW
      have := specFirst_any a1 cap1 n xs W hW HX.out (by omega) hms
      rw [HV.out] at this; exact this
    have hne := run_neq_vio v0 v1 v2
    obtain ⟨S, hS⟩ : ∃ S, w2.heap.size = S := ⟨_, rfl⟩
    go_wp2_with fail
    obtain ⟨W, hW⟩ : ∃ W : World, W = (w2.alloc (.cells #[.slice a2 ys.length cap2] 30 (0, 0))).alloc (.cells #[.int .i64 v0, .int .i64 v1, .int .i64 v2] 32 (0, 0)) := ⟨_, rfl⟩
    rw [← hW]
    have hbW : Below w2.heap.size w2 W := by rw [hW]; exact (((Below.refl _ _).alloc (Nat.le_refl _) _).alloc (by simp) _)
    have hSW : W.heap[S]? = some (.cells #[.slice a2 ys.length cap2] 30 (0, 0)) := by rw [hW]; exact hset_alloc (hset_new hS.symm)
    have hVW : W.heap[S + 1]? = some (.cells #[.int .i64 v0, .int .i64 v1, .int .i64 v2] 32 (0, 0)) := by rw [hW]; exact hset_new (by simp; omega)
    clear hW
    have HH : HeldC w1.heap.size S a1 n cap1 a2 ys.length cap2 xs ys W :=
      ⟨(hbW.cell (p := ⟨w1.heap.size, 0, none⟩) hBR).trans (kR 0), Nat.lt_of_lt_of_le hBR hbW.size, box_cells hSW 0, box_lt hSW, (HL2.out.keep hbW).shs, HS2.out.keep hbW⟩
    obtain ⟨R, hR⟩ : ∃ R, w1.heap.size = R := ⟨_, rfl⟩
    rw [hR] at HH
    simp only [hR]
    have hT3 : Below w.heap.size w W := hT2.trans (hbW.mono hT2.size)
    have HL3 := Lib.hid (HL2.out.keep hbW); clear HL2 HS2 hbW
    have kV := box_cells hVW; have hBV := box_lt hVW
    have k0 := kV 0; have k1 := kV 1; have k2 := kV 2
    simp only [List.getElem?_toArray, List.getElem?_cons_zero, List.getElem?_cons_succ] at k0 k1 k2
    have krb := HH.rb; have krl := HH.rl; have ksb := HH.sb; have ksl := HH.sl
    have HHh := Lib.hid HH
    clear HH hSW hVW kV hR hS kR hBR
    (refine wp_region_ext (by kernel_rfl) (by kernel_rfl) ?_; (repeat (go_big_quiet_step (first | (go_at_call 9; refine Calls.ext_of (hfirst _ (HL3.out.keep (World.ext_below _ _))))))); refine wpQuiet_nil ?_; intro w3 hb3; obtain ⟨hc3, hf3⟩ := bcell hb3; have hz3 := hb3.size; (try simp only [World.size_alloc, World.size_setCell, World.size_drew] at hz3))
    have hT4 : Below w.heap.size w w3 := hT3.trans (hb3.mono hT3.size)
    have HH3 := Lib.hid (HHh.out.keep hb3)
    have HL4 := Lib.hid (HL3.out.keep hb3)
    have k0' := (hb3.cell (p := ⟨S + 1, 0, none⟩) hBV).trans k0
    clear hb3 hc3 hf3 HHh k0 k1 k2 krb krl ksb ksl HL3 hT3 hfirst
    have krb := HH3.out.rb; have ksb := HH3.out.sb; have ksl := HH3.out.sl; have krl := HH3.out.rl
    by_cases hv0 : v0 = 0
    · have hval : RawVal xs := val_of (by rw [HV.out]; exact hv0)
      have hys : ys = compS xs := by rw [← HY.out]; exact compR_ok (by rw [HV.out]; exact hv0)
      have hyl : ys.length = n := by rw [hys, compS_len]; exact HX.out
      rw [hyl] at ksb HH3 ⊢
      have hsok : schOk ys = true := by rw [hys]; exact comp_ok hval
      have hmy : fldSum ys ≤ 1048576 := by
        have := fldSum_mul (xs := ys) (m := 8) (fun y hy => by
          rw [hys] at hy
          obtain ⟨x, hx, rfl⟩ := comp_mem hval hy
          simp only [cflds_len, List.length_nil, Nat.zero_add]
          exact hval.len hx)
        omega
      have HVAL := Lib.hid hval; have HYS := Lib.hid hys; have HYL := Lib.hid hyl; clear hval hys hyl
      subst hv0
      have hs1 : ∀ W : World, Shs W a2 ys → Calls Try.prog 10 #[.agg #[.slice a2 n cap2]] W fun r w' => r = .returned (.bool true) ∧ Below W.heap.size W w' := fun W hW => by
        have := implSchemaOk_any a2 cap2 n ys W hW HYL.out (by omega) hmy
        rw [hsok] at this; exact this
      have hs2 : ∀ W : World, Shs W a2 ys → Calls Try.prog 11 #[.agg #[.slice a2 n cap2]] W fun r w' => r = .returned (.bool true) ∧ Below W.heap.size W w' := fun W hW => by
        have := specSchemaOk_any a2 cap2 n ys W hW HYL.out (by omega) hmy
        rw [hsok] at this; exact this
      go_wp2_with fail
      refine (hs1 _ (HH3.out.sch.keep (by ((repeat (first | (with_reducible exact Below.refl _ _) | (with_reducible assumption) | (with_reducible refine Below.alloc ?_ ?_ _) | (with_reducible refine Below.setCell ?_ ?_ _) | (with_reducible refine Below.drew ?_) | (with_reducible refine below_setRow ?_ ?_ _) | (refine Below.trans ?_ (Below.mono (by assumption) ?_)))); all_goals (first | omega | (simp; done) | (simp; omega)))))).mono ?_
      rintro r w4 ⟨rfl, hb4⟩
      have hT5 : Below w.heap.size w w4 := hT4.trans (hb4.mono hT4.size)
      have HH4 := Lib.hid (HH3.out.keep hb4)
      clear HH3 hb4 krb ksb ksl krl k0'
      have krb := HH4.out.rb; have ksb := HH4.out.sb; have ksl := HH4.out.sl; have krl := HH4.out.rl
      go_wp2_with fail
      refine (hs2 _ (HH4.out.sch.keep (by ((repeat (first | (with_reducible exact Below.refl _ _) | (with_reducible assumption) | (with_reducible refine Below.alloc ?_ ?_ _) | (with_reducible refine Below.setCell ?_ ?_ _) | (with_reducible refine Below.drew ?_) | (with_reducible refine below_setRow ?_ ?_ _) | (refine Below.trans ?_ (Below.mono (by assumption) ?_)))); all_goals (first | omega | (simp; done) | (simp; omega)))))).mono ?_
      rintro r w5 ⟨rfl, hb5⟩
      have hT6 : Below w.heap.size w w5 := hT5.trans (hb5.mono hT5.size)
      have HH5 := Lib.hid (HH4.out.keep hb5)
      clear HH4 hb5 krb ksb ksl krl hs1 hs2
      have krb := HH5.out.rb; have ksb := HH5.out.sb; have ksl := HH5.out.sl; have krl := HH5.out.rl
      go_wp2_with fail
      go_loopw [6] (fun i wr => ∃ k : Nat, k ≤ n ∧ i = .int .i64 k ∧ Below w5.heap.size w5 wr) (fun i _ => n - (intOf i).toNat)
      case atStart => exact ⟨0, Nat.zero_le _, rfl, Below.refl _ _⟩
      case round =>
        obtain ⟨k, hk, rfl, hbr⟩ := hrel
        obtain ⟨wq, hwq⟩ : ∃ wq : World, wq = wr := ⟨_, rfl⟩
        subst hwq
        have hTq : Below w.heap.size w wq := hT6.trans (hbr.mono hT6.size)
        have HQ := Lib.hid (HH5.out.keep hbr)
        clear krb ksb ksl krl
        have krb := HQ.out.rb; have ksb := HQ.out.sb; have ksl := HQ.out.sl; have krl := HQ.out.rl
        by_cases hlt : k < n
        · obtain ⟨x, hx, hxm⟩ := at_lt (xs := xs) (k := k) (by rw [HX.out]; exact hlt)
          have hrk := rank_lt (xs := xs) hxm
          rw [HX.out] at hrk
          have hyp : ys[rankS xs x.id]? = some ⟨x.id, cflds xs [] x.flds⟩ := by rw [HYS.out]; exact comp_at HVAL.out hxm
          have hsat : shAt x.id 0 ys = (rankS xs x.id : Nat) := by rw [HYS.out]; exact comp_shAt HVAL.out hxm
          have hfat : ∀ f ∈ x.flds, fieldAt ys (rankS xs x.id : Nat) f.number = (cfld xs f, true) := by rw [HYS.out]; exact fun f hf => comp_fieldAt HVAL.out hxm hf
          have hkno : ∀ z, (fieldAt ys (rankS xs x.id : Nat) z).2 = hasNum x.flds z := by rw [HYS.out]; exact comp_known HVAL.out hxm
          have href : ∀ f ∈ x.flds, f.kind = 8 → ∃ y, (cfld xs f).msg = (rankS xs f.msg : Nat) ∧ rankS xs f.msg < n ∧ ys[rankS xs f.msg]? = some y ∧ y.id = f.msg := by
            intro f hf h8
            have := comp_ref HVAL.out hxm hf h8
            rw [HX.out, ← HYS.out] at this; exact this
          have hln := HVAL.out.len hxm
          obtain ⟨p, hp⟩ : ∃ p, rankS xs x.id = p := ⟨_, rfl⟩
          rw [hp] at hrk hyp hsat hfat hkno
          clear hp
          have HXk := Lib.hid hx; have HYP := Lib.hid hyp; have HFA := Lib.hid hfat; have HKN := Lib.hid hkno; have HRF := Lib.hid href; clear hx hyp hfat hkno href hxm
          obtain ⟨b1, off1, _, _, rfl, -⟩ := Shs.at HQ.out.raw HXk.out
          obtain ⟨b2, off2, _, _, rfl, -⟩ := Shs.at HQ.out.sch HYP.out
          obtain ⟨ra, rcap, hl1, c0, c1, -⟩ := shs_look HQ.out.raw HXk.out
          have hat : ∀ W : World, Shs W (some ⟨b2, off2, none⟩) ys → Calls Try.prog 12 #[.agg #[.slice (some ⟨b2, off2, none⟩) n cap2], .int .i64 x.id] W fun r w' => r = .returned (.int .i64 (p : Nat)) ∧ Below W.heap.size W w' := fun W hW => by
            have := implShapeAt_any (some ⟨b2, off2, none⟩) cap2 n ys x.id W hW HYL.out (by omega)
            rw [hsat] at this; exact this
          have hkn : (k : Int) < (n : Int) := by omega
          have hpn : (p : Int) < (n : Int) := by omega
          go_wp2_with fail
          (refine wp_region_ext (by kernel_rfl) (by kernel_rfl) ?_; (repeat (go_big_quiet_step (first | (go_at_call 12; refine Calls.ext_of (hat _ (HQ.out.sch.keep (World.ext_below _ _))))))); refine wpQuiet_nil ?_; intro w7 hb7; obtain ⟨hc7, hf7⟩ := bcell hb7; have hz7 := hb7.size; (try simp only [World.size_alloc, World.size_setCell, World.size_drew] at hz7))
          have hT7 : Below w5.heap.size w5 w7 := hbr.trans (hb7.mono hbr.size)
          have HH7 := Lib.hid (HQ.out.keep hb7)
          clear HQ hb7 hc7 hf7 krb ksb ksl krl c0 c1 hl1 hat hsat hTq
          have krb := HH7.out.rb; have ksb := HH7.out.sb; have ksl := HH7.out.sl; have krl := HH7.out.rl
          obtain ⟨ra, rcap, hl1, c0, c1, -⟩ := shs_look HH7.out.raw HXk.out
          obtain ⟨sa, scap, hl2, d0, d1, -⟩ := shs_look HH7.out.sch HYP.out
          simp only [cflds_len, List.length_nil, Nat.zero_add] at d0 d1
          have gp0 : decide ((p : Int) < 0) = false := by simp
          have gpn : decide (n ≤ p) = false := by simp; omega
          go_wp2_with fail
          (refine wp_region_ext (by kernel_rfl) (by kernel_rfl) ?_; (repeat (go_big_quiet_step (fail))); refine wpQuiet_nil ?_; intro w8 hb8; obtain ⟨hc8, hf8⟩ := bcell hb8; have hz8 := hb8.size; (try simp only [World.size_alloc, World.size_setCell, World.size_drew] at hz8))
          have hT8 : Below w5.heap.size w5 w8 := hT7.trans (hb8.mono hT7.size)
          have HH8 := Lib.hid (HH7.out.keep hb8)
          clear HH7 hb8 hc8 hf8 krb ksb ksl krl c0 c1 hl1 d0 d1 hl2 hT7
          have krb := HH8.out.rb; have ksb := HH8.out.sb; have ksl := HH8.out.sl; have krl := HH8.out.rl
          go_wp2_with fail
          go_loopw [8] (fun j wi => ∃ q : Nat, q ≤ x.flds.length ∧ j = .int .i64 q ∧ Below w8.heap.size w8 wi) (fun j _ => x.flds.length - (intOf j).toNat)
          case atStart => exact ⟨0, Nat.zero_le _, rfl, Below.refl _ _⟩
          case round =>
            obtain ⟨q, hq, rfl, hbi⟩ := hrel
            obtain ⟨wi, hwi⟩ : ∃ wi : World, wi = wr := ⟨_, rfl⟩
            subst hwi
            have HI := Lib.hid (HH8.out.keep hbi)
            clear krb ksb ksl krl
            have krb := HI.out.rb; have ksb := HI.out.sb; have ksl := HI.out.sl; have krl := HI.out.rl
            obtain ⟨ra, rcap, hl1, c0, c1, hfs⟩ := shs_look HI.out.raw HXk.out
            by_cases hlq : q < x.flds.length
            · obtain ⟨f, hf, hfm⟩ := at_lt (xs := x.flds) (k := q) hlq
              obtain ⟨b3, off3, rfl, hl3, e0, e1, e2, e3, e4⟩ := Flds.at hfs hf
              have hqn : (q : Int) < (x.flds.length : Int) := by omega
              have hfa := HFA.out f hfm
              have hr8 := HRF.out f hfm
              obtain ⟨fn, fk, fr, fp, fm⟩ := f
              simp only at e0 e1 e2 e3 e4 hfa hr8
              obtain ⟨gm, hgm⟩ : ∃ gm, (cfld xs ⟨fn, fk, fr, fp, fm⟩).msg = gm := ⟨_, rfl⟩
              have hgc : cfld xs ⟨fn, fk, fr, fp, fm⟩ = ⟨fn, fk, fr, fp, gm⟩ := by rw [← hgm]; rfl
              rw [hgm] at hr8
              rw [hgc] at hfa
              clear hgc hgm hfs hfm
              have hc1 : ∀ W : World, Shs W (some ⟨b2, off2, none⟩) ys → Calls Try.prog 13 #[.agg #[.slice (some ⟨b2, off2, none⟩) n cap2], .int .i64 p, .int .i64 fn] W fun r w' => r = .returned (.tuple #[.agg #[.int .i64 fn, .int .i64 fk, .bool fr, .bool fp, .int .i64 gm], .bool true]) ∧ Below W.heap.size W w' := fun W hW => by
                have := specFieldAt_any (some ⟨b2, off2, none⟩) cap2 n ys p fn W hW HYL.out (by omega) hmy
                rw [hfa] at this; exact this
              have hc2 : ∀ W : World, Shs W (some ⟨b2, off2, none⟩) ys → Calls Try.prog 14 #[.agg #[.slice (some ⟨b2, off2, none⟩) n cap2], .int .i64 p, .int .i64 fn] W fun r w' => r = .returned (.tuple #[.agg #[.int .i64 fn, .int .i64 fk, .bool fr, .bool fp, .int .i64 gm], .bool true]) ∧ Below W.heap.size W w' := fun W hW => by
                have := implFieldAt_any (some ⟨b2, off2, none⟩) cap2 n ys p fn W hW HYL.out (by omega) hmy
                rw [hfa] at this; exact this
              clear hfa
              have HR8 := Lib.hid hr8; clear hr8
              go_wp2_with fail
              refine (hc1 _ (HI.out.sch.keep (by ((repeat (first | (with_reducible exact Below.refl _ _) | (with_reducible assumption) | (with_reducible refine Below.alloc ?_ ?_ _) | (with_reducible refine Below.setCell ?_ ?_ _) | (with_reducible refine Below.drew ?_) | (with_reducible refine below_setRow ?_ ?_ _) | (refine Below.trans ?_ (Below.mono (by assumption) ?_)))); all_goals (first | omega | (simp; done) | (simp; omega)))))).mono ?_
              rintro r w9 ⟨rfl, hb9⟩
              have hz9 := hb9.size
              try simp only [World.size_alloc, World.size_setCell, World.size_drew] at hz9
              have hb9b : Below wi.heap.size wi w9 := by ((repeat (first | (with_reducible exact Below.refl _ _) | (with_reducible assumption) | (with_reducible refine Below.alloc ?_ ?_ _) | (with_reducible refine Below.setCell ?_ ?_ _) | (with_reducible refine Below.drew ?_) | (with_reducible refine below_setRow ?_ ?_ _) | (refine Below.trans ?_ (Below.mono (by assumption) ?_)))); all_goals (first | omega | (simp; done) | (simp; omega)))
              have kF := box_new0 hb9
              have hBF := box_lt0 hb9
              try simp only [World.size_alloc, World.size_setCell, World.size_drew] at kF
              try simp only [World.size_alloc, World.size_setCell, World.size_drew] at hBF
              clear hb9; have hb9 := hb9b; clear hb9b
              have hT9 : Below w8.heap.size w8 w9 := hbi.trans (hb9.mono hbi.size)
              have HI9 := Lib.hid (HI.out.keep hb9)
              clear HI hb9 krb ksb ksl krl c0 c1 hl1 e0 e1 e2 e3 e4 hl3 hf hc1
              have krb := HI9.out.rb; have ksb := HI9.out.sb; have ksl := HI9.out.sl; have krl := HI9.out.rl
              have kF0 := kF 0
              simp only [List.getElem?_toArray, List.getElem?_cons_zero, List.getElem?_cons_succ] at kF0
              go_wp2_with fail
              refine (hc2 _ (HI9.out.sch.keep (by ((repeat (first | (with_reducible exact Below.refl _ _) | (with_reducible assumption) | (with_reducible refine Below.alloc ?_ ?_ _) | (with_reducible refine Below.setCell ?_ ?_ _) | (with_reducible refine Below.drew ?_) | (with_reducible refine below_setRow ?_ ?_ _) | (refine Below.trans ?_ (Below.mono (by assumption) ?_)))); all_goals (first | omega | (simp; done) | (simp; omega)))))).mono ?_
              rintro r w10 ⟨rfl, hb10⟩
              have hz10 := hb10.size
              try simp only [World.size_alloc, World.size_setCell, World.size_drew] at hz10
              have hb10b : Below w9.heap.size w9 w10 := by ((repeat (first | (with_reducible exact Below.refl _ _) | (with_reducible assumption) | (with_reducible refine Below.alloc ?_ ?_ _) | (with_reducible refine Below.setCell ?_ ?_ _) | (with_reducible refine Below.drew ?_) | (with_reducible refine below_setRow ?_ ?_ _) | (refine Below.trans ?_ (Below.mono (by assumption) ?_)))); all_goals (first | omega | (simp; done) | (simp; omega)))
              have kF_ := box_next hb10b hBF kF; clear kF
              have kF := kF_; clear kF_
              have hBF_ := Nat.lt_of_lt_of_le hBF hb10b.size; clear hBF; have hBF := hBF_; clear hBF_
              have kG := box_new0 hb10
              have hBG := box_lt0 hb10
              try simp only [World.size_alloc, World.size_setCell, World.size_drew] at kG
              try simp only [World.size_alloc, World.size_setCell, World.size_drew] at hBG
              clear hb10; have hb10 := hb10b; clear hb10b
              have hT10 : Below w8.heap.size w8 w10 := hT9.trans (hb10.mono hT9.size)
              have HI10 := Lib.hid (HI9.out.keep hb10)
              clear HI9 hb10 krb ksb ksl krl hc2 hT9 kF0
              go_wp2_with fail
              obtain ⟨W10, hW⟩ : ∃ W : World, W = w10.alloc (.cells #[.int .i64 fn, .int .i64 fk, .bool fr, .bool fp, .int .i64 gm] 47 (0, 0)) := ⟨_, rfl⟩
              rw [← hW]
              have hbW : Below w10.heap.size w10 W10 := by rw [hW]; exact (Below.refl _ _).alloc (Nat.le_refl _) _
              have hHW : W10.heap[w10.heap.size]? = some (.cells #[.int .i64 fn, .int .i64 fk, .bool fr, .bool fp, .int .i64 gm] 47 (0, 0)) := by rw [hW]; exact hset_new rfl
              clear hW
              have kF_ := box_next hbW hBF kF; have kG_ := box_next hbW hBG kG; have kH := box_cells hHW
              have hBF_ := Nat.lt_of_lt_of_le hBF hbW.size; have hBG_ := Nat.lt_of_lt_of_le hBG hbW.size; have hBH := box_lt hHW
              have hT11 : Below w8.heap.size w8 W10 := hT10.trans (hbW.mono hT10.size)
              have HW := Lib.hid (HI10.out.keep hbW)
              clear hHW hbW kF kG hBF hBG HI10 hT10
              have f0 := kF_ 0; have f1 := kF_ 1; have f2 := kF_ 2; have f3 := kF_ 3; have f4 := kF_ 4
              have g0 := kG_ 0; have g1 := kG_ 1; have g2 := kG_ 2; have g3 := kG_ 3; have g4 := kG_ 4
              have h0 := kH 0; have h1 := kH 1; have h2 := kH 2; have h3 := kH 3; have h4 := kH 4
              simp only [List.getElem?_toArray, List.getElem?_cons_zero, List.getElem?_cons_succ] at f0 f1 f2 f3 f4 g0 g1 g2 g3 g4 h0 h1 h2 h3 h4
              clear kF_ kG_ kH
              have krb := HW.out.rb; have ksb := HW.out.sb; have ksl := HW.out.sl; have krl := HW.out.rl
              have hne2 := run_neq_same fn fk gm fr fp
              by_cases h8 : fk = 8
              · obtain ⟨y, hgm, hlt', hy, hyi⟩ := HR8.out h8
                obtain ⟨m8, hm8⟩ : ∃ m8, rankS xs fm = m8 := ⟨_, rfl⟩
                rw [hm8] at hgm hlt' hy
                subst hgm h8
                obtain ⟨sa, scap, hl2, d0, d1, -⟩ := shs_look HW.out.sch hy
                rw [hyi] at d0
                have hm8n : (m8 : Int) < (n : Int) := by omega
                clear hy hyi hm8 d1 HR8
                (refine wp_region_ext (by kernel_rfl) (by kernel_rfl) ?_; (repeat (go_big_quiet_step (fail))); refine wpQuiet_nil ?_; intro w11 hb11; obtain ⟨hc11, hf11⟩ := bcell hb11; have hz11 := hb11.size; (try simp only [World.size_alloc, World.size_setCell, World.size_drew] at hz11))
                have hT12 : Below w8.heap.size w8 w11 := hT11.trans (hb11.mono hT11.size)
                clear hb11 hc11 hf11 f0 f1 f2 f3 f4 g0 g1 g2 g3 g4 h0 h1 h2 h3 h4 d0
                go_wp2_with fail
                go_roundw
                case rel => exact ⟨q + 1, by omega, by go_num, hT12⟩
                case measure => simp [intOf]; omega
              · have h8' : (fk == 8) = false := by simp [h8]
                have h8'' : decide (fk = 8) = false := by simp [h8]
                (refine wp_region_ext (by kernel_rfl) (by kernel_rfl) ?_; (repeat (go_big_quiet_step (fail))); refine wpQuiet_nil ?_; intro w11 hb11; obtain ⟨hc11, hf11⟩ := bcell hb11; have hz11 := hb11.size; (try simp only [World.size_alloc, World.size_setCell, World.size_drew] at hz11))
                have hT12 : Below w8.heap.size w8 w11 := hT11.trans (hb11.mono hT11.size)
                clear hb11 hc11 hf11 f0 f1 f2 f3 f4 g0 g1 g2 g3 g4 h0 h1 h2 h3 h4
                go_wp2_with fail
                go_roundw
                case rel => exact ⟨q + 1, by omega, by go_num, hT12⟩
                case measure => simp [intOf]; omega
            · go_wp2_with fail
              refine (drawNumber_any a cap bs.length _ (HC.out.keep (hT6.trans ((hT8.trans (hbi.mono hT8.size)).mono hT6.size))) (by omega)).mono ?_
              rintro r w12 ⟨z, rfl, hb12⟩
              have hT12 : Below w8.heap.size w8 w12 := hbi.trans (hb12.mono hbi.size)
              have HI12 := Lib.hid (HI.out.keep hb12)
              clear HI hb12 krb ksb ksl krl c0 c1 hl1 hfs hbi
              have krb := HI12.out.rb; have ksb := HI12.out.sb; have ksl := HI12.out.sl; have krl := HI12.out.rl
              have hkz := HKN.out z
              obtain ⟨⟨⟨zn, zk, zr, zp, zm⟩, zb⟩, hfz⟩ : ∃ v, fieldAt ys p z = v := ⟨_, rfl⟩
              rw [hfz] at hkz
              simp only at hkz
              have hc3 : ∀ W : World, Shs W (some ⟨b2, off2, none⟩) ys → Calls Try.prog 14 #[.agg #[.slice (some ⟨b2, off2, none⟩) n cap2], .int .i64 p, .int .i64 z] W fun r w' => r = .returned (.tuple #[.agg #[.int .i64 zn, .int .i64 zk, .bool zr, .bool zp, .int .i64 zm], .bool zb]) ∧ Below W.heap.size W w' := fun W hW => by
                have := implFieldAt_any (some ⟨b2, off2, none⟩) cap2 n ys p z W hW HYL.out (by omega) hmy
                rw [hfz] at this; exact this
              have HKZ := Lib.hid hkz; clear hfz hkz
              go_wp2_with fail
              refine (hc3 _ (HI12.out.sch.keep (by ((repeat (first | (with_reducible exact Below.refl _ _) | (with_reducible assumption) | (with_reducible refine Below.alloc ?_ ?_ _) | (with_reducible refine Below.setCell ?_ ?_ _) | (with_reducible refine Below.drew ?_) | (with_reducible refine below_setRow ?_ ?_ _) | (refine Below.trans ?_ (Below.mono (by assumption) ?_)))); all_goals (first | omega | (simp; done) | (simp; omega)))))).mono ?_
              rintro r w13 ⟨rfl, hb13⟩
              have hT13 : Below w8.heap.size w8 w13 := hT12.trans (hb13.mono hT12.size)
              have HI13 := Lib.hid (HI12.out.keep hb13)
              clear HI12 hb13 krb ksb ksl krl hc3 hT12
              have krb := HI13.out.rb; have ksb := HI13.out.sb; have ksl := HI13.out.sl; have krl := HI13.out.rl
              go_wp2_with fail
              go_loopw [17, 18] (fun mt j wi => ∃ q : Nat, q ≤ x.flds.length ∧ j = .int .i64 q ∧ (∃ mb : Bool, mt = .bool mb ∧ Hid (hasNum (x.flds.take q) z = mb)) ∧ Below w13.heap.size w13 wi) (fun _ j _ => x.flds.length - (intOf j).toNat)
              case atStart => exact ⟨0, Nat.zero_le _, rfl, ⟨false, rfl, Lib.hid rfl⟩, by ((repeat (first | (with_reducible exact Below.refl _ _) | (with_reducible assumption) | (with_reducible refine Below.alloc ?_ ?_ _) | (with_reducible refine Below.setCell ?_ ?_ _) | (with_reducible refine Below.drew ?_) | (with_reducible refine below_setRow ?_ ?_ _) | (refine Below.trans ?_ (Below.mono (by assumption) ?_)))); all_goals (first | omega | (simp; done) | (simp; omega)))⟩
              case round =>
                obtain ⟨q3, hq3, rfl, ⟨mb, rfl, HMB⟩, hb3i⟩ := hrel
                obtain ⟨w3i, hwi3⟩ : ∃ w3i : World, w3i = wr := ⟨_, rfl⟩
                subst hwi3
                have HJ := Lib.hid (HI13.out.keep hb3i)
                clear krb ksb ksl krl
                have krb := HJ.out.rb; have ksb := HJ.out.sb; have ksl := HJ.out.sl; have krl := HJ.out.rl
                obtain ⟨ra, rcap, hl1, c0, c1, hfs⟩ := shs_look HJ.out.raw HXk.out
                by_cases hlq3 : q3 < x.flds.length
                · obtain ⟨f, hf, hfm⟩ := at_lt (xs := x.flds) (k := q3) hlq3
                  obtain ⟨b3, off3, rfl, hl3, e0, e1, e2, e3, e4⟩ := Flds.at hfs hf
                  have hsn : hasNum (x.flds.take (q3 + 1)) z = (hasNum (x.flds.take q3) z || f.number == z) := any_snoc hf
                  rw [HMB.out] at hsn
                  have HSN := Lib.hid hsn; clear hsn hfs hf hfm e1 e2 e3 e4
                  have hqn : (q3 : Int) < (x.flds.length : Int) := by omega
                  obtain ⟨fn, fk, fr, fp, fm⟩ := f
                  simp only at e0
                  cases mb
                  · go_wp2_with fail
                    go_roundw
                    case rel => exact ⟨q3 + 1, by omega, by go_num, ⟨_, rfl, Lib.hid (by rw [HSN.out]; simp)⟩, hb3i⟩
                    case measure => simp [intOf]; omega
                  · go_wp2_with fail
                    go_roundw
                    case rel => exact ⟨q3 + 1, by omega, by go_num, ⟨true, rfl, Lib.hid (by rw [HSN.out]; simp)⟩, hb3i⟩
                    case measure => simp [intOf]; omega
                · have hzm : zb = mb := by rw [HKZ.out, ← HMB.out, List.take_of_length_le (by omega)]
                  subst hzm
                  go_wp2_with fail
                  go_roundw
                  case rel => exact ⟨k + 1, by omega, by go_num, hT8.trans ((hT13.trans (hb3i.mono hT13.size)).mono hT8.size)⟩
                  case measure => simp [intOf]; omega
        · go_wp2_with fail
          go_ret
          exact ⟨rfl, hTq⟩
    · have hy0 : ys.length = 0 := by rw [← HY.out, compR_bad (by rw [HV.out]; exact hv0)]; rfl
      rw [hy0] at ksb
      have hv0' : (v0 == 0) = false := by simp; exact hv0
      go_wp2
      go_ret
      exact ⟨rfl, hT4⟩
set_option maxRecDepth 100000 in
theorem lifted (os : Os) (started : os.Started) (H : Type) (enc : TypeId × Value → H) :
    ReturnsInHanded {} Try.checked os 3 .any (Rows.fnCompiledSpec.pre6 enc Try.prog Try.f3 Rows.fnCompiledRow.domain false) (Rows.fnCompiledSpec.post enc Try.prog Try.f3 false true false false) := by
  refine returnsInHanded_of_change (C := Try.checked) own started (by kernel_rfl) Try.func3
    (ChangeSpec.witness6 (enc := enc) (C := Try.checked) false ⟨#[], #[.slice none 0 0], []⟩ 8 (by kernel_rfl) (by kernel_rfl) (by kernel_rfl) (by kernel_rfl)) ?_
  intro W base args ds gs before hval0 hW hcnd _
  have hval : ∀ (j : Nat) t v, Try.f3.params[j]? = some t → args[j]? = some v → Value.okWide Try.prog W .any base t v := hval0
  have hW' := hW
  obtain ⟨p, q, hA0, hV, rfl, hfz, hnd⟩ := hW
  have hA : DataW.TrodAll enc Try.prog W 0 (fun _ => true) true Try.f3.params.toList args.toList ds p := hA0
  rw [Try.params3] at hA hval
  obtain ⟨v0, vs0, d0, ds0, p0, q0, hargs, rfl, rfl, h0, r0⟩ := trodAll_cons hA
  obtain ⟨rfl, rfl, rfl⟩ := trodAll_nil r0
  obtain rfl : args = #[v0] := by cases args; simp_all
  obtain ⟨rfl, rfl⟩ := trodVars_none hV
  have k0 := h0
  have lt0 : ∀ x ∈ p0, x.block < W.heap.size := by obtain ⟨m, hm⟩ := k0; exact DataW.trod_lt m _ _ _ hm
  obtain ⟨x0, e0, w0⟩ := openBytes (hval 0 22 v0 rfl rfl) h0
  subst e0
  clear hA0 hval0
  refine (walk W x0 w0).mono fun e W' ⟨he, bel⟩ => ?_
  subst he
  exact ⟨_, rfl, _, _, _, [], _, [], hW', trodAll_mk1 (shut_bool Try.underlying4 _), (trodAll_cons_mk (Below.trod laidOut (by kernel_rfl) (of_decide_eq_true (by kernel_rfl)) k0 bel lt0) trodAll_mk0), rfl, bel.frame _, fun h => by cases h⟩
theorem over : Rows.fnCompiledRow.holds Try.pinned (OpenSpec.ofChange Rows.fnCompiledSpec) :=
  OpenClaim.holds_of_wide 3 Try.f3 rfl rfl rfl rfl rfl rfl rfl ⟨rfl, rfl, rfl, rfl, rfl⟩ rfl rfl rfl rfl rfl (by kernel_rfl) Try.func3 (by kernel_rfl)
    (of_decide_eq_true (by kernel_rfl)) (by unfold Func.isWrapper; first | (rw [if_pos (by decide +kernel)]; kernel_rfl) | (rw [if_neg (by decide +kernel)]; exact ⟨rfl, rfl⟩))
    (fun os started H enc _ => lifted os started H enc)
theorem proved : Rows.FnCompiledSaid := over
end Go.Proofs.Ytbpilecgnfnndaa.fnCompiled
