/- Texts that FnSettle leans on, part 7. (Put together by wip/tools/bundle.py.) -/
import Derived.Deep.CutRange
import Derived.Deep.CutBlock
import Derived.Lib.AppendStr
import Derived.Lib.FrozenHead
import Derived.Laws.Bits128
import Derived.Deep.RegionHeld
import Derived.Test.YtabdjimjelfbfaaGreatSettle1
import Derived.Test.YtabdjimjelfbfaaGreatSettle2
import Derived.Test.YtabdjimjelfbfaaGreatSettle3
import Derived.Test.YtabdjimjelfbfaaGreatSettle4
import Derived.Test.YtabdjimjelfbfaaGreatSettle5
import Derived.Test.YtabdjimjelfbfaaGreatSettle6
namespace Go.Proofs.YtabdjimjelfbfaaGreat
set_option linter.unusedSimpArgs false
set_option linter.unusedVariables false
open Go.ChangeShapes Go.WideShapes Go.ChangeAt Go.RowKit Go.BigFrame
def SomeDE (w : World) (T TF TL TE : TypeId) (xs : List Shp) (r : Ending) (w' : World) : Prop := ∃ O : Outc, FreshDE w T TF TL TE xs O r w' ∧ O.2.1.length ≤ 8
theorem finSome {F : Func} {p q : Tmp} (hF : F.results = #[.cell p 40, .tmp q]) {tm : Array Value} {R : Nat} {W w : World} {e : Dc} {xs : List Shp} {ms : List Lvl} {es : List Ev} {a sa ea : Option Addr} {cap scap ecap base : Nat} {rs : List ShR}
  (t1 : tm.getD p undef = .pointer (some ⟨R, 0, none⟩)) (t2 : tm.getD q undef = .slice ea es.length ecap) (h1 : W.heap[R]? = some (.cells (Dc.cl e (.slice a xs.length cap) (.slice sa ms.length scap)).toArray 40 (0, 0)))
  (h2 : OwnShs W base 77 34 (.slice a xs.length cap) xs.length rs xs) (h3 : W.ownsRow base 67 2 (.slice sa ms.length scap) ms.length (ms.flatMap Lvl.cs)) (h4 : W.ownsRow base 38 7 (.slice ea es.length ecap) es.length (es.flatMap Ev.cs)) (hb : Below w.heap.size w W) (hle : w.heap.size ≤ base) (h8 : ms.length ≤ 8) :
  bodyPost Tryz.prog F (SomeDE w 77 34 67 38 xs) .ret ⟨tm, []⟩ W :=
 bodyPost_ret (results_cell_tmp hF t1 t2 (run_loadVar_mid W R 0 40 (Dc.cl e (.slice a xs.length cap) (.slice sa ms.length scap)) _ (range_of_box h1) Tryz.underlying40 rfl size_Dec)) rfl ⟨(e, ms, es), ⟨a, cap, rs, sa, scap, ea, ecap, rfl, h2.le hle, owns_le h3 hle, owns_le h4 hle, hb⟩, h8⟩
theorem lvOk_deep {d : Dc} {xs : List Shp} {ls : List Lvl} (h : lvOk d xs ls = true) : d.p.deep ≤ 8 := by
 have h1 : planOk d.p xs = true := by simp only [lvOk, Bool.and_eq_true, decide_eq_true_eq] at h; exact h.1
 simp only [planOk, inB, Bool.and_eq_true, decide_eq_true_eq] at h1
 omega
theorem typed_neL {w : World} {b : Nat} {cur cur' : Array Value} {t t' : TypeId} (h : w.heap[b]? = some (.cells cur t (0, 0))) (h' : w.heap[b]? = some (.cells cur' t' (0, 0))) : t = t' := by
 rw [h] at h'; simp only [Option.some.injEq, Obj.cells.injEq] at h'; exact h'.2.1
theorem own_pos {w : World} {base n size c : Nat} {t : TypeId} {a : Option Addr} {L : List Value} (h : w.ownsRow base t size (.slice a n c) n L) (hn : 0 < n) : ∃ g, a = some ⟨g, 0, none⟩ ∧ base ≤ g ∧ g < w.heap.size := by
 have h' := h
 rcases h.2 with ⟨e, h0⟩ | ⟨g, cap, cur, e, _⟩
 ·omega
 ·simp only [Value.slice.injEq] at e
  have hl := h'.lt g (by rw [e.1]; rfl)
  exact ⟨g, e.1, hl.1, hl.2⟩
theorem flat_setL : ∀ {ls : List Lvl} {m : Nat} {l : Lvl} {v : Int}, ls[m]? = some l → (ls.flatMap Lvl.cs).set (m * 2 + 1) (.int .i64 v) = (ls.set m ⟨l.msg, v⟩).flatMap Lvl.cs
 | [], m, l, v, h => by simp at h
 | x :: xs, 0, l, v, h => by simp only [List.getElem?_cons_zero, Option.some.injEq] at h; subst h; rfl
 | x :: xs, m + 1, l, v, h => by
  have ih := flat_setL (v := v) (show xs[m]? = some l by simpa using h)
  rw [show (m + 1) * 2 + 1 = (m * 2 + 1) + 1 + 1 by omega]
  simp only [List.flatMap_cons, List.set_cons_succ, ← ih]
  rfl
theorem World.ownsRow.of_lvlL (w : World) (x y : Int) (t : TypeId) : (w.alloc (.cells #[.int .i64 x, .int .i64 y] t)).ownsRow w.heap.size t 2 (.slice (some ⟨w.heap.size, 0, none⟩) 1 1) 1 (([⟨x, y⟩] : List Lvl).flatMap Lvl.cs) :=
 ⟨rfl, .inr ⟨w.heap.size, 1, #[.int .i64 x, .int .i64 y], rfl, Nat.le_refl _, heap_alloc_new w _, Nat.le_refl _, by unfold maxLen; omega, rfl, rfl⟩⟩
set_option maxRecDepth 100000 in
set_option maxHeartbeats 8000000 in
theorem specLen_some (d : Dc) (a : Option Addr) (cap : Nat) (xs : List Shp) (sa : Option Addr) (scap : Nat) (ls : List Lvl) (u : Int) (w : World) (h : ShsC w a xs) (h' : Lvls w sa ls) (hn : xs.length ≤ 1048576) (hm : fldSum xs ≤ 1048576) (h8 : ls.length ≤ 8) (hnil : sa = none → scap = 0) (hu : (Lit.int .u64 u).wf = true) :
  Calls Tryz.prog 161 #[d.val (.slice a xs.length cap) (.slice sa ls.length scap), .int .u64 u] w (SomeDE w 77 34 67 38 xs) := by
 have hm' : ls.length ≤ 1048576 := by omega
 have HSs := Lib.hid h; clear h
 have HSl := Lib.hid h'; clear h'
 go_enter Tryz.func161, Tryz.ntmps161
 go_wp2_with (first | ((with_reducible show wpList _ _ _ (⟨_, Op.load 40 _, _, _, _, _⟩ :: _) _ _); refine wlm w.heap.size (Dc.cl d (.slice a xs.length cap) (.slice sa ls.length scap)) (range_of_box (t := 40) (hset_alloc (hset_new rfl))) ?_))
 refine (l14Copy_any d a cap xs sa scap ls _ (HSs.out.keep bl) (Sl.keep HSl.out bl) hn hm hm' hnil).mono ?_
 rintro r w1 ⟨a1, cap1, rs1, sa1, scap1, rfl, ho1, hp1, hb1⟩
 have hz1 := hb1.size
 simp only [World.size_alloc] at hz1
 have hA_ : w1.heap[w.heap.size]? = some (.cells (Dc.cl d (.slice a xs.length cap) (.slice sa ls.length scap)).toArray 40 (0, 0)) := (hb1.block _ (by simp; omega)).trans (hset_alloc (hset_new rfl))
 have hR_ : w1.heap[w.heap.size + 1]? = some (.cells dz0.toArray 40 (0, 0)) := (hb1.block _ (by simp)).trans (hset_new (by simp))
 have hb1b : Below w.heap.size w w1 := by exact bl
 have P1 := Lib.hid (OwnShs.le ho1 (show w.heap.size + 1 + 1 ≤ _ by simp)); clear ho1
 have P2 := Lib.hid (owns_le hp1 (show w.heap.size + 1 + 1 ≤ _ by simp)); clear hp1 hb1
 have HA := Lib.hid hA_; clear hA_
 have HR := Lib.hid hR_; clear hR_
 go_wp2_with (first | ((with_reducible show wpList _ _ _ (⟨_, Op.store 40 _ _, _, _, _, _⟩ :: _) _ _); refine wsq w1.heap.size (Dc.cl d (.slice a1 xs.length cap1) (.slice sa1 ls.length scap1)).toArray (hset_new rfl) (one_Dec _ _ _ _ _ _ _) ?_) | ((with_reducible show wpList _ _ _ (⟨_, Op.load 40 _, _, _, _, _⟩ :: _) _ _); refine wlm w.heap.size (Dc.cl d (.slice a xs.length cap) (.slice sa ls.length scap)) (range_of_box (t := 40) (hset_row_other (hset_alloc HA.out) (by omega))) ?_))
 have hbx : Below w1.heap.size w1 ((w1.alloc (.cells dz0.toArray 40)).setRow w1.heap.size (Dc.cl d (.slice a1 xs.length cap1) (.slice sa1 ls.length scap1)).toArray) := by exact bl
 have hO_ : ((w1.alloc (.cells dz0.toArray 40)).setRow w1.heap.size (Dc.cl d (.slice a1 xs.length cap1) (.slice sa1 ls.length scap1)).toArray).heap[w1.heap.size]? = some (.cells (Dc.cl d (.slice a1 xs.length cap1) (.slice sa1 ls.length scap1)).toArray 40 (0, 0)) := hset_row (cs := dz0.toArray) (hset_new rfl)
 obtain ⟨w2, hw2⟩ : ∃ w2, w2 = (w1.alloc (.cells dz0.toArray 40)).setRow w1.heap.size (Dc.cl d (.slice a1 xs.length cap1) (.slice sa1 ls.length scap1)).toArray := ⟨_, rfl⟩
 rw [← hw2] at hbx hO_ ⊢
 clear hw2
 have hlO := box_lt hO_
 have hb2b : Below w.heap.size w w2 := hb1b.trans (hbx.mono (by omega))
 refine (l15Ok_any d a cap _ xs sa scap _ ls _ (HSs.out.shs.keep hb2b) (Sl.keep HSl.out hb2b) rfl rfl hn hm hm').mono ?_
 rintro r w3 ⟨rfl, hb3⟩
 have hz3 := hb3.size
 have hb13 : Below w1.heap.size w1 w3 := hbx.trans (hb3.mono (by omega))
 have HO := Lib.hid ((hb3.block _ hlO).trans hO_); clear hO_ hbx
 have HA3 := Lib.hid ((hb13.block _ (by omega)).trans HA.out); clear HA
 have HR3 := Lib.hid ((hb13.block _ (by omega)).trans HR.out); clear HR
 have Q1 := Lib.hid (P1.out.chain hb13 (Nat.le_refl _)); clear P1
 have Q2 := Lib.hid (owns_below P2.out hb13 (Nat.le_refl _)); clear P2
 have hbw : Below w.heap.size w w3 := hb2b.trans (hb3.mono (by have := hb2b.size; omega))
 clear hb13 hb3 hb2b hb1b
 have kA := box_cells HA3.out; have fA := box_frozen HA3.out; have hBA := box_lt HA3.out
 have kO := box_cells HO.out; have fO := box_frozen HO.out; have hBO := box_lt HO.out
 cases hok : lvOk d xs ls
 ·skip
  go_wp2_with (first | ((with_reducible show wpList _ _ _ (⟨_, Op.load 40 _, _, _, _, _⟩ :: _) _ _); refine wlm w1.heap.size (Dc.cl d (.slice a1 xs.length cap1) (.slice sa1 ls.length scap1)) (range_of_box (t := 40) HO.out) ?_) | ((with_reducible show wpList _ _ _ (⟨_, Op.store 40 _ _, _, _, _, _⟩ :: _) _ _); refine wsr (w.heap.size + 1) (Dc.cl d (.slice a1 xs.length cap1) (.slice sa1 ls.length scap1)).toArray (hset_alloc HR3.out) ?_))
  refine finSome (w := w) (R := w.heap.size + 1) (base := w.heap.size + 1 + 1) (e := d) (ms := ls) (es := ([] : List Ev)) (rs := rs1) (a := a1) (cap := cap1) (sa := sa1) (scap := scap1) (ea := some ⟨w3.heap.size, 0, none⟩) (ecap := 0) Tryz.results161 ?_ ?_ ?_ ?_ ?_ ?_ ?_ (by omega) h8
  ·rfl
  ·rfl
  ·exact hset_row (cs := dz0.toArray) (hset_alloc HR3.out)
  ·exact OwnShs.setRow (Q1.out.alloc _) (by omega) _
  ·exact owns_setRow (Q2.out.alloc _) (by omega) _
  ·exact owns_setRow (owns_le (own_built w3 38 7) (by omega)) (by omega) _
  ·exact bl
 ·go_upto_region 5 with fail
  generalize hw4 : World.setCell _ (⟨w1.heap.size, 7, none⟩ : Addr) (.int .i64 0) = w4
  have hO4 : w4.heap[w1.heap.size]? = some (.cells (c1111 (.slice a1 xs.length cap1) (.slice sa1 ls.length scap1) d.p d.mode 0 0 d.start d.at_ d.field d.wire d.want d.utf d.end_).toArray 40 (0, 0)) := by rw [← hw4]; apply hset_eq; (repeat (first | (with_reducible exact HO.out) | (with_reducible apply hset_set))); simp only [List.setIfInBounds_toArray, List.set_cons_zero, List.set_cons_succ]
  have hG4 : w3.grownBy w4 (some w1.heap.size) := by rw [← hw4]; (repeat (with_reducible refine only_cell ?_ _ _)); exact only_refl _ _
  clear hw4 kO fO hBO
  have hz4 := hG4.size
  have HA4 := Lib.hid ((hG4.block _ hBA (by simp; omega)).trans HA3.out); clear kA fA hBA HA3
  have Q1b := Lib.hid (Q1.out.keepBy hG4 (other_box HO.out (by decide)) (other_box HO.out (by decide))); clear Q1; have Q1 := Q1b; clear Q1b
  have Q2b := Lib.hid (owns_keep Q2.out hG4 (other_box HO.out (by decide))); clear Q2; have Q2 := Q2b; clear Q2b
  have HR4 := Lib.hid ((hG4.block _ (by omega) (by simp; omega)).trans HR3.out); clear HR3
  have hbw4 : Below w.heap.size w w4 := below_grown hbw hG4 (fun g e => by have := Option.some.inj e; omega) (by omega)
  clear HO hG4 hbw
  have HO4 := Lib.hid hO4; clear hO4
  have kA := box_cells HA4.out; have fA := box_frozen HA4.out; have hBA := box_lt HA4.out
  have kO := box_cells HO4.out; have fO := box_frozen HO4.out; have hBO := box_lt HO4.out
  have hw01 : IntKind.i64.wrap ((ls.length : Int) - 1) = (ls.length : Int) - 1 := IntWalk.i64_in _ (by omega)
  by_cases hls : ls = []
  ·have hl0 : decide ((ls.length : Int) - 1 < 0) = true := by rw [hls]; rfl
   have hl1 : (ls.length : Int) < 1 := by rw [hls]; decide
   clear hls
   go_wp2_with (first | ((with_reducible show wpList _ _ _ (⟨_, Op.load 40 _, _, _, _, _⟩ :: _) _ _); refine wlm w1.heap.size (c1111 (.slice a1 xs.length cap1) (.slice sa1 ls.length scap1) d.p d.mode 0 0 d.start d.at_ d.field d.wire d.want d.utf d.end_) (range_of_box (t := 40) HO4.out) ?_))
   refine (l15Fail_any (scan0 d) a1 cap1 xs.length sa1 scap1 ls.length 8 d.start _).mono ?_
   rintro r w7 ⟨ea, ecap, rfl, ho7, hb7⟩
   have hz7 := hb7.size
   have Q1b := Lib.hid (Q1.out.chain hb7 (Nat.le_refl _)); clear Q1
   have Q2b := Lib.hid (owns_below Q2.out hb7 (Nat.le_refl _)); clear Q2
   have Q3 := Lib.hid (owns_le ho7 (show w.heap.size + 1 + 1 ≤ _ by omega)); clear ho7
   have HR7 := Lib.hid ((hb7.block _ (by omega)).trans HR4.out); clear HR4
   have hbw7 : Below w.heap.size w w7 := hbw4.trans (hb7.mono (by omega))
   obtain ⟨x, hx⟩ : ∃ x : Dc, failD (scan0 d) 8 d.start = x := ⟨_, rfl⟩
   rw [hx]
   clear hx
   go_wp2_with (first | ((with_reducible show wpList _ _ _ (⟨_, Op.store 40 _ _, _, _, _, _⟩ :: _) _ _); refine wsq (w.heap.size + 1) (Dc.cl x (.slice a1 xs.length cap1) (.slice sa1 ls.length scap1)).toArray HR7.out (one_Dec _ _ _ _ _ _ _) ?_))
   refine finSome (w := w) (R := w.heap.size + 1) (base := w.heap.size + 1 + 1) (e := x) (ms := ls) (es := [failE 8 d.start]) (rs := rs1) (a := a1) (cap := cap1) (sa := sa1) (scap := scap1) (ea := ea) (ecap := ecap) Tryz.results161 ?_ ?_ ?_ ?_ ?_ ?_ ?_ (by omega) (by omega)
   ·rfl
   ·rfl
   ·exact hset_row (cs := dz0.toArray) HR7.out
   ·exact OwnShs.setRow Q1b.out (by omega) _
   ·exact owns_setRow Q2b.out (by omega) _
   ·exact owns_setRow Q3.out (by omega) _
   ·exact bl
  ·obtain ⟨m, hml⟩ : ∃ m, ls.length = m + 1 := ⟨ls.length - 1, by have : ls.length ≠ 0 := fun e => hls (List.eq_nil_of_length_eq_zero e); omega⟩
   obtain ⟨l, he⟩ : ∃ l, ls[m]? = some l := ⟨_, List.getElem?_eq_getElem (by omega)⟩
   clear hls
   obtain ⟨b, off, rfl, hlb, c0, c1⟩ := Lvls.at (Sl.keep HSl.out hbw4) he
   have hbl : b < w.heap.size := by obtain ⟨b', off', e1, hl1, _⟩ := Lvls.at HSl.out he; simp only [Option.some.injEq, Addr.mk.injEq] at e1; omega
   rw [hml] at kA hw01
   have hmw : IntKind.i64.wrap (m : Int) = m := IntWalk.i64_in _ (by omega)
   have hm0 : (0 : Int) ≤ (m : Int) := by omega
   have hmlt : (m : Int) < (m : Int) + 1 := by omega
   have hm1 : ((m : Int) < 0) = False := by simp
   clear hw01
   have HML := Lib.hid hml; have HHE := Lib.hid he; clear hml he
   by_cases hgt : IntKind.u64.wrap l.left < u
   ·skip
    go_wp2_with (first | ((with_reducible show wpList _ _ _ (⟨_, Op.load 40 _, _, _, _, _⟩ :: _) _ _); refine wlm w1.heap.size (c1111 (.slice a1 xs.length cap1) (.slice sa1 ls.length scap1) d.p d.mode 0 0 d.start d.at_ d.field d.wire d.want d.utf d.end_) (range_of_box (t := 40) HO4.out) ?_))
    refine (l15Fail_any (scan0 d) a1 cap1 xs.length sa1 scap1 ls.length 8 d.start _).mono ?_
    rintro r w7 ⟨ea, ecap, rfl, ho7, hb7⟩
    have hz7 := hb7.size
    have Q1b := Lib.hid (Q1.out.chain hb7 (Nat.le_refl _)); clear Q1
    have Q2b := Lib.hid (owns_below Q2.out hb7 (Nat.le_refl _)); clear Q2
    have Q3 := Lib.hid (owns_le ho7 (show w.heap.size + 1 + 1 ≤ _ by omega)); clear ho7
    have HR7 := Lib.hid ((hb7.block _ (by omega)).trans HR4.out); clear HR4
    have hbw7 : Below w.heap.size w w7 := hbw4.trans (hb7.mono (by omega))
    obtain ⟨x, hx⟩ : ∃ x : Dc, failD (scan0 d) 8 d.start = x := ⟨_, rfl⟩
    rw [hx]
    clear hx
    go_wp2_with (first | ((with_reducible show wpList _ _ _ (⟨_, Op.store 40 _ _, _, _, _, _⟩ :: _) _ _); refine wsq (w.heap.size + 1) (Dc.cl x (.slice a1 xs.length cap1) (.slice sa1 ls.length scap1)).toArray HR7.out (one_Dec _ _ _ _ _ _ _) ?_))
    refine finSome (w := w) (R := w.heap.size + 1) (base := w.heap.size + 1 + 1) (e := x) (ms := ls) (es := [failE 8 d.start]) (rs := rs1) (a := a1) (cap := cap1) (sa := sa1) (scap := scap1) (ea := ea) (ecap := ecap) Tryz.results161 ?_ ?_ ?_ ?_ ?_ ?_ ?_ (by omega) (by omega)
    ·rfl
    ·rfl
    ·exact hset_row (cs := dz0.toArray) HR7.out
    ·exact OwnShs.setRow Q1b.out (by omega) _
    ·exact owns_setRow Q2b.out (by omega) _
    ·exact owns_setRow Q3.out (by omega) _
    ·exact bl
   ·go_upto_region 11 with fail
    obtain ⟨nn, hnn⟩ : ∃ nn, wrap64 u = nn := ⟨_, rfl⟩
    simp only [hnn]
    clear hnn kA fA hBA kO fO hBO hm1 hgt
    generalize hw5 : World.setCell w4 (⟨w1.heap.size, 16, none⟩ : Addr) (.int .i64 nn) = w5
    obtain ⟨x5, hO5⟩ : ∃ x : Dc, w5.heap[w1.heap.size]? = some (.cells (Dc.cl x (.slice a1 xs.length cap1) (.slice sa1 ls.length scap1)).toArray 40 (0, 0)) := ⟨⟨d.p, d.mode, 0, 0, d.start, d.at_, d.field, d.wire, nn, d.utf, d.end_⟩, by rw [← hw5]; apply hset_eq; (repeat (first | (with_reducible exact HO4.out) | (with_reducible apply hset_set))); simp only [List.setIfInBounds_toArray, List.set_cons_zero, List.set_cons_succ]⟩
    have hs5 : w5.heap.size = w4.heap.size := by rw [← hw5]; simp
    have hG5 : w4.grownBy w5 (some w1.heap.size) := by rw [← hw5]; (repeat (with_reducible refine only_cell ?_ _ _)); exact only_refl _ _
    clear hw5
    have HA5 := Lib.hid ((hG5.block _ (box_lt HA4.out) (by simp; omega)).trans HA4.out); clear HA4
    have Q1b := Lib.hid (Q1.out.keepBy hG5 (other_box HO4.out (by decide)) (other_box HO4.out (by decide))); clear Q1; have Q1 := Q1b; clear Q1b
    have Q2b := Lib.hid (owns_keep Q2.out hG5 (other_box HO4.out (by decide))); clear Q2; have Q2 := Q2b; clear Q2b
    have HR5 := Lib.hid ((hG5.block _ (by omega) (by simp; omega)).trans HR4.out); clear HR4
    have hbw5 : Below w.heap.size w w5 := below_grown hbw4 hG5 (fun g e => by have := Option.some.inj e; omega) (by omega)
    have c1_ := (World.cell?_of_block (a := ⟨b, off + m * 2 + 1, none⟩) (hG5.block b hlb (by simp; omega))).trans c1; clear c1 c0; have c1 := c1_; clear c1_
    have hG5_ := hG5
    clear HO4 hG5 hbw4
    have HO5 := Lib.hid hO5; clear hO5
    generalize hw6 : World.alloc w5 (.cells #[.int .i64 d.field.number, .int .i64 d.field.kind, .bool d.field.rep, .bool d.field.packed, .int .i64 d.field.msg] 34) = w6
    have HF6 := Lib.hid (show w6.heap[w4.heap.size]? = some (.cells #[.int .i64 d.field.number, .int .i64 d.field.kind, .bool d.field.rep, .bool d.field.packed, .int .i64 d.field.msg] 34 (0, 0)) by rw [← hw6]; exact hset_new hs5.symm)
    have hb56 : Below w5.heap.size w5 w6 := by rw [← hw6]; exact bl
    clear hw6
    have hz6 := hb56.size
    have HO6 := Lib.hid ((hb56.block _ (box_lt HO5.out)).trans HO5.out); clear HO5
    have HA6 := Lib.hid ((hb56.block _ (box_lt HA5.out)).trans HA5.out); clear HA5
    have HR6 := Lib.hid ((hb56.block _ (box_lt HR5.out)).trans HR5.out); clear HR5
    have Q1b := Lib.hid (Q1.out.chain hb56 (Nat.le_refl _)); clear Q1; have Q1 := Q1b; clear Q1b
    have Q2b := Lib.hid (owns_below Q2.out hb56 (Nat.le_refl _)); clear Q2; have Q2 := Q2b; clear Q2b
    have hbw6 : Below w.heap.size w w6 := hbw5.trans (hb56.mono (by omega)); clear hbw5
    have c1_ := (hb56.cell (p := ⟨b, off + m * 2 + 1, none⟩) (by simp; omega)).trans c1; clear c1; have c1 := c1_; clear c1_ hb56
    have hlb6 : b < w6.heap.size := by omega
    clear hlb
    have hne := run_eql_fld
    obtain ⟨qz, hqz⟩ : ∃ q, sameF ⟨d.field.number, d.field.kind, d.field.rep, d.field.packed, d.field.msg⟩ ⟨0, 0, false, false, 0⟩ = q := ⟨_, rfl⟩
    have kF := box_cells HF6.out; have fF := box_frozen HF6.out; have hBF := box_lt HF6.out
    have kO := box_cells HO6.out; have fO := box_frozen HO6.out; have hBO := box_lt HO6.out
    cases qz
    ·by_cases hk8 : d.field.kind = 8
     ·have e8 : (d.field.kind == 8) = true := by simp; omega
      clear hk8
      have hdeep := lvOk_deep hok
      have kA := box_cells HA6.out; have fA := box_frozen HA6.out; have hBA := box_lt HA6.out
      rw [HML.out] at kA
      have hmm : (0 : Int) ≤ (m : Int) + 1 := by omega
      by_cases hdp : d.p.deep ≤ (m : Int) + 1
      ·skip
       go_wp2_with (first | ((with_reducible show wpList _ _ _ (⟨_, Op.load 40 _, _, _, _, _⟩ :: _) _ _); refine wlm w1.heap.size (Dc.cl x5 (.slice a1 xs.length cap1) (.slice sa1 ls.length scap1)) (range_of_box (t := 40) HO6.out) ?_))
       refine (l15Fail_any (x5) a1 cap1 xs.length sa1 scap1 ls.length 6 d.start _).mono ?_
       rintro r w7 ⟨ea, ecap, rfl, ho7, hb7⟩
       have hz7 := hb7.size
       have Q1b := Lib.hid (Q1.out.chain hb7 (Nat.le_refl _)); clear Q1
       have Q2b := Lib.hid (owns_below Q2.out hb7 (Nat.le_refl _)); clear Q2
       have Q3 := Lib.hid (owns_le ho7 (show w.heap.size + 1 + 1 ≤ _ by omega)); clear ho7
       have HR7 := Lib.hid ((hb7.block _ (by omega)).trans HR6.out); clear HR6
       have hbw7 : Below w.heap.size w w7 := hbw6.trans (hb7.mono (by omega))
       obtain ⟨x, hx⟩ : ∃ x : Dc, failD (x5) 6 d.start = x := ⟨_, rfl⟩
       rw [hx]
       clear hx
       go_wp2_with (first | ((with_reducible show wpList _ _ _ (⟨_, Op.store 40 _ _, _, _, _, _⟩ :: _) _ _); refine wsq (w.heap.size + 1) (Dc.cl x (.slice a1 xs.length cap1) (.slice sa1 ls.length scap1)).toArray HR7.out (one_Dec _ _ _ _ _ _ _) ?_))
       refine finSome (w := w) (R := w.heap.size + 1) (base := w.heap.size + 1 + 1) (e := x) (ms := ls) (es := [failE 6 d.start]) (rs := rs1) (a := a1) (cap := cap1) (sa := sa1) (scap := scap1) (ea := ea) (ecap := ecap) Tryz.results161 ?_ ?_ ?_ ?_ ?_ ?_ ?_ (by omega) (by omega)
       ·rfl
       ·rfl
       ·exact hset_row (cs := dz0.toArray) HR7.out
       ·exact OwnShs.setRow Q1b.out (by omega) _
       ·exact owns_setRow Q2b.out (by omega) _
       ·exact owns_setRow Q3.out (by omega) _
       ·exact bl
      ·go_upto_region 17 with fail
       have hm8 : m + 1 + 1 ≤ 8 := by omega
       obtain ⟨g, rfl, hg0, hg1⟩ := own_pos Q2.out (by rw [HML.out]; omega)
       obtain ⟨curg, hcurg⟩ := own_blk Q2.out (g := g) rfl
       have hgO : g ≠ w1.heap.size := fun e => by rw [e] at hcurg; exact absurd (typed_neL hcurg HO6.out) (by decide)
       have hgF : g ≠ w4.heap.size := fun e => by rw [e] at hcurg; exact absurd (typed_neL hcurg HF6.out) (by decide)
       have hfzg : ∀ j, w6.frozen? ⟨g, j, none⟩ = false := Q2.out.frozenAt
       obtain ⟨ug, hug⟩ := owns_some Q2.out (m * 2 + 1) (by rw [HML.out]; omega)
       have cO5 := kO 5; have cA5 := kA 5
       simp only [List.getElem?_toArray, List.getElem?_cons_zero, List.getElem?_cons_succ] at cO5 cA5
       rw [HML.out] at cO5
       refine wp_region_till (Cells [(⟨w1.heap.size, 5, none⟩, .slice (some ⟨g, 0, none⟩) (m + 1) scap1), (⟨w.heap.size, 5, none⟩, .slice (some ⟨b, off, none⟩) (m + 1) scap), (⟨b, off + m * 2 + 1, none⟩, .int .i64 l.left)]) (fun i => decide (11 ≤ i)) (by kernel_rfl) ?_
       have hS : Cells [(⟨w1.heap.size, 5, none⟩, .slice (some ⟨g, 0, none⟩) (m + 1) scap1), (⟨w.heap.size, 5, none⟩, .slice (some ⟨b, off, none⟩) (m + 1) scap), (⟨b, off + m * 2 + 1, none⟩, .int .i64 l.left)] w6.drew := cells_mk cO5 (cells_mk cA5 (cells_mk c1 (cells_no _)))
       clear cO5 cA5 c1 kO fO hBO kA fA hBA kF fF hBF hcurg
       refine tk (i := 0) hS ?_
       refine tk (i := 1) hS ?_
       refine tk (i := 2) hS ?_
       refine tk (i := 3) hS ?_
       refine tk (i := 4) hS ?_
       refine tk (i := 5) hS ?_
       refine tk (i := 6) hS ?_
       refine tk (i := 7) hS ?_
       refine tk (i := 8) hS ?_
       refine tk (i := 9) hS ?_
       refine tk (i := 10) hS ?_
       clear hS
       refine wpTill_op (i := 11) (by kernel_rfl) rfl (fun K hK => ?_)
       go_simp
       refine hK.out _ _ (fun e => by cases e) ?_
       clear hK K
       try simp only [List.getElem_toArray, List.getElem_cons_succ, List.getElem_cons_zero, Act.put, List.setIfInBounds_toArray, List.set_cons_zero, List.set_cons_succ]
       refine wpTill_op (i := 12) (by kernel_rfl) rfl (fun K hK => ?_)
       go_simp
       refine hK.out _ _ (fun e => by cases e) ?_
       clear hK K
       try simp only [List.getElem_toArray, List.getElem_cons_succ, List.getElem_cons_zero, Act.put, List.setIfInBounds_toArray, List.set_cons_zero, List.set_cons_succ]
       refine wpTill_op (i := 13) (by kernel_rfl) rfl (fun K hK => ?_)
       go_simp
       refine hK.out _ _ (fun e => by cases e) ?_
       clear hK K
       try simp only [List.getElem_toArray, List.getElem_cons_succ, List.getElem_cons_zero, Act.put, List.setIfInBounds_toArray, List.set_cons_zero, List.set_cons_succ]
       refine wpTill_done (by kernel_rfl) ?_ _
       obtain ⟨vv, hvv⟩ : ∃ vv, IntKind.i64.wrap (l.left - nn) = vv := ⟨_, rfl⟩
       simp only [hvv]
       clear hvv
       obtain ⟨w10, hw10⟩ : ∃ q, (w6.setCell ⟨g, m * 2 + 1, none⟩ (.int .i64 vv)).drew = q := ⟨_, rfl⟩
       rw [hw10]
       have hG10 : w6.grownBy w10 (some g) := by rw [← hw10]; exact only_drew (only_set _ _ _ _)
       have Q2n := Lib.hid (show w10.ownsRow (w.heap.size + 1 + 1) 67 2 (.slice (some ⟨g, 0, none⟩) (ls.set m ⟨l.msg, vv⟩).length scap1) (ls.set m ⟨l.msg, vv⟩).length ((ls.set m ⟨l.msg, vv⟩).flatMap Lvl.cs) by rw [← hw10, List.length_set, ← flat_setL HHE.out]; exact World.ownsRow.drew (Q2.out.stored (m * 2 + 1) _).1)
       have Q1b := Lib.hid (Q1.out.keepBy hG10 (other_own Q2.out (by decide)) (other_own Q2.out (by decide))); clear Q1; have Q1 := Q1b; clear Q1b
       clear hw10 Q2
       have Q2 := Q2n; clear Q2n
       have hs10 : w6.heap.size ≤ w10.heap.size := hG10.size
       have HO10 := Lib.hid ((hG10.block _ (box_lt HO6.out) (by simp only [ne_eq, Option.some.injEq]; omega)).trans HO6.out)
       have HF10 := Lib.hid ((hG10.block _ (box_lt HF6.out) (by simp only [ne_eq, Option.some.injEq]; omega)).trans HF6.out)
       have HR10 := Lib.hid ((hG10.block _ (box_lt HR6.out) (by simp only [ne_eq, Option.some.injEq]; omega)).trans HR6.out)
       have hbw10 : Below w.heap.size w w10 := below_grown hbw6 hG10 (fun q e => by have := Option.some.inj e; omega) (by omega)
       clear HO6 HF6 HR6 HA6 hG10 hbw6 hfzg hug
       have hlm : (ls.set m ⟨l.msg, vv⟩).length = m + 1 := by rw [List.length_set, HML.out]
       obtain ⟨ls2, hls2⟩ : ∃ q, ls.set m ⟨l.msg, vv⟩ = q := ⟨_, rfl⟩
       rw [hls2] at hlm
       have Q2n := Q2.out; rw [hls2, hlm] at Q2n; clear Q2 hls2; have Q2 := Lib.hid Q2n; clear Q2n
       have HLM := Lib.hid hlm; clear hlm
       have kO := box_cells HO10.out; have fO := box_frozen HO10.out; have hBO := box_lt HO10.out
       have kF := box_cells HF10.out; have fF := box_frozen HF10.out; have hBF := box_lt HF10.out
       rw [HML.out] at kO
       have HB0 := World.ownsRow.of_lvlL w10 d.field.msg nn 67
       have HNW := Lib.hid (sl_newsN (w := w10.alloc (.cells #[.int .i64 d.field.msg, .int .i64 nn] 67)) (cs := Lvl.cs) (xs := [⟨d.field.msg, nn⟩]) (a := some ⟨w10.heap.size, 0, none⟩) (by omega) lvl_len (lvls_of_own HB0 rfl)); clear HB0
       obtain ⟨i0, hi, hz0, hz1, hz2⟩ := info_parts info_Level
       go_upto_region 21 with (first | (at_builtin; (refine wpList_append_any rfl _ _ 29 rfl (w.heap.size + 1 + 1) 67 i0 _ 2 16 Tryz.underlying29 hi hz0 hz1 hz2 rfl (by decide) _ (m + 1) (ls2.flatMap Lvl.cs) rfl (Q2.out.alloc _) (some ⟨w10.heap.size, 0, none⟩) 1 1 (⟨d.field.msg, nn⟩ : Lvl).cs rfl (fun e => by cases e) rfl (fun ad e j u hj => HNW.out ad e j u hj) (lvl_one _) (by unfold maxLen; omega) (by omega) (by simp; omega) ?_); intro v12 w12 hown12 hgr12; obtain ⟨a12, cap12, rfl, _⟩ := own_sh hown12; have P12 := Lib.hid hown12; have G12 := Lib.hid (show World.grownBy _ w12 (some g) from hgr12); clear hown12 hgr12; have HO12 := Lib.hid ((G12.out.block _ (by simp; omega) (by simp only [ne_eq, Option.some.injEq]; omega)).trans (hset_alloc HO10.out)); clear kO fO hBO; have kO := box_cells HO12.out; have fO := box_frozen HO12.out; have hBO := box_lt HO12.out))
       obtain ⟨w8, hw8⟩ : ∃ q, (((w12.setCell ⟨w1.heap.size, 5, none⟩ (.slice a12 (m + 1 + 1) cap12)).setCell ⟨w1.heap.size, 4, none⟩ (.int .i64 2)).setCell ⟨w1.heap.size, 16, none⟩ (.int .i64 0)) = q := ⟨_, rfl⟩
       rw [hw8]
       obtain ⟨ms3, hms3⟩ : ∃ q, q = ls2 ++ [⟨d.field.msg, nn⟩] := ⟨_, rfl⟩
       have hl3 : ms3.length = m + 1 + 1 := by rw [hms3, List.length_append, HLM.out]; rfl
       have hP12 := P12.out; rw [show ls2.flatMap Lvl.cs ++ (⟨d.field.msg, nn⟩ : Lvl).cs = ms3.flatMap Lvl.cs by rw [hms3, List.flatMap_append]; simp, ← hl3] at hP12; clear P12 hms3
       obtain ⟨x8, hO8⟩ : ∃ x : Dc, w8.heap[w1.heap.size]? = some (.cells (Dc.cl x (.slice a1 xs.length cap1) (.slice a12 ms3.length cap12)).toArray 40 (0, 0)) := ⟨⟨x5.p, 2, x5.bits, x5.have_, x5.start, x5.at_, x5.field, x5.wire, 0, x5.utf, x5.end_⟩, by rw [← hw8, hl3]; apply hset_eq; (repeat (first | (with_reducible exact HO12.out) | (with_reducible apply hset_set))); simp only [List.setIfInBounds_toArray, List.set_cons_zero, List.set_cons_succ]⟩
       have hs8 : w8.heap.size = w12.heap.size := by rw [← hw8]; simp
       have hG8 : w12.grownBy w8 (some w1.heap.size) := by rw [← hw8]; (repeat (with_reducible refine only_cell ?_ _ _)); exact only_refl _ _
       clear hw8 kO fO hBO
       have hgr := G12.out; clear G12
       have hz12 := hgr.size; simp only [World.size_alloc] at hz12
       have hb1012 : w10.grownBy w12 (some g) := (only_alloc (only_refl _ _) _).trans hgr
       have Q1b := Lib.hid ((Q1.out.keepBy hb1012 (other_own Q2.out (by decide)) (other_own Q2.out (by decide))).keepBy hG8 (other_box HO12.out (by decide)) (other_box HO12.out (by decide))); clear Q1; have Q1 := Q1b; clear Q1b
       have Q2b := Lib.hid (owns_keep hP12 hG8 (other_box HO12.out (by decide))); clear Q2 hP12; have Q2 := Q2b; clear Q2b
       have HR8 := Lib.hid ((hG8.block _ (by omega) (by simp; omega)).trans ((hb1012.block _ (box_lt HR10.out) (by simp only [ne_eq, Option.some.injEq]; omega)).trans HR10.out)); clear HR10
       have HF8 := Lib.hid ((hG8.block _ (by have := box_lt HF10.out; omega) (by simp; omega)).trans ((hb1012.block _ (box_lt HF10.out) (by simp only [ne_eq, Option.some.injEq]; omega)).trans HF10.out)); clear HF10
       have hbw8 : Below w.heap.size w w8 := below_grown (below_grown hbw10 hb1012 (fun q e => by have := Option.some.inj e; omega) (by omega)) hG8 (fun q e => by have := Option.some.inj e; omega) (by omega)
       have hsz8 : w.heap.size + 1 + 1 ≤ w8.heap.size := by omega
       clear hb1012 hgr hbw10 hG8 HO10 HO12 kF fF hBF
       have HO8 := Lib.hid hO8; clear hO8
       have kF := box_cells HF8.out; have fF := box_frozen HF8.out; have hBF := box_lt HF8.out
       have h83 : ms3.length ≤ 8 := by omega
       rw [← hl3]
       clear hl3
       go_wp2_with (first | ((with_reducible show wpList _ _ _ (⟨_, Op.load 40 _, _, _, _, _⟩ :: _) _ _); refine wlm w1.heap.size (Dc.cl x8 (.slice a1 xs.length cap1) (.slice a12 ms3.length cap12)) (range_of_box (t := 40) HO8.out) ?_))
       refine (l15Tell_any x8 a1 cap1 _ a12 cap12 ms3 ⟨6, d.field.number, 0, nn, ⟨#[]⟩, 0, 0⟩ (w.heap.size + 1 + 1) w8 Q2.out (by omega) h83).mono ?_
       rintro r w9 ⟨sa9, scap9, ea, ecap, rfl, hp9, he9, hb9⟩
       obtain ⟨⟨e, ms, es⟩, hE⟩ : ∃ O, O = behind [⟨6, d.field.number, 0, nn, ⟨#[]⟩, 0, 0⟩] (settle x8 ms3) := ⟨_, rfl⟩
       have hm8 : ms.length ≤ 8 := by have h0 := (settle_len x8 ms3).1; have e1 : (settle x8 ms3).2.1 = ms := (congrArg (fun o : Outc => o.2.1) hE).symm; rw [e1] at h0; omega
       rw [← hE] at hp9 he9 ⊢
       clear hE
       have hz9 := hb9.size
       have Q1b := Lib.hid (Q1.out.chain hb9 (Nat.le_refl _)); clear Q1
       have Q2b := Lib.hid hp9; clear Q2 hp9
       have Q3 := Lib.hid (owns_le he9 (show w.heap.size + 1 + 1 ≤ _ by omega)); clear he9
       have HR9 := Lib.hid ((hb9.block _ (by omega)).trans HR8.out); clear HR8
       have hbw9 : Below w.heap.size w w9 := hbw8.trans (hb9.mono (by omega))
       simp only
       go_wp2_with (first | ((with_reducible show wpList _ _ _ (⟨_, Op.store 40 _ _, _, _, _, _⟩ :: _) _ _); refine wsq (w.heap.size + 1) (Dc.cl e (.slice a1 xs.length cap1) (.slice sa9 ms.length scap9)).toArray HR9.out (one_Dec _ _ _ _ _ _ _) ?_))
       refine finSome (w := w) (R := w.heap.size + 1) (base := w.heap.size + 1 + 1) (e := e) (ms := ms) (es := es) (rs := rs1) (a := a1) (cap := cap1) (sa := sa9) (scap := scap9) (ea := ea) (ecap := ecap) Tryz.results161 ?_ ?_ ?_ ?_ ?_ ?_ ?_ (by omega) hm8
       ·rfl
       ·rfl
       ·exact hset_row (cs := dz0.toArray) HR9.out
       ·exact OwnShs.setRow Q1b.out (by omega) _
       ·exact owns_setRow Q2b.out (by omega) _
       ·exact owns_setRow Q3.out (by omega) _
       ·exact bl
     ·have e8 : (d.field.kind == 8) = false := by simp; omega
      clear hk8
      by_cases hk6 : d.field.kind = 6
      ·have e6 : (d.field.kind == 6) = true := by simp; omega
       clear hk6
       go_upto_region 25 with fail
       clear kF fF hBF kO fO hBO
       obtain ⟨w8, hw8⟩ : ∃ w8, ((((w6.setCell ⟨w1.heap.size, 17, none⟩ (.int .i64 0)).setCell ⟨w1.heap.size, 18, none⟩ (.int .i64 0)).setCell ⟨w1.heap.size, 19, none⟩ (.int .i64 0)).setCell ⟨w1.heap.size, 4, none⟩ (.int .i64 6)) = w8 := ⟨_, rfl⟩
       rw [hw8]
       obtain ⟨x8, hO8⟩ : ∃ x : Dc, w8.heap[w1.heap.size]? = some (.cells (Dc.cl x (.slice a1 xs.length cap1) (.slice sa1 ls.length scap1)).toArray 40 (0, 0)) := ⟨⟨x5.p, 6, x5.bits, x5.have_, x5.start, x5.at_, x5.field, x5.wire, x5.want, ⟨0, 0, 0⟩, x5.end_⟩, by rw [← hw8]; apply hset_eq; (repeat (first | (with_reducible exact HO6.out) | (with_reducible apply hset_set))); simp only [List.setIfInBounds_toArray, List.set_cons_zero, List.set_cons_succ]⟩
       have hs8 : w8.heap.size = w6.heap.size := by rw [← hw8]; simp
       have hG8 : w6.grownBy w8 (some w1.heap.size) := by rw [← hw8]; (repeat (with_reducible refine only_cell ?_ _ _)); exact only_refl _ _
       clear hw8
       have HA8 := Lib.hid ((hG8.block _ (box_lt HA6.out) (by simp; omega)).trans HA6.out); clear HA6
       have Q1b := Lib.hid (Q1.out.keepBy hG8 (other_box HO6.out (by decide)) (other_box HO6.out (by decide))); clear Q1; have Q1 := Q1b; clear Q1b
       have Q2b := Lib.hid (owns_keep Q2.out hG8 (other_box HO6.out (by decide))); clear Q2; have Q2 := Q2b; clear Q2b
       have HR8 := Lib.hid ((hG8.block _ (by omega) (by simp; omega)).trans HR6.out); clear HR6
       have hbw8 : Below w.heap.size w w8 := below_grown hbw6 hG8 (fun g e => by have := Option.some.inj e; omega) (by omega)
       have hG8_ := hG8
       clear HO6 hG8 hbw6
       have HO8 := Lib.hid hO8; clear hO8
       have HF8 := Lib.hid ((hG8_.block _ (box_lt HF6.out) (by simp; omega)).trans HF6.out)
       have kF := box_cells HF8.out; have fF := box_frozen HF8.out; have hBF := box_lt HF8.out
       go_wp2_with (first | ((with_reducible show wpList _ _ _ (⟨_, Op.load 40 _, _, _, _, _⟩ :: _) _ _); refine wlm w1.heap.size (Dc.cl x8 (.slice a1 xs.length cap1) (.slice sa1 ls.length scap1)) (range_of_box (t := 40) HO8.out) ?_))
       refine (l15Tell_any x8 a1 cap1 _ sa1 scap1 ls ⟨3, d.field.number, 0, nn, ⟨#[]⟩, 0, 0⟩ (w.heap.size + 1 + 1) w8 Q2.out (by omega) h8).mono ?_
       rintro r w9 ⟨sa9, scap9, ea, ecap, rfl, hp9, he9, hb9⟩
       obtain ⟨⟨e, ms, es⟩, hE⟩ : ∃ O, O = behind [⟨3, d.field.number, 0, nn, ⟨#[]⟩, 0, 0⟩] (settle x8 ls) := ⟨_, rfl⟩
       have hm8 : ms.length ≤ 8 := by have h0 := (settle_len x8 ls).1; have e1 : (settle x8 ls).2.1 = ms := (congrArg (fun o : Outc => o.2.1) hE).symm; rw [e1] at h0; omega
       rw [← hE] at hp9 he9 ⊢
       clear hE
       have hz9 := hb9.size
       have Q1b := Lib.hid (Q1.out.chain hb9 (Nat.le_refl _)); clear Q1
       have Q2b := Lib.hid hp9; clear Q2 hp9
       have Q3 := Lib.hid (owns_le he9 (show w.heap.size + 1 + 1 ≤ _ by omega)); clear he9
       have HR9 := Lib.hid ((hb9.block _ (by omega)).trans HR8.out); clear HR8
       have hbw9 : Below w.heap.size w w9 := hbw8.trans (hb9.mono (by omega))
       simp only
       go_wp2_with (first | ((with_reducible show wpList _ _ _ (⟨_, Op.store 40 _ _, _, _, _, _⟩ :: _) _ _); refine wsq (w.heap.size + 1) (Dc.cl e (.slice a1 xs.length cap1) (.slice sa9 ms.length scap9)).toArray HR9.out (one_Dec _ _ _ _ _ _ _) ?_))
       refine finSome (w := w) (R := w.heap.size + 1) (base := w.heap.size + 1 + 1) (e := e) (ms := ms) (es := es) (rs := rs1) (a := a1) (cap := cap1) (sa := sa9) (scap := scap9) (ea := ea) (ecap := ecap) Tryz.results161 ?_ ?_ ?_ ?_ ?_ ?_ ?_ (by omega) hm8
       ·rfl
       ·rfl
       ·exact hset_row (cs := dz0.toArray) HR9.out
       ·exact OwnShs.setRow Q1b.out (by omega) _
       ·exact owns_setRow Q2b.out (by omega) _
       ·exact owns_setRow Q3.out (by omega) _
       ·exact bl
      ·skip
       by_cases hk7 : d.field.kind = 7
       ·have e7 : (d.field.kind == 7) = true := by simp; omega
        have e6 : (d.field.kind == 6) = false := by simp; omega
        clear hk7
        go_upto_region 25 with fail
        clear kF fF hBF kO fO hBO
        obtain ⟨w8, hw8⟩ : ∃ w8, ((((w6.setCell ⟨w1.heap.size, 17, none⟩ (.int .i64 0)).setCell ⟨w1.heap.size, 18, none⟩ (.int .i64 0)).setCell ⟨w1.heap.size, 19, none⟩ (.int .i64 0)).setCell ⟨w1.heap.size, 4, none⟩ (.int .i64 6)) = w8 := ⟨_, rfl⟩
        rw [hw8]
        obtain ⟨x8, hO8⟩ : ∃ x : Dc, w8.heap[w1.heap.size]? = some (.cells (Dc.cl x (.slice a1 xs.length cap1) (.slice sa1 ls.length scap1)).toArray 40 (0, 0)) := ⟨⟨x5.p, 6, x5.bits, x5.have_, x5.start, x5.at_, x5.field, x5.wire, x5.want, ⟨0, 0, 0⟩, x5.end_⟩, by rw [← hw8]; apply hset_eq; (repeat (first | (with_reducible exact HO6.out) | (with_reducible apply hset_set))); simp only [List.setIfInBounds_toArray, List.set_cons_zero, List.set_cons_succ]⟩
        have hs8 : w8.heap.size = w6.heap.size := by rw [← hw8]; simp
        have hG8 : w6.grownBy w8 (some w1.heap.size) := by rw [← hw8]; (repeat (with_reducible refine only_cell ?_ _ _)); exact only_refl _ _
        clear hw8
        have HA8 := Lib.hid ((hG8.block _ (box_lt HA6.out) (by simp; omega)).trans HA6.out); clear HA6
        have Q1b := Lib.hid (Q1.out.keepBy hG8 (other_box HO6.out (by decide)) (other_box HO6.out (by decide))); clear Q1; have Q1 := Q1b; clear Q1b
        have Q2b := Lib.hid (owns_keep Q2.out hG8 (other_box HO6.out (by decide))); clear Q2; have Q2 := Q2b; clear Q2b
        have HR8 := Lib.hid ((hG8.block _ (by omega) (by simp; omega)).trans HR6.out); clear HR6
        have hbw8 : Below w.heap.size w w8 := below_grown hbw6 hG8 (fun g e => by have := Option.some.inj e; omega) (by omega)
        have hG8_ := hG8
        clear HO6 hG8 hbw6
        have HO8 := Lib.hid hO8; clear hO8
        have HF8 := Lib.hid ((hG8_.block _ (box_lt HF6.out) (by simp; omega)).trans HF6.out)
        have kF := box_cells HF8.out; have fF := box_frozen HF8.out; have hBF := box_lt HF8.out
        go_wp2_with (first | ((with_reducible show wpList _ _ _ (⟨_, Op.load 40 _, _, _, _, _⟩ :: _) _ _); refine wlm w1.heap.size (Dc.cl x8 (.slice a1 xs.length cap1) (.slice sa1 ls.length scap1)) (range_of_box (t := 40) HO8.out) ?_))
        refine (l15Tell_any x8 a1 cap1 _ sa1 scap1 ls ⟨3, d.field.number, 0, nn, ⟨#[]⟩, 0, 0⟩ (w.heap.size + 1 + 1) w8 Q2.out (by omega) h8).mono ?_
        rintro r w9 ⟨sa9, scap9, ea, ecap, rfl, hp9, he9, hb9⟩
        obtain ⟨⟨e, ms, es⟩, hE⟩ : ∃ O, O = behind [⟨3, d.field.number, 0, nn, ⟨#[]⟩, 0, 0⟩] (settle x8 ls) := ⟨_, rfl⟩
        have hm8 : ms.length ≤ 8 := by have h0 := (settle_len x8 ls).1; have e1 : (settle x8 ls).2.1 = ms := (congrArg (fun o : Outc => o.2.1) hE).symm; rw [e1] at h0; omega
        rw [← hE] at hp9 he9 ⊢
        clear hE
        have hz9 := hb9.size
        have Q1b := Lib.hid (Q1.out.chain hb9 (Nat.le_refl _)); clear Q1
        have Q2b := Lib.hid hp9; clear Q2 hp9
        have Q3 := Lib.hid (owns_le he9 (show w.heap.size + 1 + 1 ≤ _ by omega)); clear he9
        have HR9 := Lib.hid ((hb9.block _ (by omega)).trans HR8.out); clear HR8
        have hbw9 : Below w.heap.size w w9 := hbw8.trans (hb9.mono (by omega))
        simp only
        go_wp2_with (first | ((with_reducible show wpList _ _ _ (⟨_, Op.store 40 _ _, _, _, _, _⟩ :: _) _ _); refine wsq (w.heap.size + 1) (Dc.cl e (.slice a1 xs.length cap1) (.slice sa9 ms.length scap9)).toArray HR9.out (one_Dec _ _ _ _ _ _ _) ?_))
        refine finSome (w := w) (R := w.heap.size + 1) (base := w.heap.size + 1 + 1) (e := e) (ms := ms) (es := es) (rs := rs1) (a := a1) (cap := cap1) (sa := sa9) (scap := scap9) (ea := ea) (ecap := ecap) Tryz.results161 ?_ ?_ ?_ ?_ ?_ ?_ ?_ (by omega) hm8
        ·rfl
        ·rfl
        ·exact hset_row (cs := dz0.toArray) HR9.out
        ·exact OwnShs.setRow Q1b.out (by omega) _
        ·exact owns_setRow Q2b.out (by omega) _
        ·exact owns_setRow Q3.out (by omega) _
        ·exact bl
       ·skip
        have e6 : (d.field.kind == 6) = false := by simp; omega
        have e7 : (d.field.kind == 7) = false := by simp; omega
        clear hk6 hk7
        go_upto_region 27 with fail
        clear kF fF hBF kO fO hBO
        generalize hw8 : World.setCell _ (⟨w1.heap.size, 4, none⟩ : Addr) (.int .i64 8) = w8
        obtain ⟨x8, hO8⟩ : ∃ x : Dc, w8.heap[w1.heap.size]? = some (.cells (Dc.cl x (.slice a1 xs.length cap1) (.slice sa1 ls.length scap1)).toArray 40 (0, 0)) := ⟨⟨x5.p, 8, x5.bits, x5.have_, x5.start, x5.at_, x5.field, x5.wire, x5.want, x5.utf, x5.end_⟩, by rw [← hw8]; apply hset_eq; (repeat (first | (with_reducible exact HO6.out) | (with_reducible apply hset_set))); simp only [List.setIfInBounds_toArray, List.set_cons_zero, List.set_cons_succ]⟩
        have hs8 : w8.heap.size = w6.heap.size := by rw [← hw8]; simp
        have hG8 : w6.grownBy w8 (some w1.heap.size) := by rw [← hw8]; (repeat (with_reducible refine only_cell ?_ _ _)); exact only_refl _ _
        clear hw8
        have HA8 := Lib.hid ((hG8.block _ (box_lt HA6.out) (by simp; omega)).trans HA6.out); clear HA6
        have Q1b := Lib.hid (Q1.out.keepBy hG8 (other_box HO6.out (by decide)) (other_box HO6.out (by decide))); clear Q1; have Q1 := Q1b; clear Q1b
        have Q2b := Lib.hid (owns_keep Q2.out hG8 (other_box HO6.out (by decide))); clear Q2; have Q2 := Q2b; clear Q2b
        have HR8 := Lib.hid ((hG8.block _ (by omega) (by simp; omega)).trans HR6.out); clear HR6
        have hbw8 : Below w.heap.size w w8 := below_grown hbw6 hG8 (fun g e => by have := Option.some.inj e; omega) (by omega)
        have hG8_ := hG8
        clear HO6 hG8 hbw6
        have HO8 := Lib.hid hO8; clear hO8
        have HF8 := Lib.hid ((hG8_.block _ (box_lt HF6.out) (by simp; omega)).trans HF6.out)
        have kF := box_cells HF8.out; have fF := box_frozen HF8.out; have hBF := box_lt HF8.out
        by_cases hn0 : 0 < nn
        ·go_wp2_with fail
         refine (specWireOf_any _ _).mono ?_
         rintro r wB ⟨rfl, hbB⟩
         have hzB := hbB.size
         have HOB := Lib.hid ((hbB.block _ (box_lt HO8.out)).trans HO8.out); clear HO8
         have HAB := Lib.hid ((hbB.block _ (box_lt HA8.out)).trans HA8.out); clear HA8
         have HRB := Lib.hid ((hbB.block _ (box_lt HR8.out)).trans HR8.out); clear HR8
         have Q1b := Lib.hid (Q1.out.chain hbB (Nat.le_refl _)); clear Q1; have Q1 := Q1b; clear Q1b
         have Q2b := Lib.hid (owns_below Q2.out hbB (Nat.le_refl _)); clear Q2; have Q2 := Q2b; clear Q2b
         have hbwB : Below w.heap.size w wB := hbw8.trans (hbB.mono (by omega)); clear hbw8
         go_wp2_with fail
         refine (specWidthOf_any _ _).mono ?_
         rintro r _ ⟨rfl, rfl⟩
         have kA := box_cells HAB.out; have fA := box_frozen HAB.out; have hBA := box_lt HAB.out
         by_cases hwd : nn < widthOf (wireOf d.field.kind)
         ·skip
          go_wp2_with (first | ((with_reducible show wpList _ _ _ (⟨_, Op.load 40 _, _, _, _, _⟩ :: _) _ _); refine wlm w1.heap.size (Dc.cl x8 (.slice a1 xs.length cap1) (.slice sa1 ls.length scap1)) (range_of_box (t := 40) HOB.out) ?_))
          refine (l15Fail_any (x8) a1 cap1 xs.length sa1 scap1 ls.length 9 d.at_ _).mono ?_
          rintro r w7 ⟨ea, ecap, rfl, ho7, hb7⟩
          have hz7 := hb7.size
          have Q1b := Lib.hid (Q1.out.chain hb7 (Nat.le_refl _)); clear Q1
          have Q2b := Lib.hid (owns_below Q2.out hb7 (Nat.le_refl _)); clear Q2
          have Q3 := Lib.hid (owns_le ho7 (show w.heap.size + 1 + 1 ≤ _ by omega)); clear ho7
          have HR7 := Lib.hid ((hb7.block _ (by omega)).trans HRB.out); clear HRB
          have hbw7 : Below w.heap.size w w7 := hbwB.trans (hb7.mono (by omega))
          obtain ⟨x, hx⟩ : ∃ x : Dc, failD (x8) 9 d.at_ = x := ⟨_, rfl⟩
          rw [hx]
          clear hx
          go_wp2_with (first | ((with_reducible show wpList _ _ _ (⟨_, Op.store 40 _ _, _, _, _, _⟩ :: _) _ _); refine wsq (w.heap.size + 1) (Dc.cl x (.slice a1 xs.length cap1) (.slice sa1 ls.length scap1)).toArray HR7.out (one_Dec _ _ _ _ _ _ _) ?_))
          refine finSome (w := w) (R := w.heap.size + 1) (base := w.heap.size + 1 + 1) (e := x) (ms := ls) (es := [failE 9 d.at_]) (rs := rs1) (a := a1) (cap := cap1) (sa := sa1) (scap := scap1) (ea := ea) (ecap := ecap) Tryz.results161 ?_ ?_ ?_ ?_ ?_ ?_ ?_ (by omega) (by omega)
          ·rfl
          ·rfl
          ·exact hset_row (cs := dz0.toArray) HR7.out
          ·exact OwnShs.setRow Q1b.out (by omega) _
          ·exact owns_setRow Q2b.out (by omega) _
          ·exact owns_setRow Q3.out (by omega) _
          ·exact bl
         ·skip
          go_wp2_with (first | ((with_reducible show wpList _ _ _ (⟨_, Op.load 40 _, _, _, _, _⟩ :: _) _ _); refine wlm w1.heap.size (Dc.cl x8 (.slice a1 xs.length cap1) (.slice sa1 ls.length scap1)) (range_of_box (t := 40) HOB.out) ?_))
          refine (l15Settle_any x8 a1 cap1 _ sa1 scap1 ls (w.heap.size + 1 + 1) wB Q2.out (by omega) h8).mono ?_
          obtain ⟨xB, hxB⟩ : ∃ y, y = x8 := ⟨_, rfl⟩
          rw [← hxB]
          rintro r w9 ⟨sa9, scap9, ea, ecap, rfl, hp9, he9, hb9⟩
          obtain ⟨⟨e, ms, es⟩, hE⟩ : ∃ O, O = settle xB ls := ⟨_, rfl⟩
          have hm8 : ms.length ≤ 8 := by have h0 := (settle_len xB ls).1; have e1 : (settle xB ls).2.1 = ms := (congrArg (fun o : Outc => o.2.1) hE).symm; rw [e1] at h0; omega
          rw [← hE] at hp9 he9 ⊢
          clear hE
          have hz9 := hb9.size
          have Q1b := Lib.hid (Q1.out.chain hb9 (Nat.le_refl _)); clear Q1
          have Q2b := Lib.hid hp9; clear Q2 hp9
          have Q3 := Lib.hid (owns_le he9 (show w.heap.size + 1 + 1 ≤ _ by omega)); clear he9
          have HR9 := Lib.hid ((hb9.block _ (by omega)).trans HRB.out); clear HRB
          have hbw9 : Below w.heap.size w w9 := hbwB.trans (hb9.mono (by omega))
          simp only
          go_wp2_with (first | ((with_reducible show wpList _ _ _ (⟨_, Op.store 40 _ _, _, _, _, _⟩ :: _) _ _); refine wsq (w.heap.size + 1) (Dc.cl e (.slice a1 xs.length cap1) (.slice sa9 ms.length scap9)).toArray HR9.out (one_Dec _ _ _ _ _ _ _) ?_))
          refine finSome (w := w) (R := w.heap.size + 1) (base := w.heap.size + 1 + 1) (e := e) (ms := ms) (es := es) (rs := rs1) (a := a1) (cap := cap1) (sa := sa9) (scap := scap9) (ea := ea) (ecap := ecap) Tryz.results161 ?_ ?_ ?_ ?_ ?_ ?_ ?_ (by omega) hm8
          ·rfl
          ·rfl
          ·exact hset_row (cs := dz0.toArray) HR9.out
          ·exact OwnShs.setRow Q1b.out (by omega) _
          ·exact owns_setRow Q2b.out (by omega) _
          ·exact owns_setRow Q3.out (by omega) _
          ·exact bl
        ·skip
         go_wp2_with (first | ((with_reducible show wpList _ _ _ (⟨_, Op.load 40 _, _, _, _, _⟩ :: _) _ _); refine wlm w1.heap.size (Dc.cl x8 (.slice a1 xs.length cap1) (.slice sa1 ls.length scap1)) (range_of_box (t := 40) HO8.out) ?_))
         refine (l15Settle_any x8 a1 cap1 _ sa1 scap1 ls (w.heap.size + 1 + 1) w8 Q2.out (by omega) h8).mono ?_
         rintro r w9 ⟨sa9, scap9, ea, ecap, rfl, hp9, he9, hb9⟩
         obtain ⟨⟨e, ms, es⟩, hE⟩ : ∃ O, O = settle x8 ls := ⟨_, rfl⟩
         have hm8 : ms.length ≤ 8 := by have h0 := (settle_len x8 ls).1; have e1 : (settle x8 ls).2.1 = ms := (congrArg (fun o : Outc => o.2.1) hE).symm; rw [e1] at h0; omega
         rw [← hE] at hp9 he9 ⊢
         clear hE
         have hz9 := hb9.size
         have Q1b := Lib.hid (Q1.out.chain hb9 (Nat.le_refl _)); clear Q1
         have Q2b := Lib.hid hp9; clear Q2 hp9
         have Q3 := Lib.hid (owns_le he9 (show w.heap.size + 1 + 1 ≤ _ by omega)); clear he9
         have HR9 := Lib.hid ((hb9.block _ (by omega)).trans HR8.out); clear HR8
         have hbw9 : Below w.heap.size w w9 := hbw8.trans (hb9.mono (by omega))
         simp only
         go_wp2_with (first | ((with_reducible show wpList _ _ _ (⟨_, Op.store 40 _ _, _, _, _, _⟩ :: _) _ _); refine wsq (w.heap.size + 1) (Dc.cl e (.slice a1 xs.length cap1) (.slice sa9 ms.length scap9)).toArray HR9.out (one_Dec _ _ _ _ _ _ _) ?_))
         refine finSome (w := w) (R := w.heap.size + 1) (base := w.heap.size + 1 + 1) (e := e) (ms := ms) (es := es) (rs := rs1) (a := a1) (cap := cap1) (sa := sa9) (scap := scap9) (ea := ea) (ecap := ecap) Tryz.results161 ?_ ?_ ?_ ?_ ?_ ?_ ?_ (by omega) hm8
         ·rfl
         ·rfl
         ·exact hset_row (cs := dz0.toArray) HR9.out
         ·exact OwnShs.setRow Q1b.out (by omega) _
         ·exact owns_setRow Q2b.out (by omega) _
         ·exact owns_setRow Q3.out (by omega) _
         ·exact bl
    ·go_upto_region 13 with fail
     clear kF fF hBF kO fO hBO
     generalize hw8 : World.setCell w6 (⟨w1.heap.size, 4, none⟩ : Addr) (.int .i64 7) = w8
     obtain ⟨x8, hO8⟩ : ∃ x : Dc, w8.heap[w1.heap.size]? = some (.cells (Dc.cl x (.slice a1 xs.length cap1) (.slice sa1 ls.length scap1)).toArray 40 (0, 0)) := ⟨⟨x5.p, 7, x5.bits, x5.have_, x5.start, x5.at_, x5.field, x5.wire, x5.want, x5.utf, x5.end_⟩, by rw [← hw8]; apply hset_eq; (repeat (first | (with_reducible exact HO6.out) | (with_reducible apply hset_set))); simp only [List.setIfInBounds_toArray, List.set_cons_zero, List.set_cons_succ]⟩
     have hs8 : w8.heap.size = w6.heap.size := by rw [← hw8]; simp
     have hG8 : w6.grownBy w8 (some w1.heap.size) := by rw [← hw8]; (repeat (with_reducible refine only_cell ?_ _ _)); exact only_refl _ _
     clear hw8
     have HA8 := Lib.hid ((hG8.block _ (box_lt HA6.out) (by simp; omega)).trans HA6.out); clear HA6
     have Q1b := Lib.hid (Q1.out.keepBy hG8 (other_box HO6.out (by decide)) (other_box HO6.out (by decide))); clear Q1; have Q1 := Q1b; clear Q1b
     have Q2b := Lib.hid (owns_keep Q2.out hG8 (other_box HO6.out (by decide))); clear Q2; have Q2 := Q2b; clear Q2b
     have HR8 := Lib.hid ((hG8.block _ (by omega) (by simp; omega)).trans HR6.out); clear HR6
     have hbw8 : Below w.heap.size w w8 := below_grown hbw6 hG8 (fun g e => by have := Option.some.inj e; omega) (by omega)
     have hG8_ := hG8
     clear HO6 hG8 hbw6
     have HO8 := Lib.hid hO8; clear hO8
     go_wp2_with (first | ((with_reducible show wpList _ _ _ (⟨_, Op.load 40 _, _, _, _, _⟩ :: _) _ _); refine wlm w1.heap.size (Dc.cl x8 (.slice a1 xs.length cap1) (.slice sa1 ls.length scap1)) (range_of_box (t := 40) HO8.out) ?_))
     refine (l15Settle_any x8 a1 cap1 _ sa1 scap1 ls (w.heap.size + 1 + 1) w8 Q2.out (by omega) h8).mono ?_
     rintro r w9 ⟨sa9, scap9, ea, ecap, rfl, hp9, he9, hb9⟩
     obtain ⟨⟨e, ms, es⟩, hE⟩ : ∃ O, O = settle x8 ls := ⟨_, rfl⟩
     have hm8 : ms.length ≤ 8 := by have h0 := (settle_len x8 ls).1; have e1 : (settle x8 ls).2.1 = ms := (congrArg (fun o : Outc => o.2.1) hE).symm; rw [e1] at h0; omega
     rw [← hE] at hp9 he9 ⊢
     clear hE
     have hz9 := hb9.size
     have Q1b := Lib.hid (Q1.out.chain hb9 (Nat.le_refl _)); clear Q1
     have Q2b := Lib.hid hp9; clear Q2 hp9
     have Q3 := Lib.hid (owns_le he9 (show w.heap.size + 1 + 1 ≤ _ by omega)); clear he9
     have HR9 := Lib.hid ((hb9.block _ (by omega)).trans HR8.out); clear HR8
     have hbw9 : Below w.heap.size w w9 := hbw8.trans (hb9.mono (by omega))
     simp only
     go_wp2_with (first | ((with_reducible show wpList _ _ _ (⟨_, Op.store 40 _ _, _, _, _, _⟩ :: _) _ _); refine wsq (w.heap.size + 1) (Dc.cl e (.slice a1 xs.length cap1) (.slice sa9 ms.length scap9)).toArray HR9.out (one_Dec _ _ _ _ _ _ _) ?_))
     refine finSome (w := w) (R := w.heap.size + 1) (base := w.heap.size + 1 + 1) (e := e) (ms := ms) (es := es) (rs := rs1) (a := a1) (cap := cap1) (sa := sa9) (scap := scap9) (ea := ea) (ecap := ecap) Tryz.results161 ?_ ?_ ?_ ?_ ?_ ?_ ?_ (by omega) hm8
     ·rfl
     ·rfl
     ·exact hset_row (cs := dz0.toArray) HR9.out
     ·exact OwnShs.setRow Q1b.out (by omega) _
     ·exact owns_setRow Q2b.out (by omega) _
     ·exact owns_setRow Q3.out (by omega) _
     ·exact bl
def OwnT (w : World) (base : Nat) (e : TypeId) (v : Value) (n : Nat) (xs : List Value) : Prop :=
 xs.length = n ∧ ∃ g cap cur fz, v = .slice (some ⟨g, 0, none⟩) n cap ∧ base ≤ g ∧ w.heap[g]? = some (.cells cur e fz) ∧ (∀ j, j < cap → ¬ (fz.1 ≤ j ∧ j < fz.2)) ∧ n ≤ cap ∧ cap ≤ maxLen ∧ cur.size = cap ∧ cur.toList.take n = xs
section
variable {w w' : World} {base : Nat} {e : TypeId} {v : Value} {n : Nat} {xs : List Value}
theorem OwnT.lt (h : OwnT w base e v n xs) : ∃ g cap, v = .slice (some ⟨g, 0, none⟩) n cap ∧ base ≤ g ∧ g < w.heap.size := by
 obtain ⟨_, g, cap, cur, fz, hv, hb, hg, _⟩ := h
 exact ⟨g, cap, hv, hb, (Array.getElem?_eq_some_iff.1 hg).1⟩
theorem OwnT.same (h : OwnT w base e v n xs) (hs : ∀ g, v.ownBlock = some g → w'.heap[g]? = w.heap[g]?) : OwnT w' base e v n xs := by
 obtain ⟨hl, g, cap, cur, fz, rfl, hb, hg, r⟩ := h
 exact ⟨hl, g, cap, cur, fz, rfl, hb, by rw [hs g rfl]; exact hg, r⟩
theorem OwnT.cell (h : OwnT w base e v n xs) {g : Nat} (hg : v.ownBlock = some g) : ∀ (j : Nat) (u : Value), xs[j]? = some u → w.cell? ⟨g, j, none⟩ = some u := by
 intro j u hu
 obtain ⟨_, g', cap, cur, fz, rfl, _, hgg, _, _, _, _, ht⟩ := h
 simp [Value.ownBlock] at hg
 subst hg
 rw [cell_of_row w g' j cur e fz hgg]
 rw [← ht, List.getElem?_take] at hu
 split at hu
 ·simpa using hu
 ·cases hu
end
theorem store_atT (P : Program) (g o : Nat) (t : TypeId) (fz : Nat × Nat) : ∀ (vs : List Value) (i : Nat) (cur : Array Value) (w : World), w.heap[g]? = some (.cells cur t fz) → (∀ j, j < cur.size → ¬ (fz.1 ≤ j ∧ j < fz.2)) → o + i + vs.length ≤ cur.size → (∀ v ∈ vs, v.oneCell' = true) →
  (storeCells ⟨g, o, none⟩ vs i).run P w = .ok () (w.setRow g (cur.toList.take (o + i) ++ vs ++ cur.toList.drop (o + i + vs.length)).toArray)
 | [], i, cur, w, hg, _, _, _ => by
  simp only [storeCells, List.append_nil, List.length_nil, Nat.add_zero, List.take_append_drop, Array.toArray_toList]
  rw [setRow_self w g cur t fz hg]
  rfl
 | v :: rest, i, cur, w, hg, hfz, hl, h1 => by
  have hi : o + i < cur.size := by simp at hl; omega
  have hadd : (⟨g, o, none⟩ : Addr).add i = ⟨g, o + i, none⟩ := by unfold Addr.add; split <;> simp_all
  have hcell : w.cell? ⟨g, o + i, none⟩ = some cur[o + i] := by simp [World.cell?, hg, hi]
  have hfro : w.frozen? ⟨g, o + i, none⟩ = false := by
   have h2 := hfz (o + i) hi
   obtain ⟨lo, hi'⟩ := fz
   simp only [World.frozen?, hg, Bool.and_eq_false_iff, decide_eq_false_iff_not]
   simp only at h2
   omega
  have hst : (store ((⟨g, o, none⟩ : Addr).add i) v).run P w = .ok () (w.setRow g (cur.setIfInBounds (o + i) v)) := by
   rw [hadd, run_store P w _ v _ (h1 v (by simp)), hcell]
   simp [hfro, setCell_eq_setRow w g (o + i) cur t fz v hg]
  have ih := store_atT P g o t fz rest (i + 1) (cur.setIfInBounds (o + i) v) (w.setRow g (cur.setIfInBounds (o + i) v)) (setRow_heap w g cur _ t _ hg) (by simpa using hfz) (by simp at hl ⊢; omega) (fun x hx => h1 x (by simp [hx]))
  simp only [storeCells, Sem.run_bind, hst, Result.andThen_ok, ih, setRow_setRow]
  congr 3
  have e := list_seg_step cur.toList (o + i) v rest (by simp at hl ⊢; omega)
  simpa [Array.toList_setIfInBounds, Nat.add_assoc] using e
theorem ownT_made (w : World) (e : TypeId) (s : ByteArray) (hs : s.size ≤ maxLen) : OwnT (w.drew.alloc (.cells (bytesRow s (grownCap w s.size 0 e)) e ((bytesRow s (grownCap w s.size 0 e)).size, (bytesRow s (grownCap w s.size 0 e)).size + 1))) w.heap.size e (.slice (some ⟨w.heap.size, 0, none⟩) s.size (grownCap w s.size 0 e)) s.size (bv s.data.toList) := by
 have hge := grownCap_ge w s.size 0 e
 have hsz : (bytesRow s (grownCap w s.size 0 e)).size = grownCap w s.size 0 e := by
  simp only [bytesRow, Array.size_append, Array.size_map, Array.size_replicate]
  have : s.data.size = s.size := rfl
  omega
 refine ⟨by simp [bv], w.heap.size, _, _, _, rfl, Nat.le_refl _, heap_alloc_new w.drew _, fun j hj h => ?_, hge, grownCap_le_maxLen w s.size 0 e hs, hsz, ?_⟩
 ·simp only at h; omega
 ·simp only [bytesRow, Array.toList_append, Array.toList_map]
  rw [List.take_append_of_le_length (by simp), List.take_of_length_le (by simp)]
theorem own_stringT {w : World} {base n : Nat} {v : Value} {l : List UInt8} {src dst e : TypeId} (h : OwnT w base e v n (bv l)) (hs : Tryz.prog.underlying src = some (.slice e)) (he : Tryz.prog.underlying e = some (.int .u8)) (hd : Tryz.prog.underlying dst = some .string) :
  (convert src dst v).run Tryz.prog w = .ok (.string ⟨l.toArray⟩) w := by
 have hc : ∀ g, v.ownBlock = some g → _ := fun g hg => OwnT.cell h hg
 obtain ⟨hl, g, cap, cur, fz, rfl, _⟩ := h
 have hl' : l.length = n := by simpa [bv] using hl
 subst hl'
 exact run_convert_bytes_back w src dst e ⟨g, 0, none⟩ cap l hs he hd fun j hj => by rw [Addr.add_lit, Nat.zero_add]; exact hc g rfl j _ (by simp [bv, List.getElem?_eq_getElem hj])
@[go_sem] theorem i64_and255 (n : Int) : bits .and .i64 n 255 = n % 256 := by
 have h127 : (BitVec.ofInt 64 255).toNat = 2 ^ 8 - 1 := by decide
 have key : (BitVec.ofInt 64 n &&& BitVec.ofInt 64 255).toNat = (n % ((2 ^ 64 : Nat) : Int)).toNat % 2 ^ 8 := by
  rw [BitVec.toNat_and, BitVec.toNat_ofInt, h127, Nat.and_two_pow_sub_one_eq_mod]
 show IntKind.i64.wrap ((BitVec.ofInt 64 n &&& BitVec.ofInt 64 255).toNat : Nat) = n % 256
 rw [key, IntKind.wrap_i64]
 omega
@[go_sem] theorem i64_and30 (n : Int) : bits .and .i64 n 1073741823 = n % 1073741824 := by
 have h127 : (BitVec.ofInt 64 1073741823).toNat = 2 ^ 30 - 1 := by decide
 have key : (BitVec.ofInt 64 n &&& BitVec.ofInt 64 1073741823).toNat = (n % ((2 ^ 64 : Nat) : Int)).toNat % 2 ^ 30 := by
  rw [BitVec.toNat_and, BitVec.toNat_ofInt, h127, Nat.and_two_pow_sub_one_eq_mod]
 show IntKind.i64.wrap ((BitVec.ofInt 64 n &&& BitVec.ofInt 64 1073741823).toNat : Nat) = n % 1073741824
 rw [key, IntKind.wrap_i64]
 omega
def Oth (B : Nat) (w w' : World) : Prop := w.grownBy w' (some B)
theorem Oth.refl (B : Nat) (w : World) : Oth B w w := ⟨rfl, rfl, rfl, Nat.le_refl _, fun _ _ _ => rfl⟩
theorem Oth.size {B : Nat} {w w' : World} (h : Oth B w w') : w.heap.size ≤ w'.heap.size := World.grownBy.size h
theorem Oth.block {B : Nat} {w w' : World} (h : Oth B w w') {b : Nat} (hb : b < w.heap.size) (hn : b ≠ B) : w'.heap[b]? = w.heap[b]? := World.grownBy.block h b hb (by simpa using hn)
theorem Oth.trans {B : Nat} {w w1 w2 : World} (h : Oth B w w1) (k : Oth B w1 w2) : Oth B w w2 :=
 ⟨(World.grownBy.os k).trans (World.grownBy.os h), (World.grownBy.tape k).trans (World.grownBy.tape h), (World.grownBy.output k).trans (World.grownBy.output h), Nat.le_trans h.size k.size,
  fun b hb hn => (World.grownBy.block k b (Nat.lt_of_lt_of_le hb h.size) hn).trans (World.grownBy.block h b hb hn)⟩
theorem Oth.of_below {B : Nat} {w w' : World} (h : Below w.heap.size w w') : Oth B w w' := ⟨h.os, h.tape, h.output, h.size, fun b hb _ => h.block b hb⟩
theorem Oth.setCell {B o : Nat} {w w' : World} (h : Oth B w w') (v : Value) : Oth B w (w'.setCell ⟨B, o, none⟩ v) := by
 refine h.trans ⟨rfl, rfl, rfl, by simp, fun b hb hn => ?_⟩
 exact heap_setCell_other w' ⟨B, o, none⟩ b v (fun e => hn (by simp [e]))
theorem Oth.below {B n : Nat} {w w' : World} (h : Oth B w w') (hn : n ≤ B) (hs : B < w.heap.size) : Below n w w' :=
 ⟨World.grownBy.os h, World.grownBy.tape h, World.grownBy.output h, h.size, fun b hb => h.block (by omega) (by omega)⟩
def Bys (w : World) (B : Nat) (a : Option Addr) (n : Nat) : Prop := ∀ k, k < n → ∃ b off, a = some ⟨b, off, none⟩ ∧ b < B ∧ ∃ x : Int, 0 ≤ x ∧ x ≤ 255 ∧ w.cell? ⟨b, off + k, none⟩ = some (.int .u8 x)
theorem Bys.oth {w w' : World} {B n : Nat} {a : Option Addr} (h : Bys w B a n) (ho : Oth B w w') (hB : B ≤ w.heap.size) : Bys w' B a n := by
 intro k hk
 obtain ⟨b, off, e, hb, y, hy0, hy1, cy⟩ := h k hk
 refine ⟨b, off, e, hb, y, hy0, hy1, ?_⟩
 have := ho.block (b := b) (by omega) (by omega)
 exact (World.cell?_of_block (w := w) (a := ⟨b, off + k, none⟩) this).trans cy
def Cur (w : World) (B : Nat) : Prop := ∃ (a : Option Addr) (n cap i : Nat) (h : Int), w.heap[B]? = some (.cells #[.slice a n cap, .int .i64 i, .int .i64 h] 95 (0, 0)) ∧ i ≤ n ∧ n ≤ 1048576 ∧ Bys w B a n
theorem Cur.lt {w : World} {B : Nat} (h : Cur w B) : B < w.heap.size := by
 obtain ⟨a, n, cap, i, x, hh, _⟩ := h
 rcases Nat.lt_or_ge B w.heap.size with h | h
 ·exact h
 ·rw [Array.getElem?_eq_none h] at hh; simp at hh
def Drawn (B : Nat) (lo hi : Int) (w : World) (r : Ending) (w' : World) : Prop := ∃ x : Int, r = .returned (.int .i64 x) ∧ lo ≤ x ∧ x ≤ hi ∧ Cur w' B ∧ Oth B w w'
set_option maxHeartbeats 2000000 in
theorem l1Byte_any (B : Nat) (w : World) (hc : Cur w B) : Calls Tryz.prog 81 #[.pointer (some ⟨B, 0, none⟩)] w (Drawn B 0 255 w) := by
 have hlt := hc.lt
 obtain ⟨a, n, cap, i, h, hh, hi, hn, hb⟩ := hc
 have c0 : w.cell? ⟨B, 0, none⟩ = some (.slice a n cap) := by simp [World.cell?, hh]
 have c1 : w.cell? ⟨B, 1, none⟩ = some (.int .i64 i) := by simp [World.cell?, hh]
 have c2 : w.cell? ⟨B, 2, none⟩ = some (.int .i64 h) := by simp [World.cell?, hh]
 have hfz : ∀ j, w.frozen? ⟨B, j, none⟩ = false := fun j => by simp [World.frozen?, hh]
 have HH := Lib.hid hh; clear hh
 by_cases hin : i < n
 ·obtain ⟨b, off, rfl, hbB, x, hx0, hx1, cx⟩ := hb i hin
  have hbB' : b ≠ B := by omega
  go_enter Tryz.func81, Tryz.ntmps81
  go_wp2
  (refine wp_region_ext (by kernel_rfl) (by kernel_rfl) ?_; (repeat (go_big_quiet_step (fail))); refine wpQuiet_nil ?_; intro w1 hb1; obtain ⟨hc1, hf1⟩ := bcell hb1; have hz1 := hb1.size; (try simp only [World.size_alloc, World.size_setCell, World.size_drew] at hz1))
  have hB1 : B < w1.heap.size := by omega
  go_wp2
  (refine wp_region_ext (by kernel_rfl) (by kernel_rfl) ?_; (repeat (go_big_quiet_step (fail))); refine wpQuiet_nil ?_; intro w2 hb2; obtain ⟨hc2, hf2⟩ := bcell hb2; have hz2 := hb2.size; (try simp only [World.size_alloc, World.size_setCell, World.size_drew] at hz2))
  have hB2 : B < w2.heap.size := by omega
  have hb1' : b < w1.heap.size := by omega
  have hb2' : b < w2.heap.size := by omega
  have hin' : (i : Int) < n := by omega
  have cx2 : w2.cell? ⟨b, off + i, none⟩ = some (.int .u8 x) := by
   rw [hb2.cell (p := ⟨b, off + i, none⟩) hb1', hb1.cell (p := ⟨b, off + i, none⟩) (by simp; omega), World.cell?_setCell_far w ⟨B, 2, none⟩ ⟨b, off + i, none⟩ _ (Ne.symm hbB')]; exact cx
  have g1 := (hb1.block B (by simpa using hlt)).trans (heap_setCell_same w B 2 _ _ (.int .i64 (wrap64 (wrap64 (h * 6364136223846793005) + 1442695040888963407))) HH.out)
  have g2 := Lib.hid ((hb2.block B hB1).trans g1)
  have d0 : w2.cell? ⟨B, 0, none⟩ = some (.slice (some ⟨b, off, none⟩) n cap) := by simp [World.cell?, g2.out]
  have d1 : w2.cell? ⟨B, 1, none⟩ = some (.int .i64 i) := by simp [World.cell?, g2.out]
  have hfz2 : ∀ j, w2.frozen? ⟨B, j, none⟩ = false := fun j => by simp [World.frozen?, g2.out]
  clear hc1 hc2 hf1 hf2 g1 c0 c1 c2 hfz
  go_wp2
  (refine wp_region_ext (by kernel_rfl) (by kernel_rfl) ?_; (repeat (go_big_quiet_step (fail))); refine wpQuiet_nil ?_; intro w3 hb3; obtain ⟨hc3, hf3⟩ := bcell hb3; have hz3 := hb3.size; (try simp only [World.size_alloc, World.size_setCell, World.size_drew] at hz3))
  have hB3 : B < w3.heap.size := by omega
  go_wp2
  go_ret
  have g3 := (hb3.block B hB2).trans g2.out
  have hO : Oth B w (w3.setCell ⟨B, 1, none⟩ (.int .i64 (i + 1 : Nat))) := ((((Oth.refl B w).setCell _).trans (Oth.of_below hb1)).trans ((Oth.of_below hb2).trans (Oth.of_below hb3))).setCell _
  refine ⟨_, rfl, by omega, by omega, ⟨_, n, cap, i + 1, _, heap_setCell_same w3 B 1 _ _ (.int .i64 (i + 1 : Nat)) g3, by omega, hn, ?_⟩, ?_⟩
  ·exact hb.oth hO (by omega)
  ·exact hO
 ·have hin' : ¬ (i : Int) < n := by omega
  go_enter Tryz.func81, Tryz.ntmps81
  go_wp2
  (refine wp_region_ext (by kernel_rfl) (by kernel_rfl) ?_; (repeat (go_big_quiet_step (fail))); refine wpQuiet_nil ?_; intro w1 hb1; obtain ⟨hc1, hf1⟩ := bcell hb1; have hz1 := hb1.size; (try simp only [World.size_alloc, World.size_setCell, World.size_drew] at hz1))
  have hB1 : B < w1.heap.size := by omega
  go_wp2
  (refine wp_region_ext (by kernel_rfl) (by kernel_rfl) ?_; (repeat (go_big_quiet_step (fail))); refine wpQuiet_nil ?_; intro w2 hb2; obtain ⟨hc2, hf2⟩ := bcell hb2; have hz2 := hb2.size; (try simp only [World.size_alloc, World.size_setCell, World.size_drew] at hz2))
  go_wp2
  go_ret
  have g1 := (hb1.block B (by simpa using hlt)).trans (heap_setCell_same w B 2 _ _ (.int .i64 (wrap64 (wrap64 (h * 6364136223846793005) + 1442695040888963407))) HH.out)
  have g2 := (hb2.block B hB1).trans g1
  have hO : Oth B w w2 := (((Oth.refl B w).setCell _).trans (Oth.of_below hb1)).trans (Oth.of_below hb2)
  exact ⟨_, rfl, by omega, by omega, ⟨a, n, cap, i, _, g2, hi, hn, hb.oth hO (by omega)⟩, hO⟩
set_option maxHeartbeats 2000000 in
theorem l1Below_any (B : Nat) (n : Int) (w : World) (hc : Cur w B) (h0 : 0 < n) (h1 : n ≤ 256) : Calls Tryz.prog 33 #[.pointer (some ⟨B, 0, none⟩), .int .i64 n] w (Drawn B 0 (n - 1) w) := by
 have hn0 : ¬ n ≤ 0 := by omega
 have hn1 : 1 ≤ n := by omega
 go_enter Tryz.func33, Tryz.ntmps33
 go_wp2_with fail
 refine (l1Byte_any B w hc).mono ?_
 rintro r w1 ⟨x, rfl, hx0, hx1, hc1, ho1⟩
 have hm0 : 0 ≤ x % n := Int.emod_nonneg _ (by omega)
 have hm1 : x % n < n := Int.emod_lt_of_pos _ h0
 go_wp2
 go_ret
 exact ⟨_, rfl, by omega, by omega, hc1, ho1⟩
set_option maxRecDepth 100000 in
set_option maxHeartbeats 2000000 in
theorem l1Below_big (B : Nat) (n : Int) (w : World) (hc : Cur w B) (h0 : 256 < n) (h1 : n ≤ 4294967296) : Calls Tryz.prog 33 #[.pointer (some ⟨B, 0, none⟩), .int .i64 n] w (Drawn B 0 (n - 1) w) := by
 have hn0 : ¬ n ≤ 0 := by omega
 have hn1 : ¬ n ≤ 256 := by omega
 have hn2 : 1 ≤ n := by omega
 go_enter Tryz.func33, Tryz.ntmps33
 go_wp2_with fail
 refine (l1Byte_any B w hc).mono ?_
 rintro r w1 ⟨x, rfl, hx0, hx1, hc1, ho1⟩
 go_wp2_with fail
 refine (l1Byte_any B w1 hc1).mono ?_
 rintro r w2 ⟨y, rfl, hy0, hy1, hc2, ho2⟩
 go_wp2_with fail
 refine (l1Byte_any B w2 hc2).mono ?_
 rintro r w3 ⟨z, rfl, hz0, hz1, hc3, ho3⟩
 go_wp2_with fail
 refine (l1Byte_any B w3 hc3).mono ?_
 rintro r w4 ⟨u, rfl, hu0, hu1, hc4, ho4⟩
 have hm0 : 0 ≤ (x * 16777216 + y * 65536 + z * 256 + u) % n := Int.emod_nonneg _ (by omega)
 have hm1 : (x * 16777216 + y * 65536 + z * 256 + u) % n < n := Int.emod_lt_of_pos _ (by omega)
 go_wp2
 go_ret
 exact ⟨_, rfl, by omega, by omega, hc4, ((ho1.trans ho2).trans ho3).trans ho4⟩
def Code (w : World) (a : Option Addr) (n : Nat) : Prop := ∀ k, k < n → ∃ b off, a = some ⟨b, off, none⟩ ∧ b < w.heap.size ∧ ∃ x : Int, 0 ≤ x ∧ x ≤ 255 ∧ w.cell? ⟨b, off + k, none⟩ = some (.int .u8 x)
theorem Code.keep {w w' : World} {a : Option Addr} {n : Nat} (h : Code w a n) (hb : Below w.heap.size w w') : Code w' a n := by
 intro k hk
 obtain ⟨b, off, e, hb1, y, hy0, hy1, cy⟩ := h k hk
 exact ⟨b, off, e, Nat.lt_of_lt_of_le hb1 hb.size, y, hy0, hy1, (hb.cell (p := ⟨b, _, none⟩) hb1).trans cy⟩
@[reducible] def byCs (x : Int) : List Value := [.int .u8 x]
def ByOk (x : Int) : Prop := 0 ≤ x ∧ x ≤ 255
theorem code_of {w : World} {a : Option Addr} {cap : Nat} {xs : List Int} (h : (⟨a, cap, xs⟩ : SlArg Int).ok 1 byCs ByOk w) : Code w a xs.length := by
 intro k hk
 obtain ⟨b, off, e, hb, hc⟩ := h.sl k xs[k] (List.getElem?_eq_getElem hk)
 exact ⟨b, off, e, hb, xs[k], (h.each _ (List.getElem_mem hk)).1, (h.each _ (List.getElem_mem hk)).2, by simpa using hc 0 _ rfl⟩
theorem flat_bytes : flat Tryz.prog 9 22 = some [.sl [CK.int .u8]] := by kernel_rfl
theorem cells_bytes : Tryz.prog.cellsOf 22 = 1 := by kernel_rfl
set_option maxRecDepth 100000 in
theorem openBytes {H : Type} {enc : TypeId × Value → H} {W : World} {base : Nat} {sp : Nat → Bool} {v : Value} {d : DataW H} {ps : List MemPlace}
  (hv : Value.okWide Tryz.prog W .any base 22 v) (h : DataW.Trod enc Tryz.prog W 0 sp true 22 v d ps) : ∃ x : SlArg Int, v = x.val ∧ x.ok 1 byCs ByOk W := by
 obtain ⟨a0, len, cap, rfl⟩ := okWide_slice Tryz.underlying22 hv
 obtain ⟨x, hx, hk⟩ := flat_trod flat_bytes cells_bytes h 0 _ rfl
 simp only [Value.cells, List.getElem?_cons_zero, Option.some.injEq] at hx
 subst hx
 refine sl_open (hk 2) rfl (by omega) (fun _ => rfl) fun l hl hj => ?_
 match l, hl with
 | [c], _ =>
  obtain ⟨x0, e0, h0⟩ := hj 0 _ rfl
  obtain ⟨n0, rfl, w0⟩ := ok_int h0
  simp at e0
  exact ⟨n0, by simp [byCs, e0], by simpa [Lit.wf, IntKind.min, IntKind.max, IntKind.signed, IntKind.bits, ByOk] using w0⟩
def NewCur (w : World) (r : Ending) (w' : World) : Prop := ∃ B, r = .returned (.pointer (some ⟨B, 0, none⟩)) ∧ w.heap.size ≤ B ∧ Cur w' B ∧ Below w.heap.size w w'
theorem newCur_mk {w : World} {a : Option Addr} {n cap : Nat} {m : Int} (h : Code w a n) (hn : n ≤ 1048576) :
  NewCur w (.returned (.pointer (some ⟨w.heap.size, 0, none⟩))) (w.alloc (.cells #[.slice a n cap, .int .i64 0, .int .i64 m] 95)) := by
 refine ⟨w.heap.size, rfl, Nat.le_refl _, ⟨a, n, cap, 0, m, heap_alloc_new w _, Nat.zero_le _, hn, ?_⟩, (Below.refl _ _).alloc (Nat.le_refl _) _⟩
 intro k hk
 obtain ⟨b, off, e, hb, y, hy0, hy1, cy⟩ := h k hk
 exact ⟨b, off, e, hb, y, hy0, hy1, ((Below.refl w.heap.size w).alloc (Nat.le_refl _) _).cell (p := ⟨b, _, none⟩) hb |>.trans cy⟩
set_option maxRecDepth 100000 in
set_option maxHeartbeats 2000000 in
theorem l1New_any (a : Option Addr) (cap n : Nat) (w : World) (h : Code w a n) (hn : n ≤ 1048576) : Calls Tryz.prog 31 #[.slice a n cap] w (NewCur w) := by
 go_enter Tryz.func31, Tryz.ntmps31
 go_wp2
 go_loop [3, 4] (fun t i => ∃ k : Nat, k ≤ n ∧ i = .int .i64 k ∧ ∃ m : Int, t = .int .i64 m) (fun _ i => n - (intOf i).toNat)
 case atStart => exact ⟨0, Nat.zero_le _, rfl, _, rfl⟩
 case round =>
  obtain ⟨k, hk, rfl, m, rfl⟩ := hrel
  by_cases hlt : k < n
  ·obtain ⟨b, off, rfl, hb, x, hx0, hx1, cx⟩ := h k hlt
   by_cases h4 : k < 4000
   ·go_wp2
    go_round
    case rel => exact ⟨k + 1, by omega, by go_num, _, rfl⟩
    case measure => simp [intOf]; omega
   ·go_wp2
    go_ret
    exact newCur_mk h hn
  ·go_wp2
   go_ret
   exact newCur_mk h hn
theorem big_any (a : Option Addr) (cap n : Nat) (w : World) : Calls Tryz.prog 8 #[.slice a n cap] w fun r w' => r = .returned (.bool (decide (1048576 < (n : Int)))) ∧ w = w' := by
 go_enter Tryz.func8, Tryz.ntmps8
 go_wp2
 go_ret
 exact ⟨ret_bool (by simp), rfl⟩
def DrawnU (B : Nat) (w : World) (r : Ending) (w' : World) : Prop := ∃ u : Int, r = .returned (.int .u64 u) ∧ WU64 u ∧ Cur w' B ∧ Oth B w w'
theorem wu64_small {u : Int} (h0 : 0 ≤ u) (h1 : u ≤ 1000000) : WU64 u := by
 unfold WU64; simp [Lit.wf, IntKind.min, IntKind.max, IntKind.signed, IntKind.bits]; omega
theorem wrap_wu64 (n : Int) : WU64 (IntKind.u64.wrap n) := by
 rw [IntKind.wrap_u64]; unfold WU64; simp [Lit.wf, IntKind.min, IntKind.max, IntKind.signed, IntKind.bits]; omega
theorem Cur.below {w w' : World} {B : Nat} (h : Cur w B) (hb : Below w.heap.size w w') : Cur w' B := by
 have hlt := h.lt
 obtain ⟨a, n, cap, i, x, hh, hi, hn, hby⟩ := h
 exact ⟨a, n, cap, i, x, (hb.block B hlt).trans hh, hi, hn, hby.oth (Oth.of_below hb) (by omega)⟩
theorem wu64_cell {w : World} {b k : Nat} {cs : Array Value} {t : TypeId} (hb : w.heap[b]? = some (.cells cs t (0, 0))) {u : Int} (h : cs[k]? = some (.int .u64 u)) : w.cell? ⟨b, k, none⟩ = some (.int .u64 u) := by simp [World.cell?, hb, h]
theorem twelve {w : World} {b k : Nat} {t : TypeId} (hk : k < 12) (hb : w.heap[b]? = some (.cells #[.int .u64 0, .int .u64 1, .int .u64 127, .int .u64 128, .int .u64 16383, .int .u64 16384, .int .u64 2147483647, .int .u64 4294967295, .int .u64 4294967296, .int .u64 9223372036854775807, .int .u64 9223372036854775808, .int .u64 18446744073709551615] t (0, 0))) :
  ∃ u : Int, WU64 u ∧ w.cell? ⟨b, k, none⟩ = some (.int .u64 u) := by
 match k, hk with
 | 0, _ => exact ⟨_, by unfold WU64; decide, wu64_cell hb rfl⟩
 | 1, _ => exact ⟨_, by unfold WU64; decide, wu64_cell hb rfl⟩
 | 2, _ => exact ⟨_, by unfold WU64; decide, wu64_cell hb rfl⟩
 | 3, _ => exact ⟨_, by unfold WU64; decide, wu64_cell hb rfl⟩
 | 4, _ => exact ⟨_, by unfold WU64; decide, wu64_cell hb rfl⟩
 | 5, _ => exact ⟨_, by unfold WU64; decide, wu64_cell hb rfl⟩
 | 6, _ => exact ⟨_, by unfold WU64; decide, wu64_cell hb rfl⟩
 | 7, _ => exact ⟨_, by unfold WU64; decide, wu64_cell hb rfl⟩
 | 8, _ => exact ⟨_, by unfold WU64; decide, wu64_cell hb rfl⟩
 | 9, _ => exact ⟨_, by unfold WU64; decide, wu64_cell hb rfl⟩
 | 10, _ => exact ⟨_, by unfold WU64; decide, wu64_cell hb rfl⟩
 | 11, _ => exact ⟨_, by unfold WU64; decide, wu64_cell hb rfl⟩
set_option maxRecDepth 100000 in
set_option maxHeartbeats 4000000 in
theorem l1Wide_any (B : Nat) (w : World) (hc : Cur w B) : Calls Tryz.prog 43 #[.pointer (some ⟨B, 0, none⟩)] w (DrawnU B w) := by
 go_enter Tryz.func43, Tryz.ntmps43
 go_wp2_with fail
 refine (l1Below_any B 4 w hc (by omega) (by omega)).mono ?_
 rintro r w1 ⟨x, rfl, hx0, hx1, hc1, ho1⟩
 by_cases h0 : x = 0
 ·subst h0
  go_wp2_with fail
  refine (l1Below_any B 12 _ (hc1.below ((Below.refl _ _).alloc (Nat.le_refl _) _)) (by omega) (by omega)).mono ?_
  rintro r w2 ⟨y, rfl, hy0, hy1, hc2, ho2⟩
  obtain ⟨k, rfl⟩ := Int.eq_ofNat_of_zero_le hy0
  have hk : k < 12 := by omega
  have hlt := hc1.lt
  have hblk := (ho2.block (b := w1.heap.size) (by simp) (by omega)).trans (heap_alloc_new w1 _)
  obtain ⟨u, hu, hcu⟩ := twelve hk hblk
  have HO := Lib.hid (ho1.trans ((Oth.of_below ((Below.refl w1.heap.size w1).alloc (Nat.le_refl _) _)).trans ho2))
  clear hblk
  go_wp2
  go_ret
  exact ⟨u, rfl, hu, hc2, HO.out⟩
 ·by_cases h1 : x = 1
  ·subst h1
   go_wp2_with fail
   go_loopw [3, 4] (fun t i wr => ∃ k : Nat, k ≤ 8 ∧ i = .int .i64 k ∧ (∃ m : Int, WU64 m ∧ t = .int .u64 m) ∧ Cur wr B ∧ Oth B w wr) (fun _ i _ => 8 - (intOf i).toNat)
   case atStart => exact ⟨0, by omega, rfl, ⟨0, wu64_small (by omega) (by omega), rfl⟩, hc1, ho1⟩
   case round =>
    obtain ⟨k, hk, rfl, ⟨m, hm, rfl⟩, hcr, hor⟩ := hrel
    by_cases hlt : k < 8
    ·go_wp2_with fail
     refine (l1Byte_any B wr hcr).mono ?_
     rintro r w2 ⟨y, rfl, hy0, hy1, hc2, ho2⟩
     go_wp2
     go_roundw
     case rel => exact ⟨k + 1, by omega, by go_num, ⟨_, wrap_wu64 _, rfl⟩, hc2, hor.trans ho2⟩
     case measure => simp [intOf]; omega
    ·go_wp2
     go_ret
     exact ⟨m, rfl, hm, hcr, hor⟩
  ·have e0 : (x == 0) = false := by simp [h0]
   have e1 : (x == 1) = false := by simp [h1]
   go_wp2_with fail
   refine (l1Below_big B 300 w1 hc1 (by omega) (by omega)).mono ?_
   rintro r w2 ⟨y, rfl, hy0, hy1, hc2, ho2⟩
   have hyw : IntKind.u64.wrap y = y := by rw [IntKind.wrap_u64]; omega
   go_wp2
   go_ret
   exact ⟨_, rfl, wu64_small hy0 (by omega), hc2, ho1.trans ho2⟩
structure Up (B : Nat) (w0 w : World) : Prop where
 cur : Cur w B
 oth : Oth B w0 w
theorem Cur.same {w w' : World} {B : Nat} (h : Cur w B) (hs : ∀ k, k ≤ B → w'.heap[k]? = w.heap[k]?) : Cur w' B := by
 obtain ⟨a, n, cap, i, x, hh, hi, hn, hb⟩ := h
 refine ⟨a, n, cap, i, x, (hs B (Nat.le_refl _)).trans hh, hi, hn, fun k hk => ?_⟩
 obtain ⟨b, off, e, hb', y, h0, h1, hc⟩ := hb k hk
 exact ⟨b, off, e, hb', y, h0, h1, (World.cell?_of_block (a := ⟨b, off + k, none⟩) (hs b (by omega))).trans hc⟩
theorem Up.grown {B : Nat} {w0 w w' : World} {row : Option Nat} (h : Up B w0 w) (hB : B < w0.heap.size) (hg : w.grownBy w' row) (hr : ∀ g, row = some g → w0.heap.size ≤ g) : Up B w0 w' := by
 have hsz := h.oth.size
 refine ⟨h.cur.same fun k hk => hg.block k (by omega) (fun e => by have := hr k e.symm; omega), ⟨hg.os.trans h.oth.os, hg.tape.trans h.oth.tape, hg.output.trans h.oth.output, Nat.le_trans hsz hg.size, fun k hk hn => ?_⟩⟩
 exact (hg.block k (by omega) (fun e => by have := hr k e.symm; omega)).trans (h.oth.block hk (by simpa using hn))
theorem Up.alloc {B : Nat} {w0 w : World} (h : Up B w0 w) (hB : B < w0.heap.size) (o : Obj) : Up B w0 (w.alloc o) := h.grown hB (World.grownBy_alloc w o none) (by simp)
theorem Up.step {B : Nat} {w0 w w' : World} (h : Up B w0 w) (hc : Cur w' B) (ho : Oth B w w') : Up B w0 w' := ⟨hc, h.oth.trans ho⟩
theorem Up.refl {B : Nat} {w : World} (h : Cur w B) : Up B w w := ⟨h, Oth.refl _ _⟩
theorem owns_oth {w w' : World} {B base n size : Nat} {t : TypeId} {v : Value} {L : List Value} (h : w.ownsRow base t size v n L) (ho : Oth B w w') (hB : B < base) : w'.ownsRow base t size v n L :=
 h.kept ho (.inr (by
  intro e
  have h1 := h.lt B e
  omega))
def DrawnB (B m : Nat) (w : World) (r : Ending) (w' : World) : Prop := ∃ (v : Value) (l : List UInt8), r = .returned v ∧ l.length = m ∧ v ≠ .slice none 0 0 ∧ w'.ownsRow w.heap.size 5 1 v m (bv l) ∧ Up B w w'
set_option maxRecDepth 100000 in
set_option maxHeartbeats 2000000 in
theorem l1Bytes_any (B : Nat) (m : Nat) (w : World) (hc : Cur w B) (hm : m ≤ 1000) : Calls Tryz.prog 156 #[.pointer (some ⟨B, 0, none⟩), .int .i64 m] w (DrawnB B m w) := by
 have hB := hc.lt
 obtain ⟨i0, hi, hz0, hz1, hz2⟩ := info_parts info_u8
 go_enter Tryz.func156, Tryz.ntmps156
 go_wp2
 go_loopw [5, 6] (fun v i wr => ∃ (k : Nat) (l : List UInt8), k ≤ m ∧ i = .int .i64 k ∧ l.length = k ∧ Hid (v ≠ .slice none 0 0) ∧ wr.ownsRow w.heap.size 5 1 v k (bv l) ∧ Up B w wr) (fun _ i _ => m - (intOf i).toNat)
 case atStart => exact ⟨0, [], Nat.zero_le _, rfl, rfl, Lib.hid (by simp), ⟨by simp, .inr ⟨w.heap.size, 0, #[], rfl, Nat.le_refl _, heap_nth0 w _, Nat.le_refl _, Nat.zero_le _, rfl, rfl⟩⟩, (Up.refl hc).alloc hB _⟩
 case round =>
  obtain ⟨k, l, hk, rfl, hl, hnn, ho, hu⟩ := hrel
  have HL := Lib.hid hl; clear hl
  have HO := Lib.hid ho; clear ho
  have hsz := hu.oth.size
  by_cases hlt : k < m
  ·go_wp2_with fail
   refine (l1Byte_any B wr hu.cur).mono ?_
   rintro r w2 ⟨y, rfl, hy0, hy1, hc2, ho2⟩
   obtain ⟨q, rfl⟩ := Int.eq_ofNat_of_zero_le hy0
   have hu2 := hu.step hc2 ho2
   have HO2 := Lib.hid (owns_oth HO.out ho2 hB)
   have hsz2 := hu2.oth.size
   clear HO hc2 ho2
   go_wp2_with (first | (at_builtin; refine wpList_append_own _ rfl _ _ 22 rfl w.heap.size 5 i0 (.int .u8 0) 1 1 Tryz.underlying22 hi hz0 hz1 hz2 rfl (by decide) _ _ _ rfl (HO2.out.alloc _) ⟨w2.heap.size, 0, none⟩ 1 1 [.int .u8 (q : Int)] rfl rfl (one_cell _ _ _) (by intro u hu; simp at hu; subst hu; rfl) (by unfold maxLen; omega) (by omega) (by simp; omega) ?_; intro v1 w1 hown1 hgrow1 hnn1; have hu1 := (hu2.alloc hB _).grown hB hgrow1 (fun g hg => (HO2.out.lt g hg).1); clear hgrow1; have HN1 := Lib.hid (show v1 ≠ .slice none 0 0 from fun hq => hnn.out (hnn1.1 hq).1); clear hnn1))
   go_roundw
   case rel => exact ⟨k + 1, l ++ [UInt8.ofNat q], by omega, by go_num, by rw [List.length_append, HL.out]; rfl, HN1, by rw [← bv_snoc _ _ (by omega)]; exact hown1, hu1⟩
   case measure => simp [intOf]; omega
  ·have hkm : k = m := by omega
   subst hkm
   go_wp2
   go_ret
   exact ⟨_, l, rfl, HL.out, hnn.out, HO.out, hu⟩
theorem ints_of_block {w : World} {g : Nat} {l : List Int} {t : TypeId} (h : w.heap[g]? = some (.cells (l.map (Value.int .i64)).toArray t (0, 0))) : ∀ k, k < l.length → ∃ x : Int, w.cell? ⟨g, k, none⟩ = some (.int .i64 x) := by
 intro k hk
 exact ⟨l[k], by simp [World.cell?, h, hk]⟩
def DrawnI (B : Nat) (w : World) (r : Ending) (w' : World) : Prop := ∃ x : Int, r = .returned (.int .i64 x) ∧ Cur w' B ∧ Oth B w w'
theorem l1PickInt_any (B g cap : Nat) (l : List Int) (t : TypeId) (w : World) (hc : Cur w B) (hg : g ≠ B) (h : w.heap[g]? = some (.cells (l.map (Value.int .i64)).toArray t (0, 0))) (h0 : 0 < l.length) (h1 : l.length ≤ 256) :
  Calls Tryz.prog 77 #[.pointer (some ⟨B, 0, none⟩), .slice (some ⟨g, 0, none⟩) l.length cap] w (DrawnI B w) := by
 obtain ⟨n, hn⟩ : ∃ n, n = l.length := ⟨_, rfl⟩
 rw [← hn] at h0 h1 ⊢
 have HN := Lib.hid hn; clear hn
 have HH := Lib.hid h; clear h
 go_enter Tryz.func77, Tryz.ntmps77
 go_wp2_with fail
 refine (l1Below_any B n w hc (by omega) (by omega)).mono ?_
 rintro r w1 ⟨x, rfl, hx0, hx1, hc1, ho1⟩
 obtain ⟨k, rfl⟩ := Int.eq_ofNat_of_zero_le hx0
 have hgl : g < w.heap.size := box_lt HH.out
 have hb := (ho1.block hgl hg).trans HH.out
 obtain ⟨x, hx⟩ := ints_of_block hb k (by have := HN.out; omega)
 clear hb
 go_wp2
 go_ret
 exact ⟨x, rfl, hc1, ho1⟩
def DrawnO (B : Nat) (w : World) (r : Ending) (w' : World) : Prop := ∃ b : Bool, r = .returned (.bool b) ∧ Cur w' B ∧ Oth B w w'
theorem l1Once_any (B : Nat) (n : Int) (w : World) (hc : Cur w B) (h0 : 0 < n) (h1 : n ≤ 256) :
  Calls Tryz.prog 52 #[.pointer (some ⟨B, 0, none⟩), .int .i64 n] w (DrawnO B w) := by
 go_enter Tryz.func52, Tryz.ntmps52
 go_wp2_with fail
 refine (l1Below_any B n w hc h0 h1).mono ?_
 rintro r w1 ⟨x, rfl, hx0, hx1, hc1, ho1⟩
 go_wp2
 go_ret
 exact ⟨_, rfl, hc1, ho1⟩
end Go.Proofs.YtabdjimjelfbfaaGreat
namespace Go.Proofs.YtabdjimjelfbfaaGreat
open Go.ChangeShapes Go.WideShapes Go.ChangeAt Go.RowKit Go.BigFrame
theorem hsx {A : Prop} {w : World} {b : Nat} {o : Option Obj} (hA : A) (h : A → w.heap[b]? = o := by intro hA_; (apply hset_eq; (repeat (first | (with_reducible exact hA_) | (with_reducible apply hset_row) | (with_reducible apply hset_set) | (with_reducible exact heap_alloc_new _ _) | (with_reducible exact heap_snd _ _ _) | (with_reducible apply hset_alloc) | (with_reducible apply hset_drew) | (with_reducible apply hset_other; case hk => first | omega | (simp; omega)) | (with_reducible apply hset_row_other; case hk => first | omega | (simp; omega)))); all_goals rfl)) : w.heap[b]? = o := h hA
theorem upx {A : Prop} {B : Nat} {w0 w : World} (hA : A) (h : A → Up B w0 w := by intro hA_; ((repeat (first | (with_reducible exact hA_) | (with_reducible refine Up.alloc ?_ hB _) | (with_reducible refine Up.set ?_ ?_ hB _) | (with_reducible refine Up.drew ?_))); all_goals (first | omega | (simp; done) | (simp; omega)))) : Up B w0 w := h hA
end Go.Proofs.YtabdjimjelfbfaaGreat
namespace Go.Proofs.YtabdjimjelfbfaaGreat
set_option linter.unusedSimpArgs false
set_option linter.unusedVariables false
open Go.ChangeShapes Go.WideShapes Go.ChangeAt Go.RowKit Go.BigFrame
theorem run_append_TB {P : Program} (w : World) (base : Nat) (t ty e : TypeId) (i : TypeInfo) (ht : P.underlying t = some (.slice e)) (hi : P.info? e = some i) (hz : i.zero = some (.int .u8 0))
  (hsize : i.size = 1) (hby : i.bytes = 1) (v : Value) (n : Nat) (xs : List Value) (hown : OwnT w base e v n xs) (ad : Addr) (c : Nat) (x : Int) (hnew : w.cell? ad = some (.int .u8 x))
  (h63 : n + 1 ≤ 1000) (hbase : base ≤ w.heap.size) :
  ∃ v' w', (Builtin.append_ #[t, t] ty #[v, .slice (some ad) 1 c]).run P w = .ok v' w' ∧ OwnT w' base e v' (n + 1) (xs ++ [.int .u8 x]) ∧ w.grownBy w' v.ownBlock ∧ (v'.ownBlock = v.ownBlock ∨ v'.ownBlock = some w.heap.size) := by
 obtain ⟨hxl, g, cap, cur, fz, rfl, hbg, hg, hfz, hnc, hcm, hcs, htake⟩ := hown
 have hlen : (xs ++ [Value.int .u8 x]).length = n + 1 := by simp [hxl]
 have hadd0 : ad.add 0 = ad := by obtain ⟨b, o, k⟩ := ad; simp [Addr.add]
 have hnews : ∀ (j : Nat) (u : Value), ([Value.int .u8 x] : List Value)[j]? = some u → w.cell? (ad.add j) = some u := by
  intro j u hu
  cases j with
  | zero => simp at hu; subst hu; rw [hadd0]; exact hnew
  | succ j => simp at hu
 by_cases hroom : n + 1 ≤ cap
 ·have hf := run_firstCells_some (P := P) w i.size 1 ad 1 c [Value.int .u8 x] (by simp [hsize]) hnews
  have hst := store_atT P g n e fz [Value.int .u8 x] 0 cur w hg (by rw [hcs]; exact hfz) (by simp; omega) (by intro u hu; simp at hu; subst hu; rfl)
  simp only [Nat.add_zero, List.length_cons, List.length_nil, Nat.zero_add] at hst
  rw [hsize] at hf
  have hr : (Builtin.append_ #[t, t] ty #[.slice (some ⟨g, 0, none⟩) n cap, .slice (some ad) 1 c]).run P w = .ok (.slice (some ⟨g, 0, none⟩) (n + 1) cap) (w.setRow g (cur.toList.take n ++ [Value.int .u8 x] ++ cur.toList.drop (n + 1)).toArray) := by
   simp [Builtin.append_, run_underlying ht, sizeOf, typeInfo, hi, hsize, Builtin.lenOf, hroom, hf, Addr.add_lit, hst]
  refine ⟨_, _, hr, ⟨hlen, g, cap, _, fz, rfl, hbg, setRow_heap w g cur _ e _ hg, hfz, hroom, hcm, ?_, ?_⟩, ⟨rfl, rfl, rfl, by simp, fun k _ hk => setRow_other w g k _ (fun e => hk (by simp [Value.ownBlock, e]))⟩, .inl rfl⟩
  ·simp only [List.size_toArray, List.length_append, List.length_take, List.length_drop, Array.length_toList, List.length_cons, List.length_nil]
   omega
  ·rw [htake, ← hlen]
   exact List.take_left
 ·have holds : ∀ j u, xs[j]? = some u → w.cell? ((⟨g, 0, none⟩ : Addr).add j) = some u := fun j u hu => by
   rw [Addr.add_lit, Nat.zero_add]
   exact OwnT.cell ⟨hxl, g, cap, cur, fz, rfl, hbg, hg, hfz, hnc, hcm, hcs, htake⟩ rfl j u hu
  have hr := run_append_grow (P := P) w t ty e i (.int .u8 0) ht hi hz ⟨g, 0, none⟩ n cap xs (by rw [hsize]; simpa using hxl) holds ad 1 c [Value.int .u8 x] (by rw [hsize]; rfl) hnews (by omega) (by omega) (by rw [hby]; exact growslice_fits (by omega) (by omega))
  have hge := grownCap_ge w (n + 1) cap e
  have hcm2 : grownCap w (n + 1) cap e ≤ maxLen := grownCap_le_maxLen w (n + 1) cap e (by unfold maxLen; omega)
  refine ⟨_, _, hr, ⟨hlen, w.heap.size, _, _, (0, 0), rfl, hbase, heap_alloc_new w.drew _, fun j _ h => by simp at h, hge, hcm2, ?_, ?_⟩, ⟨rfl, rfl, rfl, by simp, fun k hk _ => Below.heap_alloc w.drew _ k hk⟩, .inr rfl⟩
  ·have hz1 : (Value.int IntKind.u8 0).cells.size = 1 := rfl
   simp only [Array.size_append, List.size_toArray, size_zeroCells, hz1, hxl, List.length_cons, List.length_nil]
   omega
  ·simp only [Array.toList_append, List.append_assoc]
   rw [← List.append_assoc, ← hlen]
   exact List.take_left
theorem wpList_append_TB {P : Program} (w : World) {ops : Array Oper} {rest : List Oper} {o : Oper} {a : Act} {Q : Exit → Act → World → Prop} (hgd : o.guard = none) (sl x : Operand) (t : TypeId)
  (ho : o.op = .call { callee := .builtin .append, args := #[sl, x], argTypes := #[t, t] })
  (base : Nat) (e : TypeId) (i : TypeInfo) (ht : P.underlying t = some (.slice e)) (hi : P.info? e = some i) (hz : i.zero = some (.int .u8 0)) (hsize : i.size = 1) (hby : i.bytes = 1)
  (v : Value) (n : Nat) (xs : List Value) (hs : a.eval sl = v) (hown : OwnT w base e v n xs) (ad : Addr) (c : Nat) (y : Int) (hx : a.eval x = .slice (some ad) 1 c) (hnew : w.cell? ad = some (.int .u8 y))
  (h63 : n + 1 ≤ 1000) (hbase : base ≤ w.heap.size)
  (h : ∀ v' w', OwnT w' base e v' (n + 1) (xs ++ [.int .u8 y]) → w.grownBy w' v.ownBlock → (v'.ownBlock = v.ownBlock ∨ v'.ownBlock = some w.heap.size) → wpList P ops Q rest (a.put o.dst v') w') : wpList P ops Q (o :: rest) a w := by
 refine wpList_plain hgd fun K hK => ?_
 obtain ⟨v', w', hr, h2, h3, h4⟩ := run_append_TB (P := P) w base t o.type e i ht hi hz hsize hby v n xs hown ad c y hnew h63 hbase
 unfold Oper.wp execOp
 simp only [ho, resolve, invoke, builtin, Sem.run_bind, Sem.run_pure, Result.andThen_ok, List.map_toArray, List.map_cons, List.map_nil, hs, hx, hr]
 exact hK _ _ (h v' w' h2 h3 h4)
theorem OwnT.free {w : World} {base n g cap : Nat} {e : TypeId} {xs : List Value} (h : OwnT w base e (.slice (some ⟨g, 0, none⟩) n cap) n xs) {j : Nat} (hj : j < n) : w.frozen? ⟨g, j, none⟩ = false := by
 obtain ⟨_, g', cap', cur, fz, hv, _, hg, hfz, hnc, _⟩ := h
 simp only [Value.slice.injEq, Option.some.injEq, Addr.mk.injEq, and_true] at hv
 obtain ⟨rfl, _, rfl⟩ := hv
 have h2 := hfz j (by omega)
 obtain ⟨lo, hi'⟩ := fz
 simp only [World.frozen?, hg, Bool.and_eq_false_iff, decide_eq_false_iff_not]
 simp only at h2
 omega
theorem OwnT.put {w : World} {base n g cap : Nat} {e : TypeId} {xs : List Value} (h : OwnT w base e (.slice (some ⟨g, 0, none⟩) n cap) n xs) {j : Nat} (hj : j < n) (u : Value) : OwnT (w.setCell ⟨g, j, none⟩ u) base e (.slice (some ⟨g, 0, none⟩) n cap) n (xs.set j u) := by
 obtain ⟨hxl, g', cap', cur, fz, hv, hb, hg, hfz, hnc, hcm, hcs, ht⟩ := h
 simp only [Value.slice.injEq, Option.some.injEq, Addr.mk.injEq, and_true] at hv
 obtain ⟨rfl, _, rfl⟩ := hv
 refine ⟨by simpa using hxl, g, cap, cur.setIfInBounds j u, fz, rfl, hb, ?_, hfz, hnc, hcm, by simpa using hcs, ?_⟩
 ·rw [setCell_eq_setRow w g j cur e fz u hg]; exact setRow_heap w g cur _ e _ hg
 ·rw [Array.toList_setIfInBounds, List.take_set, ht]
theorem OwnT.keepB {w w' : World} {base n : Nat} {e : TypeId} {v : Value} {xs : List Value} (h : OwnT w base e v n xs) (hb : Below w.heap.size w w') : OwnT w' base e v n xs := h.same fun g hg => by
 obtain ⟨g', cap, rfl, _, hl⟩ := h.lt
 simp [Value.ownBlock] at hg
 subst hg
 exact hb.block _ hl
theorem OwnT.leP {w : World} {base b' n : Nat} {e : TypeId} {v : Value} {xs : List Value} (h : OwnT w base e v n xs) (hb : b' ≤ base) : OwnT w b' e v n xs := by
 obtain ⟨hl, g, cap, cur, fz, hv, hg, r⟩ := h
 exact ⟨hl, g, cap, cur, fz, hv, Nat.le_trans hb hg, r⟩
def AllBy (xs : List Value) : Prop := ∀ u ∈ xs, ∃ x : Nat, x < 256 ∧ u = .int .u8 (x : Int)
theorem allBy_bv (l : List UInt8) : AllBy (bv l) := fun u hu => by
 simp only [bv, List.mem_map] at hu
 obtain ⟨b, _, rfl⟩ := hu
 exact ⟨b.toNat, UInt8.toNat_lt b, rfl⟩
theorem AllBy.bytes : ∀ {xs : List Value}, AllBy xs → ∃ l : List UInt8, xs = bv l
 | [], _ => ⟨[], rfl⟩
 | u :: xs, h => by
  obtain ⟨x, hx, rfl⟩ := h u (by simp)
  obtain ⟨l, rfl⟩ := AllBy.bytes (xs := xs) fun v hv => h v (by simp [hv])
  exact ⟨UInt8.ofNat x :: l, by simp [bv, Nat.mod_eq_of_lt hx]⟩
theorem AllBy.set {xs : List Value} (h : AllBy xs) (j : Nat) {x : Nat} (hx : x < 256) : AllBy (xs.set j (.int .u8 (x : Int))) := fun u hu => by
 rcases List.mem_or_eq_of_mem_set hu with h1 | h1
 ·exact h u h1
 ·exact ⟨x, hx, h1⟩
theorem AllBy.snoc {xs : List Value} (h : AllBy xs) : AllBy (xs ++ [.int .u8 0]) := fun u hu => by
 rcases List.mem_append.1 hu with h1 | h1
 ·exact h u h1
 ·simp at h1; exact ⟨0, by omega, by rw [h1]; rfl⟩
def lenV : Value → Nat
 | .slice _ n _ => n
 | _ => 0
theorem below_grownP {B : Nat} {w0 w w' : World} {row : Option Nat} (hb : Below B w0 w) (hg : w.grownBy w' row) (hr : ∀ g, row = some g → B ≤ g) (hB : B ≤ w.heap.size) : Below B w0 w' :=
 hb.trans ⟨hg.os, hg.tape, hg.output, hg.size, fun k hk => hg.block k (by omega) (fun e => by have := hr k e.symm; omega)⟩
def StrLe (m : Nat) (w : World) (r : Ending) (w' : World) : Prop := ∃ s : ByteArray, r = .returned (.string s) ∧ s.size ≤ m ∧ Below w.heap.size w w'
set_option maxRecDepth 100000 in
set_option maxHeartbeats 2000000 in
theorem padVar_any (n : Nat) (m : Int) (w : World) (hn : n < 2 ^ 64) : Calls Tryz.prog 153 #[.int .u64 n, .int .i64 m] w (StrLe 10 w) := by
 obtain ⟨i0, hi, hz0, hz1, hz2⟩ := info_parts info_u8
 go_enter Tryz.func153, Tryz.ntmps153
 go_wp2_with fail
 refine (specPutVar_any n w hn).mono ?_
 rintro r w1 ⟨⟨k, hk, rfl⟩, hb1⟩
 have hk9 := len_le hn hk.below
 obtain ⟨s, hs⟩ : ∃ s : ByteArray, s = ⟨(putB n k).toArray⟩ := ⟨_, rfl⟩
 have hsz : s.size = k + 1 := by rw [hs]; simp [ByteArray.size, putB, hiB_len]
 rw [← hs]
 have hs1 : 1 ≤ s.size := by omega
 have hs2 : s.size ≤ 10 := by omega
 clear hs hk hsz hk9
 have hzb := hb1.size
 have hconv := fun W => run_bytes_of_string (P := Tryz.prog) W 9 22 5 s Tryz.underlying9 Tryz.underlying22 Tryz.underlying5
 go_wp2_with fail
 refine (l1In_any _ _ _ _).mono ?_
 rintro r _ ⟨rfl, rfl⟩
 clear hconv
 cases h1 : inB m (s.size : Int) 10
 ·go_wp2
  go_ret
  exact ⟨⟨#[]⟩, rfl, by simp [ByteArray.size], by exact bl⟩
 ·have hm : (s.size : Int) ≤ m ∧ m ≤ 10 := by simpa [inB] using h1
  obtain ⟨m, rfl⟩ := Int.eq_ofNat_of_zero_le (a := m) (by omega)
  have hT : OwnT (w1.alloc (.cells (bytesRow s (grownCap w1 s.size 0 5)) 5 ((bytesRow s (grownCap w1 s.size 0 5)).size, (bytesRow s (grownCap w1 s.size 0 5)).size + 1))).drew w.heap.size 5 (.slice (some ⟨w1.heap.size, 0, none⟩) s.size (grownCap w1 s.size 0 5)) s.size (bv s.data.toList) :=
   OwnT.same (OwnT.leP (ownT_made w1 5 s (by unfold maxLen; omega)) (by have := hb1.size; omega)) (fun g hg => rfl)
  go_wp2_with fail
  go_loopw [5] (fun v wr => ∃ (k : Nat) (xs : List Value) (g cap : Nat), v = .slice (some ⟨g, 0, none⟩) k cap ∧ 1 ≤ k ∧ k ≤ 10 ∧ AllBy xs ∧ OwnT wr w.heap.size 5 (.slice (some ⟨g, 0, none⟩) k cap) k xs ∧ Below w.heap.size w wr) (fun v _ => 10 - lenV v)
  case atStart => exact ⟨s.size, _, _, _, rfl, by omega, by omega, allBy_bv _, hT, by exact bl⟩
  case round =>
   clear hT
   obtain ⟨q, xs, g, cap, rfl, hq1, hq2, hB, ho, hb⟩ := hrel
   have HT := Lib.hid ho; clear ho
   have hgl : g < wr.heap.size := by obtain ⟨g', c', e, _, hl⟩ := HT.out.lt; simp only [Value.slice.injEq, Option.some.injEq, Addr.mk.injEq] at e; omega
   have hgb : w.heap.size ≤ g := by obtain ⟨g', c', e, hl, _⟩ := HT.out.lt; simp only [Value.slice.injEq, Option.some.injEq, Addr.mk.injEq] at e; omega
   have hxl : xs.length = q := HT.out.1
   by_cases hlt : q < m
   ·obtain ⟨j, rfl⟩ : ∃ j, q = j + 1 := ⟨q - 1, by omega⟩
    obtain ⟨u, hu⟩ : ∃ u, xs[j]? = some u := ⟨_, List.getElem?_eq_getElem (by omega)⟩
    obtain ⟨x, hx, rfl⟩ := hB u (List.mem_of_getElem? hu)
    have hc := HT.out.cell rfl j _ hu
    have hf := HT.out.free (j := j) (by omega)
    have HB := Lib.hid hB; clear hB hu
    have hxe : ((x : Int) + 128) % 256 = (((x + 128) % 256 : Nat) : Int) := by omega
    have HXE := Lib.hid hxe; clear hxe
    go_wp2_with (first | (at_builtin; refine wpList_append_TB _ rfl _ _ 22 rfl w.heap.size 5 i0 Tryz.underlying22 hi hz0 hz1 hz2 _ (j + 1) (xs.set j (.int .u8 (((x : Int) + 128) % 256))) rfl ((HT.out.put (by omega) _).keepB (show Below (wr.setCell ⟨g, j, none⟩ (.int .u8 (((x : Int) + 128) % 256))).heap.size _ _ from (Below.refl _ _).alloc (Nat.le_refl _) _)) ⟨wr.heap.size, 0, none⟩ 1 0 rfl (box_cells (t := 5) (cs := #[.int .u8 0]) (hset_new (by simp)) 0) (by omega) (by simp; omega) ?_; intro v2 w2 hown2 hgr2 hat2; have hb2 : Below w.heap.size w w2 := below_grownP (show Below w.heap.size w _ from by exact bl) hgr2 (fun g' e => by have e' : g = g' := Option.some.inj e; omega) (by simp; omega); clear hgr2 hat2))
    obtain ⟨g2, cap2, rfl, _, _⟩ := hown2.lt
    go_roundw
    case rel => exact ⟨j + 1 + 1, _, g2, cap2, rfl, by omega, by omega, (by rw [HXE.out]; exact (HB.out.set j (by omega)).snoc), hown2, hb2⟩
    case measure => simp [lenV]; omega
   ·obtain ⟨l, rfl⟩ := AllBy.bytes hB
    have hstr := own_stringT HT.out Tryz.underlying22 Tryz.underlying5 Tryz.underlying9
    go_wp2
    go_ret
    exact ⟨⟨l.toArray⟩, rfl, by simp [ByteArray.size]; simp [bv] at hxl; omega, hb⟩
end Go.Proofs.YtabdjimjelfbfaaGreat
