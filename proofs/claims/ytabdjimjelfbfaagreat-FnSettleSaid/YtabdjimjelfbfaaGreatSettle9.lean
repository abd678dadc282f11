/- Texts that FnSettle leans on, part 9. (Put together by wip/tools/bundle.py.) -/
import Derived.Test.YtabdjimjelfbfaaGreatSettle1
import Derived.Test.YtabdjimjelfbfaaGreatSettle2
import Derived.Test.YtabdjimjelfbfaaGreatSettle3
import Derived.Test.YtabdjimjelfbfaaGreatSettle4
import Derived.Test.YtabdjimjelfbfaaGreatSettle5
import Derived.Test.YtabdjimjelfbfaaGreatSettle6
import Derived.Test.YtabdjimjelfbfaaGreatSettle7
import Derived.Test.YtabdjimjelfbfaaGreatSettle8
namespace Go.Proofs.YtabdjimjelfbfaaGreat
set_option linter.unusedSimpArgs false
set_option linter.unusedVariables false
open Go.ChangeShapes Go.WideShapes Go.ChangeAt Go.RowKit Go.BigFrame
theorem World.ownsRow.of_lvl (w : World) (x y : Int) (t : TypeId) : (w.alloc (.cells #[.int .i64 x, .int .i64 y] t)).ownsRow w.heap.size t 2 (.slice (some ⟨w.heap.size, 0, none⟩) 1 1) 1 (([⟨x, y⟩] : List Lvl).flatMap Lvl.cs) :=
 ⟨by simp, .inr ⟨w.heap.size, 1, #[.int .i64 x, .int .i64 y], rfl, Nat.le_refl _, heap_nth0 w _, Nat.le_refl _, by unfold maxLen; omega, by simp, by simp⟩⟩
theorem lvOk_most {d : Dc} {xs : List Shp} {ls : List Lvl} (h : lvOk d xs ls = true) : 0 ≤ d.p.most ∧ d.p.most ≤ 2000 := by
 simp only [lvOk, planOk, Bool.and_eq_true] at h
 have := h.1.2.2.2
 simpa [inB] using this
set_option maxRecDepth 100000 in
set_option maxHeartbeats 2000000 in
theorem specFrame_any (d : Dc) (a : Option Addr) (cap : Nat) (xs : List Shp) (sa : Option Addr) (scap : Nat) (ls : List Lvl) (u : Int) (w : World) (h : ShsC w a xs) (h' : Lvls w sa ls) (hn : xs.length ≤ 1048576) (hm : fldSum xs ≤ 1048576) (hm' : ls.length ≤ 1048576) (hnil : sa = none → scap = 0) (hu : (Lit.int .u64 u).wf = true) :
  Calls Tryz.prog 17 #[d.val (.slice a xs.length cap) (.slice sa ls.length scap), .int .u64 u] w (FreshDE w 77 34 67 38 xs (frameO d xs ls u)) := by
 have HSs := Lib.hid h; clear h
 have HSl := Lib.hid h'; clear h'
 have hu0 := (WU64.lo hu).1
 go_enter Tryz.func17, Tryz.ntmps17
 go_wp2_with (first | ((with_reducible show wpList _ _ _ (⟨_, Op.load 40 _, _, _, _, _⟩ :: _) _ _); refine wlm w.heap.size (Dc.cl d (.slice a xs.length cap) (.slice sa ls.length scap)) (range_of_box (t := 40) (hset_alloc (hset_new rfl))) ?_))
 refine (l14Copy_any d a cap xs sa scap ls _ (HSs.out.keep bl) (Sl.keep HSl.out bl) hn hm hm' hnil).mono ?_
 rintro r w1 ⟨a1, cap1, rs1, sa1, scap1, rfl, ho1, hp1, hb1⟩
 have hz1 := hb1.size
 simp only [World.size_alloc] at hz1
 have hA_ : w1.heap[w.heap.size]? = some (.cells (Dc.cl d (.slice a xs.length cap) (.slice sa ls.length scap)).toArray 40 (0, 0)) := (hb1.block _ (by simp; omega)).trans (hset_alloc (hset_new rfl))
 have hR_ : w1.heap[w.heap.size + 1]? = some (.cells dz0.toArray 40 (0, 0)) := (hb1.block _ (by simp)).trans (hset_new (by simp))
 have hb1b : Below w.heap.size w w1 := by exact bl
 have P1 := Lib.hid (OwnShs.le ho1 (show w.heap.size + 1 + 1 ≤ _ by simp)); clear ho1
 have P2 := Lib.hid (owns_le hp1 (show w.heap.size + 1 + 1 ≤ _ by simp)); clear hp1 hb1
 have HA := Lib.hid hA_; clear hA_
 have HR := Lib.hid hR_; clear hR_
 go_wp2_with (first | ((with_reducible show wpList _ _ _ (⟨_, Op.store 40 _ _, _, _, _, _⟩ :: _) _ _); refine wsq w1.heap.size (Dc.cl d (.slice a1 xs.length cap1) (.slice sa1 ls.length scap1)).toArray (hset_new rfl) (one_Dec _ _ _ _ _ _ _) ?_) | ((with_reducible show wpList _ _ _ (⟨_, Op.load 40 _, _, _, _, _⟩ :: _) _ _); refine wlm w.heap.size (Dc.cl d (.slice a xs.length cap) (.slice sa ls.length scap)) (range_of_box (t := 40) (hset_row_other (hset_alloc HA.out) (by omega))) ?_))
 have hbx : Below w1.heap.size w1 ((w1.alloc (.cells dz0.toArray 40)).setRow w1.heap.size (Dc.cl d (.slice a1 xs.length cap1) (.slice sa1 ls.length scap1)).toArray) := by exact bl
 have hO_ : ((w1.alloc (.cells dz0.toArray 40)).setRow w1.heap.size (Dc.cl d (.slice a1 xs.length cap1) (.slice sa1 ls.length scap1)).toArray).heap[w1.heap.size]? = some (.cells (Dc.cl d (.slice a1 xs.length cap1) (.slice sa1 ls.length scap1)).toArray 40 (0, 0)) := hset_row (cs := dz0.toArray) (hset_new rfl)
 obtain ⟨w2, hw2⟩ : ∃ w2, w2 = (w1.alloc (.cells dz0.toArray 40)).setRow w1.heap.size (Dc.cl d (.slice a1 xs.length cap1) (.slice sa1 ls.length scap1)).toArray := ⟨_, rfl⟩
 rw [← hw2] at hbx hO_ ⊢
 clear hw2
 have hlO := box_lt hO_
 have hb2b : Below w.heap.size w w2 := hb1b.trans (hbx.mono (by omega))
 refine (l15Ok_any d a cap _ xs sa scap _ ls _ (HSs.out.shs.keep hb2b) (Sl.keep HSl.out hb2b) rfl rfl hn hm hm').mono ?_
 rintro r w3 ⟨rfl, hb3⟩
 have hz3 := hb3.size
 have hb13 : Below w1.heap.size w1 w3 := hbx.trans (hb3.mono (by omega))
 have HO := Lib.hid ((hb3.block _ hlO).trans hO_); clear hO_ hbx
 have HA3 := Lib.hid ((hb13.block _ (by omega)).trans HA.out); clear HA
 have HR3 := Lib.hid ((hb13.block _ (by omega)).trans HR.out); clear HR
 have Q1 := Lib.hid (P1.out.chain hb13 (Nat.le_refl _)); clear P1
 have Q2 := Lib.hid (owns_below P2.out hb13 (Nat.le_refl _)); clear P2
 have hbw : Below w.heap.size w w3 := hb2b.trans (hb3.mono (by have := hb2b.size; omega))
 clear hb13 hb3 hb2b hb1b HSs HSl
 have kA := box_cells HA3.out; have fA := box_frozen HA3.out; have hBA := box_lt HA3.out
 have kO := box_cells HO.out; have fO := box_frozen HO.out; have hBO := box_lt HO.out
 cases hok : lvOk d xs ls
 ·have HO2 : Hid (frameO d xs ls u = (d, ls, [])) := Lib.hid (by simp only [frameO, hok]; rfl)
  go_wp2_with (first | ((with_reducible show wpList _ _ _ (⟨_, Op.load 40 _, _, _, _, _⟩ :: _) _ _); refine wlm w1.heap.size (Dc.cl d (.slice a1 xs.length cap1) (.slice sa1 ls.length scap1)) (range_of_box (t := 40) HO.out) ?_) | ((with_reducible show wpList _ _ _ (⟨_, Op.store 40 _ _, _, _, _, _⟩ :: _) _ _); refine wsr (w.heap.size + 1) (Dc.cl d (.slice a1 xs.length cap1) (.slice sa1 ls.length scap1)).toArray (hset_alloc HR3.out) ?_))
  rw [HO2.out]
  refine finDE (w := w) (R := w.heap.size + 1) (base := w.heap.size + 1 + 1) (e := d) (ms := ls) (es := ([] : List Ev)) (rs := rs1) (a := a1) (cap := cap1) (sa := sa1) (scap := scap1) (ea := some ⟨w3.heap.size, 0, none⟩) (ecap := 0) Tryz.results17 ?_ ?_ ?_ ?_ ?_ ?_ ?_ (by omega)
  ·rfl
  ·rfl
  ·exact hset_row (cs := dz0.toArray) (hset_alloc HR3.out)
  ·exact OwnShs.setRow (Q1.out.alloc _) (by omega) _
  ·exact owns_setRow (Q2.out.alloc _) (by omega) _
  ·exact owns_setRow (owns_le (own_built w3 38 7) (by omega)) (by omega) _
  ·exact bl
 ·have hmost := lvOk_most hok
  have hmw : IntKind.u64.wrap d.p.most = d.p.most := by rw [IntKind.wrap_u64]; omega
  by_cases hum : d.p.most < u
  ·have HO2 : Hid (frameO d xs ls u = failO (scan0 d) ls 7 d.start) := Lib.hid (by simp only [frameO, hok, if_pos hum]; rfl)
   go_wp2_with (first | ((with_reducible show wpList _ _ _ (⟨_, Op.load 40 _, _, _, _, _⟩ :: _) _ _); generalize hw4 : World.setCell _ (⟨w1.heap.size, 7, none⟩ : Addr) (.int .i64 0) = w4; have hO4 : w4.heap[w1.heap.size]? = some (.cells (c1111 (.slice a1 xs.length cap1) (.slice sa1 ls.length scap1) d.p d.mode 0 0 d.start d.at_ d.field d.wire d.want d.utf d.end_).toArray 40 (0, 0)) := (by rw [← hw4]; apply hset_eq; (repeat (first | (with_reducible exact HO.out) | (with_reducible apply hset_set))); simp only [List.setIfInBounds_toArray, List.set_cons_zero, List.set_cons_succ]); have hG4 : w3.grownBy w4 (some w1.heap.size) := (by rw [← hw4]; (repeat (with_reducible refine only_cell ?_ _ _)); exact only_refl _ _); clear hw4 kO fO hBO; have HA4 := Lib.hid ((hG4.block _ hBA (by simp; omega)).trans HA3.out); clear kA fA; have kA := box_cells HA4.out; have fA := box_frozen HA4.out; have hBA := box_lt HA4.out; refine wlm w1.heap.size (c1111 (.slice a1 xs.length cap1) (.slice sa1 ls.length scap1) d.p d.mode 0 0 d.start d.at_ d.field d.wire d.want d.utf d.end_) (range_of_box (t := 40) hO4) ?_))
   refine (l15Fail_any (scan0 d) a1 cap1 xs.length sa1 scap1 ls.length 7 d.start _).mono ?_
   rintro r w5 ⟨ea, ecap, rfl, ho5, hb5⟩
   have hz4 := hG4.size
   have hz5 := hb5.size
   have Q1b := Lib.hid ((Q1.out.keepBy hG4 (other_box HO.out (by decide)) (other_box HO.out (by decide))).chain hb5 (Nat.le_refl _)); clear Q1
   have Q2b := Lib.hid (owns_below (owns_keep Q2.out hG4 (other_box HO.out (by decide))) hb5 (Nat.le_refl _)); clear Q2
   have Q3 := Lib.hid (owns_le ho5 (show w.heap.size + 1 + 1 ≤ _ by omega)); clear ho5
   have HR5 := Lib.hid ((hb5.block _ (by omega)).trans ((hG4.block _ (by omega) (by simp; omega)).trans HR3.out)); clear HR3
   have hbw5 : Below w.heap.size w w5 := (below_grown hbw hG4 (fun g e => by have := Option.some.inj e; omega) (by omega)).trans (hb5.mono (by omega))
   go_wp2_with (first | ((with_reducible show wpList _ _ _ (⟨_, Op.store 40 _ _, _, _, _, _⟩ :: _) _ _); refine wsr (w.heap.size + 1) (c1110 (.slice a1 xs.length cap1) (.slice sa1 ls.length scap1) d.p 9 0 0 d.start d.at_ d.field d.wire 0 d.utf 10 0 0 0 ⟨#[]⟩ 7 d.start).toArray HR5.out ?_))
   rw [HO2.out, failO]
   refine finDE (w := w) (R := w.heap.size + 1) (base := w.heap.size + 1 + 1) (e := failD (scan0 d) 7 d.start) (ms := ls) (es := [failE 7 d.start]) (rs := rs1) (a := a1) (cap := cap1) (sa := sa1) (scap := scap1) (ea := ea) (ecap := ecap) Tryz.results17 ?_ ?_ ?_ ?_ ?_ ?_ ?_ (by omega)
   ·rfl
   ·rfl
   ·exact hset_row (cs := dz0.toArray) HR5.out
   ·exact OwnShs.setRow Q1b.out (by omega) _
   ·exact owns_setRow Q2b.out (by omega) _
   ·exact owns_setRow Q3.out (by omega) _
   ·exact bl
  ·have HO2 : Hid (frameO d xs ls u = behind [frameE u] (settle (modeD (scan0 d) 2) [⟨d.p.root, u⟩])) := Lib.hid (by simp only [frameO, hok, if_neg hum]; rfl)
   have huw : IntKind.i64.wrap u = u := IntWalk.i64_in _ (by omega)
   go_wp2_with (first | ((with_reducible show wpList _ _ _ (⟨_, Op.load 40 _, _, _, _, _⟩ :: _) _ _); generalize hw4 : World.alloc _ (.cells #[.int .i64 d.p.root, .int .i64 u] 67) = w4; have hO4 : w4.heap[w1.heap.size]? = some (.cells (c1111 (.slice a1 xs.length cap1) (.slice (some ⟨w3.heap.size, 0, none⟩) 1 1) d.p 2 0 0 d.start d.at_ d.field d.wire d.want d.utf d.end_).toArray 40 (0, 0)) := (by rw [← hw4]; apply hset_eq; (repeat (first | (with_reducible exact HO.out) | (with_reducible apply hset_set) | (with_reducible apply hset_alloc))); simp only [List.setIfInBounds_toArray, List.set_cons_zero, List.set_cons_succ]); have hG4 : w3.grownBy w4 (some w1.heap.size) := (by rw [← hw4]; (repeat (first | (with_reducible refine only_cell ?_ _ _) | (with_reducible refine only_alloc ?_ _))); with_reducible exact only_refl _ _); have hP4 : w4.ownsRow w3.heap.size 67 2 (.slice (some ⟨w3.heap.size, 0, none⟩) 1 1) 1 (([⟨d.p.root, u⟩] : List Lvl).flatMap Lvl.cs) := (by rw [← hw4]; have h0 := World.ownsRow.of_lvl ((((w3.setCell ⟨w1.heap.size, 6, none⟩ (.int .u64 0)).setCell ⟨w1.heap.size, 7, none⟩ (.int .i64 0)).setCell ⟨w1.heap.size, 5, none⟩ (.slice (some ⟨w3.heap.size, 0, none⟩) 1 1)).setCell ⟨w1.heap.size, 4, none⟩ (.int .i64 2)) d.p.root u 67; simp only [World.size_setCell] at h0; exact h0); clear hw4 kO fO hBO kA fA; refine wlm w1.heap.size (c1111 (.slice a1 xs.length cap1) (.slice (some ⟨w3.heap.size, 0, none⟩) 1 1) d.p 2 0 0 d.start d.at_ d.field d.wire d.want d.utf d.end_) (range_of_box (t := 40) hO4) ?_))
   have hz4 := hG4.size
   refine (l15Tell_any (modeD (scan0 d) 2) a1 cap1 xs.length (some ⟨w3.heap.size, 0, none⟩) 1 [⟨d.p.root, u⟩] (frameE u) w3.heap.size w4 hP4 hz4 (by simp)).mono ?_
   rintro r w5 ⟨sa5, scap5, ea, ecap, rfl, hp5, he5, hb5⟩
   obtain ⟨⟨e, ms, es⟩, hE⟩ : ∃ O, O = behind [frameE u] (settle (modeD (scan0 d) 2) [⟨d.p.root, u⟩]) := ⟨_, rfl⟩
   rw [← hE] at hp5 he5 ⊢
   have HE := Lib.hid hE; clear hE
   have hz5 := hb5.size
   have Q1b := Lib.hid ((Q1.out.keepBy hG4 (other_box HO.out (by decide)) (other_box HO.out (by decide))).chain hb5 (Nat.le_refl _)); clear Q1
   have Q2b := Lib.hid (owns_le hp5 (show w.heap.size + 1 + 1 ≤ _ by omega)); clear Q2 hp5
   have Q3 := Lib.hid (owns_le he5 (show w.heap.size + 1 + 1 ≤ _ by omega)); clear he5
   have HR5 := Lib.hid ((hb5.block _ (by omega)).trans ((hG4.block _ (by omega) (by simp; omega)).trans HR3.out)); clear HR3
   have hbw5 : Below w.heap.size w w5 := (below_grown hbw hG4 (fun g e => by have := Option.some.inj e; omega) (by omega)).trans (hb5.mono (by omega))
   simp only
   go_wp2_with (first | ((with_reducible show wpList _ _ _ (⟨_, Op.store 40 _ _, _, _, _, _⟩ :: _) _ _); refine wsq (w.heap.size + 1) (Dc.cl e (.slice a1 xs.length cap1) (.slice sa5 ms.length scap5)).toArray HR5.out (one_Dec _ _ _ _ _ _ _) ?_))
   rw [HO2.out, ← HE.out]
   refine finDE (w := w) (R := w.heap.size + 1) (base := w.heap.size + 1 + 1) (e := e) (ms := ms) (es := es) (rs := rs1) (a := a1) (cap := cap1) (sa := sa5) (scap := scap5) (ea := ea) (ecap := ecap) Tryz.results17 ?_ ?_ ?_ ?_ ?_ ?_ ?_ (by omega)
   ·rfl
   ·rfl
   ·exact hset_row (cs := dz0.toArray) HR5.out
   ·exact OwnShs.setRow Q1b.out (by omega) _
   ·exact owns_setRow Q2b.out (by omega) _
   ·exact owns_setRow Q3.out (by omega) _
   ·exact bl
def SomeB (B0 : Nat) (w : World) (xs : List Shp) (r : Ending) (w' : World) : Prop :=
 ∃ (e : Dc) (ms : List Lvl) (es : List Ev) (a : Option Addr) (cap : Nat) (rs : List ShR) (sa : Option Addr) (scap : Nat) (ea : Option Addr) (ecap : Nat), r = .returned (.tuple #[e.val (.slice a xs.length cap) (.slice sa ms.length scap), .slice ea es.length ecap])
  ∧ OwnShs w' B0 77 34 (.slice a xs.length cap) xs.length rs xs ∧ w'.ownsRow B0 67 2 (.slice sa ms.length scap) ms.length (ms.flatMap Lvl.cs) ∧ w'.ownsRow B0 38 7 (.slice ea es.length ecap) es.length (es.flatMap Ev.cs) ∧ Below w.heap.size w w' ∧ ms.length ≤ 8
structure StM (B0 : Nat) (w wr : World) (d : Dc) (xs : List Shp) (ls : List Lvl) (a : Option Addr) (cap : Nat) (rs : List ShR) (sa : Option Addr) (scap : Nat) : Prop where
 box : wr.heap[w.heap.size]? = some (.cells (Dc.cl d (.slice a xs.length cap) (.slice sa ls.length scap)).toArray 40 (0, 0))
 res : wr.heap[w.heap.size + 1]? = some (.cells dz0.toArray 40 (0, 0))
 sh : OwnShs wr B0 77 34 (.slice a xs.length cap) xs.length rs xs
 lv : wr.ownsRow B0 67 2 (.slice sa ls.length scap) ls.length (ls.flatMap Lvl.cs)
 bel : Below w.heap.size w wr
 hB : B0 ≤ w.heap.size
section
variable {B0 : Nat} {w wr w' : World} {d e : Dc} {xs : List Shp} {ls : List Lvl} {a : Option Addr} {cap : Nat} {rs : List ShR} {sa : Option Addr} {scap : Nat}
theorem StM.sz (h : StM B0 w wr d xs ls a cap rs sa scap) : w.heap.size + 1 < wr.heap.size := box_lt h.res
theorem StM.keep (h : StM B0 w wr d xs ls a cap rs sa scap) (hb : Below wr.heap.size wr w') : StM B0 w w' d xs ls a cap rs sa scap :=
 ⟨(hb.block _ (box_lt h.box)).trans h.box, (hb.block _ (box_lt h.res)).trans h.res, h.sh.chain hb (Nat.le_refl _), owns_below h.lv hb (Nat.le_refl _), h.bel.trans (hb.mono h.bel.size), h.hB⟩
theorem StM.upd (h : StM B0 w wr d xs ls a cap rs sa scap) (hG : wr.grownBy w' (some w.heap.size)) (hb : w'.heap[w.heap.size]? = some (.cells (Dc.cl e (.slice a xs.length cap) (.slice sa ls.length scap)).toArray 40 (0, 0))) : StM B0 w w' e xs ls a cap rs sa scap :=
 ⟨hb, (hG.block _ (box_lt h.res) (by simp)).trans h.res, h.sh.keepBy hG (other_box h.box (by decide)) (other_box h.box (by decide)), owns_keep h.lv hG (other_box h.box (by decide)), below_grown h.bel hG (fun g e => by have := Option.some.inj e; omega) (by have := h.bel.size; omega), h.hB⟩
theorem StM.start (ho : OwnShs w B0 77 34 (.slice a xs.length cap) xs.length rs xs) (hl : w.ownsRow B0 67 2 (.slice sa ls.length scap) ls.length (ls.flatMap Lvl.cs)) (hB : B0 ≤ w.heap.size) :
  StM B0 w ((w.alloc (.cells (Dc.cl d (.slice a xs.length cap) (.slice sa ls.length scap)).toArray 40)).alloc (.cells dz0.toArray 40)) d xs ls a cap rs sa scap :=
 ⟨hset_alloc (hset_new rfl), hset_new (by simp), (ho.alloc _).alloc _, World.ownsRow.alloc (World.ownsRow.alloc hl _) _, by exact bl, hB⟩
theorem StM.done {F : Func} {p q : Tmp} (hF : F.results = #[.cell p 40, .tmp q]) {tm : Array Value} {x : Dc} {ms : List Lvl} {es : List Ev} {a' sa' ea : Option Addr} {cap' scap' ecap : Nat} {rs' : List ShR}
  (h : StM B0 w wr d xs ls a cap rs sa scap) (hs : OwnShs wr B0 77 34 (.slice a' xs.length cap') xs.length rs' xs) (hp : wr.ownsRow B0 67 2 (.slice sa' ms.length scap') ms.length (ms.flatMap Lvl.cs)) (he : wr.ownsRow B0 38 7 (.slice ea es.length ecap) es.length (es.flatMap Ev.cs)) (h8 : ms.length ≤ 8)
  (t1 : tm.getD p undef = .pointer (some ⟨w.heap.size + 1, 0, none⟩)) (t2 : tm.getD q undef = .slice ea es.length ecap) :
  bodyPost Tryz.prog F (SomeB B0 w xs) .ret ⟨tm, []⟩ (wr.setRow (w.heap.size + 1) (c1111 (.slice a' xs.length cap') (.slice sa' ms.length scap') x.p x.mode x.bits x.have_ x.start x.at_ x.field x.wire x.want x.utf x.end_).toArray) := by
 have hz := h.sz
 have hg := only_rowT wr (w.heap.size + 1) (c1111 (.slice a' xs.length cap') (.slice sa' ms.length scap') x.p x.mode x.bits x.have_ x.start x.at_ x.field x.wire x.want x.utf x.end_).toArray
 have ob : ∀ t, 40 ≠ t → Other wr (some (w.heap.size + 1)) t := fun t ht => other_box h.res ht
 refine bodyPost_ret (results_cell_tmp hF t1 t2 (run_loadVar_mid _ (w.heap.size + 1) 0 40 (c1111 (.slice a' xs.length cap') (.slice sa' ms.length scap') x.p x.mode x.bits x.have_ x.start x.at_ x.field x.wire x.want x.utf x.end_) _ (range_of_box (t := 40) (hset_row (cs := dz0.toArray) h.res)) Tryz.underlying40 rfl size_Dec)) rfl ⟨x, ms, es, a', cap', rs', sa', scap', ea, ecap, rfl, ?_, ?_, ?_, ?_, h8⟩
 ·exact hs.keepBy hg (ob _ (by decide)) (ob _ (by decide))
 ·exact owns_keep hp hg (ob _ (by decide))
 ·exact owns_keep he hg (ob _ (by decide))
 ·exact below_grown h.bel hg (fun g e => by have := Option.some.inj e; omega) (by omega)
end
theorem SomeDE.toB {w : World} {xs : List Shp} {r : Ending} {w' : World} {B0 : Nat} (h : SomeDE w 77 34 67 38 xs r w') (hB : B0 ≤ w.heap.size) : SomeB B0 w xs r w' := by
 obtain ⟨⟨e, ms, es⟩, ⟨a, cap, rs, sa, scap, ea, ecap, h1, h2, h3, h4, h5⟩, h6⟩ := h
 exact ⟨e, ms, es, a, cap, rs, sa, scap, ea, ecap, h1, h2.le hB, owns_le h3 hB, owns_le h4 hB, h5, h6⟩
theorem FreshDE.toB {w : World} {xs : List Shp} {O : Outc} {r : Ending} {w' : World} {B0 : Nat} (h : FreshDE w 77 34 67 38 xs O r w') (h8 : O.2.1.length ≤ 8) (hB : B0 ≤ w.heap.size) : SomeB B0 w xs r w' := SomeDE.toB ⟨O, h, h8⟩ hB
theorem frameO_len8 (d : Dc) (xs : List Shp) (ls : List Lvl) (u : Int) (hl : ls.length ≤ 8) : (frameO d xs ls u).2.1.length ≤ 8 := by
 unfold frameO
 split
 ·split
  ·simpa [failO] using hl
  ·have := (settle_len (modeD (scan0 d) 2) [⟨d.p.root, u⟩]).1
   simp only [behind]; simp only [List.length_singleton] at this; omega
 ·simpa using hl
theorem tagO_len8 (d : Dc) (xs : List Shp) (ls : List Lvl) (u : Int) (hl : ls.length ≤ 8) : (tagO d xs ls u).2.1.length ≤ 8 := by
 unfold tagO
 repeat (first | split | (simpa [failO] using hl))
set_option maxRecDepth 100000 in
set_option maxHeartbeats 4000000 in
theorem l16Num_some (d : Dc) (a : Option Addr) (cap : Nat) (rs : List ShR) (xs : List Shp) (sa : Option Addr) (scap : Nat) (ls : List Lvl) (B0 : Nat) (u : Int) (w : World) (ho : OwnShs w B0 77 34 (.slice a xs.length cap) xs.length rs xs) (hl : w.ownsRow B0 67 2 (.slice sa ls.length scap) ls.length (ls.flatMap Lvl.cs)) (hB0 : B0 ≤ w.heap.size) (h8 : ls.length ≤ 8) :
  Calls Tryz.prog 160 #[d.val (.slice a xs.length cap) (.slice sa ls.length scap), .int .u64 u] w (SomeB B0 w xs) := by
 go_enter Tryz.func160, Tryz.ntmps160
 have hne := run_eql_fld
 by_cases hm : d.mode = 8
 ·have e8 : (d.mode != 8) = false := by simp; omega
  clear hm
  have HX0 := Lib.hid (show StM B0 w ((w.alloc (.cells (Dc.cl d (.slice a xs.length cap) (.slice sa ls.length scap)).toArray 40)).alloc (.cells dz0.toArray 40)) d xs ls a cap rs sa scap from StM.start (d := d) ho hl hB0)
  clear ho hl
  go_upto_region 3 with fail
  obtain ⟨wx, hwx⟩ : ∃ q, ((w.alloc (.cells (Dc.cl d (.slice a xs.length cap) (.slice sa ls.length scap)).toArray 40)).alloc (.cells dz0.toArray 40)) = q := ⟨_, rfl⟩
  rw [hwx]
  rw [hwx] at HX0
  clear hwx
  obtain ⟨x, hx⟩ : ∃ q, d = q := ⟨_, rfl⟩
  rw [hx] at HX0
  have HX := HX0; clear hx HX0
  obtain ⟨qz, hqz⟩ : ∃ q, sameF ⟨x.field.number, x.field.kind, x.field.rep, x.field.packed, x.field.msg⟩ ⟨0, 0, false, false, 0⟩ = q := ⟨_, rfl⟩
  have kP := box_cells HX.out.box; have fP := box_frozen HX.out.box; have hBP := box_lt HX.out.box
  have hzP := HX.out.sz
  cases qz
  ·go_upto_region 5 with fail
   have hS : (fun w' : World => ∀ i : Nat, w'.cell? ⟨w.heap.size, i, none⟩ = ((Dc.cl x (.slice a xs.length cap) (.slice sa ls.length scap)).toArray : Array Value)[i]?) wx.drew := kP
   have HX0 := HX; clear HX; have HX := Lib.hid (HX0.out.keep (show Below wx.heap.size wx wx.drew from (Below.refl _ _).drew)); clear HX0
   clear kP fP hBP hzP
   refine wp_region_till (fun w' => ∀ i : Nat, w'.cell? ⟨w.heap.size, i, none⟩ = ((Dc.cl x (.slice a xs.length cap) (.slice sa ls.length scap)).toArray : Array Value)[i]?) (fun _ => false) (by kernel_rfl) ?_
   refine' wpTill_take (i := 0) (oi := _) (v := _) rfl (by kernel_rfl) (by kernel_rfl) (by kernel_rfl) (by kernel_rfl) (fun _ _ _ h => h) (yieldsIf_load_mid (by rfl) _ _ rfl _ _ rfl (Dc.cl x (.slice a xs.length cap) (.slice sa ls.length scap)) _ (fun wq hq => range_of_cells hq) Tryz.underlying40 rfl size_Dec) hS ?_
   try simp only [List.getElem_toArray, List.getElem_cons_succ, List.getElem_cons_zero, Act.put, List.setIfInBounds_toArray, List.set_cons_zero, List.set_cons_succ]
   refine tk (i := 1) hS ?_
   refine tk (i := 2) hS ?_
   refine tk (i := 3) hS ?_
   refine wpTill_op (i := 4) (by kernel_rfl) rfl (fun K hK => ?_)
   go_simp
   refine (specNumEvent_any ⟨x.field.number, x.field.kind, x.field.rep, x.field.packed, x.field.msg⟩ u _).mono ?_
   rintro r w3 ⟨rfl, hb3⟩
   have H3 := Lib.hid (HX.out.keep hb3); clear HX
   have hS3 : (fun w' : World => ∀ i : Nat, w'.cell? ⟨w.heap.size, i, none⟩ = ((Dc.cl x (.slice a xs.length cap) (.slice sa ls.length scap)).toArray : Array Value)[i]?) w3 := box_cells H3.out.box
   clear hb3 hS
   obtain ⟨ev, hev⟩ : ∃ q, numEv ⟨x.field.number, x.field.kind, x.field.rep, x.field.packed, x.field.msg⟩ u = q := ⟨_, rfl⟩
   rw [hev]
   clear hev
   refine hK.out _ _ (fun _ => hS3) ?_
   clear hK K
   try simp only [List.getElem_toArray, List.getElem_cons_succ, List.getElem_cons_zero, Act.put, List.setIfInBounds_toArray, List.set_cons_zero, List.set_cons_succ]
   refine wpTill_op (i := 5) (by kernel_rfl) rfl (fun K hK => ?_)
   go_simp
   refine (l15Tell_any x a cap _ sa scap ls ev B0 _ H3.out.lv (by have := H3.out.sz; omega) h8).mono ?_
   rintro r w9 ⟨sa9, scap9, ea, ecap, rfl, hp9, he9, hb9⟩
   obtain ⟨⟨e, ms, es⟩, hE⟩ : ∃ O, O = behind [ev] (settle x ls) := ⟨_, rfl⟩
   have hm8 : ms.length ≤ 8 := by have h0 := (settle_len x ls).1; have e1 : (settle x ls).2.1 = ms := (congrArg (fun o : Outc => o.2.1) hE).symm; rw [e1] at h0; omega
   rw [← hE] at hp9 he9 ⊢
   clear hE
   have hzw := H3.out.sz
   have H9 := Lib.hid (H3.out.keep hb9)
   have P2 := Lib.hid hp9; have P3 := Lib.hid (owns_le he9 (show B0 ≤ _ by omega)); clear hp9 he9 hb9 hS3
   simp only
   have hS9 : (fun w' : World => ∀ i : Nat, w'.cell? ⟨w.heap.size, i, none⟩ = ((Dc.cl x (.slice a xs.length cap) (.slice sa ls.length scap)).toArray : Array Value)[i]?) w9 := box_cells H9.out.box
   refine hK.out _ _ (fun _ => hS9) ?_
   clear hK K
   try simp only [List.getElem_toArray, List.getElem_cons_succ, List.getElem_cons_zero, Act.put, List.setIfInBounds_toArray, List.set_cons_zero, List.set_cons_succ]
   have hS := hS9
   refine tk (i := 6) hS ?_
   refine tk (i := 7) hS ?_
   refine wpTill_op (i := 8) (by kernel_rfl) rfl (fun K hK => ?_)
   refine step_store_row rfl 40 _ _ rfl (w.heap.size + 1) (Dc.cl e (.slice a xs.length cap) (.slice sa9 ms.length scap9)).toArray rfl rfl 40 dz0.toArray H9.out.res size_Dec rfl (one_Dec _ _ _ _ _ _ _) ?_
   have hSa : (fun w' : World => ∀ i : Nat, w'.cell? ⟨w.heap.size, i, none⟩ = ((Dc.cl x (.slice a xs.length cap) (.slice sa ls.length scap)).toArray : Array Value)[i]?) (w9.setRow (w.heap.size + 1) (Dc.cl e (.slice a xs.length cap) (.slice sa9 ms.length scap9)).toArray) := fun i => (World.cell?_of_block (a := ⟨w.heap.size, i, none⟩) (setRow_other _ _ _ _ (by simp))).trans (hS9 i)
   refine hK.out _ _ (fun _ => hSa) ?_
   clear hK K
   try simp only [List.getElem_toArray, List.getElem_cons_succ, List.getElem_cons_zero, Act.put, List.setIfInBounds_toArray, List.set_cons_zero, List.set_cons_succ]
   refine wpTill_op (i := 9) (by kernel_rfl) rfl (fun K hK => ?_)
   go_simp
   refine hK.out _ _ (fun _ => hSa) ?_
   clear hK K
   refine wpTill_done (by kernel_rfl) ?_ _
   go_wp2
   exact StM.done Tryz.results160 H9.out H9.out.sh P2.out P3.out (by omega) rfl rfl
  ·skip
   go_wp2_with (first | ((with_reducible show wpList _ _ _ (⟨_, Op.load 40 _, _, _, _, _⟩ :: _) _ _); refine wlm w.heap.size (Dc.cl x (.slice a xs.length cap) (.slice sa ls.length scap)) (range_of_box (t := 40) HX.out.box) ?_))
   refine (l15Settle_any x a cap _ sa scap ls B0 _ HX.out.lv (by have := HX.out.sz; omega) h8).mono ?_
   rintro r w9 ⟨sa9, scap9, ea, ecap, rfl, hp9, he9, hb9⟩
   obtain ⟨⟨e, ms, es⟩, hE⟩ : ∃ O, O = settle x ls := ⟨_, rfl⟩
   have hm8 : ms.length ≤ 8 := by have h0 := (settle_len (x) ls).1; have e1 : (settle (x) ls).2.1 = ms := (congrArg (fun o : Outc => o.2.1) hE).symm; rw [e1] at h0; omega
   rw [← hE] at hp9 he9 ⊢
   clear hE
   have hzw := HX.out.sz
   have H9 := Lib.hid (HX.out.keep hb9)
   have P2 := Lib.hid hp9; have P3 := Lib.hid (owns_le he9 (show B0 ≤ _ by omega)); clear hp9 he9 hb9
   simp only
   go_wp2_with (first | ((with_reducible show wpList _ _ _ (⟨_, Op.store 40 _ _, _, _, _, _⟩ :: _) _ _); refine wsq (w.heap.size + 1) (Dc.cl e (.slice a xs.length cap) (.slice sa9 ms.length scap9)).toArray H9.out.res (one_Dec _ _ _ _ _ _ _) ?_))
   exact StM.done Tryz.results160 H9.out H9.out.sh P2.out P3.out (by omega) rfl rfl
 ·have e8 : (d.mode != 8) = true := by simp; omega
  clear hm
  have HX0 := Lib.hid (show StM B0 w ((w.alloc (.cells (c1111 (.slice a xs.length cap) (.slice sa ls.length scap) d.p 2 d.bits d.have_ d.start d.at_ d.field d.wire d.want d.utf d.end_).toArray 40)).alloc (.cells dz0.toArray 40)) (modeD d 2) xs ls a cap rs sa scap from StM.start (d := (modeD d 2)) ho hl hB0)
  clear ho hl
  go_upto_region 3 with fail
  obtain ⟨wx, hwx⟩ : ∃ q, ((w.alloc (.cells (c1111 (.slice a xs.length cap) (.slice sa ls.length scap) d.p 2 d.bits d.have_ d.start d.at_ d.field d.wire d.want d.utf d.end_).toArray 40)).alloc (.cells dz0.toArray 40)) = q := ⟨_, rfl⟩
  rw [hwx]
  rw [hwx] at HX0
  clear hwx
  obtain ⟨x, hx⟩ : ∃ q, (modeD d 2) = q := ⟨_, rfl⟩
  rw [hx] at HX0
  have HX := HX0; clear hx HX0
  obtain ⟨qz, hqz⟩ : ∃ q, sameF ⟨x.field.number, x.field.kind, x.field.rep, x.field.packed, x.field.msg⟩ ⟨0, 0, false, false, 0⟩ = q := ⟨_, rfl⟩
  have kP := box_cells HX.out.box; have fP := box_frozen HX.out.box; have hBP := box_lt HX.out.box
  have hzP := HX.out.sz
  cases qz
  ·go_upto_region 5 with fail
   have hS : (fun w' : World => ∀ i : Nat, w'.cell? ⟨w.heap.size, i, none⟩ = ((Dc.cl x (.slice a xs.length cap) (.slice sa ls.length scap)).toArray : Array Value)[i]?) wx.drew := kP
   have HX0 := HX; clear HX; have HX := Lib.hid (HX0.out.keep (show Below wx.heap.size wx wx.drew from (Below.refl _ _).drew)); clear HX0
   clear kP fP hBP hzP
   refine wp_region_till (fun w' => ∀ i : Nat, w'.cell? ⟨w.heap.size, i, none⟩ = ((Dc.cl x (.slice a xs.length cap) (.slice sa ls.length scap)).toArray : Array Value)[i]?) (fun _ => false) (by kernel_rfl) ?_
   refine' wpTill_take (i := 0) (oi := _) (v := _) rfl (by kernel_rfl) (by kernel_rfl) (by kernel_rfl) (by kernel_rfl) (fun _ _ _ h => h) (yieldsIf_load_mid (by rfl) _ _ rfl _ _ rfl (Dc.cl x (.slice a xs.length cap) (.slice sa ls.length scap)) _ (fun wq hq => range_of_cells hq) Tryz.underlying40 rfl size_Dec) hS ?_
   try simp only [List.getElem_toArray, List.getElem_cons_succ, List.getElem_cons_zero, Act.put, List.setIfInBounds_toArray, List.set_cons_zero, List.set_cons_succ]
   refine tk (i := 1) hS ?_
   refine tk (i := 2) hS ?_
   refine tk (i := 3) hS ?_
   refine wpTill_op (i := 4) (by kernel_rfl) rfl (fun K hK => ?_)
   go_simp
   refine (specNumEvent_any ⟨x.field.number, x.field.kind, x.field.rep, x.field.packed, x.field.msg⟩ u _).mono ?_
   rintro r w3 ⟨rfl, hb3⟩
   have H3 := Lib.hid (HX.out.keep hb3); clear HX
   have hS3 : (fun w' : World => ∀ i : Nat, w'.cell? ⟨w.heap.size, i, none⟩ = ((Dc.cl x (.slice a xs.length cap) (.slice sa ls.length scap)).toArray : Array Value)[i]?) w3 := box_cells H3.out.box
   clear hb3 hS
   obtain ⟨ev, hev⟩ : ∃ q, numEv ⟨x.field.number, x.field.kind, x.field.rep, x.field.packed, x.field.msg⟩ u = q := ⟨_, rfl⟩
   rw [hev]
   clear hev
   refine hK.out _ _ (fun _ => hS3) ?_
   clear hK K
   try simp only [List.getElem_toArray, List.getElem_cons_succ, List.getElem_cons_zero, Act.put, List.setIfInBounds_toArray, List.set_cons_zero, List.set_cons_succ]
   refine wpTill_op (i := 5) (by kernel_rfl) rfl (fun K hK => ?_)
   go_simp
   refine (l15Tell_any x a cap _ sa scap ls ev B0 _ H3.out.lv (by have := H3.out.sz; omega) h8).mono ?_
   rintro r w9 ⟨sa9, scap9, ea, ecap, rfl, hp9, he9, hb9⟩
   obtain ⟨⟨e, ms, es⟩, hE⟩ : ∃ O, O = behind [ev] (settle x ls) := ⟨_, rfl⟩
   have hm8 : ms.length ≤ 8 := by have h0 := (settle_len x ls).1; have e1 : (settle x ls).2.1 = ms := (congrArg (fun o : Outc => o.2.1) hE).symm; rw [e1] at h0; omega
   rw [← hE] at hp9 he9 ⊢
   clear hE
   have hzw := H3.out.sz
   have H9 := Lib.hid (H3.out.keep hb9)
   have P2 := Lib.hid hp9; have P3 := Lib.hid (owns_le he9 (show B0 ≤ _ by omega)); clear hp9 he9 hb9 hS3
   simp only
   have hS9 : (fun w' : World => ∀ i : Nat, w'.cell? ⟨w.heap.size, i, none⟩ = ((Dc.cl x (.slice a xs.length cap) (.slice sa ls.length scap)).toArray : Array Value)[i]?) w9 := box_cells H9.out.box
   refine hK.out _ _ (fun _ => hS9) ?_
   clear hK K
   try simp only [List.getElem_toArray, List.getElem_cons_succ, List.getElem_cons_zero, Act.put, List.setIfInBounds_toArray, List.set_cons_zero, List.set_cons_succ]
   have hS := hS9
   refine tk (i := 6) hS ?_
   refine tk (i := 7) hS ?_
   refine wpTill_op (i := 8) (by kernel_rfl) rfl (fun K hK => ?_)
   refine step_store_row rfl 40 _ _ rfl (w.heap.size + 1) (Dc.cl e (.slice a xs.length cap) (.slice sa9 ms.length scap9)).toArray rfl rfl 40 dz0.toArray H9.out.res size_Dec rfl (one_Dec _ _ _ _ _ _ _) ?_
   have hSa : (fun w' : World => ∀ i : Nat, w'.cell? ⟨w.heap.size, i, none⟩ = ((Dc.cl x (.slice a xs.length cap) (.slice sa ls.length scap)).toArray : Array Value)[i]?) (w9.setRow (w.heap.size + 1) (Dc.cl e (.slice a xs.length cap) (.slice sa9 ms.length scap9)).toArray) := fun i => (World.cell?_of_block (a := ⟨w.heap.size, i, none⟩) (setRow_other _ _ _ _ (by simp))).trans (hS9 i)
   refine hK.out _ _ (fun _ => hSa) ?_
   clear hK K
   try simp only [List.getElem_toArray, List.getElem_cons_succ, List.getElem_cons_zero, Act.put, List.setIfInBounds_toArray, List.set_cons_zero, List.set_cons_succ]
   refine wpTill_op (i := 9) (by kernel_rfl) rfl (fun K hK => ?_)
   go_simp
   refine hK.out _ _ (fun _ => hSa) ?_
   clear hK K
   refine wpTill_done (by kernel_rfl) ?_ _
   go_wp2
   exact StM.done Tryz.results160 H9.out H9.out.sh P2.out P3.out (by omega) rfl rfl
  ·skip
   go_wp2_with (first | ((with_reducible show wpList _ _ _ (⟨_, Op.load 40 _, _, _, _, _⟩ :: _) _ _); refine wlm w.heap.size (Dc.cl x (.slice a xs.length cap) (.slice sa ls.length scap)) (range_of_box (t := 40) HX.out.box) ?_))
   refine (l15Settle_any x a cap _ sa scap ls B0 _ HX.out.lv (by have := HX.out.sz; omega) h8).mono ?_
   rintro r w9 ⟨sa9, scap9, ea, ecap, rfl, hp9, he9, hb9⟩
   obtain ⟨⟨e, ms, es⟩, hE⟩ : ∃ O, O = settle x ls := ⟨_, rfl⟩
   have hm8 : ms.length ≤ 8 := by have h0 := (settle_len (x) ls).1; have e1 : (settle (x) ls).2.1 = ms := (congrArg (fun o : Outc => o.2.1) hE).symm; rw [e1] at h0; omega
   rw [← hE] at hp9 he9 ⊢
   clear hE
   have hzw := HX.out.sz
   have H9 := Lib.hid (HX.out.keep hb9)
   have P2 := Lib.hid hp9; have P3 := Lib.hid (owns_le he9 (show B0 ≤ _ by omega)); clear hp9 he9 hb9
   simp only
   go_wp2_with (first | ((with_reducible show wpList _ _ _ (⟨_, Op.store 40 _ _, _, _, _, _⟩ :: _) _ _); refine wsq (w.heap.size + 1) (Dc.cl e (.slice a xs.length cap) (.slice sa9 ms.length scap9)).toArray H9.out.res (one_Dec _ _ _ _ _ _ _) ?_))
   exact StM.done Tryz.results160 H9.out H9.out.sh P2.out P3.out (by omega) rfl rfl
set_option maxRecDepth 100000 in
set_option maxHeartbeats 4000000 in
theorem l16Fix_some (d : Dc) (a : Option Addr) (cap : Nat) (rs : List ShR) (xs : List Shp) (sa : Option Addr) (scap : Nat) (ls : List Lvl) (B0 : Nat) (b wd : Int) (w : World) (ho : OwnShs w B0 77 34 (.slice a xs.length cap) xs.length rs xs) (hl : w.ownsRow B0 67 2 (.slice sa ls.length scap) ls.length (ls.flatMap Lvl.cs)) (hB0 : B0 ≤ w.heap.size) (h8 : ls.length ≤ 8) (hbits : WU64 d.bits) (hhave : W64 d.have_) :
  Calls Tryz.prog 137 #[d.val (.slice a xs.length cap) (.slice sa ls.length scap), .int .i64 b, .int .i64 wd] w (SomeB B0 w xs) := by
 have HO := Lib.hid (StM.start (d := d) ho hl hB0); clear ho hl
 go_enter Tryz.func137, Tryz.ntmps137
 go_wp2_with fail
 refine (fixByte_any d.bits d.have_ b _ hbits hhave).mono ?_
 rintro r w1 ⟨s, h, rfl, hs, hh2, hb1⟩
 have H1 := Lib.hid (HO.out.keep hb1); clear HO hb1 hbits hhave
 have kP := box_cells H1.out.box; have fP := box_frozen H1.out.box; have hBP := box_lt H1.out.box
 have hzP := H1.out.sz
 go_upto_region 3 with fail
 obtain ⟨w2, hw2⟩ : ∃ q, (((w1.setCell ⟨w.heap.size, 6, none⟩ (.int .u64 s)).setCell ⟨w.heap.size, 7, none⟩ (.int .i64 h)).alloc (.cells #[.int .u64 s, .int .i64 h] 32)) = q := ⟨_, rfl⟩
 rw [hw2]
 obtain ⟨x, hx_⟩ : ∃ q : Dc, ⟨d.p, d.mode, s, h, d.start, d.at_, d.field, d.wire, d.want, d.utf, d.end_⟩ = q := ⟨_, rfl⟩
 have hb_ : w2.heap[w.heap.size]? = some (.cells (Dc.cl x (.slice a xs.length cap) (.slice sa ls.length scap)).toArray 40 (0, 0)) := by rw [← hw2, ← hx_]; apply hset_eq; (repeat (first | (with_reducible exact H1.out.box) | (with_reducible apply hset_set) | (with_reducible apply hset_alloc))); simp only [List.setIfInBounds_toArray, List.set_cons_zero, List.set_cons_succ]
 have hS2 := Lib.hid (show w2.heap[w1.heap.size]? = some (.cells #[.int .u64 s, .int .i64 h] 32 (0, 0)) by rw [← hw2]; exact hset_new (by simp))
 have hz1 := H1.out.sz
 have H2 := Lib.hid (show StM B0 w w2 x xs ls a cap rs sa scap from H1.out.upd (by rw [← hw2]; (repeat (first | (with_reducible refine only_cell ?_ _ _) | (with_reducible refine only_alloc ?_ _))); exact only_refl _ _) hb_); clear hb_ hw2 H1
 obtain ⟨S, hS⟩ : ∃ q, w1.heap.size = q := ⟨_, rfl⟩
 have hSw : w.heap.size + 1 < S := by omega
 rw [hS] at hS2
 try simp only [hS]
 clear hS hz1 kP fP hBP hzP hx_
 have kS := box_cells hS2.out; have fS := box_frozen hS2.out; have hBS := box_lt hS2.out
 by_cases hlt : h < wd
 ·skip
  have kP := box_cells H2.out.box; have fP := box_frozen H2.out.box; have hBP := box_lt H2.out.box
  have hzP := H2.out.sz
  go_wp2_with (first | ((with_reducible show wpList _ _ _ (⟨_, Op.load 40 _, _, _, _, _⟩ :: _) _ _); refine wlm w.heap.size (Dc.cl x (.slice a xs.length cap) (.slice sa ls.length scap)) (range_of_box (t := 40) H2.out.box) ?_) | ((with_reducible show wpList _ _ _ (⟨_, Op.store 40 _ _, _, _, _, _⟩ :: _) _ _); refine wsq (w.heap.size + 1) (Dc.cl x (.slice a xs.length cap) (.slice sa ls.length scap)).toArray (hset_alloc H2.out.res) (one_Dec _ _ _ _ _ _ _) ?_))
  have hka := Lib.hid (H2.out.keep ((Below.refl _ _).alloc (Nat.le_refl _) (.cells #[] 38)))
  exact StM.done (es := []) Tryz.results137 hka.out hka.out.sh hka.out.lv (owns_le (own_built _ 38 7) (by have := H2.out.sz; have := H2.out.hB; omega)) h8 rfl rfl
 ·skip
  have kP := box_cells H2.out.box; have fP := box_frozen H2.out.box; have hBP := box_lt H2.out.box
  have hzP := H2.out.sz
  go_upto_region 6 with fail
  obtain ⟨w3, hw3⟩ : ∃ q, ((w2.setCell ⟨w.heap.size, 6, none⟩ (.int .u64 0)).setCell ⟨w.heap.size, 7, none⟩ (.int .i64 0)) = q := ⟨_, rfl⟩
  rw [hw3]
  obtain ⟨y, hx_⟩ : ∃ q : Dc, ⟨x.p, x.mode, 0, 0, x.start, x.at_, x.field, x.wire, x.want, x.utf, x.end_⟩ = q := ⟨_, rfl⟩
  have hb_ : w3.heap[w.heap.size]? = some (.cells (Dc.cl y (.slice a xs.length cap) (.slice sa ls.length scap)).toArray 40 (0, 0)) := by rw [← hw3, ← hx_]; apply hset_eq; (repeat (first | (with_reducible exact H2.out.box) | (with_reducible apply hset_set) | (with_reducible apply hset_alloc))); simp only [List.setIfInBounds_toArray, List.set_cons_zero, List.set_cons_succ]
  have hS3 := Lib.hid (show w3.heap[S]? = some (.cells #[.int .u64 s, .int .i64 h] 32 (0, 0)) by rw [← hw3]; exact hset_other (hset_other hS2.out (by simp; omega)) (by simp; omega))
  have H3 := Lib.hid (show StM B0 w w3 y xs ls a cap rs sa scap from H2.out.upd (by rw [← hw3]; (repeat (first | (with_reducible refine only_cell ?_ _ _) | (with_reducible refine only_alloc ?_ _))); exact only_refl _ _) hb_); clear hb_ hw3 H2
  clear hx_ kP fP hBP hzP kS fS hBS hS2
  have kS := box_cells hS3.out; have fS := box_frozen hS3.out; have hBS := box_lt hS3.out
  have kP := box_cells H3.out.box; have fP := box_frozen H3.out.box; have hBP := box_lt H3.out.box
  have hzP := H3.out.sz
  by_cases hm : y.mode = 8
  ·have e8 : (y.mode == 8) = true := by simp; omega
   clear hm
   by_cases h0 : 0 < y.want
   ·have e0 : decide (0 < y.want) = true := by simp; omega
    by_cases h1 : y.want < wd
    ·have e1 : decide (y.want < wd) = true := by simp; omega
     go_wp2_with fail
     refine (specNumEvent_any ⟨y.field.number, y.field.kind, y.field.rep, y.field.packed, y.field.msg⟩ s _).mono ?_
     rintro r w4 ⟨rfl, hb4⟩
     obtain ⟨⟨xk, xf, xb, xl, xt, xc, xa⟩, hev⟩ : ∃ q : Ev, numEv ⟨y.field.number, y.field.kind, y.field.rep, y.field.packed, y.field.msg⟩ s = q := ⟨_, rfl⟩
     rw [hev]
     clear hev
     have H4 := Lib.hid (H3.out.keep hb4); clear H3 hb4 kP fP hBP hzP kS fS hBS hS3 e8 e0 e1 h0 h1
     have hal : Below w4.heap.size w4 (w4.alloc (.cells #[.int .i64 xk, .int .i64 xf, .int .u64 xb, .int .i64 xl, .string xt, .int .i64 xc, .int .i64 xa] 38)) := (Below.refl _ _).alloc (Nat.le_refl _) _
     have H4a := Lib.hid (H4.out.keep hal)
     have kP := box_cells H4.out.box; have fP := box_frozen H4.out.box; have hBP := box_lt H4.out.box
     go_wp2_with (first | ((with_reducible show wpList _ _ _ (⟨_, Op.load 40 _, _, _, _, _⟩ :: _) _ _); refine wlm w.heap.size (Dc.cl y (.slice a xs.length cap) (.slice sa ls.length scap)) (range_of_box (t := 40) H4a.out.box) ?_))
     refine (l15Fail_any y a cap xs.length sa scap ls.length 9 y.at_ _).mono ?_
     rintro r w5 ⟨ea, ecap, rfl, ho5, hb5⟩
     have hE5 := Lib.hid ((hb5.block w4.heap.size (by simp)).trans (hset_new (w := w4) (o := .cells #[.int .i64 xk, .int .i64 xf, .int .u64 xb, .int .i64 xl, .string xt, .int .i64 xc, .int .i64 xa] 38) rfl))
     have H5 := Lib.hid (H4a.out.keep hb5)
     have hz4 := H4.out.sz
     have hz5 := hb5.size
     simp only [World.size_alloc] at hz5 ho5
     obtain ⟨e, he⟩ : ∃ q, failD y 9 y.at_ = q := ⟨_, rfl⟩
     obtain ⟨fe, hfe⟩ : ∃ q, failE 9 y.at_ = q := ⟨_, rfl⟩
     rw [he]
     rw [hfe] at ho5
     clear he hfe hb5 hal H4 H4a kP fP hBP
     have Q2 := Lib.hid (show w5.ownsRow B0 38 7 (.slice ea 1 ecap) 1 ([fe].flatMap Ev.cs) by have hq := owns_le ho5 (show B0 ≤ w4.heap.size + 1 by omega); simpa using hq); clear ho5
     go_wp2_with (first | ((with_reducible show wpList _ _ _ (⟨_, Op.store 40 _ _, _, _, _, _⟩ :: _) _ _); refine wsq w5.heap.size (Dc.cl e (.slice a xs.length cap) (.slice sa ls.length scap)).toArray (hset_new rfl) (one_Dec _ _ _ _ _ _ _) ?_))
     have hbx : Below w5.heap.size w5 ((w5.alloc (.cells dz0.toArray 40)).setRow w5.heap.size (Dc.cl e (.slice a xs.length cap) (.slice sa ls.length scap)).toArray) := by exact bl
     have hY_ : ((w5.alloc (.cells dz0.toArray 40)).setRow w5.heap.size (Dc.cl e (.slice a xs.length cap) (.slice sa ls.length scap)).toArray).heap[w5.heap.size]? = some (.cells (Dc.cl e (.slice a xs.length cap) (.slice sa ls.length scap)).toArray 40 (0, 0)) := hset_row (cs := dz0.toArray) (hset_new rfl)
     obtain ⟨w6, hw6⟩ : ∃ w6, (w5.alloc (.cells dz0.toArray 40)).setRow w5.heap.size (Dc.cl e (.slice a xs.length cap) (.slice sa ls.length scap)).toArray = w6 := ⟨_, rfl⟩
     rw [hw6] at hbx hY_ ⊢
     clear hw6
     have hlE := box_lt hE5.out
     have hbxd : Below w5.heap.size w5 w6.drew := hbx.trans (Below.refl _ _).drew
     have H6 := Lib.hid (H5.out.keep hbxd); clear H5
     have Q2b := Lib.hid (owns_below Q2.out hbxd (Nat.le_refl _)); clear Q2; have Q2 := Q2b; clear Q2b
     have hz6 := hbx.size
     have kE := box_cells ((hbxd.block _ hlE).trans hE5.out)
     have kY := box_cells (show w6.drew.heap[w5.heap.size]? = _ from hY_)
     have hlY : w5.heap.size < w6.heap.size := box_lt hY_
     clear hY_ hE5 hbx hbxd
     obtain ⟨E, hE⟩ : ∃ q, w4.heap.size = q := ⟨_, rfl⟩
     obtain ⟨Y, hY⟩ : ∃ q, w5.heap.size = q := ⟨_, rfl⟩
     rw [hE] at kE hz4 hz5 hlE
     rw [hY] at kY hz5 hz6 hlY hlE
     try simp only [hE]
     try simp only [hY]
     clear hE hY
     refine wp_region_till (fun w' : World => (∀ i : Nat, w'.cell? ⟨Y, i, none⟩ = ((Dc.cl e (.slice a xs.length cap) (.slice sa ls.length scap)).toArray : Array Value)[i]?) ∧ (∀ i : Nat, w'.cell? ⟨E, i, none⟩ = (#[.int .i64 xk, .int .i64 xf, .int .u64 xb, .int .i64 xl, .string xt, .int .i64 xc, .int .i64 xa] : Array Value)[i]?)) (fun _ => false) (by kernel_rfl) ?_
     have hS : (fun w' : World => (∀ i : Nat, w'.cell? ⟨Y, i, none⟩ = ((Dc.cl e (.slice a xs.length cap) (.slice sa ls.length scap)).toArray : Array Value)[i]?) ∧ (∀ i : Nat, w'.cell? ⟨E, i, none⟩ = (#[.int .i64 xk, .int .i64 xf, .int .u64 xb, .int .i64 xl, .string xt, .int .i64 xc, .int .i64 xa] : Array Value)[i]?)) w6.drew := ⟨kY, kE⟩
     clear kY kE
     refine' wpTill_take (i := 0) (oi := _) (v := _) rfl (by kernel_rfl) (by kernel_rfl) (by kernel_rfl) (by kernel_rfl) (fun _ _ _ h => h) (yieldsIf_load_mid (by rfl) _ _ rfl _ _ rfl (Dc.cl e (.slice a xs.length cap) (.slice sa ls.length scap)) _ (fun wq hq => range_of_cells hq.1) Tryz.underlying40 rfl size_Dec) hS ?_
     try simp only [List.getElem_toArray, List.getElem_cons_succ, List.getElem_cons_zero, Act.put, List.setIfInBounds_toArray, List.set_cons_zero, List.set_cons_succ]
     refine' wpTill_take (i := 1) (oi := _) (v := .agg #[.int .i64 xk, .int .i64 xf, .int .u64 xb, .int .i64 xl, .string xt, .int .i64 xc, .int .i64 xa]) rfl (by kernel_rfl) (by kernel_rfl) (by kernel_rfl) (by kernel_rfl) (fun _ _ _ h => h) (yieldsIf_load_mid (by rfl) _ _ rfl _ _ rfl [.int .i64 xk, .int .i64 xf, .int .u64 xb, .int .i64 xl, .string xt, .int .i64 xc, .int .i64 xa] _ (fun wq hq => range_of_cells hq.2) Tryz.underlying38 rfl (by kernel_rfl)) hS ?_
     try simp only [List.getElem_toArray, List.getElem_cons_succ, List.getElem_cons_zero, Act.put, List.setIfInBounds_toArray, List.set_cons_zero, List.set_cons_succ]
     refine tk (i := 3) hS ?_
     refine wpTill_op (i := 2) (by kernel_rfl) rfl (fun K hK => ?_)
     go_simp
     have hb67 : Below w6.heap.size w6.drew ((w6.alloc (.cells #[.int .i64 xk, .int .i64 xf, .int .u64 xb, .int .i64 xl, .string xt, .int .i64 xc, .int .i64 xa] 38)).drew) := (let h := ((Below.refl w6.heap.size w6).alloc (Nat.le_refl _) (.cells #[.int .i64 xk, .int .i64 xf, .int .u64 xb, .int .i64 xl, .string xt, .int .i64 xc, .int .i64 xa] 38)).drew; ⟨h.os, h.tape, h.output, h.size, h.block⟩)
     have hz7 : ((w6.alloc (.cells #[.int .i64 xk, .int .i64 xf, .int .u64 xb, .int .i64 xl, .string xt, .int .i64 xc, .int .i64 xa] 38)).drew).heap.size = w6.heap.size + 1 := by simp
     have hB_ : ((w6.alloc (.cells #[.int .i64 xk, .int .i64 xf, .int .u64 xb, .int .i64 xl, .string xt, .int .i64 xc, .int .i64 xa] 38)).drew).ownsRow w6.heap.size 38 7 (.slice (some ⟨w6.heap.size, 0, none⟩) 1 1) 1 (⟨xk, xf, xb, xl, xt, xc, xa⟩ : Ev).cs := World.ownsRow.of_box w6 ⟨xk, xf, xb, xl, xt, xc, xa⟩ 38
     obtain ⟨w7, hw7⟩ : ∃ w7, (w6.alloc (.cells #[.int .i64 xk, .int .i64 xf, .int .u64 xb, .int .i64 xl, .string xt, .int .i64 xc, .int .i64 xa] 38)).drew = w7 := ⟨_, rfl⟩
     rw [hw7] at hb67 hB_ hz7 ⊢
     clear hw7
     have hb67' : Below w6.drew.heap.size w6.drew w7 := hb67
     have H7 := Lib.hid (H6.out.keep hb67'); clear H6
     have Q2b := Lib.hid (owns_below Q2.out hb67' (Nat.le_refl _)); clear Q2; have Q2 := Q2b; clear Q2b
     have hS7 : (fun w' : World => (∀ i : Nat, w'.cell? ⟨Y, i, none⟩ = ((Dc.cl e (.slice a xs.length cap) (.slice sa ls.length scap)).toArray : Array Value)[i]?) ∧ (∀ i : Nat, w'.cell? ⟨E, i, none⟩ = (#[.int .i64 xk, .int .i64 xf, .int .u64 xb, .int .i64 xl, .string xt, .int .i64 xc, .int .i64 xa] : Array Value)[i]?)) w7 := ⟨fun i => (hb67.cell (p := ⟨Y, i, none⟩) hlY).trans (hS.1 i), fun i => (hb67.cell (p := ⟨E, i, none⟩) (by simp only; omega)).trans (hS.2 i)⟩
     clear hb67 hb67' hS
     have HB := Lib.hid hB_; clear hB_
     refine hK.out _ _ (fun _ => hS7) ?_
     clear hK K
     try simp only [List.getElem_toArray, List.getElem_cons_succ, List.getElem_cons_zero, Act.put, List.setIfInBounds_toArray, List.set_cons_zero, List.set_cons_succ]
     obtain ⟨i0, hi, iz0, iz1, iz2⟩ := info_parts info_EvM
     have hnil := own_nilc2 Q2.out
     have HN := Lib.hid (sl_newsN (w := w7) (cs := Ev.cs) (xs := [fe]) (a := ea) (by omega) ev_len (evs_of_own Q2.out rfl))
     refine wpTill_op (i := 4) (by kernel_rfl) rfl (fun K hK => ?_)
     refine step_append_any rfl _ _ 43 rfl w6.heap.size 38 i0 _ 7 64 Tryz.underlying43 hi iz0 iz1 iz2 rfl (by decide) _ 1 (⟨xk, xf, xb, xl, xt, xc, xa⟩ : Ev).cs rfl HB.out ea 1 ecap ([fe].flatMap Ev.cs) rfl hnil (by rw [flatMap_len ev_len]; rfl) HN.out (flat_one ev_one _) (by unfold maxLen; omega) (by omega) (by omega) ?_
     intro v8 w8 hown8 hgr8
     obtain ⟨ea8, ecap8, rfl, _⟩ := own_sh hown8
     have hb78 : Below w6.heap.size w7 w8 := below_grown (Below.refl _ _) hgr8 (fun g e => by have := (HB.out.lt g e).1; omega) (by omega)
     have hgB : w7.grownBy w8 (some w6.heap.size) := hgr8
     clear hgr8
     have hgr8 := hgB
     have oth : ∀ t, 38 ≠ t → Other w7 (some w6.heap.size) t := fun t ht => (show Other w7 (Value.slice (some ⟨w6.heap.size, 0, none⟩) 1 1).ownBlock t from other_own HB.out ht)
     have H8 := Lib.hid (show StM B0 w w8 y xs ls a cap rs sa scap from ⟨(hgr8.block _ (box_lt H7.out.box) (by simp only [ne_eq, Option.some.injEq]; have := H7.out.sz; omega)).trans H7.out.box, (hgr8.block _ (box_lt H7.out.res) (by simp only [ne_eq, Option.some.injEq]; omega)).trans H7.out.res, H7.out.sh.keepBy hgr8 (oth _ (by decide)) (oth _ (by decide)), owns_keep H7.out.lv hgr8 (oth _ (by decide)), below_grown H7.out.bel hgr8 (fun g e => by have := Option.some.inj e; omega) (by omega), H7.out.hB⟩)
     have P3 := Lib.hid (show w8.ownsRow B0 38 7 (.slice ea8 ([⟨xk, xf, xb, xl, xt, xc, xa⟩, fe] : List Ev).length ecap8) ([⟨xk, xf, xb, xl, xt, xc, xa⟩, fe] : List Ev).length (([⟨xk, xf, xb, xl, xt, xc, xa⟩, fe] : List Ev).flatMap Ev.cs) from owns_le hown8 (by have := H7.out.hB; omega)); clear hown8 hgB hgr8 oth
     have hS8 : (fun w' : World => (∀ i : Nat, w'.cell? ⟨Y, i, none⟩ = ((Dc.cl e (.slice a xs.length cap) (.slice sa ls.length scap)).toArray : Array Value)[i]?) ∧ (∀ i : Nat, w'.cell? ⟨E, i, none⟩ = (#[.int .i64 xk, .int .i64 xf, .int .u64 xb, .int .i64 xl, .string xt, .int .i64 xc, .int .i64 xa] : Array Value)[i]?)) w8 := ⟨fun i => (hb78.cell (p := ⟨Y, i, none⟩) hlY).trans (hS7.1 i), fun i => (hb78.cell (p := ⟨E, i, none⟩) (by simp only; omega)).trans (hS7.2 i)⟩
     refine hK.out _ _ (fun _ => hS8) ?_
     clear hK K hS7 HN H7 HB
     try simp only [List.getElem_toArray, List.getElem_cons_succ, List.getElem_cons_zero, Act.put, List.setIfInBounds_toArray, List.set_cons_zero, List.set_cons_succ]
     refine wpTill_op (i := 5) (by kernel_rfl) rfl (fun K hK => ?_)
     refine step_store_row rfl 40 _ _ rfl (w.heap.size + 1) (Dc.cl e (.slice a xs.length cap) (.slice sa ls.length scap)).toArray rfl rfl 40 dz0.toArray H8.out.res size_Dec rfl (one_Dec _ _ _ _ _ _ _) ?_
     have hS9 : (fun w' : World => (∀ i : Nat, w'.cell? ⟨Y, i, none⟩ = ((Dc.cl e (.slice a xs.length cap) (.slice sa ls.length scap)).toArray : Array Value)[i]?) ∧ (∀ i : Nat, w'.cell? ⟨E, i, none⟩ = (#[.int .i64 xk, .int .i64 xf, .int .u64 xb, .int .i64 xl, .string xt, .int .i64 xc, .int .i64 xa] : Array Value)[i]?)) (w8.setRow (w.heap.size + 1) (Dc.cl e (.slice a xs.length cap) (.slice sa ls.length scap)).toArray) := ⟨fun i => (World.cell?_of_block (a := ⟨Y, i, none⟩) (setRow_other _ _ _ _ (by simp; omega))).trans (hS8.1 i), fun i => (World.cell?_of_block (a := ⟨E, i, none⟩) (setRow_other _ _ _ _ (by simp; omega))).trans (hS8.2 i)⟩
     refine hK.out _ _ (fun _ => hS9) ?_
     clear hK K
     try simp only [List.getElem_toArray, List.getElem_cons_succ, List.getElem_cons_zero, Act.put, List.setIfInBounds_toArray, List.set_cons_zero, List.set_cons_succ]
     refine wpTill_op (i := 6) (by kernel_rfl) rfl (fun K hK => ?_)
     go_simp
     refine hK.out _ _ (fun _ => hS9) ?_
     clear hK K
     refine wpTill_done (by kernel_rfl) ?_ _
     go_wp2
     exact StM.done Tryz.results137 H8.out H8.out.sh H8.out.lv P3.out h8 rfl rfl
    ·have e1 : decide (y.want < wd) = false := by simp; omega
     go_wp2_with (first | ((with_reducible show wpList _ _ _ (⟨_, Op.load 40 _, _, _, _, _⟩ :: _) _ _); refine wlm w.heap.size (Dc.cl y (.slice a xs.length cap) (.slice sa ls.length scap)) (range_of_box (t := 40) H3.out.box) ?_))
     refine (l16Num_some y a cap rs xs sa scap ls B0 s _ H3.out.sh H3.out.lv (by have := H3.out.sz; omega) h8).mono ?_
     rintro r w9 ⟨e, ms, es, a9, cap9, rs9, sa9, scap9, ea, ecap, rfl, hs9, hp9, he9, hb9, hm8⟩
     have H9 := Lib.hid (H3.out.keep hb9); have P1 := Lib.hid hs9; have P2 := Lib.hid hp9; have P3 := Lib.hid he9; clear hs9 hp9 he9 hb9 H3
     go_wp2_with (first | ((with_reducible show wpList _ _ _ (⟨_, Op.store 40 _ _, _, _, _, _⟩ :: _) _ _); refine wsq (w.heap.size + 1) (Dc.cl e (.slice a9 xs.length cap9) (.slice sa9 ms.length scap9)).toArray H9.out.res (one_Dec _ _ _ _ _ _ _) ?_))
     exact StM.done Tryz.results137 H9.out P1.out P2.out P3.out (by omega) rfl rfl
   ·have e0 : decide (0 < y.want) = false := by simp; omega
    go_wp2_with (first | ((with_reducible show wpList _ _ _ (⟨_, Op.load 40 _, _, _, _, _⟩ :: _) _ _); refine wlm w.heap.size (Dc.cl y (.slice a xs.length cap) (.slice sa ls.length scap)) (range_of_box (t := 40) H3.out.box) ?_))
    refine (l16Num_some y a cap rs xs sa scap ls B0 s _ H3.out.sh H3.out.lv (by have := H3.out.sz; omega) h8).mono ?_
    rintro r w9 ⟨e, ms, es, a9, cap9, rs9, sa9, scap9, ea, ecap, rfl, hs9, hp9, he9, hb9, hm8⟩
    have H9 := Lib.hid (H3.out.keep hb9); have P1 := Lib.hid hs9; have P2 := Lib.hid hp9; have P3 := Lib.hid he9; clear hs9 hp9 he9 hb9 H3
    go_wp2_with (first | ((with_reducible show wpList _ _ _ (⟨_, Op.store 40 _ _, _, _, _, _⟩ :: _) _ _); refine wsq (w.heap.size + 1) (Dc.cl e (.slice a9 xs.length cap9) (.slice sa9 ms.length scap9)).toArray H9.out.res (one_Dec _ _ _ _ _ _ _) ?_))
    exact StM.done Tryz.results137 H9.out P1.out P2.out P3.out (by omega) rfl rfl
  ·have e8 : (y.mode == 8) = false := by simp; omega
   clear hm
   go_wp2_with (first | ((with_reducible show wpList _ _ _ (⟨_, Op.load 40 _, _, _, _, _⟩ :: _) _ _); refine wlm w.heap.size (Dc.cl y (.slice a xs.length cap) (.slice sa ls.length scap)) (range_of_box (t := 40) H3.out.box) ?_))
   refine (l16Num_some y a cap rs xs sa scap ls B0 s _ H3.out.sh H3.out.lv (by have := H3.out.sz; omega) h8).mono ?_
   rintro r w9 ⟨e, ms, es, a9, cap9, rs9, sa9, scap9, ea, ecap, rfl, hs9, hp9, he9, hb9, hm8⟩
   have H9 := Lib.hid (H3.out.keep hb9); have P1 := Lib.hid hs9; have P2 := Lib.hid hp9; have P3 := Lib.hid he9; clear hs9 hp9 he9 hb9 H3
   go_wp2_with (first | ((with_reducible show wpList _ _ _ (⟨_, Op.store 40 _ _, _, _, _, _⟩ :: _) _ _); refine wsq (w.heap.size + 1) (Dc.cl e (.slice a9 xs.length cap9) (.slice sa9 ms.length scap9)).toArray H9.out.res (one_Dec _ _ _ _ _ _ _) ?_))
   exact StM.done Tryz.results137 H9.out P1.out P2.out P3.out (by omega) rfl rfl
set_option maxRecDepth 100000 in
set_option maxHeartbeats 8000000 in
theorem l16Scan_some (d : Dc) (a : Option Addr) (cap : Nat) (rs : List ShR) (xs : List Shp) (sa : Option Addr) (scap : Nat) (ls : List Lvl) (B0 : Nat) (b at_ : Int) (w : World) (ho : OwnShs w B0 77 34 (.slice a xs.length cap) xs.length rs xs) (hl : w.ownsRow B0 67 2 (.slice sa ls.length scap) ls.length (ls.flatMap Lvl.cs)) (hB0 : B0 ≤ w.heap.size) (h8 : ls.length ≤ 8) (hn : xs.length ≤ 1048576) (hm : fldSum xs ≤ 1048576) (hbits : WU64 d.bits) (hhave : W64 d.have_) :
  Calls Tryz.prog 138 #[d.val (.slice a xs.length cap) (.slice sa ls.length scap), .int .i64 b, .int .i64 at_] w (SomeB B0 w xs) := by
 have HO := Lib.hid (StM.start (d := d) ho hl hB0); clear ho hl
 go_enter Tryz.func138, Tryz.ntmps138
 have HBB := Lib.hid hbits; have HHH := Lib.hid hhave; clear hbits hhave
 have kP := box_cells HO.out.box; have fP := box_frozen HO.out.box; have hBP := box_lt HO.out.box
 have hzP := HO.out.sz
 go_upto_region 1 with fail
 go_cut [28] from 10 to 28 (fun t wx => (∃ b : Bool, t = .bool b) ∧ StM B0 w wx d xs ls a cap rs sa scap)
 case first =>
  by_cases h0 : d.have_ = 0
  ·have e0 : (d.have_ == 0) = true := by simp; omega
   clear h0
   by_cases m1 : d.mode = 1
   ·have e1 : (d.mode == 1) = true := by simp; omega
    clear m1
    go_wp2_with fail
    go_meet
    case rel => exact ⟨⟨_, rfl⟩, HO.out⟩
   ·have e1 : (d.mode == 1) = false := by simp; omega
    by_cases m2 : d.mode = 2
    ·have e2 : (d.mode == 2) = true := by simp; omega
     clear m1 m2
     go_wp2_with fail
     go_meet
     case rel => exact ⟨⟨_, rfl⟩, HO.out⟩
    ·have e2 : (d.mode == 2) = false := by simp; omega
     clear m1 m2
     go_wp2_with fail
     go_meet
     case rel => exact ⟨⟨_, rfl⟩, HO.out⟩
  ·have e0 : (d.have_ == 0) = false := by simp; omega
   clear h0
   go_wp2_with fail
   go_meet
   case rel => exact ⟨⟨_, rfl⟩, HO.out⟩
 case rest =>
  obtain ⟨⟨bb, rfl⟩, hm1⟩ := hcut
  have H1 := Lib.hid hm1; clear hm1
  clear kP fP hBP hzP
  have kP := box_cells H1.out.box; have fP := box_frozen H1.out.box; have hBP := box_lt H1.out.box
  have hzP := H1.out.sz
  go_upto_if 28 with fail
  go_cut [] from 29 to 30 (fun wx => ∃ x : Dc, WU64 x.bits ∧ W64 x.have_ ∧ StM B0 w wx x xs ls a cap rs sa scap)
  case first =>
   cases bb
   ·go_wp2_with fail
    go_meet
    case rel => exact ⟨d, HBB.out, HHH.out, H1.out⟩
   ·go_wp2_with fail
    go_meet
    case rel => exact ⟨⟨d.p, d.mode, d.bits, d.have_, at_, d.at_, d.field, d.wire, d.want, d.utf, d.end_⟩, HBB.out, HHH.out, H1.out.upd (only_set _ _ _ _) (by apply hset_eq; (repeat (first | (with_reducible exact H1.out.box) | (with_reducible apply hset_set))); simp only [List.setIfInBounds_toArray, List.set_cons_zero, List.set_cons_succ])⟩
  case rest =>
   obtain ⟨x, hxb, hxh, hm2⟩ := hcut
   have H2 := Lib.hid hm2; clear hm2
   clear kP fP hBP hzP
   have kP := box_cells H2.out.box; have fP := box_frozen H2.out.box; have hBP := box_lt H2.out.box
   have hzP := H2.out.sz
   go_wp2_with fail
   refine (scanByte_any x.bits x.have_ b _ hxb hxh).mono ?_
   rintro r w1 ⟨s, h, c, rfl, hs, hh1, hb1⟩
   have H3 := Lib.hid (H2.out.keep hb1); clear H2 hb1 hxb hxh kP fP hBP hzP
   have kP := box_cells H3.out.box; have fP := box_frozen H3.out.box; have hBP := box_lt H3.out.box
   have hzP := H3.out.sz
   by_cases hc2 : c = 2
   ·have e2 : (c == 2) = true := by simp; omega
    clear hc2
    have hal : Below w1.heap.size w1 (w1.alloc (.cells #[.int .u64 s, .int .i64 h] 32)) := (Below.refl _ _).alloc (Nat.le_refl _) _
    have H3a := Lib.hid (H3.out.keep hal)
    go_wp2_with (first | ((with_reducible show wpList _ _ _ (⟨_, Op.load 40 _, _, _, _, _⟩ :: _) _ _); refine wlm w.heap.size (Dc.cl x (.slice a xs.length cap) (.slice sa ls.length scap)) (range_of_box (t := 40) H3a.out.box) ?_))
    refine (l15Fail_any x a cap xs.length sa scap ls.length 1 at_ _).mono ?_
    rintro r w9 ⟨ea, ecap, rfl, he9, hb9⟩
    obtain ⟨e, he⟩ : ∃ q, failD x 1 at_ = q := ⟨_, rfl⟩
    obtain ⟨fe, hfe⟩ : ∃ q, failE 1 at_ = q := ⟨_, rfl⟩
    rw [he]
    rw [hfe] at he9
    clear he hfe
    have hzw := H3a.out.sz
    have hBw := H3a.out.hB
    have H9 := Lib.hid (H3a.out.keep hb9)
    have P3 := Lib.hid (show w9.ownsRow B0 38 7 (.slice ea ([fe] : List Ev).length ecap) ([fe] : List Ev).length (([fe] : List Ev).flatMap Ev.cs) by have hq := owns_le he9 (show B0 ≤ _ by omega); simpa using hq); clear he9 hb9 H3a
    go_wp2_with (first | ((with_reducible show wpList _ _ _ (⟨_, Op.store 40 _ _, _, _, _, _⟩ :: _) _ _); refine wsq (w.heap.size + 1) (Dc.cl e (.slice a xs.length cap) (.slice sa ls.length scap)).toArray H9.out.res (one_Dec _ _ _ _ _ _ _) ?_))
    exact StM.done Tryz.results138 H9.out H9.out.sh H9.out.lv P3.out (by omega) rfl rfl
   ·have e2 : (c == 2) = false := by simp; omega
    clear hc2
    go_upto_region 7 with fail
    obtain ⟨w2, hw2⟩ : ∃ q, (((w1.setCell ⟨w.heap.size, 6, none⟩ (.int .u64 s)).setCell ⟨w.heap.size, 7, none⟩ (.int .i64 h)).alloc (.cells #[.int .u64 s, .int .i64 h] 32)) = q := ⟨_, rfl⟩
    rw [hw2]
    obtain ⟨y, hx_⟩ : ∃ q : Dc, ⟨x.p, x.mode, s, h, x.start, x.at_, x.field, x.wire, x.want, x.utf, x.end_⟩ = q := ⟨_, rfl⟩
    have hb_ : w2.heap[w.heap.size]? = some (.cells (Dc.cl y (.slice a xs.length cap) (.slice sa ls.length scap)).toArray 40 (0, 0)) := by rw [← hw2, ← hx_]; apply hset_eq; (repeat (first | (with_reducible exact H3.out.box) | (with_reducible apply hset_set) | (with_reducible apply hset_alloc))); simp only [List.setIfInBounds_toArray, List.set_cons_zero, List.set_cons_succ]
    have hS2 := Lib.hid (show w2.heap[w1.heap.size]? = some (.cells #[.int .u64 s, .int .i64 h] 32 (0, 0)) by rw [← hw2]; exact hset_new (by simp))
    have hz1 := H3.out.sz
    have H4 := Lib.hid (show StM B0 w w2 y xs ls a cap rs sa scap from H3.out.upd (by rw [← hw2]; (repeat (first | (with_reducible refine only_cell ?_ _ _) | (with_reducible refine only_alloc ?_ _))); exact only_refl _ _) hb_); clear hb_ hw2 H3
    obtain ⟨S, hS⟩ : ∃ q, w1.heap.size = q := ⟨_, rfl⟩
    have hSw : w.heap.size + 1 < S := by omega
    rw [hS] at hS2
    try simp only [hS]
    clear hS hz1 kP fP hBP hzP hx_
    have kS := box_cells hS2.out; have fS := box_frozen hS2.out; have hBS := box_lt hS2.out
    have kP := box_cells H4.out.box; have fP := box_frozen H4.out.box; have hBP := box_lt H4.out.box
    have hzP := H4.out.sz
    by_cases hc0 : c = 0
    ·have e0 : (c == 0) = true := by simp; omega
     clear hc0
     go_upto_region 8 with fail
     go_cut [66] from 49 to 66 (fun t wx => (∃ b : Bool, t = .bool b) ∧ StM B0 w wx y xs ls a cap rs sa scap)
     case first =>
      by_cases m1 : y.mode = 1
      ·have n1 : (y.mode != 1) = false := by simp; omega
       have n8 : (y.mode == 8) = false := by simp; omega
       clear m1
       go_wp2_with fail
       go_meet
       case rel => exact ⟨⟨_, rfl⟩, H4.out⟩
      ·have n1 : (y.mode != 1) = true := by simp; omega
       clear m1
       go_wp2_with (first | ((with_reducible show wpList _ _ _ (⟨_, Op.load 40 _, _, _, _, _⟩ :: _) _ _); refine wlw w.heap.size (Dc.cl y (.slice a xs.length cap) (.slice sa ls.length scap)) (range_of_box (t := 40) H4.out.box) ?_))
       refine (specTop_any y a cap _ xs sa scap _ ls _ H4.out.sh.shs (lvls_of_own H4.out.lv rfl) rfl rfl hn hm (by omega)).mono ?_
       rintro r w3 ⟨rfl, hb3⟩
       have H5 := Lib.hid (H4.out.keep hb3); clear hb3 H4 kP fP hBP hzP
       have kP := box_cells H5.out.box; have fP := box_frozen H5.out.box; have hBP := box_lt H5.out.box
       have hzP := H5.out.sz
       by_cases ht : topL ls = 0
       ·have et : (topL ls == 0) = true := by simp; omega
        clear ht
        go_wp2_with fail
        go_meet
        case rel => exact ⟨⟨_, rfl⟩, H5.out⟩
       ·have et : (topL ls == 0) = false := by simp; omega
        clear ht
        cases n8 : (y.mode == 8)
        ·go_wp2_with fail
         go_meet
         case rel => exact ⟨⟨_, rfl⟩, H5.out⟩
        ·cases nw : (y.want == 0)
         ·go_wp2_with fail
          go_meet
          case rel => exact ⟨⟨_, rfl⟩, H5.out⟩
         ·go_wp2_with fail
          go_meet
          case rel => exact ⟨⟨_, rfl⟩, H5.out⟩
     case rest =>
      obtain ⟨⟨bb, rfl⟩, hm3⟩ := hcut
      have H5 := Lib.hid hm3; clear hm3 kP fP hBP hzP kS fS hBS hS2 H4
      have kP := box_cells H5.out.box; have fP := box_frozen H5.out.box; have hBP := box_lt H5.out.box
      have hzP := H5.out.sz
      cases bb
      ·skip
       go_wp2_with (first | ((with_reducible show wpList _ _ _ (⟨_, Op.load 40 _, _, _, _, _⟩ :: _) _ _); refine wlm w.heap.size (Dc.cl y (.slice a xs.length cap) (.slice sa ls.length scap)) (range_of_box (t := 40) H5.out.box) ?_) | ((with_reducible show wpList _ _ _ (⟨_, Op.store 40 _ _, _, _, _, _⟩ :: _) _ _); refine wsq (w.heap.size + 1) (Dc.cl y (.slice a xs.length cap) (.slice sa ls.length scap)).toArray (hset_alloc H5.out.res) (one_Dec _ _ _ _ _ _ _) ?_))
       have hka := Lib.hid (H5.out.keep ((Below.refl _ _).alloc (Nat.le_refl _) (.cells #[] 38)))
       exact StM.done (es := []) Tryz.results138 hka.out hka.out.sh hka.out.lv (owns_le (own_built _ 38 7) (by have := H5.out.sz; have := H5.out.hB; omega)) h8 rfl rfl
      ·skip
       go_wp2_with (first | ((with_reducible show wpList _ _ _ (⟨_, Op.load 40 _, _, _, _, _⟩ :: _) _ _); refine wlm w.heap.size (Dc.cl y (.slice a xs.length cap) (.slice sa ls.length scap)) (range_of_box (t := 40) H5.out.box) ?_))
       refine (l15Fail_any y a cap xs.length sa scap ls.length 9 y.at_ _).mono ?_
       rintro r w9 ⟨ea, ecap, rfl, he9, hb9⟩
       obtain ⟨e, he⟩ : ∃ q, failD y 9 y.at_ = q := ⟨_, rfl⟩
       obtain ⟨fe, hfe⟩ : ∃ q, failE 9 y.at_ = q := ⟨_, rfl⟩
       rw [he]
       rw [hfe] at he9
       clear he hfe
       have hzw := H5.out.sz
       have hBw := H5.out.hB
       have H9 := Lib.hid (H5.out.keep hb9)
       have P3 := Lib.hid (show w9.ownsRow B0 38 7 (.slice ea ([fe] : List Ev).length ecap) ([fe] : List Ev).length (([fe] : List Ev).flatMap Ev.cs) by have hq := owns_le he9 (show B0 ≤ _ by omega); simpa using hq); clear he9 hb9 H5
       go_wp2_with (first | ((with_reducible show wpList _ _ _ (⟨_, Op.store 40 _ _, _, _, _, _⟩ :: _) _ _); refine wsq (w.heap.size + 1) (Dc.cl e (.slice a xs.length cap) (.slice sa ls.length scap)).toArray H9.out.res (one_Dec _ _ _ _ _ _ _) ?_))
       exact StM.done Tryz.results138 H9.out H9.out.sh H9.out.lv P3.out (by omega) rfl rfl
    ·have e0 : (c == 0) = false := by simp; omega
     clear hc0
     go_upto_region 12 with fail
     obtain ⟨w3, hw3⟩ : ∃ q, ((w2.setCell ⟨w.heap.size, 6, none⟩ (.int .u64 0)).setCell ⟨w.heap.size, 7, none⟩ (.int .i64 0)) = q := ⟨_, rfl⟩
     rw [hw3]
     obtain ⟨z, hx_⟩ : ∃ q : Dc, ⟨y.p, y.mode, 0, 0, y.start, y.at_, y.field, y.wire, y.want, y.utf, y.end_⟩ = q := ⟨_, rfl⟩
     have hb_ : w3.heap[w.heap.size]? = some (.cells (Dc.cl z (.slice a xs.length cap) (.slice sa ls.length scap)).toArray 40 (0, 0)) := by rw [← hw3, ← hx_]; apply hset_eq; (repeat (first | (with_reducible exact H4.out.box) | (with_reducible apply hset_set) | (with_reducible apply hset_alloc))); simp only [List.setIfInBounds_toArray, List.set_cons_zero, List.set_cons_succ]
     have hS3 := Lib.hid (show w3.heap[S]? = some (.cells #[.int .u64 s, .int .i64 h] 32 (0, 0)) by rw [← hw3]; exact hset_other (hset_other hS2.out (by simp; omega)) (by simp; omega))
     have H5 := Lib.hid (show StM B0 w w3 z xs ls a cap rs sa scap from H4.out.upd (by rw [← hw3]; (repeat (first | (with_reducible refine only_cell ?_ _ _) | (with_reducible refine only_alloc ?_ _))); exact only_refl _ _) hb_); clear hb_ hw3 H4
     clear hx_ kP fP hBP hzP kS fS hBS hS2
     have kS := box_cells hS3.out; have fS := box_frozen hS3.out; have hBS := box_lt hS3.out
     have kP := box_cells H5.out.box; have fP := box_frozen H5.out.box; have hBP := box_lt H5.out.box
     have hzP := H5.out.sz
     cases g1 : (z.mode == 1)
     ·cases g2 : (z.mode == 2)
      ·cases g4 : (z.mode == 4)
       ·skip
        go_wp2_with (first | ((with_reducible show wpList _ _ _ (⟨_, Op.load 40 _, _, _, _, _⟩ :: _) _ _); refine wlm w.heap.size (Dc.cl z (.slice a xs.length cap) (.slice sa ls.length scap)) (range_of_box (t := 40) H5.out.box) ?_))
        refine (l16Num_some z a cap rs xs sa scap ls B0 s _ H5.out.sh H5.out.lv (by have := H5.out.sz; have := H5.out.hB; omega) h8).mono ?_
        rintro r w9 ⟨e, ms, es, a9, cap9, rs9, sa9, scap9, ea, ecap, rfl, hs9, hp9, he9, hb9, hm8⟩
        have H9 := Lib.hid (H5.out.keep hb9); have P1 := Lib.hid hs9; have P2 := Lib.hid hp9; have P3 := Lib.hid he9; clear hs9 hp9 he9 hb9 H5
        go_wp2_with (first | ((with_reducible show wpList _ _ _ (⟨_, Op.store 40 _ _, _, _, _, _⟩ :: _) _ _); refine wsq (w.heap.size + 1) (Dc.cl e (.slice a9 xs.length cap9) (.slice sa9 ms.length scap9)).toArray H9.out.res (one_Dec _ _ _ _ _ _ _) ?_))
        exact StM.done Tryz.results138 H9.out P1.out P2.out P3.out (by omega) rfl rfl
       ·skip
        go_wp2_with (first | ((with_reducible show wpList _ _ _ (⟨_, Op.load 40 _, _, _, _, _⟩ :: _) _ _); refine wlm w.heap.size (Dc.cl z (.slice a xs.length cap) (.slice sa ls.length scap)) (range_of_box (t := 40) H5.out.box) ?_))
        refine (specLen_some z a cap xs sa scap ls s _ H5.out.sh.shsC (lvls_of_own H5.out.lv rfl) hn hm h8 (fun e => (own_nilc2 H5.out.lv e).2) hs).mono ?_
        intro r w9 hq
        have hBw : B0 ≤ w.heap.size := H5.out.hB; have hzw := H5.out.sz
        obtain ⟨e, ms, es, a9, cap9, rs9, sa9, scap9, ea, ecap, rfl, hs9, hp9, he9, hb9, hm8⟩ := SomeDE.toB hq (show B0 ≤ _ by omega)
        have H9 := Lib.hid (H5.out.keep hb9); have P1 := Lib.hid hs9; have P2 := Lib.hid hp9; have P3 := Lib.hid he9; clear hs9 hp9 he9 hb9 H5
        go_wp2_with (first | ((with_reducible show wpList _ _ _ (⟨_, Op.store 40 _ _, _, _, _, _⟩ :: _) _ _); refine wsq (w.heap.size + 1) (Dc.cl e (.slice a9 xs.length cap9) (.slice sa9 ms.length scap9)).toArray H9.out.res (one_Dec _ _ _ _ _ _ _) ?_))
        exact StM.done Tryz.results138 H9.out P1.out P2.out P3.out (by omega) rfl rfl
      ·skip
       go_wp2_with (first | ((with_reducible show wpList _ _ _ (⟨_, Op.load 40 _, _, _, _, _⟩ :: _) _ _); refine wlm w.heap.size (Dc.cl z (.slice a xs.length cap) (.slice sa ls.length scap)) (range_of_box (t := 40) H5.out.box) ?_))
       refine (specTag_any z a cap xs sa scap ls s _ H5.out.sh.shsC (lvls_of_own H5.out.lv rfl) hn hm (by omega) (fun e => (own_nilc2 H5.out.lv e).2) hs).mono ?_
       intro r w9 hq
       have hBw : B0 ≤ w.heap.size := H5.out.hB; have hzw := H5.out.sz
       obtain ⟨e, ms, es, a9, cap9, rs9, sa9, scap9, ea, ecap, rfl, hs9, hp9, he9, hb9, hm8⟩ := FreshDE.toB hq (tagO_len8 _ _ _ _ h8) (show B0 ≤ _ by omega)
       have H9 := Lib.hid (H5.out.keep hb9); have P1 := Lib.hid hs9; have P2 := Lib.hid hp9; have P3 := Lib.hid he9; clear hs9 hp9 he9 hb9 H5
       go_wp2_with (first | ((with_reducible show wpList _ _ _ (⟨_, Op.store 40 _ _, _, _, _, _⟩ :: _) _ _); refine wsq (w.heap.size + 1) (Dc.cl e (.slice a9 xs.length cap9) (.slice sa9 ms.length scap9)).toArray H9.out.res (one_Dec _ _ _ _ _ _ _) ?_))
       exact StM.done Tryz.results138 H9.out P1.out P2.out P3.out (by omega) rfl rfl
     ·skip
      go_wp2_with (first | ((with_reducible show wpList _ _ _ (⟨_, Op.load 40 _, _, _, _, _⟩ :: _) _ _); refine wlm w.heap.size (Dc.cl z (.slice a xs.length cap) (.slice sa ls.length scap)) (range_of_box (t := 40) H5.out.box) ?_))
      refine (specFrame_any z a cap xs sa scap ls s _ H5.out.sh.shsC (lvls_of_own H5.out.lv rfl) hn hm (by omega) (fun e => (own_nilc2 H5.out.lv e).2) hs).mono ?_
      intro r w9 hq
      have hBw : B0 ≤ w.heap.size := H5.out.hB; have hzw := H5.out.sz
      obtain ⟨e, ms, es, a9, cap9, rs9, sa9, scap9, ea, ecap, rfl, hs9, hp9, he9, hb9, hm8⟩ := FreshDE.toB hq (frameO_len8 _ _ _ _ h8) (show B0 ≤ _ by omega)
      have H9 := Lib.hid (H5.out.keep hb9); have P1 := Lib.hid hs9; have P2 := Lib.hid hp9; have P3 := Lib.hid he9; clear hs9 hp9 he9 hb9 H5
      go_wp2_with (first | ((with_reducible show wpList _ _ _ (⟨_, Op.store 40 _ _, _, _, _, _⟩ :: _) _ _); refine wsq (w.heap.size + 1) (Dc.cl e (.slice a9 xs.length cap9) (.slice sa9 ms.length scap9)).toArray H9.out.res (one_Dec _ _ _ _ _ _ _) ?_))
      exact StM.done Tryz.results138 H9.out P1.out P2.out P3.out (by omega) rfl rfl
end Go.Proofs.YtabdjimjelfbfaaGreat
