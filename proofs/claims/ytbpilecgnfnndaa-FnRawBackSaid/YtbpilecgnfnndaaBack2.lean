/- Texts that FnRawBack leans on, part 2. (Put together by wip/tools/bundle.py.) -/
import Derived.IntWalk
import Derived.Test.YtbpilecgnfnndaaBack1
namespace Go.Proofs.Ytbpilecgnfnndaa
set_option linter.unusedSimpArgs false
set_option linter.unusedVariables false
open Go.ChangeShapes Go.WideShapes Go.ChangeAt Go.RowKit Go.BigFrame
section
variable {m b : Int} {k : Nat} {xs : List Shp} {e : Shp} {R : Bool} {fs : List Fld} {f : Fld}
theorem so_bad (h : shpsOk m b (xs.drop k) = R) (he : xs[k]? = some e) (hh : shpHead b e = false) : false = R := by
  rw [drop_cons he, shpsOk, hh] at h; simpa using h
theorem so_bad2 (h : shpsOk m b (xs.drop k) = R) (he : xs[k]? = some e) (hh : shpHead b e = true) (hf : fldsOk m 0 e.flds = false) : false = R := by
  rw [drop_cons he, shpsOk, hh, hf] at h; simpa using h
theorem so_ok (h : shpsOk m b (xs.drop k) = R) (he : xs[k]? = some e) (hh : shpHead b e = true) (hf : fldsOk m 0 e.flds = true) : shpsOk m e.id (xs.drop (k + 1)) = R := by
  rw [drop_cons he, shpsOk, hh, hf] at h; simpa using h
theorem so_end (h : shpsOk m b (xs.drop k) = R) (hk : xs.length ≤ k) : true = R := by
  rw [List.drop_of_length_le hk] at h; simpa [shpsOk] using h
theorem fo_bad (h : fldsOk m b (fs.drop k) = R) (he : fs[k]? = some f) (hh : (fldOk m f && decide (b < f.number)) = false) : R = false := by
  rw [drop_cons he, fldsOk, hh] at h; simpa using h.symm
theorem fo_ok (h : fldsOk m b (fs.drop k) = R) (he : fs[k]? = some f) (hh : (fldOk m f && decide (b < f.number)) = true) : fldsOk m f.number (fs.drop (k + 1)) = R := by
  rw [drop_cons he, fldsOk, hh] at h; simpa using h
theorem fo_end (h : fldsOk m b (fs.drop k) = R) (hk : fs.length ≤ k) : R = true := by
  rw [List.drop_of_length_le hk] at h; simpa [fldsOk] using h.symm
end
set_option maxRecDepth 100000 in
set_option maxHeartbeats 4000000 in
theorem implSchemaOk_any (a : Option Addr) (cap n : Nat) (xs : List Shp) (w : World) (h : Shs w a xs) (hx : xs.length = n) (hn : n ≤ 1048576) (hm : fldSum xs ≤ 1048576) :
    Calls Try.prog 10 #[.agg #[.slice a n cap]] w fun r w' => r = .returned (.bool (schOk xs)) ∧ Below w.heap.size w w' := by
  have HX := Lib.hid hx; clear hx
  by_cases h6 : n ≤ 6
  · obtain ⟨R, hR⟩ : ∃ R, schOk xs = R := ⟨_, rfl⟩
    have HR := Lib.hid (show shpsOk n 0 (xs.drop 0) = R by rw [← hR, schOk, HX.out]; simp [h6])
    rw [hR]; clear hR
    go_enter Try.func10, Try.ntmps10
    go_wp2
    have hbx0 := Lib.hid (box_cells (heap_nth0 w (.cells #[.slice a n cap] 30)))
    go_loopw [2, 3, 16] (fun t id j wr => ∃ k : Nat, k ≤ n ∧ j = .int .i64 k ∧ t = .bool false ∧ (∃ b : Int, id = .int .i64 b ∧ Hid (shpsOk n b (xs.drop k) = R)) ∧ Below w.heap.size w wr ∧ (∀ i, wr.cell? ⟨w.heap.size, i, none⟩ = (#[.slice a n cap] : Array Value)[i]?) ∧ w.heap.size < wr.heap.size) (fun _ _ i _ => n - (intOf i).toNat)
    case atStart => exact ⟨0, Nat.zero_le _, rfl, rfl, ⟨0, rfl, HR⟩, by ((repeat (first | (with_reducible exact Below.refl _ _) | (with_reducible assumption) | (with_reducible refine Below.alloc ?_ ?_ _) | (with_reducible refine Below.setCell ?_ ?_ _) | (with_reducible refine Below.drew ?_) | (with_reducible refine below_setRow ?_ ?_ _) | (refine Below.trans ?_ (Below.mono (by assumption) ?_)))); all_goals (first | omega | (simp; done) | (simp; omega))), hbx0.out, by simp⟩
    case round =>
      obtain ⟨k, hk, rfl, rfl, ⟨b, rfl, HV⟩, hb, kA, hzz⟩ := hrel
      by_cases hlt : k < n
      · obtain ⟨e, he, _⟩ := at_lt (xs := xs) (k := k) (by rw [HX.out]; exact hlt)
        have HE := Lib.hid he
        have hne := Nat.le_trans (fldSum_ge he) hm
        obtain ⟨p, off, a1, cap1, rfl, hlb, c0, c1, hs1⟩ := h.below hb (Nat.le_refl _) k e he
        clear he
        have HS1 := Lib.hid hs1; clear hs1
        by_cases hh : shpHead b e = true
        · have hh' := hh
          simp only [shpHead, Bool.and_eq_true, decide_eq_true_eq] at hh'
          obtain ⟨hh1, hh2, hh3⟩ := hh'
          have HH := Lib.hid hh; clear hh
          go_wp2
          obtain ⟨S, hS⟩ : ∃ S, fldsOk n 0 e.flds = S := ⟨_, rfl⟩
          have HS := Lib.hid hS
          have HSd := Lib.hid (show fldsOk n 0 (e.flds.drop 0) = S from hS)
          clear hS
          obtain ⟨wo, rfl⟩ : ∃ wo : World, wo = wr := ⟨_, rfl⟩
          have hbx1 := Lib.hid (box_cells (heap_nth0 wo (.cells #[.int .i64 e.id, .slice a1 e.flds.length cap1] 43)))
          go_loopw [2, 6, 8, 38] (fun t z x j wr => ∃ q : Nat, q ≤ e.flds.length ∧ j = .int .i64 q ∧ t = .bool false ∧ (∃ v : Int, z = .int .i64 v ∧ Hid (fldsOk n v (e.flds.drop q) = S)) ∧ Below wo.heap.size wo wr ∧ (∀ i, wr.cell? ⟨wo.heap.size, i, none⟩ = (#[.int .i64 e.id, .slice a1 e.flds.length cap1] : Array Value)[i]?) ∧ wo.heap.size < wr.heap.size) (fun _ _ _ i _ => e.flds.length - (intOf i).toNat)
          case atStart => exact ⟨0, Nat.zero_le _, rfl, rfl, ⟨0, rfl, HSd⟩, by ((repeat (first | (with_reducible exact Below.refl _ _) | (with_reducible assumption) | (with_reducible refine Below.alloc ?_ ?_ _) | (with_reducible refine Below.setCell ?_ ?_ _) | (with_reducible refine Below.drew ?_) | (with_reducible refine below_setRow ?_ ?_ _) | (refine Below.trans ?_ (Below.mono (by assumption) ?_)))); all_goals (first | omega | (simp; done) | (simp; omega))), hbx1.out, by simp⟩
          case round =>
            obtain ⟨q, hq, rfl, rfl, ⟨v, rfl, HT1⟩, hb1, kC, hzi⟩ := hrel
            have hzi0 : w.heap.size < wr.heap.size := by omega
            have hB1 := Lib.hid hb1
            have kA1 := box_next hb1 hzz kA
            by_cases hqlt : q < e.flds.length
            · obtain ⟨g, hg, _⟩ := at_lt (xs := e.flds) (k := q) hqlt
              have HG := Lib.hid hg
              obtain ⟨p', o, rfl, hp, x0, x1, x2, x3, x4⟩ := Flds.at (Sl.keep HS1.out hb1) hg
              clear hg
              obtain ⟨z, hz⟩ : ∃ z, (fldOk n g && decide (v < g.number)) = z := ⟨_, rfl⟩
              have HZ := Lib.hid hz; clear hz
              go_wp2_with fail
              refine (fieldOk_any g v n _ (by omega) (by omega)).mono ?_
              rintro r w2 ⟨rfl, hb2⟩
              obtain ⟨hc2, hf2⟩ := bcell hb2
              have hz2 := hb2.size
              simp only [World.size_alloc] at hz2
              rw [HZ.out]
              cases z
              · have H := Lib.hid (so_bad2 HV.out HE.out HH.out (by rw [HS.out]; exact fo_bad HT1.out HG.out HZ.out))
                go_wp2
                go_ret
                exact ⟨ret_bool H.out, by ((repeat (first | (with_reducible exact Below.refl _ _) | (with_reducible assumption) | (with_reducible refine Below.alloc ?_ ?_ _) | (with_reducible refine Below.setCell ?_ ?_ _) | (with_reducible refine Below.drew ?_) | (with_reducible refine below_setRow ?_ ?_ _) | (refine Below.trans ?_ (Below.mono (by assumption) ?_)))); all_goals (first | omega | (simp; done) | (simp; omega)))⟩
              · have H := Lib.hid (fo_ok HT1.out HG.out HZ.out)
                go_wp2
                go_roundw
                case rel => exact ⟨q + 1, by omega, by go_num, rfl, ⟨_, rfl, H⟩, by ((repeat (first | (with_reducible exact Below.refl _ _) | (with_reducible assumption) | (with_reducible refine Below.alloc ?_ ?_ _) | (with_reducible refine Below.setCell ?_ ?_ _) | (with_reducible refine Below.drew ?_) | (with_reducible refine below_setRow ?_ ?_ _) | (refine Below.trans ?_ (Below.mono (by assumption) ?_)))); all_goals (first | omega | (simp; done) | (simp; omega))), box_next (w := wr) (by ((repeat (first | (with_reducible exact Below.refl _ _) | (with_reducible assumption) | (with_reducible refine Below.alloc ?_ ?_ _) | (with_reducible refine Below.setCell ?_ ?_ _) | (with_reducible refine Below.drew ?_) | (with_reducible refine below_setRow ?_ ?_ _) | (refine Below.trans ?_ (Below.mono (by assumption) ?_)))); all_goals (first | omega | (simp; done) | (simp; omega)))) hzi kC, by omega⟩
                case measure => simp [intOf]; omega
            · have H := Lib.hid (so_ok HV.out HE.out HH.out (by rw [HS.out]; exact fo_end HT1.out (by omega)))
              go_wp2
              go_roundw
              case rel => exact ⟨k + 1, by omega, by go_num, rfl, ⟨_, rfl, H⟩, by ((repeat (first | (with_reducible exact Below.refl _ _) | (with_reducible assumption) | (with_reducible refine Below.alloc ?_ ?_ _) | (with_reducible refine Below.setCell ?_ ?_ _) | (with_reducible refine Below.drew ?_) | (with_reducible refine below_setRow ?_ ?_ _) | (refine Below.trans ?_ (Below.mono (by assumption) ?_)))); all_goals (first | omega | (simp; done) | (simp; omega))), kA1, by omega⟩
              case measure => simp [intOf]; omega
        · have hh' : shpHead b e = false := by simpa using hh
          have H := Lib.hid (so_bad HV.out HE.out hh')
          clear hh'
          have hh2 : e.id ≤ b ∨ b < e.id ∧ 99 < e.id ∨ b < e.id ∧ e.id ≤ 99 ∧ 8 < e.flds.length := by
            simp only [shpHead, Bool.and_eq_true, decide_eq_true_eq] at hh; omega
          clear hh
          rcases hh2 with hh2 | ⟨hh3, hh2⟩ | ⟨hh3, hh4, hh2⟩
          all_goals
            go_wp2
            go_ret
            exact ⟨ret_bool H.out, by ((repeat (first | (with_reducible exact Below.refl _ _) | (with_reducible assumption) | (with_reducible refine Below.alloc ?_ ?_ _) | (with_reducible refine Below.setCell ?_ ?_ _) | (with_reducible refine Below.drew ?_) | (with_reducible refine below_setRow ?_ ?_ _) | (refine Below.trans ?_ (Below.mono (by assumption) ?_)))); all_goals (first | omega | (simp; done) | (simp; omega)))⟩
      · have H := Lib.hid (so_end HV.out (by rw [HX.out]; omega))
        go_wp2
        go_ret
        exact ⟨ret_bool H.out, hb⟩
  · have H := Lib.hid (show false = schOk xs by rw [schOk, HX.out]; simp; omega)
    go_enter Try.func10, Try.ntmps10
    go_wp2
    go_ret
    exact ⟨ret_bool H.out, by ((repeat (first | (with_reducible exact Below.refl _ _) | (with_reducible assumption) | (with_reducible refine Below.alloc ?_ ?_ _) | (with_reducible refine Below.setCell ?_ ?_ _) | (with_reducible refine Below.drew ?_) | (with_reducible refine below_setRow ?_ ?_ _) | (refine Below.trans ?_ (Below.mono (by assumption) ?_)))); all_goals (first | omega | (simp; done) | (simp; omega)))⟩
def PrevS (xs : List Shp) (k : Nat) (b : Int) : Prop := (k = 0 ∧ b = 0) ∨ ∃ j p, k = j + 1 ∧ xs[j]? = some p ∧ p.id = b ∧ 1 ≤ b
def PrevF (fs : List Fld) (k : Nat) (b : Int) : Prop := (k = 0 ∧ b = 0) ∨ ∃ j p, k = j + 1 ∧ fs[j]? = some p ∧ p.number = b ∧ 1 ≤ b
theorem inB99 {x : Int} : inB x 1 99 = true ↔ 1 ≤ x ∧ x ≤ 99 := by simp [inB]
theorem head_cases {m b : Int} {k : Nat} {xs : List Shp} {e : Shp} {R : Bool} (hp : PrevS xs k b) (h : shpsOk m b (xs.drop k) = R) (he : xs[k]? = some e) :
    (inB e.id 1 99 = false ∧ false = R) ∨ (inB e.id 1 99 = true ∧ ∃ j y, k = j + 1 ∧ xs[j]? = some y ∧ e.id ≤ y.id ∧ false = R) ∨ (inB e.id 1 99 = true ∧ k = 0 ∧ 8 < e.flds.length ∧ false = R) ∨
    (inB e.id 1 99 = true ∧ ∃ j y, k = j + 1 ∧ xs[j]? = some y ∧ y.id < e.id ∧ 8 < e.flds.length ∧ false = R) ∨ (inB e.id 1 99 = true ∧ e.flds.length ≤ 8 ∧ shpHead b e = true ∧ (k = 0 ∨ ∃ j y, k = j + 1 ∧ xs[j]? = some y ∧ y.id < e.id)) := by
  have hb : 0 ≤ b := by rcases hp with ⟨_, rfl⟩ | ⟨_, _, _, _, _, h1⟩ <;> omega
  by_cases hA : inB e.id 1 99 = true
  · have hA' := inB99.1 hA
    by_cases h8 : e.flds.length ≤ 8
    · rcases hp with ⟨hk, rfl⟩ | ⟨j, y, hk, hy, rfl, h1⟩
      · exact .inr (.inr (.inr (.inr ⟨hA, h8, by simp [shpHead, h8]; omega, .inl hk⟩)))
      · by_cases hlt : y.id < e.id
        · exact .inr (.inr (.inr (.inr ⟨hA, h8, by simp [shpHead, h8]; omega, .inr ⟨j, y, hk, hy, hlt⟩⟩)))
        · exact .inr (.inl ⟨hA, j, y, hk, hy, by omega, so_bad h he (by simp [shpHead]; omega)⟩)
    · have hf : false = R := so_bad h he (by simp [shpHead]; omega)
      rcases hp with ⟨hk, rfl⟩ | ⟨j, y, hk, hy, rfl, h1⟩
      · exact .inr (.inr (.inl ⟨hA, hk, by omega, hf⟩))
      · by_cases hlt : y.id < e.id
        · exact .inr (.inr (.inr (.inl ⟨hA, j, y, hk, hy, hlt, by omega, hf⟩)))
        · exact .inr (.inl ⟨hA, j, y, hk, hy, by omega, hf⟩)
  · have hA' : inB e.id 1 99 = false := by simpa using hA
    refine .inl ⟨hA', so_bad h he ?_⟩
    have : ¬ (1 ≤ e.id ∧ e.id ≤ 99) := fun h => hA (inB99.2 h)
    simp [shpHead]; omega
theorem prevS_next {xs : List Shp} {k : Nat} {e : Shp} (he : xs[k]? = some e) (h : 1 ≤ e.id) : PrevS xs (k + 1) e.id := .inr ⟨k, e, rfl, he, rfl, h⟩
theorem prevF_next {xs : List Fld} {k : Nat} {e : Fld} (he : xs[k]? = some e) (h : 1 ≤ e.number) : PrevF xs (k + 1) e.number := .inr ⟨k, e, rfl, he, rfl, h⟩
theorem fldOk_pos {m : Int} {f : Fld} (h : fldOk m f = true) : 1 ≤ f.number := by
  simp only [fldOk, numOk, Bool.and_eq_true] at h
  have := h.1.1
  simp [inB] at this; omega
theorem fld_cases {m v : Int} {q : Nat} {fs : List Fld} {g : Fld} {S : Bool} (hp : PrevF fs q v) (h : fldsOk m v (fs.drop q) = S) (hg : fs[q]? = some g) :
    (fldOk m g = false ∧ S = false) ∨ (fldOk m g = true ∧ ∃ j y, q = j + 1 ∧ fs[j]? = some y ∧ g.number ≤ y.number ∧ S = false) ∨
    (fldOk m g = true ∧ (q = 0 ∨ ∃ j y, q = j + 1 ∧ fs[j]? = some y ∧ y.number < g.number) ∧ fldsOk m g.number (fs.drop (q + 1)) = S ∧ 1 ≤ g.number) := by
  by_cases hz : fldOk m g = true
  · have h1 := fldOk_pos hz
    rcases hp with ⟨hk, rfl⟩ | ⟨j, y, hk, hy, rfl, _⟩
    · exact .inr (.inr ⟨hz, .inl hk, fo_ok h hg (by simp [hz]; omega), h1⟩)
    · by_cases hlt : y.number < g.number
      · exact .inr (.inr ⟨hz, .inr ⟨j, y, hk, hy, hlt⟩, fo_ok h hg (by simp [hz, hlt]), h1⟩)
      · exact .inr (.inl ⟨hz, j, y, hk, hy, by omega, fo_bad h hg (by simp; omega)⟩)
  · have hz' : fldOk m g = false := by simpa using hz
    exact .inl ⟨hz', fo_bad h hg (by simp [hz'])⟩
set_option maxRecDepth 100000 in
set_option maxHeartbeats 8000000 in
theorem specSchemaOk_any (a : Option Addr) (cap n : Nat) (xs : List Shp) (w : World) (h : Shs w a xs) (hx : xs.length = n) (hn : n ≤ 1048576) (hm : fldSum xs ≤ 1048576) :
    Calls Try.prog 11 #[.agg #[.slice a n cap]] w fun r w' => r = .returned (.bool (schOk xs)) ∧ Below w.heap.size w w' := by
  have HX := Lib.hid hx; clear hx
  by_cases h6 : n ≤ 6
  · obtain ⟨R, hR⟩ : ∃ R, schOk xs = R := ⟨_, rfl⟩
    have HR := Lib.hid (show shpsOk n 0 (xs.drop 0) = R by rw [← hR, schOk, HX.out]; simp [h6])
    rw [hR]; clear hR
    go_enter Try.func11, Try.ntmps11
    go_wp2
    have hbx0 := Lib.hid (box_cells (heap_nth0 w (.cells #[.slice a n cap] 30)))
    go_loopw [2, 3] (fun t j wr => ∃ k : Nat, k ≤ n ∧ j = .int .i64 k ∧ t = .bool false ∧ (∃ b : Int, Hid (PrevS xs k b) ∧ Hid (shpsOk n b (xs.drop k) = R)) ∧ Below w.heap.size w wr ∧ (∀ i, wr.cell? ⟨w.heap.size, i, none⟩ = (#[.slice a n cap] : Array Value)[i]?) ∧ w.heap.size < wr.heap.size) (fun _ i _ => n - (intOf i).toNat)
    case atStart => exact ⟨0, Nat.zero_le _, rfl, rfl, ⟨0, Lib.hid (.inl ⟨rfl, rfl⟩), HR⟩, by ((repeat (first | (with_reducible exact Below.refl _ _) | (with_reducible assumption) | (with_reducible refine Below.alloc ?_ ?_ _) | (with_reducible refine Below.setCell ?_ ?_ _) | (with_reducible refine Below.drew ?_) | (with_reducible refine below_setRow ?_ ?_ _) | (refine Below.trans ?_ (Below.mono (by assumption) ?_)))); all_goals (first | omega | (simp; done) | (simp; omega))), hbx0.out, by simp⟩
    case round =>
      obtain ⟨k, hk, rfl, rfl, ⟨b, HP, HV⟩, hb, kA, hzz⟩ := hrel
      by_cases hlt : k < n
      · obtain ⟨e, he, _⟩ := at_lt (xs := xs) (k := k) (by rw [HX.out]; exact hlt)
        have HE := Lib.hid he
        have hne := Nat.le_trans (fldSum_ge he) hm
        obtain ⟨p, off, a1, cap1, rfl, hlb, c0, c1, hs1⟩ := h.below hb (Nat.le_refl _) k e he
        clear he
        have HS1 := Lib.hid hs1; clear hs1
        have HC := Lib.hid (head_cases HP.out HV.out HE.out)
        rcases HC.out with ⟨hA, H⟩ | ⟨hA, j, y, hkj, hy, hp1, H⟩ | ⟨hA, hk0, h8, H⟩ | ⟨hA, j, y, hkj, hy, hp1, h8, H⟩ | HD
        · have H' := Lib.hid H
          clear H
          go_wp2_with fail
          (refine wp_region_ext (by kernel_rfl) (by kernel_rfl) ?_; (repeat (go_big_quiet_step (first | (go_at_call 43; refine Calls.ext_of_same (l1In_any _ _ _ _))))); refine wpQuiet_nil ?_; intro w1 hb1; obtain ⟨hc1, hf1⟩ := bcell hb1; have hz1 := hb1.size; (try simp only [World.size_alloc, World.size_setCell, World.size_drew] at hz1))
          go_wp2
          go_ret
          exact ⟨ret_bool H'.out, by ((repeat (first | (with_reducible exact Below.refl _ _) | (with_reducible assumption) | (with_reducible refine Below.alloc ?_ ?_ _) | (with_reducible refine Below.setCell ?_ ?_ _) | (with_reducible refine Below.drew ?_) | (with_reducible refine below_setRow ?_ ?_ _) | (refine Below.trans ?_ (Below.mono (by assumption) ?_)))); all_goals (first | omega | (simp; done) | (simp; omega)))⟩
        · have H' := Lib.hid H
          clear H
          obtain ⟨_, _, _, _, e0, _, y0, _, _⟩ := h.below hb (Nat.le_refl _) j y hy
          obtain ⟨rfl, rfl⟩ : p = _ ∧ off = _ := by simpa using e0
          have hy' := Lib.hid hy; clear hy e0
          have hw : (k : Int) - 1 = j := by omega
          have hw2 : IntKind.i64.wrap ((k : Int) - 1) = j := by rw [hw]; exact IntWalk.i64_in _ (by omega)
          have hk0 : 0 < k := by omega
          have hj0 : (0 : Int) ≤ j := by omega
          have hjn : (j : Int) < n := by omega
          have HKJ := Lib.hid hkj; clear hkj
          go_wp2_with fail
          (refine wp_region_ext (by kernel_rfl) (by kernel_rfl) ?_; (repeat (go_big_quiet_step (first | (go_at_call 43; refine Calls.ext_of_same (l1In_any _ _ _ _))))); refine wpQuiet_nil ?_; intro w1 hb1; obtain ⟨hc1, hf1⟩ := bcell hb1; have hz1 := hb1.size; (try simp only [World.size_alloc, World.size_setCell, World.size_drew] at hz1))
          go_wp2
          go_ret
          exact ⟨ret_bool H'.out, by ((repeat (first | (with_reducible exact Below.refl _ _) | (with_reducible assumption) | (with_reducible refine Below.alloc ?_ ?_ _) | (with_reducible refine Below.setCell ?_ ?_ _) | (with_reducible refine Below.drew ?_) | (with_reducible refine below_setRow ?_ ?_ _) | (refine Below.trans ?_ (Below.mono (by assumption) ?_)))); all_goals (first | omega | (simp; done) | (simp; omega)))⟩
        · have H' := Lib.hid H
          clear H
          subst hk0
          simp only [Nat.zero_mul, Nat.add_zero] at c0 c1
          go_wp2_with fail
          (refine wp_region_ext (by kernel_rfl) (by kernel_rfl) ?_; (repeat (go_big_quiet_step (first | (go_at_call 43; refine Calls.ext_of_same (l1In_any _ _ _ _))))); refine wpQuiet_nil ?_; intro w1 hb1; obtain ⟨hc1, hf1⟩ := bcell hb1; have hz1 := hb1.size; (try simp only [World.size_alloc, World.size_setCell, World.size_drew] at hz1))
          go_wp2
          go_ret
          exact ⟨ret_bool H'.out, by ((repeat (first | (with_reducible exact Below.refl _ _) | (with_reducible assumption) | (with_reducible refine Below.alloc ?_ ?_ _) | (with_reducible refine Below.setCell ?_ ?_ _) | (with_reducible refine Below.drew ?_) | (with_reducible refine below_setRow ?_ ?_ _) | (refine Below.trans ?_ (Below.mono (by assumption) ?_)))); all_goals (first | omega | (simp; done) | (simp; omega)))⟩
        · have H' := Lib.hid H
          clear H
          obtain ⟨_, _, _, _, e0, _, y0, _, _⟩ := h.below hb (Nat.le_refl _) j y hy
          obtain ⟨rfl, rfl⟩ : p = _ ∧ off = _ := by simpa using e0
          have hy' := Lib.hid hy; clear hy e0
          have hw : (k : Int) - 1 = j := by omega
          have hw2 : IntKind.i64.wrap ((k : Int) - 1) = j := by rw [hw]; exact IntWalk.i64_in _ (by omega)
          have hk0 : 0 < k := by omega
          have hj0 : (0 : Int) ≤ j := by omega
          have hjn : (j : Int) < n := by omega
          have HKJ := Lib.hid hkj; clear hkj
          have hp2 : decide (e.id ≤ y.id) = false := by simp; omega
          go_wp2_with fail
          (refine wp_region_ext (by kernel_rfl) (by kernel_rfl) ?_; (repeat (go_big_quiet_step (first | (go_at_call 43; refine Calls.ext_of_same (l1In_any _ _ _ _))))); refine wpQuiet_nil ?_; intro w1 hb1; obtain ⟨hc1, hf1⟩ := bcell hb1; have hz1 := hb1.size; (try simp only [World.size_alloc, World.size_setCell, World.size_drew] at hz1))
          go_wp2
          go_ret
          exact ⟨ret_bool H'.out, by ((repeat (first | (with_reducible exact Below.refl _ _) | (with_reducible assumption) | (with_reducible refine Below.alloc ?_ ?_ _) | (with_reducible refine Below.setCell ?_ ?_ _) | (with_reducible refine Below.drew ?_) | (with_reducible refine below_setRow ?_ ?_ _) | (refine Below.trans ?_ (Below.mono (by assumption) ?_)))); all_goals (first | omega | (simp; done) | (simp; omega)))⟩
        · obtain ⟨hA, h8, hh, hpv⟩ := HD
          have HH := Lib.hid hh; clear hh
          have HPS := Lib.hid (prevS_next HE.out (inB99.1 hA).1)
          obtain ⟨S, hS⟩ : ∃ S, fldsOk n 0 e.flds = S := ⟨_, rfl⟩
          have HS := Lib.hid hS
          have HSd := Lib.hid (show fldsOk n 0 (e.flds.drop 0) = S from hS)
          clear hS
          have h8' : ¬ (8 : Int) < e.flds.length := by omega
          rcases hpv with hk0 | ⟨j, y, hkj, hy, hp1⟩
          · have hkz : decide (0 < k) = false := by simp [hk0]
            have HK0 := Lib.hid hk0; clear hk0
            go_wp2_with fail
            (refine wp_region_ext (by kernel_rfl) (by kernel_rfl) ?_; (repeat (go_big_quiet_step (first | (go_at_call 43; refine Calls.ext_of_same (l1In_any _ _ _ _))))); refine wpQuiet_nil ?_; intro w1 hb1; obtain ⟨hc1, hf1⟩ := bcell hb1; have hz1 := hb1.size; (try simp only [World.size_alloc, World.size_setCell, World.size_drew] at hz1))
            go_wp2
            obtain ⟨wo, rfl⟩ : ∃ wo : World, wo = wr := ⟨_, rfl⟩
            have hbx1 := Lib.hid (box_new0 hb1)
            have hbl1 := box_lt0 hb1
            have hbw1 : Below wo.heap.size wo w1 := by ((repeat (first | (with_reducible exact Below.refl _ _) | (with_reducible assumption) | (with_reducible refine Below.alloc ?_ ?_ _) | (with_reducible refine Below.setCell ?_ ?_ _) | (with_reducible refine Below.drew ?_) | (with_reducible refine below_setRow ?_ ?_ _) | (refine Below.trans ?_ (Below.mono (by assumption) ?_)))); all_goals (first | omega | (simp; done) | (simp; omega)))
            have kA1 := Lib.hid (box_next hbw1 hzz kA)
            have hzw1 := hbw1.size
            go_loopw [2, 5] (fun t j wr => ∃ q : Nat, q ≤ e.flds.length ∧ j = .int .i64 q ∧ t = .bool false ∧ (∃ v : Int, Hid (PrevF e.flds q v) ∧ Hid (fldsOk n v (e.flds.drop q) = S)) ∧ Below wo.heap.size wo wr ∧ (∀ i, wr.cell? ⟨w.heap.size, i, none⟩ = (#[.slice (some ⟨p, off, none⟩) n cap] : Array Value)[i]?) ∧ (∀ i, wr.cell? ⟨wo.heap.size, i, none⟩ = (#[.int .i64 e.id, .slice a1 e.flds.length cap1] : Array Value)[i]?) ∧ wo.heap.size < wr.heap.size) (fun _ i _ => e.flds.length - (intOf i).toNat)
            case atStart => exact ⟨0, Nat.zero_le _, rfl, rfl, ⟨0, Lib.hid (.inl ⟨rfl, rfl⟩), HSd⟩, hbw1, kA1.out, hbx1.out, hbl1⟩
            case round =>
              obtain ⟨q, hq, rfl, rfl, ⟨v, HPF, HT1⟩, hb2, kA2, kC, hzi⟩ := hrel
              have hzi0 : w.heap.size < wr.heap.size := by omega
              by_cases hqlt : q < e.flds.length
              · obtain ⟨g, hg, _⟩ := at_lt (xs := e.flds) (k := q) hqlt
                have HG := Lib.hid hg
                obtain ⟨p', o, rfl, hp, x0, x1, x2, x3, x4⟩ := Flds.at (Sl.keep HS1.out hb2) hg
                clear hg
                have HC2 := Lib.hid (fld_cases HPF.out HT1.out HG.out)
                rcases HC2.out with ⟨hz, H⟩ | ⟨hz, j2, y2, hqj, hy2, hle2, H⟩ | ⟨hz, hpv2, H, hg1⟩
                · have H' := Lib.hid (so_bad2 HV.out HE.out HH.out (by rw [HS.out]; exact H))
                  clear H
                  go_wp2_with fail
                  (refine wp_region_ext (by kernel_rfl) (by kernel_rfl) ?_; (repeat (go_big_quiet_step (first | (go_at_call 44; refine Calls.ext_of (l8FieldOk_any _ _ _ g _ hn))))); refine wpQuiet_nil ?_; intro w3 hb3; obtain ⟨hc3, hf3⟩ := bcell hb3; have hz3 := hb3.size; (try simp only [World.size_alloc, World.size_setCell, World.size_drew] at hz3))
                  go_wp2
                  go_ret
                  exact ⟨ret_bool H'.out, by ((repeat (first | (with_reducible exact Below.refl _ _) | (with_reducible assumption) | (with_reducible refine Below.alloc ?_ ?_ _) | (with_reducible refine Below.setCell ?_ ?_ _) | (with_reducible refine Below.drew ?_) | (with_reducible refine below_setRow ?_ ?_ _) | (refine Below.trans ?_ (Below.mono (by assumption) ?_)))); all_goals (first | omega | (simp; done) | (simp; omega)))⟩
                · have H' := Lib.hid (so_bad2 HV.out HE.out HH.out (by rw [HS.out]; exact H))
                  clear H
                  obtain ⟨_, _, e0', _, y0', _⟩ := Flds.at (Sl.keep HS1.out hb2) hy2
                  obtain ⟨rfl, rfl⟩ : p' = _ ∧ o = _ := by simpa using e0'
                  have hy2' := Lib.hid hy2; clear hy2 e0'
                  have hwq : (q : Int) - 1 = j2 := by omega
                  have hwq2 : IntKind.i64.wrap ((q : Int) - 1) = j2 := by rw [hwq]; exact IntWalk.i64_in _ (by omega)
                  have hq0 : 0 < q := by omega
                  have hj20 : (0 : Int) ≤ j2 := by omega
                  have hj2n : (j2 : Int) < e.flds.length := by omega
                  have HQJ := Lib.hid hqj; clear hqj
                  go_wp2_with fail
                  (refine wp_region_ext (by kernel_rfl) (by kernel_rfl) ?_; (repeat (go_big_quiet_step (first | (go_at_call 44; refine Calls.ext_of (l8FieldOk_any _ _ _ g _ hn))))); refine wpQuiet_nil ?_; intro w3 hb3; obtain ⟨hc3, hf3⟩ := bcell hb3; have hz3 := hb3.size; (try simp only [World.size_alloc, World.size_setCell, World.size_drew] at hz3))
                  go_wp2
                  go_ret
                  exact ⟨ret_bool H'.out, by ((repeat (first | (with_reducible exact Below.refl _ _) | (with_reducible assumption) | (with_reducible refine Below.alloc ?_ ?_ _) | (with_reducible refine Below.setCell ?_ ?_ _) | (with_reducible refine Below.drew ?_) | (with_reducible refine below_setRow ?_ ?_ _) | (refine Below.trans ?_ (Below.mono (by assumption) ?_)))); all_goals (first | omega | (simp; done) | (simp; omega)))⟩
                · have H' := Lib.hid H
                  clear H
                  have HPN := Lib.hid (prevF_next HG.out hg1)
                  rcases hpv2 with hq0 | ⟨j2, y2, hqj, hy2, hle2⟩
                  · have hqz : decide (0 < q) = false := by simp [hq0]
                    have HQ0 := Lib.hid hq0; clear hq0
                    go_wp2_with fail
                    (refine wp_region_ext (by kernel_rfl) (by kernel_rfl) ?_; (repeat (go_big_quiet_step (first | (go_at_call 44; refine Calls.ext_of (l8FieldOk_any _ _ _ g _ hn))))); refine wpQuiet_nil ?_; intro w3 hb3; obtain ⟨hc3, hf3⟩ := bcell hb3; have hz3 := hb3.size; (try simp only [World.size_alloc, World.size_setCell, World.size_drew] at hz3))
                    go_wp2
                    go_roundw
                    case rel => exact ⟨q + 1, by omega, by go_num, rfl, ⟨_, HPN, H'⟩, by ((repeat (first | (with_reducible exact Below.refl _ _) | (with_reducible assumption) | (with_reducible refine Below.alloc ?_ ?_ _) | (with_reducible refine Below.setCell ?_ ?_ _) | (with_reducible refine Below.drew ?_) | (with_reducible refine below_setRow ?_ ?_ _) | (refine Below.trans ?_ (Below.mono (by assumption) ?_)))); all_goals (first | omega | (simp; done) | (simp; omega))), box_next (w := wr) (by ((repeat (first | (with_reducible exact Below.refl _ _) | (with_reducible assumption) | (with_reducible refine Below.alloc ?_ ?_ _) | (with_reducible refine Below.setCell ?_ ?_ _) | (with_reducible refine Below.drew ?_) | (with_reducible refine below_setRow ?_ ?_ _) | (refine Below.trans ?_ (Below.mono (by assumption) ?_)))); all_goals (first | omega | (simp; done) | (simp; omega)))) hzi0 kA2, box_next (w := wr) (by ((repeat (first | (with_reducible exact Below.refl _ _) | (with_reducible assumption) | (with_reducible refine Below.alloc ?_ ?_ _) | (with_reducible refine Below.setCell ?_ ?_ _) | (with_reducible refine Below.drew ?_) | (with_reducible refine below_setRow ?_ ?_ _) | (refine Below.trans ?_ (Below.mono (by assumption) ?_)))); all_goals (first | omega | (simp; done) | (simp; omega)))) hzi kC, by omega⟩
                    case measure => simp [intOf]; omega
                  · obtain ⟨_, _, e0', _, y0', _⟩ := Flds.at (Sl.keep HS1.out hb2) hy2
                    obtain ⟨rfl, rfl⟩ : p' = _ ∧ o = _ := by simpa using e0'
                    have hy2' := Lib.hid hy2; clear hy2 e0'
                    have hwq : (q : Int) - 1 = j2 := by omega
                    have hwq2 : IntKind.i64.wrap ((q : Int) - 1) = j2 := by rw [hwq]; exact IntWalk.i64_in _ (by omega)
                    have hq0 : 0 < q := by omega
                    have hj20 : (0 : Int) ≤ j2 := by omega
                    have hj2n : (j2 : Int) < e.flds.length := by omega
                    have hle3 : decide (g.number ≤ y2.number) = false := by simp; omega
                    have HQJ := Lib.hid hqj; clear hqj
                    go_wp2_with fail
                    (refine wp_region_ext (by kernel_rfl) (by kernel_rfl) ?_; (repeat (go_big_quiet_step (first | (go_at_call 44; refine Calls.ext_of (l8FieldOk_any _ _ _ g _ hn))))); refine wpQuiet_nil ?_; intro w3 hb3; obtain ⟨hc3, hf3⟩ := bcell hb3; have hz3 := hb3.size; (try simp only [World.size_alloc, World.size_setCell, World.size_drew] at hz3))
                    go_wp2
                    go_roundw
                    case rel => exact ⟨q + 1, by omega, by go_num, rfl, ⟨_, HPN, H'⟩, by ((repeat (first | (with_reducible exact Below.refl _ _) | (with_reducible assumption) | (with_reducible refine Below.alloc ?_ ?_ _) | (with_reducible refine Below.setCell ?_ ?_ _) | (with_reducible refine Below.drew ?_) | (with_reducible refine below_setRow ?_ ?_ _) | (refine Below.trans ?_ (Below.mono (by assumption) ?_)))); all_goals (first | omega | (simp; done) | (simp; omega))), box_next (w := wr) (by ((repeat (first | (with_reducible exact Below.refl _ _) | (with_reducible assumption) | (with_reducible refine Below.alloc ?_ ?_ _) | (with_reducible refine Below.setCell ?_ ?_ _) | (with_reducible refine Below.drew ?_) | (with_reducible refine below_setRow ?_ ?_ _) | (refine Below.trans ?_ (Below.mono (by assumption) ?_)))); all_goals (first | omega | (simp; done) | (simp; omega)))) hzi0 kA2, box_next (w := wr) (by ((repeat (first | (with_reducible exact Below.refl _ _) | (with_reducible assumption) | (with_reducible refine Below.alloc ?_ ?_ _) | (with_reducible refine Below.setCell ?_ ?_ _) | (with_reducible refine Below.drew ?_) | (with_reducible refine below_setRow ?_ ?_ _) | (refine Below.trans ?_ (Below.mono (by assumption) ?_)))); all_goals (first | omega | (simp; done) | (simp; omega)))) hzi kC, by omega⟩
                    case measure => simp [intOf]; omega
              · have H := Lib.hid (so_ok HV.out HE.out HH.out (by rw [HS.out]; exact fo_end HT1.out (by omega)))
                go_wp2
                go_roundw
                case rel => exact ⟨k + 1, by omega, by go_num, rfl, ⟨_, HPS, H⟩, by ((repeat (first | (with_reducible exact Below.refl _ _) | (with_reducible assumption) | (with_reducible refine Below.alloc ?_ ?_ _) | (with_reducible refine Below.setCell ?_ ?_ _) | (with_reducible refine Below.drew ?_) | (with_reducible refine below_setRow ?_ ?_ _) | (refine Below.trans ?_ (Below.mono (by assumption) ?_)))); all_goals (first | omega | (simp; done) | (simp; omega))), kA2, by omega⟩
                case measure => simp [intOf]; omega
          ·
            obtain ⟨_, _, _, _, e0, _, y0, _, _⟩ := h.below hb (Nat.le_refl _) j y hy
            obtain ⟨rfl, rfl⟩ : p = _ ∧ off = _ := by simpa using e0
            have hy' := Lib.hid hy; clear hy e0
            have hw : (k : Int) - 1 = j := by omega
            have hw2 : IntKind.i64.wrap ((k : Int) - 1) = j := by rw [hw]; exact IntWalk.i64_in _ (by omega)
            have hk0 : 0 < k := by omega
            have hj0 : (0 : Int) ≤ j := by omega
            have hjn : (j : Int) < n := by omega
            have HKJ := Lib.hid hkj; clear hkj
            have hp2 : decide (e.id ≤ y.id) = false := by simp; omega
            go_wp2_with fail
            (refine wp_region_ext (by kernel_rfl) (by kernel_rfl) ?_; (repeat (go_big_quiet_step (first | (go_at_call 43; refine Calls.ext_of_same (l1In_any _ _ _ _))))); refine wpQuiet_nil ?_; intro w1 hb1; obtain ⟨hc1, hf1⟩ := bcell hb1; have hz1 := hb1.size; (try simp only [World.size_alloc, World.size_setCell, World.size_drew] at hz1))
            go_wp2
            obtain ⟨wo, rfl⟩ : ∃ wo : World, wo = wr := ⟨_, rfl⟩
            have hbx1 := Lib.hid (box_new0 hb1)
            have hbl1 := box_lt0 hb1
            have hbw1 : Below wo.heap.size wo w1 := by ((repeat (first | (with_reducible exact Below.refl _ _) | (with_reducible assumption) | (with_reducible refine Below.alloc ?_ ?_ _) | (with_reducible refine Below.setCell ?_ ?_ _) | (with_reducible refine Below.drew ?_) | (with_reducible refine below_setRow ?_ ?_ _) | (refine Below.trans ?_ (Below.mono (by assumption) ?_)))); all_goals (first | omega | (simp; done) | (simp; omega)))
            have kA1 := Lib.hid (box_next hbw1 hzz kA)
            have hzw1 := hbw1.size
            go_loopw [2, 5] (fun t j wr => ∃ q : Nat, q ≤ e.flds.length ∧ j = .int .i64 q ∧ t = .bool false ∧ (∃ v : Int, Hid (PrevF e.flds q v) ∧ Hid (fldsOk n v (e.flds.drop q) = S)) ∧ Below wo.heap.size wo wr ∧ (∀ i, wr.cell? ⟨w.heap.size, i, none⟩ = (#[.slice (some ⟨p, off, none⟩) n cap] : Array Value)[i]?) ∧ (∀ i, wr.cell? ⟨wo.heap.size, i, none⟩ = (#[.int .i64 e.id, .slice a1 e.flds.length cap1] : Array Value)[i]?) ∧ wo.heap.size < wr.heap.size) (fun _ i _ => e.flds.length - (intOf i).toNat)
            case atStart => exact ⟨0, Nat.zero_le _, rfl, rfl, ⟨0, Lib.hid (.inl ⟨rfl, rfl⟩), HSd⟩, hbw1, kA1.out, hbx1.out, hbl1⟩
            case round =>
              obtain ⟨q, hq, rfl, rfl, ⟨v, HPF, HT1⟩, hb2, kA2, kC, hzi⟩ := hrel
              have hzi0 : w.heap.size < wr.heap.size := by omega
              by_cases hqlt : q < e.flds.length
              · obtain ⟨g, hg, _⟩ := at_lt (xs := e.flds) (k := q) hqlt
                have HG := Lib.hid hg
                obtain ⟨p', o, rfl, hp, x0, x1, x2, x3, x4⟩ := Flds.at (Sl.keep HS1.out hb2) hg
                clear hg
                have HC2 := Lib.hid (fld_cases HPF.out HT1.out HG.out)
                rcases HC2.out with ⟨hz, H⟩ | ⟨hz, j2, y2, hqj, hy2, hle2, H⟩ | ⟨hz, hpv2, H, hg1⟩
                · have H' := Lib.hid (so_bad2 HV.out HE.out HH.out (by rw [HS.out]; exact H))
                  clear H
                  go_wp2_with fail
                  (refine wp_region_ext (by kernel_rfl) (by kernel_rfl) ?_; (repeat (go_big_quiet_step (first | (go_at_call 44; refine Calls.ext_of (l8FieldOk_any _ _ _ g _ hn))))); refine wpQuiet_nil ?_; intro w3 hb3; obtain ⟨hc3, hf3⟩ := bcell hb3; have hz3 := hb3.size; (try simp only [World.size_alloc, World.size_setCell, World.size_drew] at hz3))
                  go_wp2
                  go_ret
                  exact ⟨ret_bool H'.out, by ((repeat (first | (with_reducible exact Below.refl _ _) | (with_reducible assumption) | (with_reducible refine Below.alloc ?_ ?_ _) | (with_reducible refine Below.setCell ?_ ?_ _) | (with_reducible refine Below.drew ?_) | (with_reducible refine below_setRow ?_ ?_ _) | (refine Below.trans ?_ (Below.mono (by assumption) ?_)))); all_goals (first | omega | (simp; done) | (simp; omega)))⟩
                · have H' := Lib.hid (so_bad2 HV.out HE.out HH.out (by rw [HS.out]; exact H))
                  clear H
                  obtain ⟨_, _, e0', _, y0', _⟩ := Flds.at (Sl.keep HS1.out hb2) hy2
                  obtain ⟨rfl, rfl⟩ : p' = _ ∧ o = _ := by simpa using e0'
                  have hy2' := Lib.hid hy2; clear hy2 e0'
                  have hwq : (q : Int) - 1 = j2 := by omega
                  have hwq2 : IntKind.i64.wrap ((q : Int) - 1) = j2 := by rw [hwq]; exact IntWalk.i64_in _ (by omega)
                  have hq0 : 0 < q := by omega
                  have hj20 : (0 : Int) ≤ j2 := by omega
                  have hj2n : (j2 : Int) < e.flds.length := by omega
                  have HQJ := Lib.hid hqj; clear hqj
                  go_wp2_with fail
                  (refine wp_region_ext (by kernel_rfl) (by kernel_rfl) ?_; (repeat (go_big_quiet_step (first | (go_at_call 44; refine Calls.ext_of (l8FieldOk_any _ _ _ g _ hn))))); refine wpQuiet_nil ?_; intro w3 hb3; obtain ⟨hc3, hf3⟩ := bcell hb3; have hz3 := hb3.size; (try simp only [World.size_alloc, World.size_setCell, World.size_drew] at hz3))
                  go_wp2
                  go_ret
                  exact ⟨ret_bool H'.out, by ((repeat (first | (with_reducible exact Below.refl _ _) | (with_reducible assumption) | (with_reducible refine Below.alloc ?_ ?_ _) | (with_reducible refine Below.setCell ?_ ?_ _) | (with_reducible refine Below.drew ?_) | (with_reducible refine below_setRow ?_ ?_ _) | (refine Below.trans ?_ (Below.mono (by assumption) ?_)))); all_goals (first | omega | (simp; done) | (simp; omega)))⟩
                · have H' := Lib.hid H
                  clear H
                  have HPN := Lib.hid (prevF_next HG.out hg1)
                  rcases hpv2 with hq0 | ⟨j2, y2, hqj, hy2, hle2⟩
                  · have hqz : decide (0 < q) = false := by simp [hq0]
                    have HQ0 := Lib.hid hq0; clear hq0
                    go_wp2_with fail
                    (refine wp_region_ext (by kernel_rfl) (by kernel_rfl) ?_; (repeat (go_big_quiet_step (first | (go_at_call 44; refine Calls.ext_of (l8FieldOk_any _ _ _ g _ hn))))); refine wpQuiet_nil ?_; intro w3 hb3; obtain ⟨hc3, hf3⟩ := bcell hb3; have hz3 := hb3.size; (try simp only [World.size_alloc, World.size_setCell, World.size_drew] at hz3))
                    go_wp2
                    go_roundw
                    case rel => exact ⟨q + 1, by omega, by go_num, rfl, ⟨_, HPN, H'⟩, by ((repeat (first | (with_reducible exact Below.refl _ _) | (with_reducible assumption) | (with_reducible refine Below.alloc ?_ ?_ _) | (with_reducible refine Below.setCell ?_ ?_ _) | (with_reducible refine Below.drew ?_) | (with_reducible refine below_setRow ?_ ?_ _) | (refine Below.trans ?_ (Below.mono (by assumption) ?_)))); all_goals (first | omega | (simp; done) | (simp; omega))), box_next (w := wr) (by ((repeat (first | (with_reducible exact Below.refl _ _) | (with_reducible assumption) | (with_reducible refine Below.alloc ?_ ?_ _) | (with_reducible refine Below.setCell ?_ ?_ _) | (with_reducible refine Below.drew ?_) | (with_reducible refine below_setRow ?_ ?_ _) | (refine Below.trans ?_ (Below.mono (by assumption) ?_)))); all_goals (first | omega | (simp; done) | (simp; omega)))) hzi0 kA2, box_next (w := wr) (by ((repeat (first | (with_reducible exact Below.refl _ _) | (with_reducible assumption) | (with_reducible refine Below.alloc ?_ ?_ _) | (with_reducible refine Below.setCell ?_ ?_ _) | (with_reducible refine Below.drew ?_) | (with_reducible refine below_setRow ?_ ?_ _) | (refine Below.trans ?_ (Below.mono (by assumption) ?_)))); all_goals (first | omega | (simp; done) | (simp; omega)))) hzi kC, by omega⟩
                    case measure => simp [intOf]; omega
                  · obtain ⟨_, _, e0', _, y0', _⟩ := Flds.at (Sl.keep HS1.out hb2) hy2
                    obtain ⟨rfl, rfl⟩ : p' = _ ∧ o = _ := by simpa using e0'
                    have hy2' := Lib.hid hy2; clear hy2 e0'
                    have hwq : (q : Int) - 1 = j2 := by omega
                    have hwq2 : IntKind.i64.wrap ((q : Int) - 1) = j2 := by rw [hwq]; exact IntWalk.i64_in _ (by omega)
                    have hq0 : 0 < q := by omega
                    have hj20 : (0 : Int) ≤ j2 := by omega
                    have hj2n : (j2 : Int) < e.flds.length := by omega
                    have hle3 : decide (g.number ≤ y2.number) = false := by simp; omega
                    have HQJ := Lib.hid hqj; clear hqj
                    go_wp2_with fail
                    (refine wp_region_ext (by kernel_rfl) (by kernel_rfl) ?_; (repeat (go_big_quiet_step (first | (go_at_call 44; refine Calls.ext_of (l8FieldOk_any _ _ _ g _ hn))))); refine wpQuiet_nil ?_; intro w3 hb3; obtain ⟨hc3, hf3⟩ := bcell hb3; have hz3 := hb3.size; (try simp only [World.size_alloc, World.size_setCell, World.size_drew] at hz3))
                    go_wp2
                    go_roundw
                    case rel => exact ⟨q + 1, by omega, by go_num, rfl, ⟨_, HPN, H'⟩, by ((repeat (first | (with_reducible exact Below.refl _ _) | (with_reducible assumption) | (with_reducible refine Below.alloc ?_ ?_ _) | (with_reducible refine Below.setCell ?_ ?_ _) | (with_reducible refine Below.drew ?_) | (with_reducible refine below_setRow ?_ ?_ _) | (refine Below.trans ?_ (Below.mono (by assumption) ?_)))); all_goals (first | omega | (simp; done) | (simp; omega))), box_next (w := wr) (by ((repeat (first | (with_reducible exact Below.refl _ _) | (with_reducible assumption) | (with_reducible refine Below.alloc ?_ ?_ _) | (with_reducible refine Below.setCell ?_ ?_ _) | (with_reducible refine Below.drew ?_) | (with_reducible refine below_setRow ?_ ?_ _) | (refine Below.trans ?_ (Below.mono (by assumption) ?_)))); all_goals (first | omega | (simp; done) | (simp; omega)))) hzi0 kA2, box_next (w := wr) (by ((repeat (first | (with_reducible exact Below.refl _ _) | (with_reducible assumption) | (with_reducible refine Below.alloc ?_ ?_ _) | (with_reducible refine Below.setCell ?_ ?_ _) | (with_reducible refine Below.drew ?_) | (with_reducible refine below_setRow ?_ ?_ _) | (refine Below.trans ?_ (Below.mono (by assumption) ?_)))); all_goals (first | omega | (simp; done) | (simp; omega)))) hzi kC, by omega⟩
                    case measure => simp [intOf]; omega
              · have H := Lib.hid (so_ok HV.out HE.out HH.out (by rw [HS.out]; exact fo_end HT1.out (by omega)))
                go_wp2
                go_roundw
                case rel => exact ⟨k + 1, by omega, by go_num, rfl, ⟨_, HPS, H⟩, by ((repeat (first | (with_reducible exact Below.refl _ _) | (with_reducible assumption) | (with_reducible refine Below.alloc ?_ ?_ _) | (with_reducible refine Below.setCell ?_ ?_ _) | (with_reducible refine Below.drew ?_) | (with_reducible refine below_setRow ?_ ?_ _) | (refine Below.trans ?_ (Below.mono (by assumption) ?_)))); all_goals (first | omega | (simp; done) | (simp; omega))), kA2, by omega⟩
                case measure => simp [intOf]; omega
      · have H := Lib.hid (so_end HV.out (by rw [HX.out]; omega))
        go_wp2
        go_ret
        exact ⟨ret_bool H.out, hb⟩
  · have H := Lib.hid (show false = schOk xs by rw [schOk, HX.out]; simp; omega)
    go_enter Try.func11, Try.ntmps11
    go_wp2
    go_ret
    exact ⟨ret_bool H.out, by ((repeat (first | (with_reducible exact Below.refl _ _) | (with_reducible assumption) | (with_reducible refine Below.alloc ?_ ?_ _) | (with_reducible refine Below.setCell ?_ ?_ _) | (with_reducible refine Below.drew ?_) | (with_reducible refine below_setRow ?_ ?_ _) | (refine Below.trans ?_ (Below.mono (by assumption) ?_)))); all_goals (first | omega | (simp; done) | (simp; omega)))⟩
theorem sl_newsN {α : Type} {sz : Nat} {cs : α → List Value} {w : World} {a : Option Addr} {xs : List α} (hsz : 0 < sz) (hcs : ∀ x, (cs x).length = sz) (h : Sl sz cs w a xs) :
    ∀ (ad : Addr), a = some ad → ∀ (j : Nat) (u : Value), (xs.flatMap cs)[j]? = some u → w.cell? (ad.add j) = some u := fun ad e => sl_news hsz hcs (by rw [← e]; exact h)
def hasNum (fs : List Fld) (n : Int) : Bool := fs.any fun f => f.number == n
def hasId (xs : List Shp) (i : Int) : Bool := xs.any fun x => x.id == i
theorem any_hit {α : Type} {p : α → Bool} {xs : List α} {k : Nat} {e : α} (he : xs[k]? = some e) (h : p e = true) : xs.any p = true := List.any_eq_true.2 ⟨e, List.mem_of_getElem? he, h⟩
theorem any_snoc {α : Type} {p : α → Bool} {xs : List α} {k : Nat} {e : α} (he : xs[k]? = some e) : (xs.take (k + 1)).any p = ((xs.take k).any p || p e) := by
  rw [List.take_add_one, he]; simp
set_option maxHeartbeats 2000000 in
theorem l6HasNumber_any (a : Option Addr) (cap n : Nat) (fs : List Fld) (x : Int) (w : World) (h : Flds w a fs) (hl : fs.length = n) (hn : n ≤ 1048576) :
    Calls Try.prog 74 #[.slice a n cap, .int .i64 x] w fun r w' => r = .returned (.bool (hasNum fs x)) ∧ Below w.heap.size w w' := by
  have HL := Lib.hid hl; clear hl
  obtain ⟨R, hR⟩ : ∃ R, hasNum fs x = R := ⟨_, rfl⟩
  rw [hR]
  have HR := Lib.hid hR; clear hR
  go_enter Try.func74, Try.ntmps74
  go_wp2
  go_loop [5] (fun i => ∃ k : Nat, k ≤ n ∧ i = .int .i64 k ∧ Hid ((fs.take k).any (fun f => f.number == x) = false)) (fun i => n - (intOf i).toNat)
  case atStart => exact ⟨0, Nat.zero_le _, rfl, Lib.hid (by simp)⟩
  case round =>
    obtain ⟨k, hk, rfl, HK⟩ := hrel
    by_cases hlt : k < n
    · obtain ⟨f, hf, _⟩ := at_lt (xs := fs) (k := k) (by rw [HL.out]; exact hlt)
      obtain ⟨b, off, rfl, hbl, d0, -⟩ := Flds.at h hf
      have HF := Lib.hid hf; clear hf
      cases hq : (f.number == x)
      · have HK2 := Lib.hid (show (fs.take (k + 1)).any (fun f => f.number == x) = false by rw [any_snoc HF.out, HK.out, hq]; rfl)
        go_wp2
        go_round
        case rel => exact ⟨k + 1, by omega, by go_num, HK2⟩
        case measure => simp [intOf]; omega
      · have HB := Lib.hid (show true = R by rw [← HR.out, hasNum, any_hit HF.out hq])
        go_wp2
        go_ret
        exact ⟨ret_bool HB.out, by ((repeat (first | (with_reducible exact Below.refl _ _) | (with_reducible assumption) | (with_reducible refine Below.alloc ?_ ?_ _) | (with_reducible refine Below.setCell ?_ ?_ _) | (with_reducible refine Below.drew ?_) | (with_reducible refine below_setRow ?_ ?_ _) | (refine Below.trans ?_ (Below.mono (by assumption) ?_)))); all_goals (first | omega | (simp; done) | (simp; omega)))⟩
    · have HB := Lib.hid (show false = R by rw [← HR.out, hasNum]; have := HK.out; rw [List.take_of_length_le (by rw [HL.out]; omega)] at this; exact this.symm)
      go_wp2
      go_ret
      exact ⟨ret_bool HB.out, by ((repeat (first | (with_reducible exact Below.refl _ _) | (with_reducible assumption) | (with_reducible refine Below.alloc ?_ ?_ _) | (with_reducible refine Below.setCell ?_ ?_ _) | (with_reducible refine Below.drew ?_) | (with_reducible refine below_setRow ?_ ?_ _) | (refine Below.trans ?_ (Below.mono (by assumption) ?_)))); all_goals (first | omega | (simp; done) | (simp; omega)))⟩
theorem Shs.at {w : World} {a : Option Addr} {xs : List Shp} (h : Shs w a xs) {k : Nat} {x : Shp} (hx : xs[k]? = some x) :
    ∃ b off a' cap', a = some ⟨b, off, none⟩ ∧ b < w.heap.size ∧ w.cell? ⟨b, off + k * 2, none⟩ = some (.int .i64 x.id) ∧ w.cell? ⟨b, off + k * 2 + 1, none⟩ = some (.slice a' x.flds.length cap') ∧ Flds w a' x.flds := h k x hx
set_option maxHeartbeats 2000000 in
theorem l6HasId_any (a : Option Addr) (cap n m : Nat) (xs : List Shp) (x : Int) (w : World) (h : Shs w a xs) (hl : xs.length = n) (hn : n ≤ 1048576) (hm : m ≤ n) :
    Calls Try.prog 72 #[.agg #[.slice a n cap], .int .i64 x, .int .i64 m] w fun r w' => r = .returned (.bool (hasId (xs.take m) x)) ∧ Below w.heap.size w w' := by
  have HL := Lib.hid hl; clear hl
  obtain ⟨R, hR⟩ : ∃ R, hasId (xs.take m) x = R := ⟨_, rfl⟩
  rw [hR]
  have HR := Lib.hid hR; clear hR
  go_enter Try.func72, Try.ntmps72
  go_wp2
  have hh : Shs (w.alloc (.cells #[.slice a n cap] 26)) a xs := h.keep (by ((repeat (first | (with_reducible exact Below.refl _ _) | (with_reducible assumption) | (with_reducible refine Below.alloc ?_ ?_ _) | (with_reducible refine Below.setCell ?_ ?_ _) | (with_reducible refine Below.drew ?_) | (with_reducible refine below_setRow ?_ ?_ _) | (refine Below.trans ?_ (Below.mono (by assumption) ?_)))); all_goals (first | omega | (simp; done) | (simp; omega))))
  have HH := Lib.hid hh; clear hh
  go_loop [7] (fun i => ∃ k : Nat, k ≤ m ∧ i = .int .i64 k ∧ Hid ((xs.take k).any (fun f => f.id == x) = false)) (fun i => m - (intOf i).toNat)
  case atStart => exact ⟨0, Nat.zero_le _, rfl, Lib.hid (by simp)⟩
  case round =>
    obtain ⟨k, hk, rfl, HK⟩ := hrel
    by_cases hlt : k < m
    · obtain ⟨f, hf, _⟩ := at_lt (xs := xs) (k := k) (by rw [HL.out]; omega)
      obtain ⟨b, off, a', cap', rfl, hbl, d0, -⟩ := Shs.at HH.out hf
      have hkn : k < n := by omega
      have HF := Lib.hid hf; clear hf
      cases hq : (f.id == x)
      · have HK2 := Lib.hid (show (xs.take (k + 1)).any (fun f => f.id == x) = false by rw [any_snoc HF.out, HK.out, hq]; rfl)
        go_wp2
        go_round
        case rel => exact ⟨k + 1, by omega, by go_num, HK2⟩
        case measure => simp [intOf]; omega
      · have HB := Lib.hid (show true = R by rw [← HR.out, hasId]; exact (any_hit (k := k) (e := f) (xs := xs.take m) (p := fun y => y.id == x) (by rw [List.getElem?_take, if_pos hlt]; exact HF.out) hq).symm)
        go_wp2
        go_ret
        exact ⟨ret_bool HB.out, by ((repeat (first | (with_reducible exact Below.refl _ _) | (with_reducible assumption) | (with_reducible refine Below.alloc ?_ ?_ _) | (with_reducible refine Below.setCell ?_ ?_ _) | (with_reducible refine Below.drew ?_) | (with_reducible refine below_setRow ?_ ?_ _) | (refine Below.trans ?_ (Below.mono (by assumption) ?_)))); all_goals (first | omega | (simp; done) | (simp; omega)))⟩
    · obtain rfl : k = m := by omega
      have HB := Lib.hid (show false = R by rw [← HR.out, hasId]; exact HK.out.symm)
      go_wp2
      go_ret
      exact ⟨ret_bool HB.out, by ((repeat (first | (with_reducible exact Below.refl _ _) | (with_reducible assumption) | (with_reducible refine Below.alloc ?_ ?_ _) | (with_reducible refine Below.setCell ?_ ?_ _) | (with_reducible refine Below.drew ?_) | (with_reducible refine below_setRow ?_ ?_ _) | (refine Below.trans ?_ (Below.mono (by assumption) ?_)))); all_goals (first | omega | (simp; done) | (simp; omega)))⟩
def msgC (xs : List Shp) (i : Nat) (x : Shp) : Int := if inB x.id 1 99 = false then 2 else if hasId (xs.take i) x.id = true then 3 else if 8 < x.flds.length then 4 else 0
set_option maxHeartbeats 2000000 in
theorem specMsgCode_any (a : Option Addr) (cap n i : Nat) (xs : List Shp) (x : Shp) (w : World) (h : Shs w a xs) (hl : xs.length = n) (hn : n ≤ 1048576) (hx : xs[i]? = some x) (hi : i < n) (hf : x.flds.length ≤ 1048576) :
    Calls Try.prog 40 #[.agg #[.slice a n cap], .int .i64 i] w fun r w' => r = .returned (.int .i64 (msgC xs i x)) ∧ Below w.heap.size w w' := by
  have HL := Lib.hid hl; clear hl
  obtain ⟨R, hR⟩ : ∃ R, msgC xs i x = R := ⟨_, rfl⟩
  rw [hR]
  have HR := Lib.hid hR; clear hR
  obtain ⟨b, off, a', cap', rfl, hbl, c0, c1, -⟩ := Shs.at h hx
  have HX := Lib.hid hx; clear hx
  have hb1 : inB (i : Int) 0 ((n : Int) - 1) = true := by simp only [inB, decide_eq_true_eq]; omega
  have hii : (i : Int) < (n : Int) := by omega
  have HH := Lib.hid h; clear h
  go_enter Try.func40, Try.ntmps40
  cases h1 : inB x.id 1 99
  · have HB := Lib.hid (show (2 : Int) = R by rw [← HR.out, msgC, if_pos h1])
    go_wp2_with (first | (go_at_call 43; refine (l1In_any _ _ _ _).mono ?_; rintro r w1 ⟨rfl, rfl⟩))
    go_ret
    exact ⟨ret_int HB.out, by ((repeat (first | (with_reducible exact Below.refl _ _) | (with_reducible assumption) | (with_reducible refine Below.alloc ?_ ?_ _) | (with_reducible refine Below.setCell ?_ ?_ _) | (with_reducible refine Below.drew ?_) | (with_reducible refine below_setRow ?_ ?_ _) | (refine Below.trans ?_ (Below.mono (by assumption) ?_)))); all_goals (first | omega | (simp; done) | (simp; omega)))⟩
  · go_wp2_with (first | (go_at_call 43; refine (l1In_any _ _ _ _).mono ?_; rintro r w1 ⟨rfl, rfl⟩))
    refine (l6HasId_any (some ⟨b, off, none⟩) cap n i xs x.id _ (HH.out.keep (by ((repeat (first | (with_reducible exact Below.refl _ _) | (with_reducible assumption) | (with_reducible refine Below.alloc ?_ ?_ _) | (with_reducible refine Below.setCell ?_ ?_ _) | (with_reducible refine Below.drew ?_) | (with_reducible refine below_setRow ?_ ?_ _) | (refine Below.trans ?_ (Below.mono (by assumption) ?_)))); all_goals (first | omega | (simp; done) | (simp; omega))))) HL.out hn (by omega)).mono ?_
    rintro r w2 ⟨rfl, hb2⟩
    have hM := (hb2.block (w.heap.size + 1) (by simp)).trans (hset_new (o := .cells #[.int .i64 x.id, .slice a' x.flds.length cap'] 40) (by simp))
    have kM := box_cells hM
    have hbw : Below w.heap.size w w2 := by ((repeat (first | (with_reducible exact Below.refl _ _) | (with_reducible assumption) | (with_reducible refine Below.alloc ?_ ?_ _) | (with_reducible refine Below.setCell ?_ ?_ _) | (with_reducible refine Below.drew ?_) | (with_reducible refine below_setRow ?_ ?_ _) | (refine Below.trans ?_ (Below.mono (by assumption) ?_)))); all_goals (first | omega | (simp; done) | (simp; omega)))
    clear hb2 hM
    cases h2 : hasId (xs.take i) x.id
    · by_cases h8 : 8 < x.flds.length
      · have HB := Lib.hid (show (4 : Int) = R by rw [← HR.out, msgC, if_neg (by rw [h1]; simp), if_neg (by rw [h2]; simp), if_pos h8])
        have h8' : (8 : Int) < (x.flds.length : Int) := by omega
        go_wp2
        go_ret
        exact ⟨ret_int HB.out, by ((repeat (first | (with_reducible exact Below.refl _ _) | (with_reducible assumption) | (with_reducible refine Below.alloc ?_ ?_ _) | (with_reducible refine Below.setCell ?_ ?_ _) | (with_reducible refine Below.drew ?_) | (with_reducible refine below_setRow ?_ ?_ _) | (refine Below.trans ?_ (Below.mono (by assumption) ?_)))); all_goals (first | omega | (simp; done) | (simp; omega)))⟩
      · have HB := Lib.hid (show (0 : Int) = R by rw [← HR.out, msgC, if_neg (by rw [h1]; simp), if_neg (by rw [h2]; simp), if_neg h8])
        have h8' : decide ((8 : Int) < (x.flds.length : Int)) = false := decide_eq_false (by omega)
        go_wp2
        go_ret
        exact ⟨ret_int HB.out, by ((repeat (first | (with_reducible exact Below.refl _ _) | (with_reducible assumption) | (with_reducible refine Below.alloc ?_ ?_ _) | (with_reducible refine Below.setCell ?_ ?_ _) | (with_reducible refine Below.drew ?_) | (with_reducible refine below_setRow ?_ ?_ _) | (refine Below.trans ?_ (Below.mono (by assumption) ?_)))); all_goals (first | omega | (simp; done) | (simp; omega)))⟩
    · have HB := Lib.hid (show (3 : Int) = R by rw [← HR.out, msgC, if_neg (by rw [h1]; simp), if_pos h2])
      go_wp2
      go_ret
      exact ⟨ret_int HB.out, by ((repeat (first | (with_reducible exact Below.refl _ _) | (with_reducible assumption) | (with_reducible refine Below.alloc ?_ ?_ _) | (with_reducible refine Below.setCell ?_ ?_ _) | (with_reducible refine Below.drew ?_) | (with_reducible refine below_setRow ?_ ?_ _) | (refine Below.trans ?_ (Below.mono (by assumption) ?_)))); all_goals (first | omega | (simp; done) | (simp; omega)))⟩
def ShsL (w : World) (a : Option Addr) (xs : List Shp) : Prop :=
  ∀ (k : Nat) (x : Shp), xs[k]? = some x → ∃ b off a' cap', a = some ⟨b, off, none⟩ ∧ b < w.heap.size ∧ w.cell? ⟨b, off + k * 2, none⟩ = some (.int .i64 x.id) ∧ w.cell? ⟨b, off + k * 2 + 1, none⟩ = some (.slice a' x.flds.length cap') ∧ Flds w a' x.flds ∧ x.flds.length ≤ cap'
theorem ShsL.shs {w : World} {a : Option Addr} {xs : List Shp} (h : ShsL w a xs) : Shs w a xs := fun k x hx => by
  obtain ⟨b, off, a', cap', h1, h2, h3, h4, h5, _⟩ := h k x hx
  exact ⟨b, off, a', cap', h1, h2, h3, h4, h5⟩
theorem ShsL.keep {w w' : World} {a : Option Addr} {xs : List Shp} (h : ShsL w a xs) (hb : Below w.heap.size w w') : ShsL w' a xs := fun k x hx => by
  obtain ⟨b, off, a', cap', h1, h2, h3, h4, h5, h6⟩ := h k x hx
  exact ⟨b, off, a', cap', h1, Nat.lt_of_lt_of_le h2 hb.size, (hb.cell (p := ⟨b, _, none⟩) h2).trans h3, (hb.cell (p := ⟨b, _, none⟩) h2).trans h4, Sl.keep h5 hb, h6⟩
theorem own_lecapR {w : World} {base n cap size : Nat} {t : TypeId} {a : Option Addr} {L : List Value} (h : w.ownsRow base t size (.slice a n cap) n L) : n ≤ cap := by
  rcases h.2 with ⟨e, h0⟩ | ⟨g, c, cur, e, _, _, hc, _⟩
  · simp only [Value.slice.injEq] at e; omega
  · simp only [Value.slice.injEq] at e; omega
theorem OwnShs.shsL {w : World} {base : Nat} {T TF : TypeId} {a : Option Addr} {n cap : Nat} {rs : List ShR} {xs : List Shp} (h : OwnShs w base T TF (.slice a n cap) n rs xs) : ShsL w a xs := by
  intro k x hx
  have hk : k < xs.length := by
    rcases Nat.lt_or_ge k xs.length with h | h
    · exact h
    · rw [List.getElem?_eq_none h] at hx; simp at hx
  have hkr : k < rs.length := by rw [h.len, ← h.lenx]; exact hk
  obtain ⟨a1, cap1, e, _, _, hs⟩ := Sl.of_owns shR_len h.outer h.len
  simp only [Value.slice.injEq] at e
  obtain ⟨rfl, _, rfl⟩ := e
  obtain ⟨b, off, ha, hlt, hc⟩ := hs k rs[k] (List.getElem?_eq_getElem hkr)
  obtain ⟨h1, h2, h3⟩ := h.each k rs[k] x (List.getElem?_eq_getElem hkr) hx
  have c0 := hc 0 _ rfl
  have c1 := hc 1 _ rfl
  rw [h1] at c0
  rw [h2] at c1 h3
  exact ⟨b, off, rs[k].a, rs[k].cap, ha, hlt, c0, c1, flds_of_own h3 rfl, own_lecapR h3⟩
theorem flds_take {w : World} {a : Option Addr} {fs : List Fld} (h : Flds w a fs) (k : Nat) : Flds w a (fs.take k) := fun j e he => h j e (by
  rw [List.getElem?_take] at he
  split at he
  · exact he
  · simp at he)
def refBad (xs : List Shp) (f : Fld) : Bool := if f.kind = 8 then !hasId xs f.msg else !(f.msg == 0)
def fldC (xs : List Shp) (fs : List Fld) (k : Nat) (f : Fld) : Int :=
  if numOk f.number = false then 5 else if hasNum (fs.take k) f.number = true then 6 else if inB f.kind 1 8 = false then 7 else if packOk f = false then 8
  else if refBad xs f = true then 9 else 0
set_option maxRecDepth 100000 in
set_option maxHeartbeats 4000000 in
theorem specFieldCode_any (a : Option Addr) (cap n i k : Nat) (xs : List Shp) (x : Shp) (f : Fld) (w : World) (h : ShsL w a xs) (hl : xs.length = n) (hn : n ≤ 1048576) (hx : xs[i]? = some x) (hi : i < n) (hfl : x.flds.length ≤ 1048576) (hf : x.flds[k]? = some f) (hk : k < x.flds.length) :
    Calls Try.prog 41 #[.agg #[.slice a n cap], .int .i64 i, .int .i64 k] w fun r w' => r = .returned (.int .i64 (fldC xs x.flds k f)) ∧ Below w.heap.size w w' := by
  have HL := Lib.hid hl; clear hl
  obtain ⟨R, hR⟩ : ∃ R, fldC xs x.flds k f = R := ⟨_, rfl⟩
  rw [hR]
  have HR := Lib.hid hR; clear hR
  obtain ⟨b, off, a', cap', rfl, hbl, c0, c1, hfs, hcp⟩ := h i x hx
  obtain ⟨b2, off2, rfl, hbl2, d0, d1, d2, d3, d4⟩ := Flds.at hfs hf
  have HX := Lib.hid hx; clear hx
  have HF := Lib.hid hf; clear hf
  have HFS := Lib.hid hfs; clear hfs
  have hb1 : inB (i : Int) 0 ((n : Int) - 1) = true := by simp only [inB, decide_eq_true_eq]; omega
  have hb2' : inB (k : Int) 0 ((x.flds.length : Int) - 1) = true := by simp only [inB, decide_eq_true_eq]; omega
  have hii : (i : Int) < (n : Int) := by omega
  have hki : (k : Int) < (x.flds.length : Int) := by omega
  have hkc : (k : Int) ≤ (cap' : Int) := by omega
  have hk0 : (0 : Int) ≤ (k : Int) := by omega
  have HH := Lib.hid h.shs; clear h
  go_enter Try.func41, Try.ntmps41
  cases h1 : numOk f.number
  · have HB := Lib.hid (show (5 : Int) = R by rw [← HR.out, fldC, if_pos h1])
    go_wp2_with (first | (go_at_call 43; refine (l1In_any _ _ _ _).mono ?_; rintro r w1 ⟨rfl, rfl⟩) | (go_at_call 73; refine (specNumberOk_any _ _).mono ?_; rintro r w1 ⟨rfl, rfl⟩))
    go_ret
    exact ⟨ret_int HB.out, by ((repeat (first | (with_reducible exact Below.refl _ _) | (with_reducible assumption) | (with_reducible refine Below.alloc ?_ ?_ _) | (with_reducible refine Below.setCell ?_ ?_ _) | (with_reducible refine Below.drew ?_) | (with_reducible refine below_setRow ?_ ?_ _) | (refine Below.trans ?_ (Below.mono (by assumption) ?_)))); all_goals (first | omega | (simp; done) | (simp; omega)))⟩
  · go_wp2_with (first | (go_at_call 43; refine (l1In_any _ _ _ _).mono ?_; rintro r w1 ⟨rfl, rfl⟩) | (go_at_call 73; refine (specNumberOk_any _ _).mono ?_; rintro r w1 ⟨rfl, rfl⟩))
    have HF2 : ∀ W x0 : World, Below w.heap.size w W → Flds (World.ext W x0) (some ⟨b2, off2, none⟩) (x.flds.take k) := fun W x0 hW => Sl.keep (Sl.keep (flds_take HFS.out k) hW) (World.ext_below _ _)
    have HF3 := Lib.hid HF2; clear HF2
    have HKl := Lib.hid (show (x.flds.take k).length = k by rw [List.length_take]; omega)
    (refine wp_region_ext (by kernel_rfl) (by kernel_rfl) ?_; (repeat (go_big_quiet_step (first | (go_at_call 74; refine Calls.ext_of (l6HasNumber_any (some ⟨b2, off2, none⟩) cap' k (x.flds.take k) f.number _ (HF3.out _ _ (by ((repeat (first | (with_reducible exact Below.refl _ _) | (with_reducible assumption) | (with_reducible refine Below.alloc ?_ ?_ _) | (with_reducible refine Below.setCell ?_ ?_ _) | (with_reducible refine Below.drew ?_) | (with_reducible refine below_setRow ?_ ?_ _) | (refine Below.trans ?_ (Below.mono (by assumption) ?_)))); all_goals (first | omega | (simp; done) | (simp; omega))))) HKl.out (by omega)))))); refine wpQuiet_nil ?_; intro w2 hb2; obtain ⟨hc2, hf2⟩ := bcell hb2; have hz2 := hb2.size; (try simp only [World.size_alloc, World.size_setCell, World.size_drew] at hz2); have hy2_0 : w.heap.size < w2.heap.size := by omega)
    have hA_ := (hb2.block w.heap.size (by simp; omega)).trans (hset_alloc (hset_new (o := .cells #[.slice (some ⟨b, off, none⟩) n cap] 26) rfl))
    have hG_ := (hb2.block (w.heap.size + 1) (by simp)).trans (hset_new (o := .cells #[.int .i64 f.number, .int .i64 f.kind, .bool f.rep, .bool f.packed, .int .i64 f.msg] 45) (by simp))
    have kA := box_cells hA_; have kG := box_cells hG_; have hlG := box_lt hG_; have hlA := box_lt hA_; have HGx := Lib.hid hG_
    have hbw : Below w.heap.size w w2 := by ((repeat (first | (with_reducible exact Below.refl _ _) | (with_reducible assumption) | (with_reducible refine Below.alloc ?_ ?_ _) | (with_reducible refine Below.setCell ?_ ?_ _) | (with_reducible refine Below.drew ?_) | (with_reducible refine below_setRow ?_ ?_ _) | (refine Below.trans ?_ (Below.mono (by assumption) ?_)))); all_goals (first | omega | (simp; done) | (simp; omega)))
    clear hb2 hA_ hG_ hc2 hf2
    cases h2 : hasNum (x.flds.take k) f.number
    · cases h3 : inB f.kind 1 8
      · have HB := Lib.hid (show (7 : Int) = R by rw [← HR.out, fldC, if_neg (by rw [h1]; simp), if_neg (by rw [h2]; simp), if_pos h3])
        go_wp2_with (first | (go_at_call 75; refine (l6Kind_any _ _).mono ?_; rintro r w1 ⟨rfl, rfl⟩))
        go_ret
        exact ⟨ret_int HB.out, by ((repeat (first | (with_reducible exact Below.refl _ _) | (with_reducible assumption) | (with_reducible refine Below.alloc ?_ ?_ _) | (with_reducible refine Below.setCell ?_ ?_ _) | (with_reducible refine Below.drew ?_) | (with_reducible refine below_setRow ?_ ?_ _) | (refine Below.trans ?_ (Below.mono (by assumption) ?_)))); all_goals (first | omega | (simp; done) | (simp; omega)))⟩
      · cases h4 : packOk f
        · have HB := Lib.hid (show (8 : Int) = R by rw [← HR.out, fldC, if_neg (by rw [h1]; simp), if_neg (by rw [h2]; simp), if_neg (by rw [h3]; simp), if_pos h4])
          simp only [packOk, Bool.not_eq_false', Bool.and_eq_true, Bool.or_eq_true, Bool.not_eq_true'] at h4
          obtain ⟨h5, h6⟩ := h4
          rw [h5] at kG d3
          cases h7 : f.rep
          · rw [h7] at kG d2
            go_wp2_with (first | (go_at_call 75; refine (l6Kind_any _ _).mono ?_; rintro r w1 ⟨rfl, rfl⟩))
            go_ret
            exact ⟨ret_int HB.out, by ((repeat (first | (with_reducible exact Below.refl _ _) | (with_reducible assumption) | (with_reducible refine Below.alloc ?_ ?_ _) | (with_reducible refine Below.setCell ?_ ?_ _) | (with_reducible refine Below.drew ?_) | (with_reducible refine below_setRow ?_ ?_ _) | (refine Below.trans ?_ (Below.mono (by assumption) ?_)))); all_goals (first | omega | (simp; done) | (simp; omega)))⟩
          · have h8 : inB f.kind 1 5 = false := by rcases h6 with h6 | h6; (rw [h7] at h6; simp at h6); exact h6
            rw [h7] at kG d2
            go_wp2_with (first | (go_at_call 75; refine (l6Kind_any _ _).mono ?_; rintro r w1 ⟨rfl, rfl⟩) | (go_at_call 76; refine (specNumeric_any _ _).mono ?_; rintro r w1 ⟨rfl, rfl⟩))
            go_ret
            exact ⟨ret_int HB.out, by ((repeat (first | (with_reducible exact Below.refl _ _) | (with_reducible assumption) | (with_reducible refine Below.alloc ?_ ?_ _) | (with_reducible refine Below.setCell ?_ ?_ _) | (with_reducible refine Below.drew ?_) | (with_reducible refine below_setRow ?_ ?_ _) | (refine Below.trans ?_ (Below.mono (by assumption) ?_)))); all_goals (first | omega | (simp; done) | (simp; omega)))⟩
        · have HP : f.packed = false ∨ f.packed = true ∧ f.rep = true ∧ inB f.kind 1 5 = true := by
            simp only [packOk] at h4
            cases h5 : f.packed <;> cases h6 : f.rep <;> cases h7 : inB f.kind 1 5 <;> simp [h5, h6, h7] at h4 ⊢
          have HE : ∀ v : Int, (if refBad xs f = true then (9 : Int) else 0) = v → v = R := fun v hv => by rw [← HR.out, fldC, if_neg (by rw [h1]; simp), if_neg (by rw [h2]; simp), if_neg (by rw [h3]; simp), if_neg (by rw [h4]; simp), hv]
          have HE2 := Lib.hid HE; clear HE h4
          by_cases h8 : f.kind = 8
          · have g8 : (f.kind == 8) = true := by simp; omega
            have g8n : (f.kind != 8) = false := by simp; omega
            have HRB := Lib.hid (show refBad xs f = !hasId xs f.msg by rw [refBad, if_pos h8])
            have HTK := Lib.hid (show xs.take n = xs from List.take_of_length_le (by rw [HL.out]; omega))
            clear h8
            rcases HP with h5 | ⟨h5, h6, h7⟩
            · rw [h5] at kG d3
              go_wp2_with (first | (go_at_call 75; refine (l6Kind_any _ _).mono ?_; rintro r w1 ⟨rfl, rfl⟩))
              refine (l6HasId_any (some ⟨b, off, none⟩) cap n n xs f.msg _ (HH.out.keep hbw) HL.out hn (Nat.le_refl _)).mono ?_
              rintro r w3 ⟨rfl, hb3⟩
              rw [HTK.out]
              have hG3 := (hb3.block _ hlG).trans HGx.out
              have kG3 := box_cells hG3; clear hG3 kG kA
              cases h9 : hasId xs f.msg
              · have HB := Lib.hid (HE2.out 9 (by rw [HRB.out, h9]; rfl))
                go_wp2
                go_ret
                exact ⟨ret_int HB.out, by ((repeat (first | (with_reducible exact Below.refl _ _) | (with_reducible assumption) | (with_reducible refine Below.alloc ?_ ?_ _) | (with_reducible refine Below.setCell ?_ ?_ _) | (with_reducible refine Below.drew ?_) | (with_reducible refine below_setRow ?_ ?_ _) | (refine Below.trans ?_ (Below.mono (by assumption) ?_)))); all_goals (first | omega | (simp; done) | (simp; omega)))⟩
              · have HB := Lib.hid (HE2.out 0 (by rw [HRB.out, h9]; rfl))
                go_wp2
                go_ret
                exact ⟨ret_int HB.out, by ((repeat (first | (with_reducible exact Below.refl _ _) | (with_reducible assumption) | (with_reducible refine Below.alloc ?_ ?_ _) | (with_reducible refine Below.setCell ?_ ?_ _) | (with_reducible refine Below.drew ?_) | (with_reducible refine below_setRow ?_ ?_ _) | (refine Below.trans ?_ (Below.mono (by assumption) ?_)))); all_goals (first | omega | (simp; done) | (simp; omega)))⟩
            · rw [h5] at kG d3
              rw [h6] at kG d2
              go_wp2_with (first | (go_at_call 75; refine (l6Kind_any _ _).mono ?_; rintro r w1 ⟨rfl, rfl⟩) | (go_at_call 76; refine (specNumeric_any _ _).mono ?_; rintro r w1 ⟨rfl, rfl⟩))
              refine (l6HasId_any (some ⟨b, off, none⟩) cap n n xs f.msg _ (HH.out.keep hbw) HL.out hn (Nat.le_refl _)).mono ?_
              rintro r w3 ⟨rfl, hb3⟩
              rw [HTK.out]
              have hG3 := (hb3.block _ hlG).trans HGx.out
              have kG3 := box_cells hG3; clear hG3 kG kA
              cases h9 : hasId xs f.msg
              · have HB := Lib.hid (HE2.out 9 (by rw [HRB.out, h9]; rfl))
                go_wp2
                go_ret
                exact ⟨ret_int HB.out, by ((repeat (first | (with_reducible exact Below.refl _ _) | (with_reducible assumption) | (with_reducible refine Below.alloc ?_ ?_ _) | (with_reducible refine Below.setCell ?_ ?_ _) | (with_reducible refine Below.drew ?_) | (with_reducible refine below_setRow ?_ ?_ _) | (refine Below.trans ?_ (Below.mono (by assumption) ?_)))); all_goals (first | omega | (simp; done) | (simp; omega)))⟩
              · have HB := Lib.hid (HE2.out 0 (by rw [HRB.out, h9]; rfl))
                go_wp2
                go_ret
                exact ⟨ret_int HB.out, by ((repeat (first | (with_reducible exact Below.refl _ _) | (with_reducible assumption) | (with_reducible refine Below.alloc ?_ ?_ _) | (with_reducible refine Below.setCell ?_ ?_ _) | (with_reducible refine Below.drew ?_) | (with_reducible refine below_setRow ?_ ?_ _) | (refine Below.trans ?_ (Below.mono (by assumption) ?_)))); all_goals (first | omega | (simp; done) | (simp; omega)))⟩
          · have g8 : (f.kind == 8) = false := by simp; omega
            have g8n : (f.kind != 8) = true := by simp; omega
            have HRB := Lib.hid (show refBad xs f = !(f.msg == 0) by rw [refBad, if_neg h8])
            clear h8
            rcases HP with h5 | ⟨h5, h6, h7⟩
            · rw [h5] at kG d3
              by_cases h9 : f.msg = 0
              · have g9 : (f.msg == 0) = true := by simp; omega
                have g9n : (f.msg != 0) = false := by simp; omega
                have HB := Lib.hid (HE2.out 0 (by rw [HRB.out, g9]; rfl))
                clear h9
                go_wp2_with (first | (go_at_call 75; refine (l6Kind_any _ _).mono ?_; rintro r w1 ⟨rfl, rfl⟩))
                go_ret
                exact ⟨ret_int HB.out, by ((repeat (first | (with_reducible exact Below.refl _ _) | (with_reducible assumption) | (with_reducible refine Below.alloc ?_ ?_ _) | (with_reducible refine Below.setCell ?_ ?_ _) | (with_reducible refine Below.drew ?_) | (with_reducible refine below_setRow ?_ ?_ _) | (refine Below.trans ?_ (Below.mono (by assumption) ?_)))); all_goals (first | omega | (simp; done) | (simp; omega)))⟩
              · have g9 : (f.msg == 0) = false := by simp; omega
                have g9n : (f.msg != 0) = true := by simp; omega
                have HB := Lib.hid (HE2.out 9 (by rw [HRB.out, g9]; rfl))
                clear h9
                go_wp2_with (first | (go_at_call 75; refine (l6Kind_any _ _).mono ?_; rintro r w1 ⟨rfl, rfl⟩))
                go_ret
                exact ⟨ret_int HB.out, by ((repeat (first | (with_reducible exact Below.refl _ _) | (with_reducible assumption) | (with_reducible refine Below.alloc ?_ ?_ _) | (with_reducible refine Below.setCell ?_ ?_ _) | (with_reducible refine Below.drew ?_) | (with_reducible refine below_setRow ?_ ?_ _) | (refine Below.trans ?_ (Below.mono (by assumption) ?_)))); all_goals (first | omega | (simp; done) | (simp; omega)))⟩
            · rw [h5] at kG d3
              rw [h6] at kG d2
              by_cases h9 : f.msg = 0
              · have g9 : (f.msg == 0) = true := by simp; omega
                have g9n : (f.msg != 0) = false := by simp; omega
                have HB := Lib.hid (HE2.out 0 (by rw [HRB.out, g9]; rfl))
                clear h9
                go_wp2_with (first | (go_at_call 75; refine (l6Kind_any _ _).mono ?_; rintro r w1 ⟨rfl, rfl⟩) | (go_at_call 76; refine (specNumeric_any _ _).mono ?_; rintro r w1 ⟨rfl, rfl⟩))
                go_ret
                exact ⟨ret_int HB.out, by ((repeat (first | (with_reducible exact Below.refl _ _) | (with_reducible assumption) | (with_reducible refine Below.alloc ?_ ?_ _) | (with_reducible refine Below.setCell ?_ ?_ _) | (with_reducible refine Below.drew ?_) | (with_reducible refine below_setRow ?_ ?_ _) | (refine Below.trans ?_ (Below.mono (by assumption) ?_)))); all_goals (first | omega | (simp; done) | (simp; omega)))⟩
              · have g9 : (f.msg == 0) = false := by simp; omega
                have g9n : (f.msg != 0) = true := by simp; omega
                have HB := Lib.hid (HE2.out 9 (by rw [HRB.out, g9]; rfl))
                clear h9
                go_wp2_with (first | (go_at_call 75; refine (l6Kind_any _ _).mono ?_; rintro r w1 ⟨rfl, rfl⟩) | (go_at_call 76; refine (specNumeric_any _ _).mono ?_; rintro r w1 ⟨rfl, rfl⟩))
                go_ret
                exact ⟨ret_int HB.out, by ((repeat (first | (with_reducible exact Below.refl _ _) | (with_reducible assumption) | (with_reducible refine Below.alloc ?_ ?_ _) | (with_reducible refine Below.setCell ?_ ?_ _) | (with_reducible refine Below.drew ?_) | (with_reducible refine below_setRow ?_ ?_ _) | (refine Below.trans ?_ (Below.mono (by assumption) ?_)))); all_goals (first | omega | (simp; done) | (simp; omega)))⟩
    · have HB := Lib.hid (show (6 : Int) = R by rw [← HR.out, fldC, if_neg (by rw [h1]; simp), if_pos h2])
      go_wp2
      go_ret
      exact ⟨ret_int HB.out, by ((repeat (first | (with_reducible exact Below.refl _ _) | (with_reducible assumption) | (with_reducible refine Below.alloc ?_ ?_ _) | (with_reducible refine Below.setCell ?_ ?_ _) | (with_reducible refine Below.drew ?_) | (with_reducible refine below_setRow ?_ ?_ _) | (refine Below.trans ?_ (Below.mono (by assumption) ?_)))); all_goals (first | omega | (simp; done) | (simp; omega)))⟩
def firstF (xs : List Shp) (i : Nat) (fs : List Fld) : Nat → List Fld → Option (Int × Int × Int)
  | _, [] => none
  | k, f :: gs => if fldC xs fs k f = 0 then firstF xs i fs (k + 1) gs else some (fldC xs fs k f, i, k)
def firstM (xs : List Shp) : Nat → List Shp → Int × Int × Int
  | _, [] => (0, 0, 0)
  | i, x :: ys => if msgC xs i x = 0 then (firstF xs i x.flds 0 x.flds).getD (firstM xs (i + 1) ys) else (msgC xs i x, i, -1)
def firstV (xs : List Shp) : Int × Int × Int := if 6 < xs.length then (1, 6, -1) else firstM xs 0 xs
def vioV (v : Int × Int × Int) : Value := .agg #[.int .i64 v.1, .int .i64 v.2.1, .int .i64 v.2.2]
section
variable {xs : List Shp} {i k : Nat} {x : Shp} {f : Fld} {R : Int × Int × Int} {O : Option (Int × Int × Int)}
theorem fM_bad (h : firstM xs i (xs.drop i) = R) (hx : xs[i]? = some x) (hb : ¬ msgC xs i x = 0) : (msgC xs i x, (i : Int), (-1 : Int)) = R := by rw [drop_cons hx, firstM, if_neg hb] at h; exact h
theorem fM_ok (h : firstM xs i (xs.drop i) = R) (hx : xs[i]? = some x) (hb : msgC xs i x = 0) : (firstF xs i x.flds 0 x.flds).getD (firstM xs (i + 1) (xs.drop (i + 1))) = R := by rw [drop_cons hx, firstM, if_pos hb] at h; exact h
theorem fM_end (h : firstM xs i (xs.drop i) = R) (hx : xs.length ≤ i) : ((0 : Int), (0 : Int), (0 : Int)) = R := by rw [List.drop_of_length_le hx, firstM] at h; exact h
theorem fF_bad {fs : List Fld} (h : firstF xs i fs k (fs.drop k) = O) (hf : fs[k]? = some f) (hb : ¬ fldC xs fs k f = 0) : some (fldC xs fs k f, (i : Int), (k : Int)) = O := by rw [drop_cons hf, firstF, if_neg hb] at h; exact h
theorem fF_ok {fs : List Fld} (h : firstF xs i fs k (fs.drop k) = O) (hf : fs[k]? = some f) (hb : fldC xs fs k f = 0) : firstF xs i fs (k + 1) (fs.drop (k + 1)) = O := by rw [drop_cons hf, firstF, if_pos hb] at h; exact h
theorem fF_end {fs : List Fld} (h : firstF xs i fs k (fs.drop k) = O) (hf : fs.length ≤ k) : none = O := by rw [List.drop_of_length_le hf, firstF] at h; exact h
end
end Go.Proofs.Ytbpilecgnfnndaa
namespace Go.Proofs.Ytbpilecgnfnndaa
set_option linter.unusedSimpArgs false
set_option linter.unusedVariables false
open Go.ChangeShapes Go.WideShapes Go.ChangeAt Go.RowKit Go.BigFrame
theorem vio_res {F : Func} (hF : F.results = #[.cell 2 32]) {tm : Array Value} {B : Nat} {W : World} {x y z : Int} (t1 : tm.getD 2 undef = .pointer (some ⟨B, 0, none⟩)) (h : W.heap[B]? = some (.cells #[.int .i64 x, .int .i64 y, .int .i64 z] 32 (0, 0))) :
    (results F tm).run Try.prog W = .ok (.agg #[.int .i64 x, .int .i64 y, .int .i64 z]) W :=
  results_cell hF t1 (run_loadVar_mid W B 0 32 [.int .i64 x, .int .i64 y, .int .i64 z] _ (range_of_box h) Try.underlying32 rfl (by kernel_rfl))
set_option maxRecDepth 100000 in
set_option maxHeartbeats 4000000 in
theorem specFirst_any (a : Option Addr) (cap n : Nat) (xs : List Shp) (w : World) (h : ShsL w a xs) (hl : xs.length = n) (hn : n ≤ 1048576) (hm : fldSum xs ≤ 1048576) :
    Calls Try.prog 9 #[.agg #[.slice a n cap]] w fun r w' => r = .returned (vioV (firstV xs)) ∧ Below w.heap.size w w' := by
  have HL := Lib.hid hl; clear hl
  have HH := Lib.hid h; clear h
  obtain ⟨R, hR⟩ : ∃ R, firstV xs = R := ⟨_, rfl⟩
  rw [hR]
  go_enter Try.func9, Try.ntmps9
  by_cases h6 : 6 < n
  · have hR1 : R = (1, 6, -1) := by rw [← hR, firstV, if_pos (by rw [HL.out]; exact h6)]
    subst hR1
    have h6' : (6 : Int) < (n : Int) := by omega
    go_wp2
    refine bodyPost_ret (vio_res (B := w.heap.size + 1) (x := 1) (y := 6) (z := -1) Try.results9 rfl ?_) rfl ⟨rfl, by ((repeat (first | (with_reducible exact Below.refl _ _) | (with_reducible assumption) | (with_reducible refine Below.alloc ?_ ?_ _) | (with_reducible refine Below.setCell ?_ ?_ _) | (with_reducible refine Below.drew ?_) | (with_reducible refine below_setRow ?_ ?_ _) | (refine Below.trans ?_ (Below.mono (by assumption) ?_)))); all_goals (first | omega | (simp; done) | (simp; omega)))⟩
    exact hset_new (by simp)
  · have HR := Lib.hid (show firstM xs 0 (xs.drop 0) = R by rw [← hR, firstV, if_neg (by rw [HL.out]; exact h6)]; rfl)
    have h6' : decide ((6 : Int) < (n : Int)) = false := decide_eq_false (by omega)
    clear hR
    go_wp2
    go_loopw [3] (fun i wr => ∃ k : Nat, k ≤ n ∧ i = .int .i64 k ∧ Hid (firstM xs k (xs.drop k) = R) ∧ wr.heap[w.heap.size]? = some (.cells #[.slice a n cap] 26 (0, 0)) ∧ wr.heap[w.heap.size + 1]? = some (.cells #[.int .i64 0, .int .i64 0, .int .i64 0] 32 (0, 0)) ∧ Below w.heap.size w wr) (fun i _ => n - (intOf i).toNat)
    case atStart => exact ⟨0, Nat.zero_le _, rfl, HR, hset_alloc (hset_new rfl), hset_new (by simp), by ((repeat (first | (with_reducible exact Below.refl _ _) | (with_reducible assumption) | (with_reducible refine Below.alloc ?_ ?_ _) | (with_reducible refine Below.setCell ?_ ?_ _) | (with_reducible refine Below.drew ?_) | (with_reducible refine below_setRow ?_ ?_ _) | (refine Below.trans ?_ (Below.mono (by assumption) ?_)))); all_goals (first | omega | (simp; done) | (simp; omega)))⟩
    case round =>
      obtain ⟨k, hk, rfl, HK, hA, hV, hb⟩ := hrel
      have kA := box_cells hA 0; have kV := box_cells hV; have fV := box_frozen hV; have hlA := box_lt hA; have hlV := box_lt hV
      simp only [List.getElem?_toArray, List.getElem?_cons_zero] at kA
      have HA := Lib.hid hA; have HV := Lib.hid hV; clear hA hV
      by_cases hlt : k < n
      · obtain ⟨x, hx, _⟩ := at_lt (xs := xs) (k := k) (by rw [HL.out]; exact hlt)
        have hfl : x.flds.length ≤ 1048576 := by have := fldSum_ge hx; omega
        have hsl := HH.out.keep hb
        obtain ⟨b, off, a', cap', rfl, hbl, c0, c1, hfs, hcp⟩ := hsl k x hx
        have HX := Lib.hid hx; clear hx
        have HS := Lib.hid hsl; clear hsl hfs
        go_wp2_with fail
        refine (specMsgCode_any (some ⟨b, off, none⟩) cap n k xs x wr HS.out.shs HL.out hn HX.out hlt hfl).mono ?_
        rintro r w1 ⟨rfl, hb1⟩
        have hA1 := (hb1.block _ hlA).trans HA.out
        have hV1 := (hb1.block _ hlV).trans HV.out
        have hbw1 : Below w.heap.size w w1 := hb.trans (hb1.mono hb.size)
        have c1_ := (hb1.cell (p := ⟨b, off + k * 2 + 1, none⟩) hbl).trans c1
        have hbl1 := Nat.lt_of_lt_of_le hbl hb1.size
        have HS1 := Lib.hid (HS.out.keep hb1)
        clear kA kV fV hlA hlV c0 c1 hb hb1 HS HA HV hbl
        have c1 := c1_; clear c1_
        have kA := box_cells hA1 0; have kV := box_cells hV1; have fV := box_frozen hV1; have hlA := box_lt hA1; have hlV := box_lt hV1
        simp only [List.getElem?_toArray, List.getElem?_cons_zero] at kA
        have HA := Lib.hid hA1; have HV := Lib.hid hV1; clear hA1 hV1
        by_cases hz : msgC xs k x = 0
        · obtain ⟨O, hO⟩ : ∃ O, firstF xs k x.flds 0 x.flds = O := ⟨_, rfl⟩
          have HM := fM_ok HK.out HX.out hz
          rw [hO] at HM
          have HMx := Lib.hid HM; clear HM
          have HO := Lib.hid (show firstF xs k x.flds 0 (x.flds.drop 0) = O from hO); clear hO
          have hz' : (msgC xs k x != 0) = false := by simp [hz]
          rw [hz]
          clear hz hz'
          go_wp2
          obtain ⟨wo, hwo⟩ : ∃ wo : World, wo = w1 := ⟨_, rfl⟩
          rw [← hwo] at HA HV hbw1 HS1 c1 hbl1 kA kV fV hlA hlV ⊢
          clear hwo
          go_loopw [5] (fun j wi => ∃ q : Nat, q ≤ x.flds.length ∧ j = .int .i64 q ∧ Hid (firstF xs k x.flds q (x.flds.drop q) = O) ∧ Below wo.heap.size wo wi) (fun j _ => x.flds.length - (intOf j).toNat)
          case atStart => exact ⟨0, Nat.zero_le _, rfl, HO, Below.refl _ _⟩
          case round =>
            obtain ⟨q, hq, rfl, HQ, hbi⟩ := hrel
            obtain ⟨wi, hwi⟩ : ∃ wi : World, wi = wr := ⟨_, rfl⟩
            rw [← hwi] at hbi ⊢
            clear hwi
            have hAi := (hbi.block _ hlA).trans HA.out
            have hVi := (hbi.block _ hlV).trans HV.out
            have hbwi : Below w.heap.size w wi := hbw1.trans (hbi.mono hbw1.size)
            have c1i := (hbi.cell (p := ⟨b, off + k * 2 + 1, none⟩) hbl1).trans c1
            have HSi := Lib.hid (HS1.out.keep hbi)
            clear kA kV fV c1
            have kA := box_cells hAi 0; have kV := box_cells hVi; have fV := box_frozen hVi; have hlAi := box_lt hAi; have hlVi := box_lt hVi
            simp only [List.getElem?_toArray, List.getElem?_cons_zero] at kA
            have HVi := Lib.hid hVi; clear hVi hAi
            by_cases hlq : q < x.flds.length
            · obtain ⟨f, hf, _⟩ := at_lt (xs := x.flds) (k := q) hlq
              have HF := Lib.hid hf; clear hf
              go_wp2_with fail
              refine (specFieldCode_any (some ⟨b, off, none⟩) cap n k q xs x f wi HSi.out HL.out hn HX.out hlt hfl HF.out hlq).mono ?_
              rintro r w3 ⟨rfl, hb3⟩
              have hV3 := (hb3.block _ hlVi).trans HVi.out
              have hbw3 : Below w.heap.size w w3 := hbwi.trans (hb3.mono hbwi.size)
              have kV3 := box_cells hV3; have fV3 := box_frozen hV3; have hlV3 := box_lt hV3
              have HV3 := Lib.hid hV3; clear hV3 kV fV
              by_cases hz : fldC xs x.flds q f = 0
              · rw [hz]
                have HQ2 := Lib.hid (fF_ok HQ.out HF.out hz)
                clear hz
                go_wp2
                go_roundw
                case rel => exact ⟨q + 1, by omega, by go_num, HQ2, hbi.trans (hb3.mono hbi.size)⟩
                case measure => simp [intOf]; omega
              · have hO2 := fF_bad HQ.out HF.out hz
                have hR2 : (fldC xs x.flds q f, (k : Int), (q : Int)) = R := by have := HMx.out; rw [← hO2] at this; exact this
                have HR2 := Lib.hid hR2; clear hR2 hO2
                have gz : (fldC xs x.flds q f == 0) = false := by simp [hz]
                have gzn : (fldC xs x.flds q f != 0) = true := by simp [hz]
                clear hz
                go_wp2
                refine bodyPost_ret (vio_res (B := w.heap.size + 1) (x := fldC xs x.flds q f) (y := k) (z := q) Try.results9 rfl ?_) rfl ⟨?_, by ((repeat (first | (with_reducible exact Below.refl _ _) | (with_reducible assumption) | (with_reducible refine Below.alloc ?_ ?_ _) | (with_reducible refine Below.setCell ?_ ?_ _) | (with_reducible refine Below.drew ?_) | (with_reducible refine below_setRow ?_ ?_ _) | (refine Below.trans ?_ (Below.mono (by assumption) ?_)))); all_goals (first | omega | (simp; done) | (simp; omega)))⟩
                · apply hset_eq (hset_set (hset_set (hset_set HV3.out))); simp only [List.setIfInBounds_toArray, List.set_cons_zero, List.set_cons_succ]
                · rw [← HR2.out]; rfl
            · have hO2 := fF_end HQ.out (by omega)
              have HK2 := Lib.hid (show firstM xs (k + 1) (xs.drop (k + 1)) = R by have := HMx.out; rw [← hO2] at this; exact this)
              clear hO2
              go_wp2
              go_roundw
              case rel => exact ⟨k + 1, by omega, by go_num, HK2, (hbi.block _ hlA).trans HA.out, HVi.out, hbwi⟩
              case measure => simp [intOf]; omega
        · have hR2 := fM_bad HK.out HX.out hz
          have HR2 := Lib.hid hR2; clear hR2
          have gz : (msgC xs k x == 0) = false := by simp [hz]
          have gzn : (msgC xs k x != 0) = true := by simp [hz]
          clear hz
          go_wp2
          refine bodyPost_ret (vio_res (B := w.heap.size + 1) (x := msgC xs k x) (y := k) (z := -1) Try.results9 rfl ?_) rfl ⟨?_, by ((repeat (first | (with_reducible exact Below.refl _ _) | (with_reducible assumption) | (with_reducible refine Below.alloc ?_ ?_ _) | (with_reducible refine Below.setCell ?_ ?_ _) | (with_reducible refine Below.drew ?_) | (with_reducible refine below_setRow ?_ ?_ _) | (refine Below.trans ?_ (Below.mono (by assumption) ?_)))); all_goals (first | omega | (simp; done) | (simp; omega)))⟩
          · apply hset_eq (hset_set (hset_set (hset_set HV.out))); simp only [List.setIfInBounds_toArray, List.set_cons_zero, List.set_cons_succ]
          · rw [← HR2.out]; rfl
      · obtain rfl : k = n := by omega
        have hR2 := fM_end HK.out (by rw [HL.out]; omega)
        have HR2 := Lib.hid hR2; clear hR2
        go_wp2
        refine bodyPost_ret (vio_res (B := w.heap.size + 1) (x := 0) (y := 0) (z := 0) Try.results9 rfl ?_) rfl ⟨?_, by ((repeat (first | (with_reducible exact Below.refl _ _) | (with_reducible assumption) | (with_reducible refine Below.alloc ?_ ?_ _) | (with_reducible refine Below.setCell ?_ ?_ _) | (with_reducible refine Below.drew ?_) | (with_reducible refine below_setRow ?_ ?_ _) | (refine Below.trans ?_ (Below.mono (by assumption) ?_)))); all_goals (first | omega | (simp; done) | (simp; omega)))⟩
        · apply hset_eq (hset_set (hset_set (hset_set HV.out))); simp only [List.setIfInBounds_toArray, List.set_cons_zero, List.set_cons_succ]
        · rw [← HR2.out]; rfl
end Go.Proofs.Ytbpilecgnfnndaa
namespace Go.Proofs.Ytbpilecgnfnndaa
set_option linter.unusedSimpArgs false
set_option linter.unusedVariables false
def hasI (ids : List Int) (i : Int) : Bool := ids.any fun j => j == i
theorem hasId_map (xs : List Shp) (i : Int) : hasId xs i = hasI (xs.map Shp.id) i := by
  simp only [hasId, hasI, List.any_map]; rfl
structure FG (ids : List Int) (f : Fld) : Prop where
  num : numOk f.number = true
  kind : inB f.kind 1 8 = true
  pack : packOk f = true
  ref : if f.kind = 8 then hasI ids f.msg = true else f.msg = 0
def Dist (fs : List Fld) : Prop := ∀ (k : Nat) (f : Fld), fs[k]? = some f → hasNum (fs.take k) f.number = false
theorem Dist.nil : Dist [] := fun k f h => by simp at h
theorem Dist.snoc {fs : List Fld} {f : Fld} (h : Dist fs) (hf : hasNum fs f.number = false) : Dist (fs ++ [f]) := by
  intro k g hg
  rcases Nat.lt_trichotomy k fs.length with hk | hk | hk
  · rw [List.getElem?_append_left hk] at hg
    rw [List.take_append_of_le_length (by omega)]
    exact h k g hg
  · subst hk
    rw [List.getElem?_append_right (Nat.le_refl _)] at hg
    simp at hg; subst hg
    rw [List.take_left]
    exact hf
  · rw [List.getElem?_eq_none (by simp; omega)] at hg; simp at hg
structure RawGood (ids : List Int) (i k : Nat) (xs : List Shp) : Prop where
  ids_ : xs.map Shp.id = ids
  len : ∀ (j : Nat) (x : Shp), xs[j]? = some x → x.flds.length ≤ if j < i then 5 else if j = i then k else 0
  good : ∀ x ∈ xs, Dist x.flds ∧ ∀ f ∈ x.flds, FG ids f
theorem RawGood.next {ids : List Int} {i k : Nat} {xs : List Shp} (h : RawGood ids i k xs) : RawGood ids i (k + 1) xs :=
  ⟨h.ids_, fun j x hx => by have := h.len j x hx; split at this <;> (try split at this) <;> (try split) <;> (try split) <;> omega, h.good⟩
theorem RawGood.turn {ids : List Int} {i k : Nat} {xs : List Shp} (h : RawGood ids i k xs) (hk : k ≤ 5) : RawGood ids (i + 1) 0 xs :=
  ⟨h.ids_, fun j x hx => by have := h.len j x hx; split at this <;> (try split at this) <;> (try split) <;> (try split) <;> omega, h.good⟩
theorem RawGood.put {ids : List Int} {i k : Nat} {xs : List Shp} {x : Shp} {f : Fld} (h : RawGood ids i k xs) (hx : xs[i]? = some x) (hf : FG ids f) (hn : hasNum x.flds f.number = false) :
    RawGood ids i (k + 1) (xs.set i ⟨x.id, x.flds ++ [f]⟩) := by
  obtain ⟨hi, hxe⟩ := List.getElem?_eq_some_iff.1 hx
  refine ⟨?_, ?_, ?_⟩
  · rw [List.map_set, ← h.ids_]
    apply List.ext_getElem? 
    intro j
    by_cases hj : i = j
    · subst hj
      rw [List.getElem?_set_self (by simpa using hi), List.getElem?_map, hx]; rfl
    · rw [List.getElem?_set_ne hj]
  · intro j y hy
    by_cases hj : i = j
    · subst hj
      rw [List.getElem?_set_self hi] at hy
      simp at hy; subst hy
      have := h.len i x hx
      simp at this ⊢
      omega
    · rw [List.getElem?_set_ne hj] at hy
      have := h.len j y hy
      split at this <;> (try split at this) <;> (try split) <;> (try split) <;> omega
  · intro y hy
    rcases List.mem_or_eq_of_mem_set hy with h1 | rfl
    · exact h.good y h1
    · obtain ⟨g1, g2⟩ := h.good x (List.mem_of_getElem? hx)
      refine ⟨g1.snoc hn, fun g hg => ?_⟩
      rcases List.mem_append.1 hg with h2 | h2
      · exact g2 g h2
      · simp at h2; subst h2; exact hf
theorem firstF_none {xs : List Shp} {i : Nat} {fs : List Fld} (h : ∀ (k : Nat) (f : Fld), fs[k]? = some f → fldC xs fs k f = 0) : ∀ (k : Nat), firstF xs i fs k (fs.drop k) = none := by
  intro k
  by_cases hk : k < fs.length
  · have hf : fs[k]? = some fs[k] := List.getElem?_eq_getElem hk
    rw [drop_cons hf, firstF, if_pos (h k _ hf)]
    exact firstF_none h (k + 1)
  · rw [List.drop_of_length_le (by omega), firstF]
termination_by k => fs.length - k
theorem firstM_zero {xs : List Shp} (h : ∀ (i : Nat) (x : Shp), xs[i]? = some x → msgC xs i x = 0 ∧ ∀ (k : Nat) (f : Fld), x.flds[k]? = some f → fldC xs x.flds k f = 0) : ∀ (i : Nat), firstM xs i (xs.drop i) = (0, 0, 0) := by
  intro i
  by_cases hi : i < xs.length
  · have hx : xs[i]? = some xs[i] := List.getElem?_eq_getElem hi
    obtain ⟨h1, h2⟩ := h i _ hx
    rw [drop_cons hx, firstM, if_pos h1]
    have := firstF_none (xs := xs) (i := i) h2 0
    rw [List.drop_zero] at this
    rw [this]
    exact firstM_zero h (i + 1)
  · rw [List.drop_of_length_le (by omega), firstM]
termination_by i => xs.length - i
theorem good_first {ids : List Int} {xs : List Shp} {i : Nat} (h : RawGood ids i 0 xs) (hids : ids = [5] ∨ ids = [5, 1] ∨ ids = [5, 1, 99]) : firstV xs = (0, 0, 0) := by
  have hlen : xs.length = ids.length := by rw [← h.ids_]; simp
  rw [firstV, if_neg (by rw [hlen]; rcases hids with rfl | rfl | rfl <;> simp)]
  have := firstM_zero (xs := xs) (fun j x hx => ⟨?_, fun k f hf => ?_⟩) 0
  · simpa using this
  · have hid : ids[j]? = some x.id := by rw [← h.ids_, List.getElem?_map, hx]; rfl
    have hl := h.len j x hx
    have hl5 : x.flds.length ≤ 5 := by split at hl <;> (try split at hl) <;> omega
    have ht : hasId (xs.take j) x.id = false := by
      rw [hasId_map, List.map_take, h.ids_]
      rcases hids with rfl | rfl | rfl <;> (match j, hid with
        | 0, e => simp at e; rw [← e]; rfl
        | 1, e => simp at e; try (rw [← e]; rfl)
        | 2, e => simp at e; try (rw [← e]; rfl)
        | j + 3, e => simp at e)
    have hb : inB x.id 1 99 = true := by
      rcases hids with rfl | rfl | rfl <;> (match j, hid with
        | 0, e => simp at e; rw [← e]; rfl
        | 1, e => simp at e; try (rw [← e]; rfl)
        | 2, e => simp at e; try (rw [← e]; rfl)
        | j + 3, e => simp at e)
    rw [msgC, hb, ht, if_neg (by simp), if_neg (by simp), if_neg (by omega)]
  · obtain ⟨g1, g2⟩ := h.good x (List.mem_of_getElem? hx)
    have hf2 := g2 f (List.mem_of_getElem? hf)
    have hr := hf2.ref
    rw [fldC, hf2.num, g1 k f hf, hf2.kind, hf2.pack, if_neg (by simp), if_neg (by simp), if_neg (by simp), if_neg (by simp)]
    rw [if_neg]
    simp only [refBad]
    by_cases h8 : f.kind = 8
    · rw [if_pos h8] at hr
      simp [h8, hasId_map, h.ids_, hr]
    · rw [if_neg h8] at hr
      simp [h8, hr]
end Go.Proofs.Ytbpilecgnfnndaa
