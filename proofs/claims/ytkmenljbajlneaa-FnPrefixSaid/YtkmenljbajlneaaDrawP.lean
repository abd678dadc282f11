/- What DrawPrefixOf draws. -/
import Derived.Test.YtkmenljbajlneaaDrawL
import Derived.Test.YtkmenljbajlneaaShat
namespace Go.Proofs.Ytkmenljbajlneaa
set_option linter.unusedSimpArgs false
set_option linter.unusedVariables false
open Go.ChangeShapes Go.WideShapes Go.ChangeAt Go.RowKit Go.BigFrame

theorem flatMap_take_cells {α : Type} {cs : α → List Value} {w : World} {a : Addr} {xs : List α} (h : ∀ (j : Nat) (u : Value), (xs.flatMap cs)[j]? = some u → w.cell? (a.add j) = some u) (k : Nat) : ∀ (j : Nat) (u : Value), ((xs.take k).flatMap cs)[j]? = some u → w.cell? (a.add j) = some u := by
  intro j u hj
  refine h j u ?_
  rw [← List.take_append_drop k xs, List.flatMap_append]
  rw [List.getElem?_append_left (by
    rcases Nat.lt_or_ge j ((xs.take k).flatMap cs).length with h | h
    · exact h
    · rw [List.getElem?_eq_none h] at hj; simp at hj)]
  exact hj
def DrawnP (w : World) (r : Ending) (w' : World) : Prop := ∃ (a : Option Addr) (cap : Nat) (xs : List Ev) (a' : Option Addr) (cap' : Nat) (ys : List Ev), r = .returned (.tuple #[.slice a xs.length cap, .slice a' ys.length cap']) ∧ xs.length ≤ 9 ∧ textSum xs ≤ 64 ∧ ys.length ≤ 8 ∧ textSum ys ≤ 64 ∧ xs.length ≤ cap ∧ Evs w' a xs ∧ Evs w' a' ys ∧ Below w.heap.size w w'
set_option maxRecDepth 100000 in
set_option maxHeartbeats 4000000 in
theorem drawPrefixOf_any (a : Option Addr) (cap n : Nat) (w : World) (h : Code w a n) (hn : n ≤ 1048576) :
    Calls Try.prog 57 #[.slice a n cap] w (DrawnP w) := by
  obtain ⟨i0, hi, hz0, hz1, hz2⟩ := info_parts info_Event
  go_enter Try.func57, Try.ntmps57
  go_wp2_with fail
  refine (l1New_any a cap n w h hn).mono ?_
  rintro r w1 ⟨B, rfl, hB, hc, hb1⟩
  have hBl := hc.lt
  go_wp2_with fail
  refine (l11List_any B w1 hc).mono ?_
  rintro r w2 ⟨gb, capb, ys, rfl, hyl, hyt, hob, hub⟩
  have HOB := Lib.hid hob; clear hob
  have hzb := hub.oth.size
  have hcb := own_cap HOB.out
  have hlb := HOB.out.lt gb rfl
  go_wp2_with fail
  have hub1 := hub.alloc hBl (.cells #[] 68)
  refine (l1Below_any B (ys.length + 1 : Int) _ hub1.cur (by omega) (by omega)).mono ?_
  rintro r w3 ⟨x, rfl, hx0, hx1, hc3, ho3⟩
  obtain ⟨k, rfl⟩ := Int.eq_ofNat_of_zero_le hx0
  have hk : k ≤ ys.length := by omega
  have hu3 := hub1.step hc3 ho3
  have hz3 := ho3.size
  simp only [World.size_alloc] at hz3
  have HOB3 := Lib.hid (owns_oth (HOB.out.alloc _) ho3 hBl); clear HOB
  have HA3 := Lib.hid (owns_oth (show (w2.alloc (.cells #[] 68)).ownsRow w2.heap.size 68 7 (.slice (some ⟨w2.heap.size, 0, none⟩) 0 0) 0 (([] : List Ev).flatMap Ev.cs) from ⟨by simp, .inr ⟨w2.heap.size, 0, #[], rfl, Nat.le_refl _, heap_nth0 w2 _, Nat.le_refl _, Nat.zero_le _, rfl, rfl⟩⟩) ho3 (by omega))
  have HN := Lib.hid (flatMap_take_cells (cs := Ev.cs) (fun j u hj => World.ownsRow.cells HOB3.out rfl j u hj) k)
  clear hub1 hc3 ho3
  have hv0 : Value.slice (some ⟨w2.heap.size, 0, none⟩) 0 0 ≠ .slice none 0 0 := by simp
  have hne : (Value.slice (some ⟨gb, 0, none⟩) ys.length capb).ownBlock = none ∨ (Value.slice (some ⟨gb, 0, none⟩) ys.length capb).ownBlock ≠ (Value.slice (some ⟨w2.heap.size, 0, none⟩) 0 0).ownBlock := .inr (by simp [Value.ownBlock]; omega)
  have hkl : ((ys.take k).flatMap Ev.cs).length = k * 7 := by rw [flatMap_len ev_len, List.length_take, Nat.min_eq_left hk]
  go_wp2_with (first | (at_builtin; refine wpList_append_own _ rfl _ _ 61 rfl w2.heap.size 68 i0 _ 7 64 Try.underlying61 hi hz0 hz1 hz2 rfl (by decide) _ _ _ rfl HA3.out ⟨gb, 0, none⟩ k capb ((ys.take k).flatMap Ev.cs) rfl hkl HN.out (fun u hu => by obtain ⟨e, _, he⟩ := List.mem_flatMap.1 hu; exact cs_one e u he) (by unfold maxLen; omega) (by omega) (by omega) ?_; intro v4 w4 hown4 hgrow4 hnn4; have hu4 := hu3.grown hBl hgrow4 (fun g hg => by have := (HA3.out.lt g hg).1; omega); have HOB4 := Lib.hid (World.ownsRow.kept HOB3.out hgrow4 hne); clear hgrow4; have HN4 := Lib.hid (show v4 ≠ .slice none 0 0 from fun hq => hv0 (hnn4.1 hq).1); clear hnn4; rw [Nat.zero_add, List.flatMap_nil, List.nil_append] at hown4))
  have hz4 : w2.heap.size ≤ w4.heap.size := by have h9 := hown4.lt; have := (HOB4.out.lt gb rfl).2; rcases (owned_some hown4 HN4.out) with ⟨g9, c9, rfl, _⟩; have := h9 g9 rfl; omega
  obtain ⟨xs, hxs⟩ : ∃ xs, xs = ys.take k := ⟨_, rfl⟩
  have hxl : xs.length = k := by rw [hxs, List.length_take, Nat.min_eq_left hk]
  have hxt : textSum xs ≤ 48 := by rw [hxs]; exact Nat.le_trans (textSum_take _ _) (by omega)
  rw [← hxs] at hown4
  obtain ⟨ga, capa, rfl, hoa⟩ := owned_some hown4 HN4.out
  have HXL := Lib.hid hxl
  clear hxs hown4 HN4 hxl hkl HN HA3 HOB3 hv0 hne hub hu3
  have hca := own_cap hoa
  have hla := hoa.lt ga rfl
  have HA4 := Lib.hid hoa; clear hoa
  refine (l1Below_any B 4 _ hu4.cur (by omega) (by omega)).mono ?_
  rintro r w5 ⟨q, rfl, hq0, hq1, hc5, ho5⟩
  have hz5 := ho5.size
  have hu5 := hu4.step hc5 ho5
  have HA5 := Lib.hid (owns_oth HA4.out ho5 (by omega)); clear HA4
  have HB5 := Lib.hid (owns_oth HOB4.out ho5 hBl); clear HOB4
  clear hc5 ho5 hu4
  rcases (show q = 0 ∨ q = 1 ∨ q = 2 ∨ q = 3 by omega) with rfl | rfl | rfl | rfl
  · go_wp2_with fail
    refine (l11List_any B w5 hu5.cur).mono ?_
    rintro r w6 ⟨gn, capn, zs, rfl, hzl, hzt, hon, hun⟩
    have hT := hb1.trans ((hu5.oth.trans hun.oth).below hB hBl)
    have HEn := Lib.hid (evs_of_own hon rfl)
    have HEb := Lib.hid (evs_of_own (owns_oth HB5.out hun.oth hBl) rfl)
    have hcn := own_cap hon
    clear hon hun hu5
    go_wp2
    go_ret2
    exact ⟨_, capn, zs, _, capb, ys, rfl, by omega, by omega, hyl, by omega, hcn, HEn.out, HEb.out, hT⟩
  · rcases List.eq_nil_or_concat xs with rfl | ⟨ds, l, rfl⟩
    · obtain rfl : k = 0 := by simpa using HXL.out.symm
      have hT := hb1.trans (hu5.oth.below hB hBl)
      have HEb := Lib.hid (evs_of_own HB5.out rfl)
      clear hu5
      go_wp2
      go_ret2
      exact ⟨_, capa, [], _, capb, ys, rfl, by simp, by omega, hyl, by omega, by simp, Sl.nil _, HEb.out, hT⟩
    · rw [List.concat_eq_append] at HXL HA5 hxt
      obtain ⟨p, hp⟩ : ∃ p, ds.length = p := ⟨_, rfl⟩
      obtain rfl : k = p + 1 := by have := HXL.out; simp at this; omega
      have htl := text_le_last (ds := ds) (l := l)
      obtain ⟨g, cap5, hv, hg1, hg2, hg3, hg4⟩ := owned_last HA5.out hp
      simp only [Value.slice.injEq, Option.some.injEq, Addr.mk.injEq, and_true, true_and] at hv
      obtain ⟨rfl, rfl⟩ := hv
      have HP := Lib.hid hp; clear hp
      obtain ⟨lk, lf, lb, ll, lt, lc, la⟩ := l
      have d0 : w5.cell? ⟨ga, p * 7, none⟩ = _ := hg3 0 _ rfl
      have d4 := hg3 4 _ rfl
      simp only at htl
      clear hg3
      by_cases hl4 : lk = 4
      · subst hl4
        go_wp2_with fail
        refine (l1Below_any B (lt.size + 1 : Int) w5 hu5.cur (by omega) (by omega)).mono ?_
        rintro r w6 ⟨y, rfl, hy0, hy1, hc6, ho6⟩
        obtain ⟨y, rfl⟩ := Int.eq_ofNat_of_zero_le hy0
        have hyl2 : y ≤ lt.size := by omega
        have hu6 := hu5.step hc6 ho6
        have HA6 := Lib.hid (owns_oth HA5.out ho6 (by omega))
        have HB6 := Lib.hid (owns_oth HB5.out ho6 hBl)
        have hz6 := ho6.size
        obtain ⟨g', cap', hv', _, _, hg3, hg4⟩ := owned_last HA6.out HP.out
        simp only [Value.slice.injEq, Option.some.injEq, Addr.mk.injEq, and_true, true_and] at hv'
        obtain ⟨rfl, rfl⟩ := hv'
        have e0 : w6.cell? ⟨ga, p * 7, none⟩ = _ := hg3 0 _ rfl
        have e4 := hg3 4 _ rfl
        clear hg3 HA5 HB5 hc6 ho6 hu5 d0 d4
        have HA7 := Lib.hid (show (w6.setCell ⟨ga, p * 7 + 4, none⟩ (.string (lt.extract 0 y))).ownsRow w2.heap.size 68 7 (.slice (some ⟨ga, 0, none⟩) (p + 1) capa) (p + 1) ((ds ++ [(⟨4, lf, lb, ll, lt.extract 0 y, lc, la⟩ : Ev)]).flatMap Ev.cs) by
          rw [← ev_setText (l := ⟨4, lf, lb, ll, lt, lc, la⟩) HP.out (lt.extract 0 y)]; exact (HA6.out.stored (p * 7 + 4) _).1)
        have HB7 := Lib.hid (owns_set_other (p := ⟨ga, p * 7 + 4, none⟩) HB6.out (by intro g hg; simp [Value.ownBlock] at hg; subst hg; simp; omega) (.string (lt.extract 0 y)))
        have hT := hb1.trans ((hu6.set (b := ga) (o := p * 7 + 4) (by omega) hBl (.string (lt.extract 0 y))).oth.below hB hBl)
        have hxl7 : (ds ++ [(⟨4, lf, lb, ll, lt.extract 0 y, lc, la⟩ : Ev)]).length = p + 1 := by rw [List.length_append, HP.out]; rfl
        have HEn := Lib.hid (evs_of_own HA7.out hxl7)
        have HEb := Lib.hid (evs_of_own HB7.out rfl)
        have hxs7 : textSum (ds ++ [(⟨4, lf, lb, ll, lt.extract 0 y, lc, la⟩ : Ev)]) ≤ 64 := by
          rw [textSum_append] at hxt ⊢
          simp only [textSum, List.map_cons, List.map_nil, List.sum_cons, List.sum_nil, ByteArray.size_extract] at hxt ⊢
          omega
        clear hu6 HA6 HB6
        go_wp2
        go_ret2
        exact ⟨_, capa, _, _, capb, ys, by rw [hxl7]; rfl, by rw [hxl7]; omega, hxs7, hyl, by omega, by rw [hxl7]; exact hca, HEn.out, HEb.out, hT⟩
      · have hl5 : (lk == 4) = false := by simp [hl4]
        have hT := hb1.trans (hu5.oth.below hB hBl)
        have HEn := Lib.hid (evs_of_own HA5.out HXL.out)
        have HEb := Lib.hid (evs_of_own HB5.out rfl)
        clear hu5 hl4
        go_wp2
        go_ret2
        exact ⟨_, capa, _, _, capb, ys, by rw [HXL.out]; rfl, by rw [HXL.out]; omega, by omega, hyl, by omega, by rw [HXL.out]; exact hca, HEn.out, HEb.out, hT⟩
  · go_wp2_with fail
    refine (l10Right_any B w5 hu5.cur).mono ?_
    rintro r w6 ⟨⟨ek, ef, eb, el, et, ec, ea⟩, rfl, ht, hu6⟩
    simp only at ht
    have huT := hu5.step hu6.cur hu6.oth
    have HA6 := Lib.hid (owns_oth HA5.out hu6.oth (by omega))
    have HB6 := Lib.hid (owns_oth HB5.out hu6.oth hBl)
    have hz6 := hu6.oth.size
    have hbA : ∀ g, (Value.slice (some ⟨ga, 0, none⟩) k capa).ownBlock = some g → w1.heap.size ≤ g := fun g hg => by have := (HA6.out.lt g hg).1; omega
    have hneB : (Value.slice (some ⟨gb, 0, none⟩) ys.length capb).ownBlock = none ∨ (Value.slice (some ⟨gb, 0, none⟩) ys.length capb).ownBlock ≠ (Value.slice (some ⟨ga, 0, none⟩) k capa).ownBlock := .inr (by simp [Value.ownBlock]; omega)
    clear HA5 HB5 hu6 hu5
    go_wp2_with (first | (at_builtin; refine wpList_append_own _ rfl _ _ 61 rfl w2.heap.size 68 i0 _ 7 64 Try.underlying61 hi hz0 hz1 hz2 rfl (by decide) _ _ _ rfl (HA6.out.alloc _) ⟨w6.heap.size, 0, none⟩ 1 1 (⟨ek, ef, eb, el, et, ec, ea⟩ : Ev).cs rfl rfl (box_cs (⟨ek, ef, eb, el, et, ec, ea⟩ : Ev) _ _ _ (by simp)) (cs_one (⟨ek, ef, eb, el, et, ec, ea⟩ : Ev)) (by unfold maxLen; omega) (by omega) (by first | omega | (simp; omega)) ?_; intro v7 w7 hown7 hgrow7 hnn7; have hu7 := (huT.alloc hBl _).grown hBl hgrow7 hbA; have HB7 := Lib.hid (World.ownsRow.kept (HB6.out.alloc _) hgrow7 hneB); clear hgrow7 hnn7; obtain ⟨a7, cap7, rfl, h7⟩ := owned_shape hown7; rw [← ev_snoc] at h7; have hcp7 := own_cap h7; have HEn := Lib.hid (evs_of_own h7 (by rw [List.length_append, HXL.out]; rfl)); clear hown7 h7))
    have hT := hb1.trans (hu7.oth.below hB hBl)
    have HEb := Lib.hid (evs_of_own HB7.out rfl)
    clear hu7 huT
    go_ret2
    exact ⟨_, cap7, _, _, capb, ys, by rw [List.length_append, HXL.out]; rfl, by rw [List.length_append, HXL.out]; simp; omega, by rw [textSum_append]; simp only [textSum, List.map_cons, List.map_nil, List.sum_cons, List.sum_nil] at hxt ⊢; omega, hyl, by omega, by rw [List.length_append, HXL.out]; exact hcp7, HEn.out, HEb.out, hT⟩
  · have hT := hb1.trans (hu5.oth.below hB hBl)
    have HEn := Lib.hid (evs_of_own HA5.out HXL.out)
    have HEb := Lib.hid (evs_of_own HB5.out rfl)
    clear hu5
    go_wp2
    go_ret2
    exact ⟨_, capa, xs, _, capb, ys, by rw [HXL.out]; rfl, by rw [HXL.out]; omega, by omega, hyl, by omega, by rw [HXL.out]; exact hca, HEn.out, HEb.out, hT⟩
end Go.Proofs.Ytkmenljbajlneaa
