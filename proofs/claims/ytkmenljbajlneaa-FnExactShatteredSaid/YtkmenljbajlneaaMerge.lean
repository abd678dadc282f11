/- Both Merged give the same list. -/
import Derived.Test.YtkmenljbajlneaaEvMark
import Derived.Test.YtkmenljbajlneaaCut
namespace Go.Proofs.Ytkmenljbajlneaa
set_option linter.unusedSimpArgs false
set_option linter.unusedVariables false
open Go.ChangeShapes Go.WideShapes Go.ChangeAt Go.RowKit Go.BigFrame

/-- One event more, behind what is merged. -/
def mstep (acc : List Ev) (e : Ev) : List Ev :=
  if e.kind = 4 then
    if e.text.size = 0 then acc
    else match acc.getLast? with
      | some l => if l.kind = 4 then acc.dropLast ++ [{ l with text := l.text ++ e.text }] else acc ++ [e]
      | none => acc ++ [e]
  else acc ++ [e]
def merged (xs : List Ev) : List Ev := xs.foldl mstep []
theorem merged_snoc {xs : List Ev} {k : Nat} {e : Ev} (he : xs[k]? = some e) : merged (xs.take (k + 1)) = mstep (merged (xs.take k)) e := by
  rw [List.take_add_one, he]; simp [merged]
theorem mstep_skip {acc : List Ev} {e : Ev} (h : e.kind = 4) (h0 : e.text.size = 0) : mstep acc e = acc := by simp [mstep, h, h0]
theorem mstep_other {acc : List Ev} {e : Ev} (h : ¬ e.kind = 4) : mstep acc e = acc ++ [e] := by simp [mstep, h]
theorem mstep_nil {e : Ev} (h0 : ¬ (e.kind = 4 ∧ e.text.size = 0)) : mstep [] e = [e] := by
  by_cases h : e.kind = 4
  · have : ¬ e.text.size = 0 := fun h1 => h0 ⟨h, h1⟩
    simp [mstep, h, this]
  · simp [mstep, h]
theorem mstep_join {ds : List Ev} {l e : Ev} (h : e.kind = 4) (h0 : ¬ e.text.size = 0) (hl : l.kind = 4) : mstep (ds ++ [l]) e = ds ++ [{ l with text := l.text ++ e.text }] := by simp [mstep, h, h0, hl]
theorem mstep_new {ds : List Ev} {l e : Ev} (h0 : ¬ (e.kind = 4 ∧ e.text.size = 0)) (hl : ¬ l.kind = 4) : mstep (ds ++ [l]) e = (ds ++ [l]) ++ [e] := by
  by_cases h : e.kind = 4
  · have : ¬ e.text.size = 0 := fun h1 => h0 ⟨h, h1⟩
    simp [mstep, h, this, hl]
  · simp [mstep, h]
theorem textSum_append (a b : List Ev) : textSum (a ++ b) = textSum a + textSum b := by simp [textSum]
theorem mstep_le (acc : List Ev) (e : Ev) : (mstep acc e).length ≤ acc.length + 1 ∧ textSum (mstep acc e) ≤ textSum acc + e.text.size := by
  rcases List.eq_nil_or_concat acc with rfl | ⟨ds, l, rfl⟩
  · by_cases h : e.kind = 4 ∧ e.text.size = 0
    · rw [mstep_skip h.1 h.2]; simp [textSum]
    · rw [mstep_nil h]; simp [textSum]
  · rw [List.concat_eq_append]
    by_cases h : e.kind = 4 ∧ e.text.size = 0
    · rw [mstep_skip h.1 h.2]; omega
    · by_cases hl : l.kind = 4
      · by_cases hk : e.kind = 4
        · rw [mstep_join hk (fun h1 => h ⟨hk, h1⟩) hl]
          simp only [textSum_append, List.length_append, List.length_singleton]
          refine ⟨by omega, ?_⟩
          simp [textSum, ByteArray.size_append]; omega
        · rw [mstep_other hk]; simp only [textSum_append, List.length_append, List.length_singleton]; simp [textSum]
      · rw [mstep_new h hl]; simp only [textSum_append, List.length_append, List.length_singleton]; simp [textSum]
theorem merged_le : ∀ (xs : List Ev), (merged xs).length ≤ xs.length ∧ textSum (merged xs) ≤ textSum xs := by
  intro xs
  suffices h : ∀ (xs acc : List Ev), (xs.foldl mstep acc).length ≤ acc.length + xs.length ∧ textSum (xs.foldl mstep acc) ≤ textSum acc + textSum xs by
    have := h xs []
    simpa [merged, textSum] using this
  intro xs
  induction xs with
  | nil => intro acc; simp [textSum]
  | cons x xs ih =>
    intro acc
    have h1 := ih (mstep acc x)
    have h2 := mstep_le acc x
    simp only [List.foldl_cons, List.length_cons]
    have h3 : textSum (x :: xs) = x.text.size + textSum xs := by simp [textSum]
    omega
/-- The cells of an event that was laid in a new block. -/
theorem box_cs (e : Ev) (w : World) (t : TypeId) (B : Nat) (hB : B = w.heap.size) : ∀ (j : Nat) (u : Value), e.cs[j]? = some u → (w.alloc (.cells e.cs.toArray t)).cell? ((⟨B, 0, none⟩ : Addr).add j) = some u := by
  intro j u hj
  subst hB
  rw [Addr.add_lit, Nat.zero_add]
  simp only [World.cell?]
  rw [heap_nth0]
  simpa using hj
theorem owns_set_other {w : World} {base : Nat} {t : TypeId} {size n : Nat} {v : Value} {L : List Value} {p : Addr} (h : w.ownsRow base t size v n L) (hp : ∀ g, v.ownBlock = some g → g ≠ p.block) (u : Value) : (w.setCell p u).ownsRow base t size v n L := by
  refine h.kept (row := some p.block) ⟨rfl, rfl, rfl, by simp [World.setCell], fun k hk hn => Below.heap_setCell w p u k (by intro e; exact hn (by rw [e]))⟩ ?_
  cases hv : v.ownBlock with
  | none => exact .inl rfl
  | some g => exact .inr (by have := hp g hv; intro e; simp only [Option.some.injEq] at e; exact this e)
theorem ev_setText {ds : List Ev} {l : Ev} {p : Nat} (hp : ds.length = p) (t : ByteArray) : ((ds ++ [l]).flatMap Ev.cs).set (p * 7 + 4) (.string t) = (ds ++ [{ l with text := t }]).flatMap Ev.cs := by
  have hl : (ds.flatMap Ev.cs).length = p * 7 := by rw [flatMap_len ev_len, hp]
  rw [List.flatMap_append, List.flatMap_append, List.set_append_right _ _ (by omega), hl]
  simp [Ev.cs]
theorem no_part {e : Ev} (h : ¬ (e.kind = 4 ∧ e.text.size = 0)) : (e.kind == 4 && e.text.toList.isEmpty) = false := by
  by_cases h4 : e.kind = 4
  · rw [(isEmpty_bytes e.text).2 (fun h0 => h ⟨h4, h0⟩)]; simp
  · simp [h4]
theorem ev_snoc (l : List Ev) (e : Ev) : (l ++ [e]).flatMap Ev.cs = l.flatMap Ev.cs ++ e.cs := by simp
theorem text_le {ds : List Ev} {l : Ev} : l.text.size ≤ textSum (ds ++ [l]) := by rw [textSum_append]; simp [textSum]
theorem cs_one (e : Ev) : ∀ u ∈ e.cs, u.oneCell' = true := by
  intro u hu
  simp [Ev.cs] at hu
  rcases hu with rfl | rfl | rfl | rfl | rfl | rfl | rfl <;> rfl
/-- The last element of what is gathered. -/
theorem owned_last {w : World} {base p : Nat} {t : TypeId} {v : Value} {ds : List Ev} {l : Ev} (h : w.ownsRow base t 7 v (p + 1) ((ds ++ [l]).flatMap Ev.cs)) (hp : ds.length = p) :
    ∃ g cap, v = .slice (some ⟨g, 0, none⟩) (p + 1) cap ∧ base ≤ g ∧ g < w.heap.size ∧ (∀ (j : Nat) (u : Value), l.cs[j]? = some u → w.cell? ⟨g, p * 7 + j, none⟩ = some u) ∧ (∀ j : Nat, w.frozen? ⟨g, j, none⟩ = false) := by
  have hl := h.lt
  have hc : ∀ g, v.ownBlock = some g → _ := fun g hg => World.ownsRow.cells h hg
  have h' := h
  rcases h'.2 with ⟨e, h0⟩ | ⟨g, cap', cur, rfl, hb, hh, _⟩
  · omega
  · have h1 := hl g rfl
    refine ⟨g, cap', rfl, h1.1, h1.2, fun j u hu => ?_, h.frozenAt⟩
    have hj : j < 7 := by
      rcases Nat.lt_or_ge j 7 with h' | h'
      · exact h'
      · rw [List.getElem?_eq_none (by simpa [Ev.cs] using h')] at hu; simp at hu
    have := hc g rfl (p * 7 + j) u (by rw [flatMap_at ev_len (ds ++ [l]) p j l (by rw [List.getElem?_append_right (by omega)]; simp [hp]) hj]; exact hu)
    rwa [Addr.add_lit, Nat.zero_add] at this
set_option maxRecDepth 100000 in
set_option maxHeartbeats 4000000 in
theorem specMerged_any (a : Option Addr) (cap n : Nat) (xs : List Ev) (w : World) (h : Evs w a xs) (hx : xs.length = n) (hn : n ≤ 1048576) (hm : textSum xs ≤ 1048576) :
    Calls Try.prog 46 #[.slice a n cap] w fun r w' => ∃ v, r = .returned v ∧ w'.ownsRow w.heap.size 68 7 v (merged xs).length ((merged xs).flatMap Ev.cs) ∧ Below w.heap.size w w' := by
  have HX := Lib.hid hx; clear hx
  obtain ⟨i0, hi, hz0, hz1, hz2⟩ := info_parts info_Event
  go_enter Try.func46, Try.ntmps46
  go_wp2
  go_loopw [3, 4, 5, 6] (fun v i e5 n6 wr => ∃ (k : Nat) (acc : List Ev), k ≤ n ∧ i = .int .i64 k ∧ Hid (acc = merged (xs.take k)) ∧ wr.ownsRow w.heap.size 68 7 v acc.length (acc.flatMap Ev.cs) ∧ Below w.heap.size w wr) (fun _ i _ _ _ => n - (intOf i).toNat)
  case atStart => exact ⟨0, [], Nat.zero_le _, rfl, Lib.hid rfl, ⟨by simp, .inr ⟨w.heap.size, 0, #[], rfl, Nat.le_refl _, heap_nth0 w _, Nat.le_refl _, Nat.zero_le _, rfl, rfl⟩⟩, by ((repeat (first | (with_reducible exact Below.refl _ _) | (with_reducible assumption) | (with_reducible refine Below.alloc ?_ ?_ _) | (with_reducible refine Below.setCell ?_ ?_ _) | (with_reducible refine Below.drew ?_) | (with_reducible refine below_setRow ?_ ?_ _) | (refine Below.trans ?_ (Below.mono (by assumption) ?_)))); all_goals (first | omega | (simp; done) | (simp; omega)))⟩
  case round =>
    obtain ⟨k, acc, hk, rfl, HA, ho, hb⟩ := hrel
    have hz := hb.size
    by_cases hlt : k < n
    · obtain ⟨e, he, _⟩ := at_lt (xs := xs) (k := k) (by rw [HX.out]; exact hlt)
      have HE := Lib.hid he
      have hml := merged_le (xs.take k)
      have htt := textSum_take xs (k + 1)
      rw [textSum_snoc he] at htt
      have hlen : acc.length ≤ 1048576 := by have h1 := hml.1; rw [← HA.out] at h1; simp at h1; omega
      have htx : textSum acc + e.text.size ≤ 1048576 := by have h1 := hml.2; rw [← HA.out] at h1; omega
      clear hml htt
      obtain ⟨b, off, rfl, hlb, c0, c1, c2, c3, c4, c5, c6⟩ := Evs.at (h.below hb (Nat.le_refl _)) he
      clear he
      obtain ⟨ek, ef, eb, el, et, ec, ea⟩ := e
      simp only at c0 c1 c2 c3 c4 c5 c6 htx
      by_cases h4 : ek = 4
      · subst h4
        by_cases hs : et.size = 0
        · have he0 := (isEmpty_bytes et).1 hs
          have HS := Lib.hid hs; clear hs
          obtain ⟨a5, cap5, rfl, _⟩ := owned_shape ho
          have HO5 := Lib.hid ho; clear ho
          go_wp2
          go_roundw
          case rel => exact ⟨k + 1, acc, by omega, by go_num, Lib.hid (by rw [merged_snoc HE.out, ← HA.out]; exact (mstep_skip rfl HS.out).symm), World.ownsRow.alloc HO5.out _, by ((repeat (first | (with_reducible exact Below.refl _ _) | (with_reducible assumption) | (with_reducible refine Below.alloc ?_ ?_ _) | (with_reducible refine Below.setCell ?_ ?_ _) | (with_reducible refine Below.drew ?_) | (with_reducible refine below_setRow ?_ ?_ _) | (refine Below.trans ?_ (Below.mono (by assumption) ?_)))); all_goals (first | omega | (simp; done) | (simp; omega)))⟩
          case measure => simp [intOf]; omega
        · have he0 := (isEmpty_bytes et).2 hs
          have HS := Lib.hid (show ¬ (((⟨4, ef, eb, el, et, ec, ea⟩ : Ev)).kind = 4 ∧ ((⟨4, ef, eb, el, et, ec, ea⟩ : Ev)).text.size = 0) from fun h => hs h.2); clear hs
          rcases List.eq_nil_or_concat acc with rfl | ⟨ds, l, rfl⟩
          · obtain ⟨a5, cap5, rfl, _⟩ := owned_shape ho
            have HO5 := Lib.hid ho; clear ho
            go_wp2_with (first | (at_builtin; refine wpList_append_own _ rfl _ _ 61 rfl w.heap.size 68 i0 _ 7 64 Try.underlying61 hi hz0 hz1 hz2 rfl (by decide) _ _ _ rfl (World.ownsRow.alloc (World.ownsRow.alloc HO5.out _) _) ⟨wr.heap.size + 1, 0, none⟩ 1 1 ((⟨4, ef, eb, el, et, ec, ea⟩ : Ev)).cs rfl rfl (box_cs ((⟨4, ef, eb, el, et, ec, ea⟩ : Ev)) _ _ _ (by simp)) (cs_one ((⟨4, ef, eb, el, et, ec, ea⟩ : Ev))) (by unfold maxLen; omega) (by omega) (by simp; omega) ?_; intro v1 w1 hown1 hgrow1 hnn1; have hb1 : Below w.heap.size w w1 := Below.grown (by ((repeat (first | (with_reducible exact Below.refl _ _) | (with_reducible assumption) | (with_reducible refine Below.alloc ?_ ?_ _) | (with_reducible refine Below.setCell ?_ ?_ _) | (with_reducible refine Below.drew ?_) | (with_reducible refine below_setRow ?_ ?_ _) | (refine Below.trans ?_ (Below.mono (by assumption) ?_)))); all_goals (first | omega | (simp; done) | (simp; omega)))) hgrow1 (by simp; omega) (fun g hg => (HO5.out.lt g hg).1); clear hgrow1 hnn1))
            go_roundw
            case rel => exact ⟨k + 1, ([] : List Ev) ++ [(⟨4, ef, eb, el, et, ec, ea⟩ : Ev)], by omega, by go_num, Lib.hid (by rw [merged_snoc HE.out, ← HA.out]; exact (mstep_nil HS.out).symm), by rw [List.length_append, ev_snoc]; exact hown1, hb1⟩
            case measure => simp [intOf]; omega
          · rw [List.concat_eq_append] at ho HA hlen htx
            obtain ⟨p, hp⟩ : ∃ p, ds.length = p := ⟨_, rfl⟩
            rw [List.length_append, List.length_singleton, hp] at ho hlen
            have htl := text_le (ds := ds) (l := l)
            obtain ⟨g, cap5, rfl, hg1, hg2, hg3, hg4⟩ := owned_last ho hp
            have HP := Lib.hid hp; clear hp
            have HO5 := Lib.hid ho; clear ho
            obtain ⟨lk, lf, lb, ll, lt, lc, la⟩ := l
            have d0 : wr.cell? ⟨g, p * 7, none⟩ = _ := hg3 0 _ rfl
            have d4 := hg3 4 _ rfl
            simp only at htl
            clear hg3
            by_cases hl4 : lk = 4
            · subst hl4
              have hls : lt.size + et.size ≤ 1048576 := by omega
              have hne2 : g ≠ wr.heap.size := by omega
              have hne3 : wr.heap.size ≠ g := by omega
              go_wp2_with fail
              go_region
              all_goals
                go_wp2
                go_roundw
                case rel => exact ⟨k + 1, ds ++ [(⟨4, lf, lb, ll, lt ++ et, lc, la⟩ : Ev)], by omega, by go_num, Lib.hid (by rw [merged_snoc HE.out, ← HA.out]; exact (mstep_join (e := ⟨4, ef, eb, el, et, ec, ea⟩) (l := ⟨4, lf, lb, ll, lt, lc, la⟩) rfl (fun h => HS.out ⟨by trivial, h⟩) rfl).symm), by rw [show (ds ++ [(⟨4, lf, lb, ll, lt ++ et, lc, la⟩ : Ev)]).length = p + 1 from by simp [HP.out], ← ev_setText (l := ⟨4, lf, lb, ll, lt, lc, la⟩) HP.out (lt ++ et)]; exact ((HO5.out.stored (p * 7 + 4) _).1.alloc _).drew, by ((repeat (first | (with_reducible exact Below.refl _ _) | (with_reducible assumption) | (with_reducible refine Below.alloc ?_ ?_ _) | (with_reducible refine Below.setCell ?_ ?_ _) | (with_reducible refine Below.drew ?_) | (with_reducible refine below_setRow ?_ ?_ _) | (refine Below.trans ?_ (Below.mono (by assumption) ?_)))); all_goals (first | omega | (simp; done) | (simp; omega)))⟩
                case measure => simp [intOf]; omega
            · have hl5 : (lk == 4) = false := by simp [hl4]
              have HL := Lib.hid hl4; clear hl4
              go_wp2_with (first | (at_builtin; refine wpList_append_own _ rfl _ _ 61 rfl w.heap.size 68 i0 _ 7 64 Try.underlying61 hi hz0 hz1 hz2 rfl (by decide) _ _ _ rfl (World.ownsRow.alloc (World.ownsRow.alloc HO5.out _) _) ⟨wr.heap.size + 1, 0, none⟩ 1 1 ((⟨4, ef, eb, el, et, ec, ea⟩ : Ev)).cs rfl rfl (box_cs ((⟨4, ef, eb, el, et, ec, ea⟩ : Ev)) _ _ _ (by simp)) (cs_one ((⟨4, ef, eb, el, et, ec, ea⟩ : Ev))) (by unfold maxLen; omega) (by omega) (by simp; omega) ?_; intro v1 w1 hown1 hgrow1 hnn1; have hb1 : Below w.heap.size w w1 := Below.grown (by ((repeat (first | (with_reducible exact Below.refl _ _) | (with_reducible assumption) | (with_reducible refine Below.alloc ?_ ?_ _) | (with_reducible refine Below.setCell ?_ ?_ _) | (with_reducible refine Below.drew ?_) | (with_reducible refine below_setRow ?_ ?_ _) | (refine Below.trans ?_ (Below.mono (by assumption) ?_)))); all_goals (first | omega | (simp; done) | (simp; omega)))) hgrow1 (by simp; omega) (fun g hg => (HO5.out.lt g hg).1); clear hgrow1 hnn1))
              go_roundw
              case rel => exact ⟨k + 1, (ds ++ [(⟨lk, lf, lb, ll, lt, lc, la⟩ : Ev)]) ++ [(⟨4, ef, eb, el, et, ec, ea⟩ : Ev)], by omega, by go_num, Lib.hid (by rw [merged_snoc HE.out, ← HA.out]; exact (mstep_new HS.out HL.out).symm), by rw [show ((ds ++ [(⟨lk, lf, lb, ll, lt, lc, la⟩ : Ev)]) ++ [(⟨4, ef, eb, el, et, ec, ea⟩ : Ev)]).length = p + 1 + 1 from by simp [HP.out], ev_snoc]; exact hown1, hb1⟩
              case measure => simp [intOf]; omega
      · obtain ⟨a5, cap5, rfl, _⟩ := owned_shape ho
        have HO5 := Lib.hid ho; clear ho
        have hl5 : (ek == 4) = false := by simp [h4]
        have HL := Lib.hid h4; clear h4
        go_wp2_with (first | (at_builtin; refine wpList_append_own _ rfl _ _ 61 rfl w.heap.size 68 i0 _ 7 64 Try.underlying61 hi hz0 hz1 hz2 rfl (by decide) _ _ _ rfl (World.ownsRow.alloc (World.ownsRow.alloc HO5.out _) _) ⟨wr.heap.size + 1, 0, none⟩ 1 1 ((⟨ek, ef, eb, el, et, ec, ea⟩ : Ev)).cs rfl rfl (box_cs ((⟨ek, ef, eb, el, et, ec, ea⟩ : Ev)) _ _ _ (by simp)) (cs_one ((⟨ek, ef, eb, el, et, ec, ea⟩ : Ev))) (by unfold maxLen; omega) (by omega) (by simp; omega) ?_; intro v1 w1 hown1 hgrow1 hnn1; have hb1 : Below w.heap.size w w1 := Below.grown (by ((repeat (first | (with_reducible exact Below.refl _ _) | (with_reducible assumption) | (with_reducible refine Below.alloc ?_ ?_ _) | (with_reducible refine Below.setCell ?_ ?_ _) | (with_reducible refine Below.drew ?_) | (with_reducible refine below_setRow ?_ ?_ _) | (refine Below.trans ?_ (Below.mono (by assumption) ?_)))); all_goals (first | omega | (simp; done) | (simp; omega)))) hgrow1 (by simp; omega) (fun g hg => (HO5.out.lt g hg).1); clear hgrow1 hnn1))
        go_roundw
        case rel => exact ⟨k + 1, acc ++ [(⟨ek, ef, eb, el, et, ec, ea⟩ : Ev)], by omega, by go_num, Lib.hid (by rw [merged_snoc HE.out, ← HA.out]; exact (mstep_other HL.out).symm), by rw [List.length_append, ev_snoc]; exact hown1, hb1⟩
        case measure => simp [intOf]; omega
    · obtain ⟨a5, cap5, rfl, _⟩ := owned_shape ho
      have HO5 := Lib.hid ho; clear ho
      have HF := Lib.hid (show acc = merged xs by rw [HA.out, List.take_of_length_le (by rw [HX.out]; omega)])
      go_wp2
      go_ret
      exact ⟨_, rfl, by rw [← HF.out]; exact HO5.out, hb⟩
end Go.Proofs.Ytkmenljbajlneaa
