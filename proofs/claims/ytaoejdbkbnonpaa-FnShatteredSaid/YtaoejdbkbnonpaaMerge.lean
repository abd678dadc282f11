/- Both Merged give the same list. -/
import Derived.Test.YtaoejdbkbnonpaaEvMark
import Derived.Test.YtaoejdbkbnonpaaOwn
import Derived.Test.YtaoejdbkbnonpaaByt
import Derived.Maps.AppendAt
namespace Go.Proofs.Ytaoejdbkbnonpaa
set_option linter.unusedSimpArgs false
set_option linter.unusedVariables false
open Go.ChangeShapes Go.WideShapes Go.ChangeAt Go.RowKit Go.BigFrame

theorem info_Event : (Try.prog.info? 78).map (fun i => (i.zero, i.size, i.bytes)) = some (some (.agg #[.int .i64 0, .int .i64 0, .int .u64 0, .int .i64 0, .string ⟨#[]⟩, .int .i64 0, .int .i64 0]), 7, 64) := by kernel_rfl
theorem info_u8 : (Try.prog.info? 5).map (fun i => (i.zero, i.size, i.bytes)) = some (some (.int .u8 0), 1, 1) := by kernel_rfl
/-- One event more, behind what is merged. -/
def mstep (acc : List Ev) (e : Ev) : List Ev :=
  if e.kind = 4 then
    if e.text.size = 0 then acc
    else match acc.getLast? with
      | some l => if l.kind = 4 then acc.dropLast ++ [{ l with text := l.text ++ e.text }] else acc ++ [e]
      | none => acc ++ [e]
  else acc ++ [e]
def merged (xs : List Ev) : List Ev := xs.foldl mstep []
theorem merged_snoc {xs : List Ev} {k : Nat} {e : Ev} (he : xs[k]? = some e) : merged (xs.take (k + 1)) = mstep (merged (xs.take k)) e := by
  rw [List.take_add_one, he]; simp [merged]
theorem mstep_skip {acc : List Ev} {e : Ev} (h : e.kind = 4) (h0 : e.text.size = 0) : mstep acc e = acc := by simp [mstep, h, h0]
theorem mstep_other {acc : List Ev} {e : Ev} (h : ¬ e.kind = 4) : mstep acc e = acc ++ [e] := by simp [mstep, h]
theorem mstep_nil {e : Ev} (h0 : ¬ (e.kind = 4 ∧ e.text.size = 0)) : mstep [] e = [e] := by
  by_cases h : e.kind = 4
  · have : ¬ e.text.size = 0 := fun h1 => h0 ⟨h, h1⟩
    simp [mstep, h, this]
  · simp [mstep, h]
theorem mstep_join {ds : List Ev} {l e : Ev} (h : e.kind = 4) (h0 : ¬ e.text.size = 0) (hl : l.kind = 4) : mstep (ds ++ [l]) e = ds ++ [{ l with text := l.text ++ e.text }] := by simp [mstep, h, h0, hl]
theorem mstep_new {ds : List Ev} {l e : Ev} (h0 : ¬ (e.kind = 4 ∧ e.text.size = 0)) (hl : ¬ l.kind = 4) : mstep (ds ++ [l]) e = (ds ++ [l]) ++ [e] := by
  by_cases h : e.kind = 4
  · have : ¬ e.text.size = 0 := fun h1 => h0 ⟨h, h1⟩
    simp [mstep, h, this, hl]
  · simp [mstep, h]
theorem textSum_append (a b : List Ev) : textSum (a ++ b) = textSum a + textSum b := by simp [textSum]
theorem mstep_le (acc : List Ev) (e : Ev) : (mstep acc e).length ≤ acc.length + 1 ∧ textSum (mstep acc e) ≤ textSum acc + e.text.size := by
  rcases List.eq_nil_or_concat acc with rfl | ⟨ds, l, rfl⟩
  · by_cases h : e.kind = 4 ∧ e.text.size = 0
    · rw [mstep_skip h.1 h.2]; simp [textSum]
    · rw [mstep_nil h]; simp [textSum]
  · rw [List.concat_eq_append]
    by_cases h : e.kind = 4 ∧ e.text.size = 0
    · rw [mstep_skip h.1 h.2]; omega
    · by_cases hl : l.kind = 4
      · by_cases hk : e.kind = 4
        · rw [mstep_join hk (fun h1 => h ⟨hk, h1⟩) hl]
          simp only [textSum_append, List.length_append, List.length_singleton]
          refine ⟨by omega, ?_⟩
          simp [textSum, ByteArray.size_append]; omega
        · rw [mstep_other hk]; simp only [textSum_append, List.length_append, List.length_singleton]; simp [textSum]
      · rw [mstep_new h hl]; simp only [textSum_append, List.length_append, List.length_singleton]; simp [textSum]
theorem merged_le : ∀ (xs : List Ev), (merged xs).length ≤ xs.length ∧ textSum (merged xs) ≤ textSum xs := by
  intro xs
  suffices h : ∀ (xs acc : List Ev), (xs.foldl mstep acc).length ≤ acc.length + xs.length ∧ textSum (xs.foldl mstep acc) ≤ textSum acc + textSum xs by
    have := h xs []
    simpa [merged, textSum] using this
  intro xs
  induction xs with
  | nil => intro acc; simp [textSum]
  | cons x xs ih =>
    intro acc
    have h1 := ih (mstep acc x)
    have h2 := mstep_le acc x
    simp only [List.foldl_cons, List.length_cons]
    have h3 : textSum (x :: xs) = x.text.size + textSum xs := by simp [textSum]
    omega
/-- The cells of an event that was laid in a new block. -/
theorem box_cs (e : Ev) (w : World) (t : TypeId) (B : Nat) (hB : B = w.heap.size) : ∀ (j : Nat) (u : Value), e.cs[j]? = some u → (w.alloc (.cells e.cs.toArray t)).cell? ((⟨B, 0, none⟩ : Addr).add j) = some u := by
  intro j u hj
  subst hB
  rw [Addr.add_lit, Nat.zero_add]
  simp only [World.cell?]
  rw [heap_nth0]
  simpa using hj
theorem owns_set_other {w : World} {base : Nat} {t : TypeId} {size n : Nat} {v : Value} {L : List Value} {p : Addr} (h : w.ownsRow base t size v n L) (hp : ∀ g, v.ownBlock = some g → g ≠ p.block) (u : Value) : (w.setCell p u).ownsRow base t size v n L := by
  refine h.kept (row := some p.block) ⟨rfl, rfl, rfl, by simp [World.setCell], fun k hk hn => Below.heap_setCell w p u k (by intro e; exact hn (by rw [e]))⟩ ?_
  cases hv : v.ownBlock with
  | none => exact .inl rfl
  | some g => exact .inr (by have := hp g hv; intro e; simp only [Option.some.injEq] at e; exact this e)
theorem ev_setText {ds : List Ev} {l : Ev} {p : Nat} (hp : ds.length = p) (t : ByteArray) : ((ds ++ [l]).flatMap Ev.cs).set (p * 7 + 4) (.string t) = (ds ++ [{ l with text := t }]).flatMap Ev.cs := by
  have hl : (ds.flatMap Ev.cs).length = p * 7 := by rw [flatMap_len ev_len, hp]
  rw [List.flatMap_append, List.flatMap_append, List.set_append_right _ _ (by omega), hl]
  simp [Ev.cs]
theorem no_part {e : Ev} (h : ¬ (e.kind = 4 ∧ e.text.size = 0)) : (e.kind == 4 && e.text.toList.isEmpty) = false := by
  by_cases h4 : e.kind = 4
  · rw [(isEmpty_bytes e.text).2 (fun h0 => h ⟨h4, h0⟩)]; simp
  · simp [h4]
theorem ev_snoc (l : List Ev) (e : Ev) : (l ++ [e]).flatMap Ev.cs = l.flatMap Ev.cs ++ e.cs := by simp
theorem text_le_last {ds : List Ev} {l : Ev} : l.text.size ≤ textSum (ds ++ [l]) := by rw [textSum_append]; simp [textSum]
theorem cs_one (e : Ev) : ∀ u ∈ e.cs, u.oneCell' = true := by
  intro u hu
  simp [Ev.cs] at hu
  rcases hu with rfl | rfl | rfl | rfl | rfl | rfl | rfl <;> rfl
/-- The last element of what is gathered. -/
theorem owned_last {w : World} {base p : Nat} {t : TypeId} {v : Value} {ds : List Ev} {l : Ev} (h : w.ownsRow base t 7 v (p + 1) ((ds ++ [l]).flatMap Ev.cs)) (hp : ds.length = p) :
    ∃ g cap, v = .slice (some ⟨g, 0, none⟩) (p + 1) cap ∧ base ≤ g ∧ g < w.heap.size ∧ (∀ (j : Nat) (u : Value), l.cs[j]? = some u → w.cell? ⟨g, p * 7 + j, none⟩ = some u) ∧ (∀ j : Nat, w.frozen? ⟨g, j, none⟩ = false) := by
  have hl := h.lt
  have hc : ∀ g, v.ownBlock = some g → _ := fun g hg => World.ownsRow.cells h hg
  have h' := h
  rcases h'.2 with ⟨e, h0⟩ | ⟨g, cap', cur, rfl, hb, hh, _⟩
  · omega
  · have h1 := hl g rfl
    refine ⟨g, cap', rfl, h1.1, h1.2, fun j u hu => ?_, h.frozenAt⟩
    have hj : j < 7 := by
      rcases Nat.lt_or_ge j 7 with h' | h'
      · exact h'
      · rw [List.getElem?_eq_none (by simpa [Ev.cs] using h')] at hu; simp at hu
    have := hc g rfl (p * 7 + j) u (by rw [flatMap_at ev_len (ds ++ [l]) p j l (by rw [List.getElem?_append_right (by omega)]; simp [hp]) hj]; exact hu)
    rwa [Addr.add_lit, Nat.zero_add] at this
set_option maxRecDepth 100000 in
set_option maxHeartbeats 4000000 in
theorem specMerged_any (a : Option Addr) (cap n : Nat) (xs : List Ev) (w : World) (h : Evs w a xs) (hx : xs.length = n) (hn : n ≤ 1048576) (hm : textSum xs ≤ 1048576) :
    Calls Try.prog 20 #[.slice a n cap] w fun r w' => ∃ v, r = .returned v ∧ w'.ownsRow w.heap.size 78 7 v (merged xs).length ((merged xs).flatMap Ev.cs) ∧ Below w.heap.size w w' := by
  have HX := Lib.hid hx; clear hx
  obtain ⟨i0, hi, hz0, hz1, hz2⟩ := info_parts info_Event
  go_enter Try.func20, Try.ntmps20
  go_wp2
  go_loopw [3, 4, 5, 6] (fun v i e5 n6 wr => ∃ (k : Nat) (acc : List Ev), k ≤ n ∧ i = .int .i64 k ∧ Hid (acc = merged (xs.take k)) ∧ wr.ownsRow w.heap.size 78 7 v acc.length (acc.flatMap Ev.cs) ∧ Below w.heap.size w wr) (fun _ i _ _ _ => n - (intOf i).toNat)
  case atStart => exact ⟨0, [], Nat.zero_le _, rfl, Lib.hid rfl, ⟨by simp, .inr ⟨w.heap.size, 0, #[], rfl, Nat.le_refl _, heap_nth0 w _, Nat.le_refl _, Nat.zero_le _, rfl, rfl⟩⟩, by ((repeat (first | (with_reducible exact Below.refl _ _) | (with_reducible assumption) | (with_reducible refine Below.alloc ?_ ?_ _) | (with_reducible refine Below.setCell ?_ ?_ _) | (with_reducible refine Below.drew ?_) | (with_reducible refine below_setRow ?_ ?_ _) | (refine Below.trans ?_ (Below.mono (by assumption) ?_)))); all_goals (first | omega | (simp; done) | (simp; omega)))⟩
  case round =>
    obtain ⟨k, acc, hk, rfl, HA, ho, hb⟩ := hrel
    have hz := hb.size
    by_cases hlt : k < n
    · obtain ⟨e, he, _⟩ := at_lt (xs := xs) (k := k) (by rw [HX.out]; exact hlt)
      have HE := Lib.hid he
      have hml := merged_le (xs.take k)
      have htt := textSum_take xs (k + 1)
      rw [textSum_snoc he] at htt
      have hlen : acc.length ≤ 1048576 := by have h1 := hml.1; rw [← HA.out] at h1; simp at h1; omega
      have htx : textSum acc + e.text.size ≤ 1048576 := by have h1 := hml.2; rw [← HA.out] at h1; omega
      clear hml htt
      obtain ⟨b, off, rfl, hlb, c0, c1, c2, c3, c4, c5, c6⟩ := Evs.at (h.below hb (Nat.le_refl _)) he
      clear he
      obtain ⟨ek, ef, eb, el, et, ec, ea⟩ := e
      simp only at c0 c1 c2 c3 c4 c5 c6 htx
      by_cases h4 : ek = 4
      · subst h4
        by_cases hs : et.size = 0
        · have he0 := (isEmpty_bytes et).1 hs
          have HS := Lib.hid hs; clear hs
          obtain ⟨a5, cap5, rfl, _⟩ := owned_shape ho
          have HO5 := Lib.hid ho; clear ho
          go_wp2
          go_roundw
          case rel => exact ⟨k + 1, acc, by omega, by go_num, Lib.hid (by rw [merged_snoc HE.out, ← HA.out]; exact (mstep_skip rfl HS.out).symm), World.ownsRow.alloc HO5.out _, by ((repeat (first | (with_reducible exact Below.refl _ _) | (with_reducible assumption) | (with_reducible refine Below.alloc ?_ ?_ _) | (with_reducible refine Below.setCell ?_ ?_ _) | (with_reducible refine Below.drew ?_) | (with_reducible refine below_setRow ?_ ?_ _) | (refine Below.trans ?_ (Below.mono (by assumption) ?_)))); all_goals (first | omega | (simp; done) | (simp; omega)))⟩
          case measure => simp [intOf]; omega
        · have he0 := (isEmpty_bytes et).2 hs
          have HS := Lib.hid (show ¬ (((⟨4, ef, eb, el, et, ec, ea⟩ : Ev)).kind = 4 ∧ ((⟨4, ef, eb, el, et, ec, ea⟩ : Ev)).text.size = 0) from fun h => hs h.2); clear hs
          rcases List.eq_nil_or_concat acc with rfl | ⟨ds, l, rfl⟩
          · obtain ⟨a5, cap5, rfl, _⟩ := owned_shape ho
            have HO5 := Lib.hid ho; clear ho
            go_wp2_with (first | (at_builtin; refine wpList_append_own _ rfl _ _ 24 rfl w.heap.size 78 i0 _ 7 64 Try.underlying24 hi hz0 hz1 hz2 rfl (by decide) _ _ _ rfl (World.ownsRow.alloc (World.ownsRow.alloc HO5.out _) _) ⟨wr.heap.size + 1, 0, none⟩ 1 1 ((⟨4, ef, eb, el, et, ec, ea⟩ : Ev)).cs rfl rfl (box_cs ((⟨4, ef, eb, el, et, ec, ea⟩ : Ev)) _ _ _ (by simp)) (cs_one ((⟨4, ef, eb, el, et, ec, ea⟩ : Ev))) (by unfold maxLen; omega) (by omega) (by simp; omega) ?_; intro v1 w1 hown1 hgrow1 hnn1; have hb1 : Below w.heap.size w w1 := Below.grown (by ((repeat (first | (with_reducible exact Below.refl _ _) | (with_reducible assumption) | (with_reducible refine Below.alloc ?_ ?_ _) | (with_reducible refine Below.setCell ?_ ?_ _) | (with_reducible refine Below.drew ?_) | (with_reducible refine below_setRow ?_ ?_ _) | (refine Below.trans ?_ (Below.mono (by assumption) ?_)))); all_goals (first | omega | (simp; done) | (simp; omega)))) hgrow1 (by simp; omega) (fun g hg => (HO5.out.lt g hg).1); clear hgrow1 hnn1))
            go_roundw
            case rel => exact ⟨k + 1, ([] : List Ev) ++ [(⟨4, ef, eb, el, et, ec, ea⟩ : Ev)], by omega, by go_num, Lib.hid (by rw [merged_snoc HE.out, ← HA.out]; exact (mstep_nil HS.out).symm), by rw [List.length_append, ev_snoc]; exact hown1, hb1⟩
            case measure => simp [intOf]; omega
          · rw [List.concat_eq_append] at ho HA hlen htx
            obtain ⟨p, hp⟩ : ∃ p, ds.length = p := ⟨_, rfl⟩
            rw [List.length_append, List.length_singleton, hp] at ho hlen
            have htl := text_le_last (ds := ds) (l := l)
            obtain ⟨g, cap5, rfl, hg1, hg2, hg3, hg4⟩ := owned_last ho hp
            have HP := Lib.hid hp; clear hp
            have HO5 := Lib.hid ho; clear ho
            obtain ⟨lk, lf, lb, ll, lt, lc, la⟩ := l
            have d0 : wr.cell? ⟨g, p * 7, none⟩ = _ := hg3 0 _ rfl
            have d4 := hg3 4 _ rfl
            simp only at htl
            clear hg3
            by_cases hl4 : lk = 4
            · subst hl4
              have hls : lt.size + et.size ≤ 1048576 := by omega
              have hne2 : g ≠ wr.heap.size := by omega
              have hne3 : wr.heap.size ≠ g := by omega
              go_wp2_with fail
              go_region
              all_goals
                go_wp2
                go_roundw
                case rel => exact ⟨k + 1, ds ++ [(⟨4, lf, lb, ll, lt ++ et, lc, la⟩ : Ev)], by omega, by go_num, Lib.hid (by rw [merged_snoc HE.out, ← HA.out]; exact (mstep_join (e := ⟨4, ef, eb, el, et, ec, ea⟩) (l := ⟨4, lf, lb, ll, lt, lc, la⟩) rfl (fun h => HS.out ⟨by trivial, h⟩) rfl).symm), by rw [show (ds ++ [(⟨4, lf, lb, ll, lt ++ et, lc, la⟩ : Ev)]).length = p + 1 from by simp [HP.out], ← ev_setText (l := ⟨4, lf, lb, ll, lt, lc, la⟩) HP.out (lt ++ et)]; exact ((HO5.out.stored (p * 7 + 4) _).1.alloc _).drew, by ((repeat (first | (with_reducible exact Below.refl _ _) | (with_reducible assumption) | (with_reducible refine Below.alloc ?_ ?_ _) | (with_reducible refine Below.setCell ?_ ?_ _) | (with_reducible refine Below.drew ?_) | (with_reducible refine below_setRow ?_ ?_ _) | (refine Below.trans ?_ (Below.mono (by assumption) ?_)))); all_goals (first | omega | (simp; done) | (simp; omega)))⟩
                case measure => simp [intOf]; omega
            · have hl5 : (lk == 4) = false := by simp [hl4]
              have HL := Lib.hid hl4; clear hl4
              go_wp2_with (first | (at_builtin; refine wpList_append_own _ rfl _ _ 24 rfl w.heap.size 78 i0 _ 7 64 Try.underlying24 hi hz0 hz1 hz2 rfl (by decide) _ _ _ rfl (World.ownsRow.alloc (World.ownsRow.alloc HO5.out _) _) ⟨wr.heap.size + 1, 0, none⟩ 1 1 ((⟨4, ef, eb, el, et, ec, ea⟩ : Ev)).cs rfl rfl (box_cs ((⟨4, ef, eb, el, et, ec, ea⟩ : Ev)) _ _ _ (by simp)) (cs_one ((⟨4, ef, eb, el, et, ec, ea⟩ : Ev))) (by unfold maxLen; omega) (by omega) (by simp; omega) ?_; intro v1 w1 hown1 hgrow1 hnn1; have hb1 : Below w.heap.size w w1 := Below.grown (by ((repeat (first | (with_reducible exact Below.refl _ _) | (with_reducible assumption) | (with_reducible refine Below.alloc ?_ ?_ _) | (with_reducible refine Below.setCell ?_ ?_ _) | (with_reducible refine Below.drew ?_) | (with_reducible refine below_setRow ?_ ?_ _) | (refine Below.trans ?_ (Below.mono (by assumption) ?_)))); all_goals (first | omega | (simp; done) | (simp; omega)))) hgrow1 (by simp; omega) (fun g hg => (HO5.out.lt g hg).1); clear hgrow1 hnn1))
              go_roundw
              case rel => exact ⟨k + 1, (ds ++ [(⟨lk, lf, lb, ll, lt, lc, la⟩ : Ev)]) ++ [(⟨4, ef, eb, el, et, ec, ea⟩ : Ev)], by omega, by go_num, Lib.hid (by rw [merged_snoc HE.out, ← HA.out]; exact (mstep_new HS.out HL.out).symm), by rw [show ((ds ++ [(⟨lk, lf, lb, ll, lt, lc, la⟩ : Ev)]) ++ [(⟨4, ef, eb, el, et, ec, ea⟩ : Ev)]).length = p + 1 + 1 from by simp [HP.out], ev_snoc]; exact hown1, hb1⟩
              case measure => simp [intOf]; omega
      · obtain ⟨a5, cap5, rfl, _⟩ := owned_shape ho
        have HO5 := Lib.hid ho; clear ho
        have hl5 : (ek == 4) = false := by simp [h4]
        have HL := Lib.hid h4; clear h4
        go_wp2_with (first | (at_builtin; refine wpList_append_own _ rfl _ _ 24 rfl w.heap.size 78 i0 _ 7 64 Try.underlying24 hi hz0 hz1 hz2 rfl (by decide) _ _ _ rfl (World.ownsRow.alloc (World.ownsRow.alloc HO5.out _) _) ⟨wr.heap.size + 1, 0, none⟩ 1 1 ((⟨ek, ef, eb, el, et, ec, ea⟩ : Ev)).cs rfl rfl (box_cs ((⟨ek, ef, eb, el, et, ec, ea⟩ : Ev)) _ _ _ (by simp)) (cs_one ((⟨ek, ef, eb, el, et, ec, ea⟩ : Ev))) (by unfold maxLen; omega) (by omega) (by simp; omega) ?_; intro v1 w1 hown1 hgrow1 hnn1; have hb1 : Below w.heap.size w w1 := Below.grown (by ((repeat (first | (with_reducible exact Below.refl _ _) | (with_reducible assumption) | (with_reducible refine Below.alloc ?_ ?_ _) | (with_reducible refine Below.setCell ?_ ?_ _) | (with_reducible refine Below.drew ?_) | (with_reducible refine below_setRow ?_ ?_ _) | (refine Below.trans ?_ (Below.mono (by assumption) ?_)))); all_goals (first | omega | (simp; done) | (simp; omega)))) hgrow1 (by simp; omega) (fun g hg => (HO5.out.lt g hg).1); clear hgrow1 hnn1))
        go_roundw
        case rel => exact ⟨k + 1, acc ++ [(⟨ek, ef, eb, el, et, ec, ea⟩ : Ev)], by omega, by go_num, Lib.hid (by rw [merged_snoc HE.out, ← HA.out]; exact (mstep_other HL.out).symm), by rw [List.length_append, ev_snoc]; exact hown1, hb1⟩
        case measure => simp [intOf]; omega
    · obtain ⟨a5, cap5, rfl, _⟩ := owned_shape ho
      have HO5 := Lib.hid ho; clear ho
      have HF := Lib.hid (show acc = merged xs by rw [HA.out, List.take_of_length_le (by rw [HX.out]; omega)])
      go_wp2
      go_ret
      exact ⟨_, rfl, by rw [← HF.out]; exact HO5.out, hb⟩
/-! ### the program's Merged -/
theorem apart_blocks {n base sz : Nat} {v6 u3 : Value} {F : Nat} (h : ∃ g cap, v6 = .slice (some ⟨g, 0, none⟩) n cap ∧ base ≤ g ∧ g < sz) (hd : ∀ g, v6.ownBlock = some g → g ≠ F ∧ u3.ownBlock ≠ some g) : u3.ownBlock = none ∨ u3.ownBlock ≠ v6.ownBlock := by
  obtain ⟨g, cap, rfl, _⟩ := h
  exact .inr (hd g rfl).2
theorem next_apart {v6 v1 u3 : Value} {F s : Nat} (h : v1.ownBlock = v6.ownBlock ∨ v1.ownBlock = some s) (hd : ∀ g, v6.ownBlock = some g → g ≠ F ∧ u3.ownBlock ≠ some g) (hs : s ≠ F) (hu : ∀ g, u3.ownBlock = some g → g ≠ s) : ∀ g, v1.ownBlock = some g → g ≠ F ∧ u3.ownBlock ≠ some g := by
  intro g hg
  rcases h with h | h
  · rw [h] at hg; exact hd g hg
  · rw [h] at hg
    simp at hg
    subst hg
    exact ⟨hs, fun e => hu _ e rfl⟩
theorem OwnT.set {w : World} {base : Nat} {e : TypeId} {v : Value} {n : Nat} {xs : List Value} {p : Addr} (h : OwnT w base e v n xs) (hp : ∀ g, v.ownBlock = some g → g ≠ p.block) (u : Value) : OwnT (w.setCell p u) base e v n xs :=
  OwnT.same h fun g hg => Below.heap_setCell w p u g (hp g hg)
theorem box7 {w : World} {F : Nat} {t : TypeId} {e e2 : Ev} (h : w.heap[F]? = some (.cells e.cs.toArray t (0, 0))) :
    (((((((w.setCell ⟨F, 0, none⟩ (.int .i64 e2.kind)).setCell ⟨F, 1, none⟩ (.int .i64 e2.field)).setCell ⟨F, 2, none⟩ (.int .u64 e2.bits)).setCell ⟨F, 3, none⟩ (.int .i64 e2.len)).setCell ⟨F, 4, none⟩ (.string e2.text)).setCell ⟨F, 5, none⟩ (.int .i64 e2.code)).setCell ⟨F, 6, none⟩ (.int .i64 e2.at_)).heap[F]? = some (.cells e2.cs.toArray t (0, 0)) :=
  hset_eq (hset_set (hset_set (hset_set (hset_set (hset_set (hset_set (hset_set h))))))) (by simp [Ev.cs])
theorem code_world {P : Program} {c : Code} {Q : Exit → Act → World → Prop} {a : Act} {w : World} (h : ∀ W, W = w → Code.wp P c Q a W) : Code.wp P c Q a w := h w rfl
theorem OwnT.le {w : World} {base b' : Nat} {e : TypeId} {v : Value} {n : Nat} {xs : List Value} (h : OwnT w base e v n xs) (hb : b' ≤ base) : OwnT w b' e v n xs := by
  obtain ⟨hl, g, cap, cur, fz, hv, hg, r⟩ := h
  exact ⟨hl, g, cap, cur, fz, hv, by omega, r⟩
def NoPart (acc : List Ev) : Prop := ∀ ds x, acc = ds ++ [x] → ¬ x.kind = 4
def runT (f : Bool) (fst : Ev) (l : List UInt8) : List Ev := if f then [{ fst with text := ⟨l.toArray⟩ }] else []
theorem noPart_snoc {acc : List Ev} {e : Ev} (h : ¬ e.kind = 4) : NoPart (acc ++ [e]) := by
  intro ds x hx
  have := (List.append_inj' hx rfl).2
  simp at this
  subst this; exact h
theorem mstep_np {acc : List Ev} {e : Ev} (h : NoPart acc) (h4 : e.kind = 4) (h0 : ¬ e.text.size = 0) : mstep acc e = acc ++ [e] := by
  rcases List.eq_nil_or_concat acc with rfl | ⟨ds, x, rfl⟩
  · exact mstep_nil (fun h1 => h0 h1.2)
  · rw [List.concat_eq_append] at h ⊢
    exact mstep_new (fun h1 => h0 h1.2) (h ds x rfl)
theorem bytes_nil {s : ByteArray} (h : s.size = 0) : s.data.toList = [] := List.length_eq_zero_iff.1 (by rw [Array.length_toList]; exact h)
theorem runT_self (e : Ev) : runT true e e.text.data.toList = [e] := by simp [runT]
theorem bytes_app (l : List UInt8) (s : ByteArray) : (⟨l.toArray⟩ : ByteArray) ++ s = ⟨(l ++ s.data.toList).toArray⟩ := by
  apply ByteArray.ext
  simp
/-- A first part. -/
theorem inner_start {acc : List Ev} {e : Ev} (h : NoPart acc) (h4 : e.kind = 4) : mstep acc e = acc ++ runT (decide (¬ e.text.size = 0)) e e.text.data.toList := by
  by_cases h0 : e.text.size = 0
  · rw [mstep_skip h4 h0]; simp [runT, h0]
  · rw [mstep_np h h4 h0]; simp only [h0, not_false_eq_true, decide_true, runT_self]
/-- A part more: nothing in it. -/
theorem inner_skip {acc : List Ev} {e fst : Ev} {f : Bool} {l : List UInt8} (h4 : e.kind = 4) (h0 : e.text.size = 0) : mstep (acc ++ runT f fst l) e = acc ++ runT f fst (l ++ e.text.data.toList) := by
  rw [mstep_skip h4 h0, bytes_nil h0]; simp
/-- A part more, the first with something in it. -/
theorem inner_first {acc : List Ev} {e fst : Ev} {l : List UInt8} (h : NoPart acc) (h4 : e.kind = 4) (h0 : ¬ e.text.size = 0) (hl : l = []) : mstep (acc ++ runT false fst l) e = acc ++ runT true e (l ++ e.text.data.toList) := by
  subst hl
  rw [List.nil_append, runT_self]
  simp only [runT, Bool.false_eq_true, if_false, List.append_nil]
  exact mstep_np h h4 h0
/-- A part more, behind a found one. -/
theorem inner_more {acc : List Ev} {e fst : Ev} {l : List UInt8} (h4 : e.kind = 4) (h0 : ¬ e.text.size = 0) (hf : fst.kind = 4) : mstep (acc ++ runT true fst l) e = acc ++ runT true fst (l ++ e.text.data.toList) := by
  simp only [runT, if_true]
  have h := mstep_join (ds := acc) (l := { fst with text := ⟨l.toArray⟩ }) h4 h0 hf
  rw [h]
  simp only [bytes_app]
set_option maxRecDepth 100000 in
set_option maxHeartbeats 10000000 in
theorem implMerged_any (a : Option Addr) (cap n : Nat) (xs : List Ev) (w : World) (h : Evs w a xs) (hx : xs.length = n) (hn : n ≤ 1048576) (hm : textSum xs ≤ 1048576) :
    Calls Try.prog 19 #[.slice a n cap] w fun r w' => ∃ v, r = .returned v ∧ w'.ownsRow w.heap.size 78 7 v (merged xs).length ((merged xs).flatMap Ev.cs) ∧ Below w.heap.size w w' := by
  have HX := Lib.hid hx; clear hx
  obtain ⟨i0, hi, hz0, hz1, hz2⟩ := info_parts info_Event
  obtain ⟨i1, hju, hy0, hy1, hy2⟩ := info_parts info_u8
  go_enter Try.func19, Try.ntmps19
  go_wp2
  go_loopw [3, 4, 5, 6, 7, 8] (fun v i e5 t6 f7 b8 wr => ∃ (k : Nat) (acc : List Ev), k ≤ n ∧ i = .int .i64 k ∧ Hid (acc = merged (xs.take k)) ∧ Hid (∀ e, xs[k]? = some e → e.kind = 4 → NoPart acc) ∧ wr.ownsRow w.heap.size 78 7 v acc.length (acc.flatMap Ev.cs) ∧ Below w.heap.size w wr) (fun _ i _ _ _ _ _ => n - (intOf i).toNat)
  case atStart => exact ⟨0, [], Nat.zero_le _, rfl, Lib.hid rfl, Lib.hid (fun e _ _ ds x hx => by simp at hx), ⟨by simp, .inr ⟨w.heap.size, 0, #[], rfl, Nat.le_refl _, heap_nth0 w _, Nat.le_refl _, Nat.zero_le _, rfl, rfl⟩⟩, by ((repeat (first | (with_reducible exact Below.refl _ _) | (with_reducible assumption) | (with_reducible refine Below.alloc ?_ ?_ _) | (with_reducible refine Below.setCell ?_ ?_ _) | (with_reducible refine Below.drew ?_) | (with_reducible refine below_setRow ?_ ?_ _) | (refine Below.trans ?_ (Below.mono (by assumption) ?_)))); all_goals (first | omega | (simp; done) | (simp; omega)))⟩
  case round =>
    obtain ⟨k, acc, hk, rfl, HA, HG, ho, hb⟩ := hrel
    have hz := hb.size
    by_cases hlt : k < n
    · obtain ⟨e, he, _⟩ := at_lt (xs := xs) (k := k) (by rw [HX.out]; exact hlt)
      have HE := Lib.hid he
      have hml := merged_le (xs.take k)
      have htt := textSum_take xs (k + 1)
      rw [textSum_snoc he] at htt
      have hlen : acc.length ≤ 1048576 := by have h1 := hml.1; rw [← HA.out] at h1; simp at h1; omega
      have htx : e.text.size ≤ 1048576 := by omega
      clear hml htt
      obtain ⟨b, off, rfl, hlb, c0, c1, c2, c3, c4, c5, c6⟩ := Evs.at (h.below hb (Nat.le_refl _)) he
      clear he
      obtain ⟨ek, ef, eb, el, et, ec, ea⟩ := e
      simp only at c0 c1 c2 c3 c4 c5 c6 htx
      have HO5 := Lib.hid ho; clear ho
      by_cases h4 : ek = 4
      · subst h4
        have HNP := Lib.hid (HG.out _ HE.out rfl)
        have hconv := fun W => run_bytes_of_string (P := Try.prog) W 9 22 5 et Try.underlying9 Try.underlying22 Try.underlying5
        go_wp2_with fail
        refine code_world ?_
        intro wA hWA
        have hszA : wA.heap.size = wr.heap.size + 1 + 1 := by rw [hWA]; simp
        have hbA : Below w.heap.size w wA := by rw [hWA]; ((repeat (first | (with_reducible exact Below.refl _ _) | (with_reducible assumption) | (with_reducible refine Below.alloc ?_ ?_ _) | (with_reducible refine Below.setCell ?_ ?_ _) | (with_reducible refine Below.drew ?_) | (with_reducible refine below_setRow ?_ ?_ _) | (refine Below.trans ?_ (Below.mono (by assumption) ?_)))); all_goals (first | omega | (simp; done) | (simp; omega)))
        have hE5 : wA.heap[wr.heap.size]? = some (.cells (⟨4, ef, eb, el, et, ec, ea⟩ : Ev).cs.toArray 78 (0, 0)) := by rw [hWA]; exact hset_drew (hset_alloc (heap_nth0 wr _))
        have hTx : OwnT wA w.heap.size 5 (.slice (some ⟨wr.heap.size + 1, 0, none⟩) et.size (grownCap (wr.alloc (.cells (⟨4, ef, eb, el, et, ec, ea⟩ : Ev).cs.toArray 78)) et.size 0 5)) et.data.toList.length (bv et.data.toList) := by
          have h1 := ownT_made (wr.alloc (.cells (⟨4, ef, eb, el, et, ec, ea⟩ : Ev).cs.toArray 78)) 5 et (by unfold maxLen; omega)
          rw [hWA, show et.data.toList.length = et.size from Array.length_toList]
          have h2 := OwnT.le h1 (b' := w.heap.size) (by simp; omega)
          simp only [World.size_alloc] at h2
          exact OwnT.same h2 (fun g hg => rfl)
        have hOw : wA.ownsRow w.heap.size 78 7 u3 acc.length (acc.flatMap Ev.cs) := by rw [hWA]; exact ((HO5.out.alloc _).alloc _).drew
        clear hWA hconv
        have hgA := HO5.out.lt
        have HGA := Lib.hid hgA; clear hgA HO5
        have kE := box_cells hE5
        have hwA := box_lt hE5
        have HTx := Lib.hid hTx; clear hTx
        have HOw := Lib.hid hOw; clear hOw
        have HE5 := Lib.hid hE5; clear hE5
        obtain ⟨F, hF⟩ : ∃ F, wr.heap.size + 1 + 1 = F := ⟨_, rfl⟩
        have HNE := Lib.hid (show ∀ g, u3.ownBlock = some g → g ≠ F from fun g hg => by have := (HGA.out g hg).2; omega)
        have hisE : (!et.toList.isEmpty) = decide (¬ et.size = 0) := by
          by_cases h0 : et.size = 0
          · rw [(isEmpty_bytes et).1 h0]; simp [h0]
          · rw [(isEmpty_bytes et).2 h0]; simp [h0]
        have HIS := Lib.hid hisE; clear hisE
        have hlF : wr.heap.size < F := by omega
        have hszF : wA.heap.size = F := by omega
        have HSZ := Lib.hid hszA; clear hszA
        go_region
        go_wp2_with fail
        go_loopw [4, 6, 8] (fun v4 v6 v8 wq => ∃ (j : Nat) (f : Bool) (ff fb fl : Int) (ft : ByteArray) (fc fa : Int) (l : List UInt8), k < j ∧ j ≤ n ∧ v4 = .int .i64 j ∧ v8 = .bool f ∧ Hid (merged (xs.take j) = acc ++ runT f (⟨4, ff, fb, fl, ft, fc, fa⟩ : Ev) l) ∧ Hid (f = false → l = []) ∧ Hid (l.length ≤ textSum (xs.take j)) ∧ OwnT wq w.heap.size 5 v6 l.length (bv l) ∧ (∀ g, v6.ownBlock = some g → g ≠ F ∧ u3.ownBlock ≠ some g) ∧ wq.heap[F]? = some (.cells (⟨4, ff, fb, fl, ft, fc, fa⟩ : Ev).cs.toArray 78 (0, 0)) ∧ wq.ownsRow w.heap.size 78 7 u3 acc.length (acc.flatMap Ev.cs) ∧ Below w.heap.size w wq) (fun v4 _ _ _ => n - (intOf v4).toNat)
        case atStart =>
          refine ⟨k + 1, !et.toList.isEmpty, ef, eb, el, et, ec, ea, et.data.toList, by omega, by omega, by go_num, rfl, Lib.hid (by rw [merged_snoc HE.out, ← HA.out, HIS.out]; exact inner_start HNP.out rfl), Lib.hid (fun hf => bytes_nil (by rw [HIS.out] at hf; simpa using hf)), Lib.hid (by rw [textSum_snoc HE.out]; simp only [Array.length_toList]; exact Nat.le_add_left _ _), OwnT.same HTx.out (fun g hg => ?_), fun g hg => ?_, ?_, ?_, ?_⟩
          · simp [Value.ownBlock] at hg; subst hg; exact Below.heap_alloc wA _ _ (by omega)
          · simp [Value.ownBlock] at hg; subst hg; exact ⟨by omega, fun e => by have := (HGA.out _ e).2; omega⟩
          · have h1 := heap_nth0 wA (.cells (⟨4, ef, eb, el, et, ec, ea⟩ : Ev).cs.toArray 78); rw [hszF] at h1; exact h1
          · exact (HOw.out.alloc _).drew
          · ((repeat (first | (with_reducible exact Below.refl _ _) | (with_reducible assumption) | (with_reducible refine Below.alloc ?_ ?_ _) | (with_reducible refine Below.setCell ?_ ?_ _) | (with_reducible refine Below.drew ?_) | (with_reducible refine below_setRow ?_ ?_ _) | (refine Below.trans ?_ (Below.mono (by assumption) ?_)))); all_goals (first | omega | (simp; done) | (simp; omega)))
        case round =>
          obtain ⟨j, f, ff, fb, fl, ft, fc, fa, l, hkj, hjn, rfl, rfl, HM, HFL, HLT, hT, hdis, hbx, how, hbq⟩ := hrel
          have HD := Lib.hid hdis; clear hdis
          have HT := Lib.hid hT; clear hT
          have HOW := Lib.hid how; clear how
          have kF := box_cells hbx
          have fF := box_frozen hbx
          have hFl := box_lt hbx
          have HBX := Lib.hid hbx; clear hbx
          have hzq := hbq.size
          have hll : l.length ≤ 1048576 := by have h1 := HLT.out; have h2 := textSum_take xs j; omega
          have HOB := Lib.hid (OwnT.lt HT.out)
          have HTG := Lib.hid (show ∀ g, u6.ownBlock = some g → w.heap.size ≤ g from fun g hg => by obtain ⟨g', c', e, h1, _⟩ := HOB.out; rw [e] at hg; simp [Value.ownBlock] at hg; omega)
          have HGL := Lib.hid (show ∀ g, u3.ownBlock = some g → g < wr.heap.size from fun g hg => (HOW.out.lt g hg).2)
          by_cases hj : j < n
          · obtain ⟨e2, he2, _⟩ := at_lt (xs := xs) (k := j) (by rw [HX.out]; exact hj)
            have HE2 := Lib.hid he2
            obtain ⟨b', off', hab, hlb', q0, q1, q2, q3, q4, q5, q6⟩ := Evs.at (h.below hbq (Nat.le_refl _)) he2
            simp only [Option.some.injEq, Addr.mk.injEq, and_true] at hab
            obtain ⟨rfl, rfl⟩ := hab
            have hgs : l.length + e2.text.size ≤ 1048576 := by have h1 := HLT.out; have h2 := textSum_take xs (j + 1); rw [textSum_snoc he2] at h2; omega
            clear he2
            obtain ⟨gk, gf, gb, gl, gt, gc, ga⟩ := e2
            simp only at q0 q1 q2 q3 q4 q5 q6 hgs
            by_cases hp : gk = 4
            · subst hp
              by_cases h0 : gt.size = 0
              · have hg0 := (isEmpty_bytes gt).1 h0
                have H0 := Lib.hid h0; clear h0
                cases f
                · skip
                  go_wp2_with (first | (at_builtin; refine wpList_append_T _ rfl _ _ 22 9 rfl w.heap.size 5 i1 Try.underlying22 Try.underlying9 hju hy0 hy1 hy2 u6 l.length (bv l) rfl HT.out gt rfl (by unfold maxLen; omega) (by omega) (by first | omega | (simp; omega)) ?_; intro v1 w1 hown1 hgrow1 hat1; have hb1 : Below w.heap.size w w1 := Below.grown (by ((repeat (first | (with_reducible exact Below.refl _ _) | (with_reducible assumption) | (with_reducible refine Below.alloc ?_ ?_ _) | (with_reducible refine Below.setCell ?_ ?_ _) | (with_reducible refine Below.drew ?_) | (with_reducible refine below_setRow ?_ ?_ _) | (refine Below.trans ?_ (Below.mono (by assumption) ?_)))); all_goals (first | omega | (simp; done) | (simp; omega)))) hgrow1 (by first | omega | (simp; omega)) (fun g hg => HTG.out g hg); have HBX1 := Lib.hid ((hgrow1.block F (by first | omega | (simp; omega)) (fun e => (HD.out F e.symm).1 rfl)).trans HBX.out); have HOW1 := Lib.hid (World.ownsRow.kept HOW.out hgrow1 (apart_blocks HOB.out HD.out)); have HD1 := Lib.hid (next_apart hat1 HD.out (by first | omega | (simp; omega)) (fun g hg => by have := HGL.out g hg; first | omega | (simp; omega))); have HT1 := Lib.hid hown1; clear hown1 hgrow1 hat1))
                  go_roundw
                  case rel => exact ⟨j + 1, false, ff, fb, fl, ft, fc, fa, l ++ gt.data.toList, by omega, by omega, by go_num, rfl, Lib.hid (by rw [merged_snoc HE2.out, HM.out]; exact inner_skip (fst := (⟨4, ff, fb, fl, ft, fc, fa⟩ : Ev)) rfl H0.out), Lib.hid (fun hf => by rw [HFL.out rfl, bytes_nil H0.out]; rfl), Lib.hid (by have := HLT.out; rw [textSum_snoc HE2.out, List.length_append]; simp only [Array.length_toList]; exact Nat.add_le_add this (Nat.le_refl _)), by rw [List.length_append, ← bv_append, show gt.data.toList.length = gt.size from Array.length_toList]; exact HT1.out, HD1.out, HBX1.out, HOW1.out, hb1⟩
                  case measure => simp [intOf]; omega
                · skip
                  go_wp2_with (first | (at_builtin; refine wpList_append_T _ rfl _ _ 22 9 rfl w.heap.size 5 i1 Try.underlying22 Try.underlying9 hju hy0 hy1 hy2 u6 l.length (bv l) rfl HT.out gt rfl (by unfold maxLen; omega) (by omega) (by first | omega | (simp; omega)) ?_; intro v1 w1 hown1 hgrow1 hat1; have hb1 : Below w.heap.size w w1 := Below.grown (by ((repeat (first | (with_reducible exact Below.refl _ _) | (with_reducible assumption) | (with_reducible refine Below.alloc ?_ ?_ _) | (with_reducible refine Below.setCell ?_ ?_ _) | (with_reducible refine Below.drew ?_) | (with_reducible refine below_setRow ?_ ?_ _) | (refine Below.trans ?_ (Below.mono (by assumption) ?_)))); all_goals (first | omega | (simp; done) | (simp; omega)))) hgrow1 (by first | omega | (simp; omega)) (fun g hg => HTG.out g hg); have HBX1 := Lib.hid ((hgrow1.block F (by first | omega | (simp; omega)) (fun e => (HD.out F e.symm).1 rfl)).trans HBX.out); have HOW1 := Lib.hid (World.ownsRow.kept HOW.out hgrow1 (apart_blocks HOB.out HD.out)); have HD1 := Lib.hid (next_apart hat1 HD.out (by first | omega | (simp; omega)) (fun g hg => by have := HGL.out g hg; first | omega | (simp; omega))); have HT1 := Lib.hid hown1; clear hown1 hgrow1 hat1))
                  go_roundw
                  case rel => exact ⟨j + 1, true, ff, fb, fl, ft, fc, fa, l ++ gt.data.toList, by omega, by omega, by go_num, rfl, Lib.hid (by rw [merged_snoc HE2.out, HM.out]; exact inner_skip (fst := (⟨4, ff, fb, fl, ft, fc, fa⟩ : Ev)) rfl H0.out), Lib.hid (fun hf => by cases hf), Lib.hid (by have := HLT.out; rw [textSum_snoc HE2.out, List.length_append]; simp only [Array.length_toList]; exact Nat.add_le_add this (Nat.le_refl _)), by rw [List.length_append, ← bv_append, show gt.data.toList.length = gt.size from Array.length_toList]; exact HT1.out, HD1.out, HBX1.out, HOW1.out, hb1⟩
                  case measure => simp [intOf]; omega
              · have hg0 := (isEmpty_bytes gt).2 h0
                have H0 := Lib.hid h0; clear h0
                cases f
                · have HLN := Lib.hid (HFL.out rfl)
                  have HDF := Lib.hid (show ∀ g, u6.ownBlock = some g → g ≠ F from fun g hg => (HD.out g hg).1)
                  go_wp2_with (first | (at_builtin; refine wpList_append_T _ rfl _ _ 22 9 rfl w.heap.size 5 i1 Try.underlying22 Try.underlying9 hju hy0 hy1 hy2 u6 l.length (bv l) rfl (OwnT.set (OwnT.set (OwnT.set (OwnT.set (OwnT.set (OwnT.set (OwnT.set HT.out HDF.out _) HDF.out _) HDF.out _) HDF.out _) HDF.out _) HDF.out _) HDF.out _) gt rfl (by unfold maxLen; omega) (by omega) (by first | omega | (simp; omega)) ?_; intro v1 w1 hown1 hgrow1 hat1; have hb1 : Below w.heap.size w w1 := Below.grown (by ((repeat (first | (with_reducible exact Below.refl _ _) | (with_reducible assumption) | (with_reducible refine Below.alloc ?_ ?_ _) | (with_reducible refine Below.setCell ?_ ?_ _) | (with_reducible refine Below.drew ?_) | (with_reducible refine below_setRow ?_ ?_ _) | (refine Below.trans ?_ (Below.mono (by assumption) ?_)))); all_goals (first | omega | (simp; done) | (simp; omega)))) hgrow1 (by first | omega | (simp; omega)) (fun g hg => HTG.out g hg); have HBX1 := Lib.hid ((hgrow1.block F (by first | omega | (simp; omega)) (fun e => (HD.out F e.symm).1 rfl)).trans (box7 (e2 := (⟨4, gf, gb, gl, gt, gc, ga⟩ : Ev)) HBX.out)); have HOW1 := Lib.hid (World.ownsRow.kept (owns_set_other (owns_set_other (owns_set_other (owns_set_other (owns_set_other (owns_set_other (owns_set_other HOW.out HNE.out _) HNE.out _) HNE.out _) HNE.out _) HNE.out _) HNE.out _) HNE.out _) hgrow1 (apart_blocks HOB.out HD.out)); have HD1 := Lib.hid (next_apart hat1 HD.out (by first | omega | (simp; omega)) (fun g hg => by have := HGL.out g hg; first | omega | (simp; omega))); have HT1 := Lib.hid hown1; clear hown1 hgrow1 hat1))
                  go_roundw
                  case rel => exact ⟨j + 1, true, gf, gb, gl, gt, gc, ga, l ++ gt.data.toList, by omega, by omega, by go_num, rfl, Lib.hid (by rw [merged_snoc HE2.out, HM.out]; exact inner_first (fst := (⟨4, ff, fb, fl, ft, fc, fa⟩ : Ev)) HNP.out rfl H0.out HLN.out), Lib.hid (fun hf => by cases hf), Lib.hid (by have := HLT.out; rw [textSum_snoc HE2.out, List.length_append]; simp only [Array.length_toList]; exact Nat.add_le_add this (Nat.le_refl _)), by rw [List.length_append, ← bv_append, show gt.data.toList.length = gt.size from Array.length_toList]; exact HT1.out, HD1.out, HBX1.out, HOW1.out, hb1⟩
                  case measure => simp [intOf]; omega
                · skip
                  go_wp2_with (first | (at_builtin; refine wpList_append_T _ rfl _ _ 22 9 rfl w.heap.size 5 i1 Try.underlying22 Try.underlying9 hju hy0 hy1 hy2 u6 l.length (bv l) rfl HT.out gt rfl (by unfold maxLen; omega) (by omega) (by first | omega | (simp; omega)) ?_; intro v1 w1 hown1 hgrow1 hat1; have hb1 : Below w.heap.size w w1 := Below.grown (by ((repeat (first | (with_reducible exact Below.refl _ _) | (with_reducible assumption) | (with_reducible refine Below.alloc ?_ ?_ _) | (with_reducible refine Below.setCell ?_ ?_ _) | (with_reducible refine Below.drew ?_) | (with_reducible refine below_setRow ?_ ?_ _) | (refine Below.trans ?_ (Below.mono (by assumption) ?_)))); all_goals (first | omega | (simp; done) | (simp; omega)))) hgrow1 (by first | omega | (simp; omega)) (fun g hg => HTG.out g hg); have HBX1 := Lib.hid ((hgrow1.block F (by first | omega | (simp; omega)) (fun e => (HD.out F e.symm).1 rfl)).trans HBX.out); have HOW1 := Lib.hid (World.ownsRow.kept HOW.out hgrow1 (apart_blocks HOB.out HD.out)); have HD1 := Lib.hid (next_apart hat1 HD.out (by first | omega | (simp; omega)) (fun g hg => by have := HGL.out g hg; first | omega | (simp; omega))); have HT1 := Lib.hid hown1; clear hown1 hgrow1 hat1))
                  go_roundw
                  case rel => exact ⟨j + 1, true, ff, fb, fl, ft, fc, fa, l ++ gt.data.toList, by omega, by omega, by go_num, rfl, Lib.hid (by rw [merged_snoc HE2.out, HM.out]; exact inner_more (fst := (⟨4, ff, fb, fl, ft, fc, fa⟩ : Ev)) rfl H0.out rfl), Lib.hid (fun hf => by cases hf), Lib.hid (by have := HLT.out; rw [textSum_snoc HE2.out, List.length_append]; simp only [Array.length_toList]; exact Nat.add_le_add this (Nat.le_refl _)), by rw [List.length_append, ← bv_append, show gt.data.toList.length = gt.size from Array.length_toList]; exact HT1.out, HD1.out, HBX1.out, HOW1.out, hb1⟩
                  case measure => simp [intOf]; omega
            · have hl6 : (gk == 4) = false := by simp [hp]
              have HP := Lib.hid hp; clear hp
              cases f
              · have HF := Lib.hid (show acc = merged (xs.take j) by have := HM.out; simpa [runT] using this.symm)
                go_wp2
                go_roundw
                case rel => exact ⟨j, acc, hjn, by go_num, HF, Lib.hid (fun e he hk4 => absurd hk4 (by rw [HE2.out] at he; simp at he; rw [← he]; exact HP.out)), HOW.out, hbq⟩
                case measure => simp [intOf]; omega
              · have HF := Lib.hid (show acc ++ [(⟨4, ff, fb, fl, ⟨l.toArray⟩, fc, fa⟩ : Ev)] = merged (xs.take j) by have := HM.out; simpa [runT] using this.symm)
                have hstr := own_stringT HT.out Try.underlying22 Try.underlying5 Try.underlying9
                go_wp2_with (first | (at_builtin; refine wpList_append_own _ rfl _ _ 24 rfl w.heap.size 78 i0 _ 7 64 Try.underlying24 hi hz0 hz1 hz2 rfl (by decide) _ _ _ rfl (World.ownsRow.alloc (owns_set_other HOW.out HNE.out _) _) ⟨wr.heap.size, 0, none⟩ 1 1 (⟨4, ff, fb, fl, ⟨l.toArray⟩, fc, fa⟩ : Ev).cs rfl rfl (box_cs (⟨4, ff, fb, fl, ⟨l.toArray⟩, fc, fa⟩ : Ev) _ _ _ (by simp)) (cs_one (⟨4, ff, fb, fl, ⟨l.toArray⟩, fc, fa⟩ : Ev)) (by unfold maxLen; omega) (by omega) (by first | omega | (simp; omega)) ?_; intro v1 w1 hown1 hgrow1 hnn1; have hb1 : Below w.heap.size w w1 := Below.grown (by ((repeat (first | (with_reducible exact Below.refl _ _) | (with_reducible assumption) | (with_reducible refine Below.alloc ?_ ?_ _) | (with_reducible refine Below.setCell ?_ ?_ _) | (with_reducible refine Below.drew ?_) | (with_reducible refine below_setRow ?_ ?_ _) | (refine Below.trans ?_ (Below.mono (by assumption) ?_)))); all_goals (first | omega | (simp; done) | (simp; omega)))) hgrow1 (by first | omega | (simp; omega)) (fun g hg => (HOW.out.lt g hg).1); clear hgrow1 hnn1))
                go_roundw
                case rel => exact ⟨j, acc ++ [(⟨4, ff, fb, fl, ⟨l.toArray⟩, fc, fa⟩ : Ev)], hjn, by go_num, HF, Lib.hid (fun e he hk4 => absurd hk4 (by rw [HE2.out] at he; simp at he; rw [← he]; exact HP.out)), by rw [List.length_append, ev_snoc]; exact hown1, hb1⟩
                case measure => simp [intOf]; omega
          · have HJ := Lib.hid (show j = n by omega)
            cases f
            · have HF := Lib.hid (show acc = merged (xs.take j) by have := HM.out; simpa [runT] using this.symm)
              go_wp2
              go_roundw
              case rel => exact ⟨j, acc, hjn, by go_num, HF, Lib.hid (fun e he => by rw [List.getElem?_eq_none (by rw [HX.out, HJ.out]; exact Nat.le_refl _)] at he; cases he), HOW.out, hbq⟩
              case measure => simp [intOf]; omega
            · have HF := Lib.hid (show acc ++ [(⟨4, ff, fb, fl, ⟨l.toArray⟩, fc, fa⟩ : Ev)] = merged (xs.take j) by have := HM.out; simpa [runT] using this.symm)
              have hstr := own_stringT HT.out Try.underlying22 Try.underlying5 Try.underlying9
              go_wp2_with (first | (at_builtin; refine wpList_append_own _ rfl _ _ 24 rfl w.heap.size 78 i0 _ 7 64 Try.underlying24 hi hz0 hz1 hz2 rfl (by decide) _ _ _ rfl (World.ownsRow.alloc (owns_set_other HOW.out HNE.out _) _) ⟨wr.heap.size, 0, none⟩ 1 1 (⟨4, ff, fb, fl, ⟨l.toArray⟩, fc, fa⟩ : Ev).cs rfl rfl (box_cs (⟨4, ff, fb, fl, ⟨l.toArray⟩, fc, fa⟩ : Ev) _ _ _ (by simp)) (cs_one (⟨4, ff, fb, fl, ⟨l.toArray⟩, fc, fa⟩ : Ev)) (by unfold maxLen; omega) (by omega) (by first | omega | (simp; omega)) ?_; intro v1 w1 hown1 hgrow1 hnn1; have hb1 : Below w.heap.size w w1 := Below.grown (by ((repeat (first | (with_reducible exact Below.refl _ _) | (with_reducible assumption) | (with_reducible refine Below.alloc ?_ ?_ _) | (with_reducible refine Below.setCell ?_ ?_ _) | (with_reducible refine Below.drew ?_) | (with_reducible refine below_setRow ?_ ?_ _) | (refine Below.trans ?_ (Below.mono (by assumption) ?_)))); all_goals (first | omega | (simp; done) | (simp; omega)))) hgrow1 (by first | omega | (simp; omega)) (fun g hg => (HOW.out.lt g hg).1); clear hgrow1 hnn1))
              go_roundw
              case rel => exact ⟨j, acc ++ [(⟨4, ff, fb, fl, ⟨l.toArray⟩, fc, fa⟩ : Ev)], hjn, by go_num, HF, Lib.hid (fun e he => by rw [List.getElem?_eq_none (by rw [HX.out, HJ.out]; exact Nat.le_refl _)] at he; cases he), by rw [List.length_append, ev_snoc]; exact hown1, hb1⟩
              case measure => simp [intOf]; omega
      · have hl5 : (ek == 4) = false := by simp [h4]
        have HL := Lib.hid h4; clear h4
        go_wp2_with (first | (at_builtin; refine wpList_append_own_at _ rfl _ _ 24 rfl w.heap.size 78 i0 _ 7 64 Try.underlying24 hi hz0 hz1 hz2 rfl (by decide) _ acc.length (acc.flatMap Ev.cs) rfl (World.ownsRow.alloc (World.ownsRow.alloc HO5.out _) _) ⟨wr.heap.size + 1, 0, none⟩ 1 1 ((⟨ek, ef, eb, el, et, ec, ea⟩ : Ev)).cs rfl rfl (box_cs ((⟨ek, ef, eb, el, et, ec, ea⟩ : Ev)) _ _ _ (by simp)) (cs_one ((⟨ek, ef, eb, el, et, ec, ea⟩ : Ev))) (by unfold maxLen; omega) (by omega) (by simp; omega) ?_; intro v1 w1 hown1 hgrow1 hnn1 hat1; have hb1 : Below w.heap.size w w1 := Below.grown (by ((repeat (first | (with_reducible exact Below.refl _ _) | (with_reducible assumption) | (with_reducible refine Below.alloc ?_ ?_ _) | (with_reducible refine Below.setCell ?_ ?_ _) | (with_reducible refine Below.drew ?_) | (with_reducible refine below_setRow ?_ ?_ _) | (refine Below.trans ?_ (Below.mono (by assumption) ?_)))); all_goals (first | omega | (simp; done) | (simp; omega)))) hgrow1 (by simp; omega) (fun g hg => (HO5.out.lt g hg).1); clear hgrow1 hnn1 hat1))
        go_roundw
        case rel => exact ⟨k + 1, acc ++ [(⟨ek, ef, eb, el, et, ec, ea⟩ : Ev)], by omega, by go_num, Lib.hid (by rw [merged_snoc HE.out, ← HA.out]; exact (mstep_other HL.out).symm), Lib.hid (fun _ _ _ => noPart_snoc HL.out), by rw [List.length_append, ev_snoc]; exact hown1, hb1⟩
        case measure => simp [intOf]; omega
    · obtain ⟨a5, cap5, rfl, _⟩ := owned_shape ho
      have HO5 := Lib.hid ho; clear ho
      have HF := Lib.hid (show acc = merged xs by rw [HA.out, List.take_of_length_le (by rw [HX.out]; omega)])
      go_wp2
      go_ret
      exact ⟨_, rfl, by rw [← HF.out]; exact HO5.out, hb⟩
/-- What both hand back. -/
def FreshEv (w : World) (xs : List Ev) (r : Ending) (w' : World) : Prop := ∃ a cap, r = .returned (.slice a xs.length cap) ∧ OwnR w' w.heap.size w'.heap.size a (xs.length * 7) (xs.flatMap Ev.cs) ∧ Below w.heap.size w w'
theorem freshEv {f : FuncId} {args : Array Value} {w : World} {xs ys : List Ev} {t : TypeId} (h : Calls Try.prog f args w fun r w' => ∃ v, r = .returned v ∧ w'.ownsRow w.heap.size t 7 v xs.length (xs.flatMap Ev.cs) ∧ Below w.heap.size w w') (e : ys = xs) :
    Calls Try.prog f args w (FreshEv w ys) := by
  subst e
  refine h.mono ?_
  rintro r w' ⟨v, rfl, ho, hb⟩
  obtain ⟨a, cap, rfl, h2⟩ := owned_shape ho
  exact ⟨a, cap, rfl, OwnR.of_ownsK h2, hb⟩
theorem specMergedE (a : Option Addr) (cap n : Nat) (xs : List Ev) (w : World) (h : Evs w a xs) (hx : xs.length = n) (hn : n ≤ 1048576) (hm : textSum xs ≤ 1048576) (hnil : a = none → n = 0 ∧ cap = 0) :
    Calls Try.prog 20 #[.slice a n cap] w (FreshEv w (merged xs)) := freshEv (specMerged_any a cap n xs w h hx hn hm) rfl
theorem implMergedE (a : Option Addr) (cap n : Nat) (xs : List Ev) (w : World) (h : Evs w a xs) (hx : xs.length = n) (hn : n ≤ 1048576) (hm : textSum xs ≤ 1048576) (hnil : a = none → n = 0 ∧ cap = 0) :
    Calls Try.prog 19 #[.slice a n cap] w (FreshEv w (merged xs)) := freshEv (implMerged_any a cap n xs w h hx hn hm) rfl
theorem merged_len (xs : List Ev) : (merged xs).length ≤ xs.length + textSum xs := Nat.le_trans (merged_le xs).1 (Nat.le_add_right _ _)
end Go.Proofs.Ytaoejdbkbnonpaa
