/- Plain laws of merging and dividing. -/
import Derived.Test.YtaoejdbkbnonpaaShat
import Derived.Test.YtaoejdbkbnonpaaEvList
namespace Go.Proofs.Ytaoejdbkbnonpaa
set_option linter.unusedSimpArgs false
set_option linter.unusedVariables false
open Go.ChangeShapes Go.WideShapes Go.ChangeAt Go.RowKit Go.BigFrame

theorem cat_split (s : ByteArray) (c : Nat) (h : c ≤ s.size) : s.extract 0 c ++ s.extract c s.size = s := by
  apply ByteArray.ext
  apply Array.toList_inj.1
  simp only [ByteArray.data_append, ByteArray.data_extract, Array.toList_append, Array.toList_extract, List.extract_eq_take_drop, Nat.sub_zero, List.drop_zero]
  have e : s.size - c = (s.data.toList.drop c).length := by rw [List.length_drop, Array.length_toList]; rfl
  rw [e, List.take_length, List.take_append_drop]
theorem pieces_cat {n : Int} (hn : 1 ≤ n) : ∀ (f : Nat) (s t : ByteArray), s.size ≤ f → (pieces n f s).foldl (· ++ ·) t = t ++ s
  | 0, s, t, h => by
    have : s = ⟨#[]⟩ := by apply ByteArray.ext; exact Array.eq_empty_of_size_eq_zero (Nat.le_zero.1 h)
    subst this
    simp only [pieces, List.foldl_nil]
    exact (ByteArray.append_empty (b := t)).symm
  | f + 1, s, t, h => by
    simp only [pieces]
    by_cases h0 : s.size = 0
    · have : s = ⟨#[]⟩ := by apply ByteArray.ext; exact Array.eq_empty_of_size_eq_zero h0
      subst this
      rw [if_pos h0, List.foldl_nil]
      exact (ByteArray.append_empty (b := t)).symm
    · rw [if_neg h0, List.foldl_cons]
      have hc : 1 ≤ cutAt n s := by unfold cutAt; omega
      have hr := rest_size n s
      rw [pieces_cat hn f _ _ (by omega), ByteArray.append_assoc, cat_split s _ (cutAt_le n s)]
theorem pieces_mem {n : Int} (hn : 1 ≤ n) : ∀ (f : Nat) (s t : ByteArray), t ∈ pieces n f s → ¬ t.size = 0 ∧ (t.size : Int) ≤ n
  | 0, s, t, h => by simp [pieces] at h
  | f + 1, s, t, h => by
    simp only [pieces] at h
    by_cases h0 : s.size = 0
    · rw [if_pos h0] at h; simp at h
    · rw [if_neg h0] at h
      rcases List.mem_cons.1 h with rfl | h
      · rw [ByteArray.size_extract]; unfold cutAt; omega
      · exact pieces_mem hn f _ t h
theorem fold_parts {e : Ev} (h4 : e.kind = 4) : ∀ (ps : List ByteArray), (∀ p ∈ ps, ¬ p.size = 0) → ∀ (ds : List Ev) (l : Ev), l.kind = 4 → (ps.map (fun t => { e with text := t })).foldl mstep (ds ++ [l]) = ds ++ [{ l with text := ps.foldl (· ++ ·) l.text }]
  | [], _, ds, l, _ => rfl
  | p :: ps, hp, ds, l, hl => by
    rw [List.map_cons, List.foldl_cons, mstep_join (e := { e with text := p }) h4 (hp p (List.mem_cons_self ..)) hl]
    exact fold_parts h4 ps (fun q hq => hp q (List.mem_cons_of_mem _ hq)) ds _ hl
theorem mstep_add {acc : List Ev} {e : Ev} (h0 : ¬ (e.kind = 4 ∧ e.text.size = 0)) (hl : ∀ ds l, acc = ds ++ [l] → ¬ l.kind = 4) : mstep acc e = acc ++ [e] := by
  rcases List.eq_nil_or_concat acc with rfl | ⟨ds, l, rfl⟩
  · exact mstep_nil h0
  · rw [List.concat_eq_append]; exact mstep_new h0 (hl ds l (List.concat_eq_append ..))
theorem fold_shat {n : Int} (hn : 1 ≤ n) (acc : List Ev) (e : Ev) : (shat n e).foldl mstep acc = mstep acc e := by
  by_cases h4 : e.kind = 4
  · simp only [shat]; rw [if_pos h4]
    by_cases h0 : e.text.size = 0
    · rw [pieces_nil h0, mstep_skip h4 h0]; rfl
    · have hm := fun p hp => (pieces_mem hn e.text.size e.text p hp).1
      by_cases hl : ∃ ds l, acc = ds ++ [l] ∧ l.kind = 4
      · obtain ⟨ds, l, rfl, hl⟩ := hl
        rw [fold_parts h4 _ hm ds l hl, mstep_join h4 h0 hl, pieces_cat hn _ _ _ (Nat.le_refl _)]
      · have hl' : ∀ ds l, acc = ds ++ [l] → ¬ l.kind = 4 := fun ds l h h' => hl ⟨ds, l, h, h'⟩
        have hc := pieces_cat hn e.text.size e.text ⟨#[]⟩ (Nat.le_refl _)
        rw [pieces_step hn h0] at hm hc ⊢
        have hf : ¬ (e.text.extract 0 (cutAt n e.text)).size = 0 := hm _ (List.mem_cons_self ..)
        rw [List.map_cons, List.foldl_cons, mstep_add (e := { e with text := e.text.extract 0 (cutAt n e.text) }) (fun h => hf h.2) hl', fold_parts h4 _ (fun q hq => hm q (List.mem_cons_of_mem _ hq)) acc { e with text := e.text.extract 0 (cutAt n e.text) } h4, mstep_add (fun h => h0 h.2) hl']
        rw [List.foldl_cons] at hc
        have e1 : ∀ x : ByteArray, (⟨#[]⟩ : ByteArray) ++ x = x := fun x => ByteArray.empty_append
        rw [e1, e1] at hc
        rw [hc]
  · simp only [shat]; rw [if_neg h4]; rfl
theorem fold_shats {n : Int} (hn : 1 ≤ n) : ∀ (xs acc : List Ev), (shats n xs).foldl mstep acc = xs.foldl mstep acc
  | [], acc => rfl
  | e :: xs, acc => by
    have h4 : shats n (e :: xs) = shat n e ++ shats n xs := by simp [shats]
    rw [h4, List.foldl_append, fold_shat hn, fold_shats hn xs, List.foldl_cons]
theorem merged_shats {n : Int} (hn : 1 ≤ n) (xs : List Ev) : merged (shats n xs) = merged xs := fold_shats hn xs []
theorem merged_shattered (n : Int) (xs : List Ev) : merged (shattered n xs) = merged xs := by
  by_cases h : n < 1
  · rw [shattered_neg h]
  · rw [shattered_pos (by omega)]; exact merged_shats (by omega) xs
theorem shat_one {n : Int} {y : Ev} (h : y.kind = 4 → ¬ y.text.size = 0 ∧ (y.text.size : Int) ≤ n) : shat n y = [y] := by
  by_cases h4 : y.kind = 4
  · obtain ⟨h0, h1⟩ := h h4
    have hn : 1 ≤ n := by omega
    have hc : cutAt n y.text = y.text.size := by unfold cutAt; omega
    simp only [shat]; rw [if_pos h4, pieces_step hn h0, hc, pieces_nil (by rw [ByteArray.size_extract]; omega)]
    have e1 : y.text.extract 0 y.text.size = y.text := by
      apply ByteArray.ext; simp only [ByteArray.data_extract]; exact Array.extract_size
    rw [e1]; rfl
  · simp only [shat]; rw [if_neg h4]
theorem shat_mem {n : Int} (hn : 1 ≤ n) {e y : Ev} (h : y ∈ shat n e) : y.kind = 4 → ¬ y.text.size = 0 ∧ (y.text.size : Int) ≤ n := by
  intro h4
  simp only [shat] at h
  by_cases h' : e.kind = 4
  · rw [if_pos h'] at h
    obtain ⟨t, ht, rfl⟩ := List.mem_map.1 h
    exact pieces_mem hn _ _ t ht
  · rw [if_neg h'] at h
    simp at h; subst h; exact absurd h4 h'
theorem shats_mem {n : Int} (hn : 1 ≤ n) {xs : List Ev} {y : Ev} (h : y ∈ shats n xs) : y.kind = 4 → ¬ y.text.size = 0 ∧ (y.text.size : Int) ≤ n := by
  obtain ⟨e, _, he⟩ := List.mem_flatMap.1 h
  exact shat_mem hn he
theorem shats_one {n : Int} : ∀ (ys : List Ev), (∀ y ∈ ys, shat n y = [y]) → shats n ys = ys
  | [], _ => rfl
  | y :: ys, h => by
    have h4 : shats n (y :: ys) = shat n y ++ shats n ys := by simp [shats]
    rw [h4, h y (List.mem_cons_self ..), shats_one ys (fun z hz => h z (List.mem_cons_of_mem _ hz))]; rfl
theorem shattered_twice (n : Int) (xs : List Ev) : shattered n (shattered n xs) = shattered n xs := by
  by_cases h : n < 1
  · rw [shattered_neg h, shattered_neg h]
  · rw [shattered_pos (by omega), shattered_pos (by omega)]
    exact shats_one _ fun y hy => shat_one (shats_mem (by omega) hy)

/-! ### the bytes of texts -/
def pb (e : Ev) : Nat := if e.kind = 4 then e.text.size else 0
theorem partB_acc : ∀ (xs : List Ev) (s : Nat), xs.foldl (fun s e => if e.kind = 4 then s + e.text.size else s) s = s + partB xs
  | [], s => rfl
  | x :: xs, s => by
    simp only [partB, List.foldl_cons]
    rw [partB_acc xs, partB_acc xs (if x.kind = 4 then 0 + x.text.size else 0)]
    split <;> omega
theorem partB_app (xs ys : List Ev) : partB (xs ++ ys) = partB xs + partB ys := by
  simp only [partB]; rw [List.foldl_append, partB_acc ys]; rfl
theorem partB_one (e : Ev) : partB [e] = pb e := by simp [partB, pb]
theorem partB_mstep (acc : List Ev) (e : Ev) : partB (mstep acc e) = partB acc + pb e := by
  by_cases h : e.kind = 4 ∧ e.text.size = 0
  · rw [mstep_skip h.1 h.2]; simp [pb, h.1, h.2]
  · by_cases hl : e.kind = 4 ∧ ∃ ds l, acc = ds ++ [l] ∧ l.kind = 4
    · obtain ⟨h4, ds, l, rfl, hl⟩ := hl
      rw [mstep_join h4 (fun h1 => h ⟨h4, h1⟩) hl]
      simp only [partB_app, partB_one]
      simp only [pb]; rw [if_pos hl, if_pos h4, if_pos hl, ByteArray.size_append]; omega
    · by_cases h4 : e.kind = 4
      · rw [mstep_add h (fun ds l h1 h2 => hl ⟨h4, ds, l, h1, h2⟩), partB_app, partB_one]
      · rw [mstep_other h4, partB_app, partB_one]
theorem partB_fold : ∀ (xs acc : List Ev), partB (xs.foldl mstep acc) = partB acc + partB xs
  | [], acc => rfl
  | x :: xs, acc => by
    rw [List.foldl_cons, partB_fold xs, partB_mstep]
    have := partB_app [x] xs
    rw [partB_one] at this
    rw [show x :: xs = [x] ++ xs from rfl, this]; omega
theorem partB_merged (xs : List Ev) : partB (merged xs) = partB xs := by rw [merged, partB_fold]; simp [partB]
theorem partB_shattered (n : Int) (xs : List Ev) : partB (shattered n xs) = partB xs := by
  rw [← partB_merged (shattered n xs), merged_shattered, partB_merged]
theorem longest_acc {n : Int} : ∀ (ys : List Ev) (s : Nat), (s : Int) ≤ n → (∀ y ∈ ys, y.kind = 4 → (y.text.size : Int) ≤ n) → ((ys.foldl (fun s e => if e.kind = 4 then max s e.text.size else s) s : Nat) : Int) ≤ n
  | [], s, h, _ => h
  | y :: ys, s, h, hy => by
    rw [List.foldl_cons]
    refine longest_acc ys _ ?_ (fun z hz => hy z (List.mem_cons_of_mem _ hz))
    split
    · have := hy y (List.mem_cons_self ..) (by assumption); omega
    · exact h
theorem longest_shattered {n : Int} (h : ¬ n < 1) (xs : List Ev) : (longest (shattered n xs) : Int) ≤ n := by
  rw [shattered_pos (by omega)]
  exact longest_acc _ 0 (by omega) fun y hy h4 => (shats_mem (by omega) hy h4).2
theorem textSum_shattered (n : Int) (xs : List Ev) : textSum (shattered n xs) ≤ textSum xs := by
  by_cases h : n < 1
  · rw [shattered_neg h]; omega
  · rw [shattered_pos (by omega)]
    have hp : ∀ (e : Ev) (ps : List ByteArray) (t : ByteArray), textSum (ps.map (fun t => { e with text := t })) + t.size = (ps.foldl (· ++ ·) t).size := by
      intro e ps
      induction ps with
      | nil => intro t; simp [textSum]
      | cons p ps ih =>
        intro t
        rw [List.foldl_cons, ← ih, ByteArray.size_append, List.map_cons]
        simp only [textSum, List.map_cons, List.sum_cons]; omega
    induction xs with
    | nil => simp [shats]
    | cons x xs ih =>
      have h4 : shats n (x :: xs) = shat n x ++ shats n xs := by simp [shats]
      have h5 : textSum (x :: xs) = x.text.size + textSum xs := by simp [textSum]
      have h6 : textSum (shat n x) ≤ x.text.size := by
        simp only [shat]; split
        · have h7 := hp x (pieces n x.text.size x.text) ⟨#[]⟩
          rw [pieces_cat (by omega) _ _ _ (Nat.le_refl _), ByteArray.size_append] at h7
          omega
        · simp [textSum]
      rw [h4, h5, textSum_append]; omega

/-! ### merged twice, no two texts side by side -/
def NoTwo (ks : List Int) : Prop := ∀ i : Nat, ks[i]? = some 4 → ¬ ks[i + 1]? = some 4
def kinds' (xs : List Ev) : List Int := xs.map Ev.kind
theorem noTwo_snoc {ks : List Int} {k : Int} (h : NoTwo ks) (hl : ∀ ds l, ks = ds ++ [l] → ¬ (l = 4 ∧ k = 4)) : NoTwo (ks ++ [k]) := by
  intro i h1 h2
  by_cases hi : i + 1 < ks.length
  · rw [List.getElem?_append_left (by omega)] at h1; rw [List.getElem?_append_left hi] at h2
    exact h i h1 h2
  · by_cases hi2 : i + 1 = ks.length
    · rw [List.getElem?_append_left (by omega)] at h1
      rw [List.getElem?_append_right (by omega), hi2, Nat.sub_self] at h2
      simp at h2
      rcases List.eq_nil_or_concat ks with rfl | ⟨ds, l, rfl⟩
      · simp at hi2
      · rw [List.concat_eq_append] at hi2 h1
        simp at hi2
        subst hi2
        simp at h1
        exact hl ds l (List.concat_eq_append ..) ⟨h1, h2⟩
    · rw [List.getElem?_eq_none (by simp; omega)] at h2; simp at h2
theorem noTwo_mstep {acc : List Ev} {e : Ev} (h : NoTwo (kinds' acc)) : NoTwo (kinds' (mstep acc e)) := by
  by_cases h0 : e.kind = 4 ∧ e.text.size = 0
  · rw [mstep_skip h0.1 h0.2]; exact h
  · by_cases hl : e.kind = 4 ∧ ∃ ds l, acc = ds ++ [l] ∧ l.kind = 4
    · obtain ⟨h4, ds, l, rfl, hl⟩ := hl
      rw [mstep_join h4 (fun h1 => h0 ⟨h4, h1⟩) hl]
      simpa [kinds'] using h
    · have hs : mstep acc e = acc ++ [e] := by
        by_cases h4 : e.kind = 4
        · exact mstep_add h0 (fun ds l h1 h2 => hl ⟨h4, ds, l, h1, h2⟩)
        · exact mstep_other h4
      rw [hs]
      simp only [kinds', List.map_append, List.map_cons, List.map_nil]
      refine noTwo_snoc h ?_
      intro ds l he h2
      rcases List.eq_nil_or_concat acc with rfl | ⟨es, m, rfl⟩
      · simp at he
      · rw [List.concat_eq_append] at he hl
        simp at he
        exact hl ⟨h2.2, es, m, rfl, by rw [he.2]; exact h2.1⟩
theorem noTwo_fold : ∀ (xs acc : List Ev), NoTwo (kinds' acc) → NoTwo (kinds' (xs.foldl mstep acc))
  | [], acc, h => h
  | x :: xs, acc, h => noTwo_fold xs _ (noTwo_mstep h)
theorem noTwo_merged (xs : List Ev) : NoTwo (kinds' (merged xs)) := noTwo_fold xs [] (by intro i h; simp [kinds'] at h)
def Full (acc : List Ev) : Prop := ∀ l ∈ acc, l.kind = 4 → ¬ l.text.size = 0
theorem full_mstep {acc : List Ev} {e : Ev} (h : Full acc) : Full (mstep acc e) := by
  by_cases h0 : e.kind = 4 ∧ e.text.size = 0
  · rw [mstep_skip h0.1 h0.2]; exact h
  · by_cases hl : e.kind = 4 ∧ ∃ ds l, acc = ds ++ [l] ∧ l.kind = 4
    · obtain ⟨h4, ds, l, rfl, hl⟩ := hl
      rw [mstep_join h4 (fun h1 => h0 ⟨h4, h1⟩) hl]
      intro y hy hk
      rcases List.mem_append.1 hy with hy | hy
      · exact h y (List.mem_append_left _ hy) hk
      · simp at hy; subst hy
        have := h l (List.mem_append_right _ (by simp)) hl
        simp only [ByteArray.size_append]; omega
    · have hs : mstep acc e = acc ++ [e] := by
        by_cases h4 : e.kind = 4
        · exact mstep_add h0 (fun ds l h1 h2 => hl ⟨h4, ds, l, h1, h2⟩)
        · exact mstep_other h4
      rw [hs]
      intro y hy hk
      rcases List.mem_append.1 hy with hy | hy
      · exact h y hy hk
      · simp at hy; subst hy; exact fun h1 => h0 ⟨hk, h1⟩
theorem mstep_two (a : List Ev) {l e : Ev} (hl : l.kind = 4) (hl0 : ¬ l.text.size = 0) (h4 : e.kind = 4) (h0 : ¬ e.text.size = 0) : mstep (mstep a l) e = mstep a { l with text := l.text ++ e.text } := by
  have h1 : ¬ ({ l with text := l.text ++ e.text } : Ev).text.size = 0 := by simp only [ByteArray.size_append]; omega
  by_cases hx : ∃ ds x, a = ds ++ [x] ∧ x.kind = 4
  · obtain ⟨ds, x, rfl, hx⟩ := hx
    rw [mstep_join hl hl0 hx, mstep_join (l := { x with text := x.text ++ l.text }) h4 h0 hx, mstep_join (e := { l with text := l.text ++ e.text }) hl h1 hx, ByteArray.append_assoc]
  · have hx' : ∀ ds x, a = ds ++ [x] → ¬ x.kind = 4 := fun ds x h h' => hx ⟨ds, x, h, h'⟩
    rw [mstep_add (fun h => hl0 h.2) hx', mstep_join h4 h0 hl, mstep_add (e := { l with text := l.text ++ e.text }) (fun h => h1 h.2) hx']
theorem merged_mstep {acc : List Ev} (e : Ev) (h : Full acc) : merged (mstep acc e) = mstep (merged acc) e := by
  have hsn : ∀ (ds : List Ev) (x : Ev), merged (ds ++ [x]) = mstep (merged ds) x := fun ds x => by simp [merged]
  by_cases h0 : e.kind = 4 ∧ e.text.size = 0
  · rw [mstep_skip h0.1 h0.2, mstep_skip h0.1 h0.2]
  · by_cases hl : e.kind = 4 ∧ ∃ ds l, acc = ds ++ [l] ∧ l.kind = 4
    · obtain ⟨h4, ds, l, rfl, hl⟩ := hl
      have he0 : ¬ e.text.size = 0 := fun h1 => h0 ⟨h4, h1⟩
      rw [mstep_join h4 he0 hl, hsn, hsn, mstep_two _ hl (h l (List.mem_append_right _ (by simp)) hl) h4 he0]
    · have hs : mstep acc e = acc ++ [e] := by
        by_cases h4 : e.kind = 4
        · exact mstep_add h0 (fun ds l h1 h2 => hl ⟨h4, ds, l, h1, h2⟩)
        · exact mstep_other h4
      rw [hs, hsn]
theorem merged_fold : ∀ (xs acc : List Ev), Full acc → merged (xs.foldl mstep acc) = xs.foldl mstep (merged acc)
  | [], acc, _ => rfl
  | x :: xs, acc, h => by rw [List.foldl_cons, merged_fold xs _ (full_mstep h), merged_mstep x h, List.foldl_cons]
theorem merged_twice (xs : List Ev) : merged (merged xs) = merged xs := merged_fold xs [] (by intro l h; simp at h)

end Go.Proofs.Ytaoejdbkbnonpaa
