/- Texts that CompL leans on, part 2. (Put together by wip/tools/bundle.py.) -/
import Derived.Maps.AppendAt
import Derived.Laws.AppendOwnNone
import Derived.Deep.AppendLies
import Derived.Laws.Tables
import Derived.Test.YtbpilecgnfnndaaComp1
namespace Go.Proofs.Ytbpilecgnfnndaa
set_option linter.unusedSimpArgs false
set_option linter.unusedVariables false
open Go.ChangeShapes Go.WideShapes Go.ChangeAt Go.RowKit Go.BigFrame
theorem Chg.widen {lo hi g e : Nat} {w w' : World} (h : Chg g e w w') (h1 : lo ≤ g) (h2 : e ≤ hi) : Chg lo hi w w' :=
  ⟨h.os, h.tape, h.output, h.size, fun k hk ho => h.block k hk (by omega)⟩
theorem OwnR.widen {w : World} {lo hi g e n : Nat} {a : Option Addr} {L : List Value} (h : OwnR w g e a n L) (h1 : lo ≤ g) (h2 : e ≤ hi) : OwnR w lo hi a n L := by
  refine ⟨h.len, ?_⟩
  rcases h.own with h0 | ⟨b, ha, k1, k2, k3, k4, k5⟩
  · exact .inl h0
  · exact .inr ⟨b, ha, by omega, by omega, k3, k4, k5⟩
theorem OwnR.narrow {w : World} {lo hi n : Nat} {a : Option Addr} {L : List Value} (h : OwnR w lo hi a n L) (hlh : lo ≤ hi) : ∃ g e, lo ≤ g ∧ e ≤ hi ∧ OwnR w g e a n L ∧ (n = 0 ∧ e = g ∨ n ≠ 0 ∧ e = g + 1 ∧ a = some ⟨g, 0, none⟩) := by
  by_cases hn : n = 0
  · exact ⟨lo, lo, Nat.le_refl _, hlh, ⟨h.len, .inl hn⟩, .inl ⟨hn, rfl⟩⟩
  · rcases h.own with h0 | ⟨g, ha, h1, h2, h3, h4, h5⟩
    · exact absurd h0 hn
    · exact ⟨g, g + 1, h1, by omega, ⟨h.len, .inr ⟨g, ha, Nat.le_refl _, by omega, h3, h4, h5⟩⟩, .inr ⟨hn, rfl, ha⟩⟩
theorem OwnR.chg1 {w w' : World} {lo hi g e n : Nat} {a : Option Addr} {L : List Value} (h : OwnR w lo hi a n L) (hc : Chg g e w w') (hd : ∀ b, a = some ⟨b, 0, none⟩ → n ≠ 0 → b < g ∨ e ≤ b) : OwnR w' lo hi a n L := by
  refine ⟨h.len, ?_⟩
  by_cases hn : n = 0
  · exact .inl hn
  rcases h.own with h0 | ⟨b, ha, h1, h2, h3, h4, h5⟩
  · exact .inl h0
  · have hb := hc.block b h3 (hd b ha hn)
    exact .inr ⟨b, ha, h1, h2, Nat.lt_of_lt_of_le h3 hc.size, fun j u hu => (World.cell?_of_block (a := ⟨b, j, none⟩) hb).trans (h4 j u hu), fun j => (World.frozen?_of_block (a := ⟨b, j, none⟩) hb).trans (h5 j)⟩
def markF (q : Nat) : Fld := ⟨(q : Int), (q : Int) + 1, decide ((q + 2) % 3 = 0), decide (q % 3 = 0), (q : Int) + 1 + 1 + 1 + 1⟩
def marksF (k n : Nat) : List Fld := (List.range n).map fun i => markF (k + 5 * i)
theorem marksF_len (k n : Nat) : (marksF k n).length = n := by simp [marksF]
theorem marksF_succ (k n : Nat) : marksF k (n + 1) = marksF k n ++ [markF (k + 5 * n)] := by simp [marksF, List.range_succ]
theorem marksF_at {k n j : Nat} (hj : j < n) : (marksF k n)[j]? = some (markF (k + 5 * j)) := by simp [marksF, hj]
theorem mod3 (q c : Nat) (x : Int) (h : x = (q : Int) + c) : (x % 3 == 0) = decide ((q + c) % 3 = 0) := by
  subst h
  rw [Bool.eq_iff_iff]; simp only [beq_iff_eq, decide_eq_true_eq]; omega
set_option maxRecDepth 100000 in
set_option maxHeartbeats 2000000 in
theorem markFieldS_any (a : Option Addr) (cap n : Nat) (L : List Value) (x : Int) (k : Nat) (hxk : x = k) (lo hi : Nat) (w : World) (ho : OwnR w lo hi a (n * 5) L) (hn : n ≤ 1048576) (h0 : 0 < k) (hk : k ≤ 100000000) :
    Calls Try.prog 86 #[.slice a n cap, .int .i64 x] w fun r w' => r = .returned (.int .i64 (x + 5 * n)) ∧ OwnR w' lo hi a (n * 5) ((marksF k n).flatMap Fld.cs) ∧ Chg lo hi w w' := by
  subst hxk
  have HO0 := Lib.hid ho; clear ho
  go_enter Try.func86, Try.ntmps86
  go_wp2
  go_loopw [1, 5] (fun t i wr => ∃ j q : Nat, j ≤ n ∧ i = .int .i64 j ∧ t = .int .i64 q ∧ Hid (q = k + 5 * j) ∧ q ≤ 106000000 ∧ 0 < q ∧ (∃ L', OwnR wr lo hi a (n * 5) L' ∧ L'.take (j * 5) = (marksF k j).flatMap Fld.cs) ∧ Chg lo hi w wr) (fun _ i _ => n - (intOf i).toNat)
  case atStart => exact ⟨0, k, Nat.zero_le _, rfl, rfl, Lib.hid (by omega), by omega, h0, ⟨_, HO0.out, by simp [marksF]⟩, Chg.refl _ _ _⟩
  case round =>
    obtain ⟨j, q, hj, rfl, rfl, HQ, hq, hq0, ⟨L', ho, hT⟩, hc⟩ := hrel
    have HT := Lib.hid hT; clear hT
    by_cases hlt : j < n
    · have HO := Lib.hid ho
      have HC := Lib.hid hc; clear hc
      have hlen := ho.len
      rcases ho.own with h' | ⟨g, rfl, h1, h2, h3, h4, h5⟩
      · omega
      have d0 := h4 (j * 5) L'[j * 5] (List.getElem?_eq_getElem (by omega))
      have d1 := h4 (j * 5 + 1) L'[j * 5 + 1] (List.getElem?_eq_getElem (by omega))
      have d2 := h4 (j * 5 + 2) L'[j * 5 + 2] (List.getElem?_eq_getElem (by omega))
      have d3 := h4 (j * 5 + 3) L'[j * 5 + 3] (List.getElem?_eq_getElem (by omega))
      have d4 := h4 (j * 5 + 4) L'[j * 5 + 4] (List.getElem?_eq_getElem (by omega))
      clear h4 ho
      have e2 := mod3 q 2 ((q : Int) + 1 + 1) (by push_cast; omega)
      have e3 := mod3 q 3 ((q : Int) + 1 + 1 + 1) (by push_cast; omega)
      go_wp2
      go_roundw
      case rel =>
        have hl5 : j * 5 + 5 ≤ n * 5 := by omega
        have hq5 : q + 5 ≤ 106000000 := by have := HQ.out; omega
        refine ⟨j + 1, q + 5, by omega, by go_num, by go_num, Lib.hid (by have := HQ.out; omega), hq5, by omega, ⟨setRow L' (j * 5) (markF q).cs, ?_, ?_⟩, ?_⟩
        · exact ((((HO.out.store (j := j * 5) (by omega) _).store (j := j * 5 + 1) (by omega) _).store (j := j * 5 + 2) (by omega) _).store (j := j * 5 + 3) (by omega) _).store (j := j * 5 + 4) (by omega) _
        · rw [show (j + 1) * 5 = j * 5 + (markF q).cs.length from by rw [fld_len]; omega, setRow_take (markF q).cs L' (j * 5) (by rw [fld_len, hlen]; omega), HT.out, marksF_succ, ← HQ.out]
          simp
        · exact ((((HC.out.trans (Chg.setCell h1 h2 _)).trans (Chg.setCell h1 h2 _)).trans (Chg.setCell h1 h2 _)).trans (Chg.setCell h1 h2 _)).trans (Chg.setCell h1 h2 _)
      case measure => simp [intOf]; omega
    · have hjn : j = n := by omega
      subst hjn
      have hL := Lib.hid (show L' = (marksF k j).flatMap Fld.cs by have h1 := HT.out; rw [List.take_of_length_le (by rw [ho.len]; omega)] at h1; exact h1)
      have HO := Lib.hid ho; clear ho
      have HC := Lib.hid hc; clear hc
      go_wp2
      go_ret
      exact ⟨ret_int (by have := HQ.out; omega), by rw [← hL.out]; exact HO.out, HC.out⟩
set_option maxRecDepth 100000 in
set_option maxHeartbeats 2000000 in
theorem heldFieldS_any (a : Option Addr) (cap n : Nat) (x : Int) (k : Nat) (hxk : x = k) (w : World) (h : Flds w a (marksF k n)) (hn : n ≤ 1048576) (h0 : 0 < k) (hk : k ≤ 100000000) :
    Calls Try.prog 87 #[.slice a n cap, .int .i64 x] w fun r w' => r = .returned (.int .i64 (x + 5 * n)) ∧ Below w.heap.size w w' := by
  subst hxk
  have HS := Lib.hid h; clear h
  go_enter Try.func87, Try.ntmps87
  go_wp2
  go_loopw [1, 5] (fun t i wr => ∃ j q : Nat, j ≤ n ∧ i = .int .i64 j ∧ t = .int .i64 q ∧ Hid (q = k + 5 * j) ∧ q ≤ 106000000 ∧ 0 < q ∧ Below w.heap.size w wr) (fun _ i _ => n - (intOf i).toNat)
  case atStart => exact ⟨0, k, Nat.zero_le _, rfl, rfl, Lib.hid (by omega), by omega, h0, Below.refl _ _⟩
  case round =>
    obtain ⟨j, q, hj, rfl, rfl, HQ, hq, hq0, hb⟩ := hrel
    have hz := hb.size
    by_cases hlt : j < n
    · obtain ⟨b, off, rfl, hlb, c0, c1, c2, c3, c4⟩ := Flds.at (Sl.keep HS.out hb) (marksF_at hlt)
      rw [← HQ.out] at c0 c1 c2 c3 c4
      simp only [markF] at c0 c1 c2 c3 c4
      have e2 := mod3 q 2 ((q : Int) + 1 + 1) (by push_cast; omega)
      have e3 := mod3 q 3 ((q : Int) + 1 + 1 + 1) (by push_cast; omega)
      go_wp2
      go_roundw
      case rel => exact ⟨j + 1, q + 5, by omega, by go_num, by go_num, Lib.hid (by have := HQ.out; omega), by have := HQ.out; omega, by omega, hb⟩
      case measure => simp [intOf]; omega
    · have hjn : j = n := by omega
      subst hjn
      go_wp2
      go_ret
      exact ⟨ret_int (by have := HQ.out; omega), hb⟩
structure OwnSh (w : World) (lo hi : Nat) (a : Option Addr) (n : Nat) (rs : List ShR) (xs : List Shp) : Prop where
  le : lo ≤ hi
  len : rs.length = n
  lenx : xs.length = n
  outer : OwnR w lo hi a (n * 2) (rs.flatMap ShR.cs)
  each : ∀ (k : Nat) (r : ShR) (x : Shp), rs[k]? = some r → xs[k]? = some x → r.id = x.id ∧ r.n = x.flds.length ∧ OwnR w lo hi r.a (r.n * 5) (x.flds.flatMap Fld.cs)
  apart : ∀ (i j : Nat) (r s : ShR) (g : Nat), rs[i]? = some r → rs[j]? = some s → i ≠ j → r.n ≠ 0 → s.n ≠ 0 → r.a = some ⟨g, 0, none⟩ → s.a ≠ some ⟨g, 0, none⟩
  off : ∀ (i : Nat) (r : ShR) (g : Nat), rs[i]? = some r → r.n ≠ 0 → a = some ⟨g, 0, none⟩ → r.a ≠ some ⟨g, 0, none⟩
def ShBlk (a : Option Addr) (n : Nat) (rs : List ShR) (b : Nat) : Prop := n ≠ 0 ∧ a = some ⟨b, 0, none⟩ ∨ ∃ (i : Nat) (r : ShR), rs[i]? = some r ∧ r.n ≠ 0 ∧ r.a = some ⟨b, 0, none⟩
theorem owns_typed {w : World} {base n cap size : Nat} {t : TypeId} {a : Option Addr} {L : List Value} (h : w.ownsRow base t size (.slice a n cap) n L) {g : Nat} (hg : a = some ⟨g, 0, none⟩) : ∃ cur, w.heap[g]? = some (.cells cur t (0, 0)) := by
  subst hg
  rcases h.2 with ⟨e, _⟩ | ⟨g', cap', cur, e, _, hh, _⟩
  · simp at e
  · simp only [Value.slice.injEq, Option.some.injEq, Addr.mk.injEq, and_true] at e
    obtain ⟨rfl, _⟩ := e
    exact ⟨cur, hh⟩
theorem owns_apart {w : World} {base n cap size base' n' cap' size' g : Nat} {t t' : TypeId} {a a' : Option Addr} {L L' : List Value} (h : w.ownsRow base t size (.slice a n cap) n L) (h' : w.ownsRow base' t' size' (.slice a' n' cap') n' L') (hne : t ≠ t') (hg : a = some ⟨g, 0, none⟩) : a' ≠ some ⟨g, 0, none⟩ := by
  intro hg'
  obtain ⟨c1, e1⟩ := owns_typed h hg
  obtain ⟨c2, e2⟩ := owns_typed h' hg'
  rw [e1] at e2
  simp only [Option.some.injEq, Obj.cells.injEq] at e2
  exact hne e2.2.1
theorem OwnSh.of_own {w : World} {base n cap : Nat} {T TF : TypeId} {a : Option Addr} {rs : List ShR} {xs : List Shp} (h : OwnShs w base T TF (.slice a n cap) n rs xs) (hb : base ≤ w.heap.size) (hne : T ≠ TF) : OwnSh w base w.heap.size a n rs xs where
  le := hb
  len := h.len
  lenx := h.lenx
  outer := OwnR.of_ownsK h.outer
  each k r x hr hx := ⟨(h.each k r x hr hx).1, (h.each k r x hr hx).2.1, OwnR.of_ownsK (h.each k r x hr hx).2.2⟩
  apart i j r s g hr hs hij hn hn' ha hb := h.apart i j r s hr hs hij g (by rw [ha]; rfl) (by rw [hb]; rfl)
  off i r g hr hn ha := by
    have hi : i < n := by
      rcases Nat.lt_or_ge i rs.length with h' | h'
      · rw [← h.len]; exact h'
      · rw [List.getElem?_eq_none h'] at hr; simp at hr
    obtain ⟨x, hx⟩ : ∃ x, xs[i]? = some x := ⟨_, List.getElem?_eq_getElem (by rw [h.lenx]; exact hi)⟩
    exact owns_apart h.outer (h.each i r x hr hx).2.2 hne ha
section
variable {w w' : World} {lo hi n : Nat} {a : Option Addr} {rs : List ShR} {xs : List Shp}
theorem OwnSh.at (h : OwnSh w lo hi a n rs xs) {k : Nat} (hk : k < n) : ∃ r x, rs[k]? = some r ∧ xs[k]? = some x :=
  ⟨_, _, List.getElem?_eq_getElem (by rw [h.len]; exact hk), List.getElem?_eq_getElem (by rw [h.lenx]; exact hk)⟩
theorem OwnSh.shs (h : OwnSh w lo hi a n rs xs) : Shs w a xs := by
  intro k x hx
  have hk : k < n := by
    rcases Nat.lt_or_ge k xs.length with h' | h'
    · rw [← h.lenx]; exact h'
    · rw [List.getElem?_eq_none h'] at hx; simp at hx
  obtain ⟨r, x', hr, hx'⟩ := h.at hk
  rw [hx] at hx'; simp at hx'; subst hx'
  obtain ⟨e1, e2, e3⟩ := h.each k r x hr hx
  obtain ⟨b, off, ha, hlt, hc⟩ := OwnR.slK (by omega) shR_len h.outer k r hr
  have c0 := hc 0 _ rfl
  have c1 := hc 1 _ rfl
  rw [e1] at c0
  rw [e2] at c1
  exact ⟨b, off, r.a, r.cap, ha, hlt, c0, c1, by rw [e2] at e3; exact OwnR.slK (by omega) fld_len e3⟩
theorem OwnSh.chgB (h : OwnSh w lo hi a n rs xs) {g e : Nat} (hc : Chg g e w w') (hd : ∀ b, ShBlk a n rs b → b < g ∨ e ≤ b) : OwnSh w' lo hi a n rs xs where
  le := h.le
  len := h.len
  lenx := h.lenx
  outer := h.outer.chg1 hc fun b hb hn => hd b (.inl ⟨by omega, hb⟩)
  each k r x hr hx := ⟨(h.each k r x hr hx).1, (h.each k r x hr hx).2.1, (h.each k r x hr hx).2.2.chg1 hc fun b hb hn => hd b (.inr ⟨k, r, hr, by omega, hb⟩)⟩
  apart := h.apart
  off := h.off
theorem OwnSh.blk (h : OwnSh w lo hi a n rs xs) {b : Nat} (hb : ShBlk a n rs b) : lo ≤ b ∧ b < hi := by
  rcases hb with ⟨hn, ha⟩ | ⟨i, r, hr, hn, ha⟩
  · rcases h.outer.own with h0 | ⟨g, hg, h1, h2, _⟩
    · omega
    · rw [hg] at ha; simp at ha; subst ha; exact ⟨h1, h2⟩
  · have hi' : i < n := by
      rcases Nat.lt_or_ge i rs.length with h' | h'
      · rw [← h.len]; exact h'
      · rw [List.getElem?_eq_none h'] at hr; simp at hr
    obtain ⟨x, hx⟩ : ∃ x, xs[i]? = some x := ⟨_, List.getElem?_eq_getElem (by rw [h.lenx]; exact hi')⟩
    rcases (h.each i r x hr hx).2.2.own with h0 | ⟨g, hg, h1, h2, _⟩
    · omega
    · rw [hg] at ha; simp at ha; subst ha; exact ⟨h1, h2⟩
theorem OwnSh.chg (h : OwnSh w lo hi a n rs xs) {lo' hi' : Nat} (hc : Chg lo' hi' w w') (hd : hi ≤ lo' ∨ hi' ≤ lo) : OwnSh w' lo hi a n rs xs :=
  h.chgB hc fun b hb => by have := h.blk hb; omega
theorem OwnSh.keep (h : OwnSh w lo hi a n rs xs) (hb : Below w.heap.size w w') : OwnSh w' lo hi a n rs xs :=
  h.chg (Chg.of_below (lo := hi) (hi := hi) hb) (.inl (Nat.le_refl _))
end
theorem shr_set : ∀ (rs : List ShR) (k : Nat) (r : ShR) (q : Int), rs[k]? = some r → (rs.flatMap ShR.cs).set (k * 2) (.int .i64 q) = (rs.set k ⟨q, r.a, r.n, r.cap⟩).flatMap ShR.cs
  | [], k, r, q, h => by simp at h
  | s :: rs, 0, r, q, h => by simp at h; subst h; simp [List.flatMap_cons]
  | s :: rs, k + 1, r, q, h => by
    have ih := shr_set rs k r q (by simpa using h)
    rw [show (k + 1) * 2 = k * 2 + 1 + 1 by omega]
    simp only [List.flatMap_cons, List.cons_append, List.nil_append, List.set_cons_succ, ih]
theorem OwnSh.put {w w2 : World} {lo hi g n k g1 e1 : Nat} {rs : List ShR} {xs : List Shp} {r : ShR} {x : Shp} {q : Int} {ys : List Fld} (h : OwnSh w lo hi (some ⟨g, 0, none⟩) n rs xs) (hk : k < n) (hr : rs[k]? = some r) (hx : xs[k]? = some x)
    (ho : OwnR w2 g1 e1 r.a (r.n * 5) (ys.flatMap Fld.cs)) (hy : ys.length = r.n) (hc : Chg g1 e1 (w.setCell ⟨g, k * 2, none⟩ (.int .i64 q)) w2) (h1 : lo ≤ g1) (h2 : e1 ≤ hi) (hp : r.n = 0 ∧ e1 = g1 ∨ r.n ≠ 0 ∧ e1 = g1 + 1 ∧ r.a = some ⟨g1, 0, none⟩) :
    OwnSh w2 lo hi (some ⟨g, 0, none⟩) n (rs.set k ⟨q, r.a, r.n, r.cap⟩) (xs.set k ⟨q, ys⟩) := by
  have hset : Chg g (g + 1) w (w.setCell ⟨g, k * 2, none⟩ (.int .i64 q)) := Chg.setCell (Nat.le_refl _) (by omega) _
  have hrs : ∀ (i : Nat) (s : ShR), (rs.set k ⟨q, r.a, r.n, r.cap⟩)[i]? = some s → ∃ s', rs[i]? = some s' ∧ s.a = s'.a ∧ s.n = s'.n ∧ (i = k → s = ⟨q, r.a, r.n, r.cap⟩) ∧ (i ≠ k → s = s') := by
    intro i s hs
    rw [List.getElem?_set] at hs
    by_cases hik : k = i
    · subst hik
      rw [if_pos rfl, if_pos (by rw [h.len]; exact hk)] at hs
      simp at hs; subst hs
      exact ⟨r, hr, rfl, rfl, fun _ => rfl, fun hh => absurd rfl hh⟩
    · rw [if_neg hik] at hs
      exact ⟨s, hs, rfl, rfl, fun hh => absurd hh.symm hik, fun _ => rfl⟩
  refine ⟨h.le, by rw [List.length_set, h.len], by rw [List.length_set, h.lenx], ?_, ?_, ?_, ?_⟩
  · rw [← shr_set rs k r q hr]
    refine (h.outer.store (j := k * 2) (by omega) _).chg1 hc fun b hb hn => ?_
    simp at hb; subst hb
    rcases hp with ⟨_, hp⟩ | ⟨hp0, hp1, hp2⟩
    · omega
    · have := h.off k r g hr hp0 rfl
      by_cases hgg : g = g1
      · subst hgg; exact absurd hp2 this
      · omega
  · intro i s y hs hyy
    obtain ⟨s', hs', e1', e2', e3', e4'⟩ := hrs i s hs
    rw [List.getElem?_set] at hyy
    by_cases hik : k = i
    · subst hik
      rw [if_pos rfl, if_pos (by rw [h.lenx]; exact hk)] at hyy
      simp at hyy; subst hyy
      have e := e3' rfl
      subst e
      exact ⟨rfl, hy.symm, ho.widen h1 h2⟩
    · rw [if_neg hik] at hyy
      have e := e4' (fun hh => hik hh.symm)
      subst e
      obtain ⟨f1, f2, f3⟩ := h.each i s y hs' hyy
      refine ⟨f1, f2, (f3.chg1 hset fun b hb hn => ?_).chg1 hc fun b hb hn => ?_⟩
      · have := h.off i s b hs' (by omega)
        by_cases hbg : b = g
        · subst hbg; exact absurd hb (this rfl)
        · omega
      · rcases hp with ⟨_, hp⟩ | ⟨hp0, hp1, hp2⟩
        · omega
        · by_cases hbg : b = g1
          · subst hbg; exact absurd hp2 (h.apart i k s r b hs' hr (fun hh => hik hh.symm) (by omega) hp0 hb)
          · omega
  · intro i j s t b hs ht hij hn hn' ha
    obtain ⟨s', hs', f1, f2, _⟩ := hrs i s hs
    obtain ⟨t', ht', f3, f4, _⟩ := hrs j t ht
    rw [f3]
    exact h.apart i j s' t' b hs' ht' hij (by rw [← f2]; exact hn) (by rw [← f4]; exact hn') (by rw [← f1]; exact ha)
  · intro i s b hs hn ha
    obtain ⟨s', hs', f1, f2, _⟩ := hrs i s hs
    rw [f1]
    exact h.off i s' b hs' (by rw [← f2]; exact hn) ha
def kS (k : Nat) (xs : List Shp) (i : Nat) : Nat := k + i + 5 * fldSum (xs.take i)
def markShp (k : Nat) (xs : List Shp) (i : Nat) (x : Shp) : Shp := ⟨(kS k xs i : Int), marksF (kS k xs i + 1) x.flds.length⟩
def partS (k : Nat) (xs : List Shp) (i : Nat) : List Shp := xs.mapIdx fun j x => if j < i then markShp k xs j x else x
def marksS (k : Nat) (xs : List Shp) : List Shp := partS k xs xs.length
theorem partS_at (k : Nat) (xs : List Shp) (i j : Nat) : (partS k xs i)[j]? = xs[j]?.map fun x => if j < i then markShp k xs j x else x := by simp [partS]
theorem partS_zero (k : Nat) (xs : List Shp) : partS k xs 0 = xs := by
  apply List.ext_getElem?; intro j
  rw [partS_at]; cases xs[j]? <;> simp
theorem partS_succ {k : Nat} {xs : List Shp} {i : Nat} {e : Shp} (he : xs[i]? = some e) : (partS k xs i).set i (markShp k xs i e) = partS k xs (i + 1) := by
  apply List.ext_getElem?; intro j
  rw [List.getElem?_set, partS_at, partS_at]
  have hi : i < xs.length := by
    rcases Nat.lt_or_ge i xs.length with h' | h'
    · exact h'
    · rw [List.getElem?_eq_none h'] at he; simp at he
  by_cases hij : i = j
  · subst hij
    rw [if_pos rfl, if_pos (by simp [partS]; exact hi), he]; simp
  · rw [if_neg hij]
    cases xs[j]? with
    | none => rfl
    | some y =>
      simp only [Option.map_some]
      by_cases hlt : j < i
      · rw [if_pos hlt, if_pos (by omega)]
      · rw [if_neg hlt, if_neg (by omega)]
theorem marksS_at {k : Nat} {xs : List Shp} {i : Nat} {e : Shp} (he : xs[i]? = some e) : (marksS k xs)[i]? = some (markShp k xs i e) := by
  have hi : i < xs.length := by
    rcases Nat.lt_or_ge i xs.length with h' | h'
    · exact h'
    · rw [List.getElem?_eq_none h'] at he; simp at he
  rw [marksS, partS_at, he]; simp [hi]
theorem kS_succ {k : Nat} {xs : List Shp} {i : Nat} {e : Shp} (he : xs[i]? = some e) : kS k xs (i + 1) = kS k xs i + 1 + 5 * e.flds.length := by
  unfold kS; rw [fldSum_snoc he]; omega
theorem kS_le (k : Nat) (xs : List Shp) (i : Nat) : kS k xs i ≤ k + i + 5 * fldSum xs := by
  unfold kS; have := fldSum_take xs i; omega
structure ChgB (P : Nat → Prop) (w w' : World) : Prop where
  os : w'.os = w.os
  tape : w'.tape = w.tape
  output : w'.output = w.output
  size : w.heap.size ≤ w'.heap.size
  block : ∀ k, k < w.heap.size → ¬ P k → w'.heap[k]? = w.heap[k]?
theorem ChgB.refl (P : Nat → Prop) (w : World) : ChgB P w w := ⟨rfl, rfl, rfl, Nat.le_refl _, fun _ _ _ => rfl⟩
theorem ChgB.trans {P : Nat → Prop} {a b c : World} (h : ChgB P a b) (k : ChgB P b c) : ChgB P a c :=
  ⟨k.os.trans h.os, k.tape.trans h.tape, k.output.trans h.output, Nat.le_trans h.size k.size, fun i hi' ho => (k.block i (Nat.lt_of_lt_of_le hi' h.size) ho).trans (h.block i hi' ho)⟩
theorem Chg.toB {P : Nat → Prop} {g e : Nat} {w w' : World} (h : Chg g e w w') (hP : ∀ b, g ≤ b → b < e → P b) : ChgB P w w' :=
  ⟨h.os, h.tape, h.output, h.size, fun k hk hn => h.block k hk (by
    rcases Nat.lt_or_ge k g with h1 | h1
    · exact .inl h1
    · rcases Nat.lt_or_ge k e with h2 | h2
      · exact absurd (hP k h1 h2) hn
      · exact .inr h2)⟩
theorem ChgB.toChg {P : Nat → Prop} {lo hi : Nat} {w w' : World} (h : ChgB P w w') (hP : ∀ b, P b → lo ≤ b ∧ b < hi) : Chg lo hi w w' :=
  ⟨h.os, h.tape, h.output, h.size, fun k hk ho => h.block k hk (fun hp => by have := hP k hp; omega)⟩
theorem OwnR.chgB {P : Nat → Prop} {w w' : World} {lo hi n : Nat} {a : Option Addr} {L : List Value} (h : OwnR w lo hi a n L) (hc : ChgB P w w') (hd : ∀ b, a = some ⟨b, 0, none⟩ → n ≠ 0 → ¬ P b) : OwnR w' lo hi a n L := by
  refine ⟨h.len, ?_⟩
  by_cases hn : n = 0
  · exact .inl hn
  rcases h.own with h0 | ⟨b, ha, h1, h2, h3, h4, h5⟩
  · exact .inl h0
  · have hb := hc.block b h3 (hd b ha hn)
    exact .inr ⟨b, ha, h1, h2, Nat.lt_of_lt_of_le h3 hc.size, fun j u hu => (World.cell?_of_block (a := ⟨b, j, none⟩) hb).trans (h4 j u hu), fun j => (World.frozen?_of_block (a := ⟨b, j, none⟩) hb).trans (h5 j)⟩
def SameR (rs rs' : List ShR) : Prop := ∀ (i : Nat) (r' : ShR), rs'[i]? = some r' → ∃ r, rs[i]? = some r ∧ r'.a = r.a ∧ r'.n = r.n
theorem SameR.refl (rs : List ShR) : SameR rs rs := fun i r h => ⟨r, h, rfl, rfl⟩
theorem SameR.blk {rs rs' : List ShR} (h : SameR rs rs') {a : Option Addr} {n b : Nat} (hb : ShBlk a n rs' b) : ShBlk a n rs b := by
  rcases hb with hb | ⟨i, r, hr, hn, ha⟩
  · exact .inl hb
  · obtain ⟨r0, h0, h1, h2⟩ := h i r hr
    exact .inr ⟨i, r0, h0, by omega, by rw [← h1]; exact ha⟩
theorem SameR.set {rs rs' : List ShR} (h : SameR rs rs') {k : Nat} {r : ShR} (hr : rs'[k]? = some r) (q : Int) : SameR rs (rs'.set k ⟨q, r.a, r.n, r.cap⟩) := by
  intro i s hs
  rw [List.getElem?_set] at hs
  by_cases hik : k = i
  · subst hik
    rw [if_pos rfl] at hs
    split at hs
    · simp at hs; subst hs
      obtain ⟨r0, h0, h1, h2⟩ := h k r hr
      exact ⟨r0, h0, h1, h2⟩
    · simp at hs
  · rw [if_neg hik] at hs
    exact h i s hs
set_option maxRecDepth 100000 in
set_option maxHeartbeats 2000000 in
theorem markShapeS_any (a : Option Addr) (cap n : Nat) (rs : List ShR) (xs : List Shp) (x : Int) (k : Nat) (hxk : x = k) (lo hi : Nat) (w : World) (ho : OwnSh w lo hi a n rs xs) (hn : n ≤ 1048576) (hm : fldSum xs ≤ 1048576) (h0 : 0 < k) (hk : k ≤ 1000000) :
    Calls Try.prog 60 #[.slice a n cap, .int .i64 x] w fun r w' => r = .returned (.int .i64 (kS k xs n : Nat)) ∧ (∃ rs', OwnSh w' lo hi a n rs' (marksS k xs) ∧ SameR rs rs') ∧ ChgB (ShBlk a n rs) w w' := by
  subst hxk
  have HO0 := Lib.hid ho; clear ho
  go_enter Try.func60, Try.ntmps60
  go_wp2
  go_loopw [1, 5] (fun t i wr => ∃ j q : Nat, j ≤ n ∧ i = .int .i64 j ∧ t = .int .i64 q ∧ Hid (q = kS k xs j) ∧ q ≤ 10000000 ∧ 0 < q ∧ (∃ rs', OwnSh wr lo hi a n rs' (partS k xs j) ∧ SameR rs rs') ∧ ChgB (ShBlk a n rs) w wr) (fun _ i _ => n - (intOf i).toNat)
  case atStart => exact ⟨0, k, Nat.zero_le _, rfl, rfl, Lib.hid (by simp [kS, fldSum]), by omega, h0, ⟨_, by rw [partS_zero]; exact HO0.out, SameR.refl _⟩, ChgB.refl _ _⟩
  case round =>
    obtain ⟨j, q, hj, rfl, rfl, HQ, hq, hq0, ⟨rs', ho, hsr⟩, hc⟩ := hrel
    by_cases hlt : j < n
    · obtain ⟨r, y, hr, hy⟩ := ho.at hlt
      have hxj : j < xs.length := by rw [HO0.out.lenx]; exact hlt
      have he : xs[j]? = some y := by
        rw [partS_at] at hy
        cases hxx : xs[j]? with
        | none => rw [hxx] at hy; simp at hy
        | some z => rw [hxx] at hy; simp at hy; rw [hy]
      obtain ⟨f1, f2, f3⟩ := ho.each j r y hr hy
      obtain ⟨g1, e1, p1, p2, p3, p4⟩ := f3.narrow ho.le
      have hlen := ho.outer.len
      have hcr : ∀ i u, (r.cs)[i]? = some u → i < 2 → (rs'.flatMap ShR.cs)[j * 2 + i]? = some u := fun i u hu hi => by rw [flatMap_at shR_len rs' j i r hr hi]; exact hu
      have hfe := fldSum_ge he
      have hks := Lib.hid (kS_succ (k := k) he)
      have hkl := Lib.hid (kS_le k xs (j + 1))
      have hrn : r.n ≤ 1048576 := by omega
      have HF2 := Lib.hid f2
      have HO := Lib.hid ho
      have HR := Lib.hid hr
      have HY := Lib.hid hy
      have HE := Lib.hid he
      have HP := Lib.hid p4
      have HS := Lib.hid hsr
      have HC := Lib.hid hc
      have HF := Lib.hid p3
      have hn0 := hn
      have hoff := Lib.hid (fun g hg hne => ho.off j r g hr hne hg)
      rcases ho.outer.own with h' | ⟨g, rfl, h1, h2, h3, h4, h5⟩
      · omega
      have d0 : wr.cell? ⟨g, j * 2, none⟩ = some (.int .i64 r.id) := h4 (j * 2) _ (hcr 0 _ rfl (by omega))
      have d1 : wr.cell? ⟨g, j * 2 + 1, none⟩ = some (.slice r.a r.n r.cap) := h4 (j * 2 + 1) _ (hcr 1 _ rfl (by omega))
      clear h4 ho hcr hsr hr hy he p4 hc f3 p3 f1 f2 hfe
      have hrow : OwnR (wr.setCell ⟨g, j * 2, none⟩ (.int .i64 (q : Int))) g1 e1 r.a (r.n * 5) (y.flds.flatMap Fld.cs) := HF.out.chg1 (Chg.setCell (lo := g) (hi := g + 1) (Nat.le_refl _) (by omega) _) fun b hb hne => by
        by_cases hbg : b = g
        · subst hbg; exact absurd hb (hoff.out b rfl (by omega))
        · omega
      have HW := Lib.hid hrow
      clear hrow
      go_wp2_with fail
      refine (markFieldS_any r.a r.cap r.n _ _ (q + 1) (by omega) g1 e1 _ HW.out (by omega) (by omega) (by omega)).mono ?_
      rintro r2 w2 ⟨rfl, hr2, hc2⟩
      have HR2 := Lib.hid hr2; clear hr2
      have HC2 := Lib.hid hc2; clear hc2
      go_wp2
      go_roundw
      case rel =>
        have hqv : q + 1 + 5 * r.n = kS k xs (j + 1) := by have := HQ.out; have := hks.out; have := HF2.out; omega
        refine ⟨j + 1, q + 1 + 5 * r.n, by omega, by go_num, by go_num, Lib.hid hqv, by rw [hqv]; have := hkl.out; omega, by omega, ⟨_, ?_, HS.out.set HR.out (q : Int)⟩, ?_⟩
        · have hp' : r.n = 0 ∧ e1 = g1 ∨ r.n ≠ 0 ∧ e1 = g1 + 1 ∧ r.a = some ⟨g1, 0, none⟩ := by
            rcases HP.out with hh | hh
            · exact .inl ⟨by have := hh.1; omega, hh.2⟩
            · exact .inr ⟨by have := hh.1; omega, hh.2⟩
          have hput := OwnSh.put HO.out hlt HR.out HY.out HR2.out (marksF_len _ _) HC2.out p1 p2 hp'
          rw [← partS_succ HE.out]
          have hmk : markShp k xs j y = ⟨(q : Int), marksF (q + 1) r.n⟩ := by simp only [markShp]; rw [← HQ.out, ← HF2.out]
          rw [hmk]; exact hput
        · refine (HC.out.trans (Chg.toB (Chg.setCell (lo := g) (hi := g + 1) (Nat.le_refl _) (by omega) _) fun b hb1 hb2 => ?_)).trans (Chg.toB HC2.out fun b hb1 hb2 => ?_)
          · have : b = g := by omega
            subst this
            exact .inl ⟨by omega, rfl⟩
          · rcases HP.out with ⟨u, v⟩ | ⟨u, v, z⟩
            · omega
            · have : b = g1 := by omega
              subst this
              exact HS.out.blk (.inr ⟨j, r, HR.out, by omega, z⟩)
      case measure => simp [intOf]; omega
    · have hjn : j = n := by omega
      subst hjn
      have HO := Lib.hid ho; clear ho
      have HC := Lib.hid hc; clear hc
      have HSR := Lib.hid hsr; clear hsr
      go_wp2
      go_ret
      exact ⟨ret_int (by rw [HQ.out]), ⟨rs', by rw [marksS, HO0.out.lenx]; exact HO.out, HSR.out⟩, HC.out⟩
set_option maxRecDepth 100000 in
set_option maxHeartbeats 2000000 in
theorem heldShapeS_any (a : Option Addr) (cap n : Nat) (xs : List Shp) (x : Int) (k : Nat) (hxk : x = k) (w : World) (h : Shs w a (marksS k xs)) (hx : xs.length = n) (hn : n ≤ 1048576) (hm : fldSum xs ≤ 1048576) (h0 : 0 < k) (hk : k ≤ 1000000) :
    Calls Try.prog 61 #[.slice a n cap, .int .i64 x] w fun r w' => r = .returned (.int .i64 (kS k xs n : Nat)) ∧ Below w.heap.size w w' := by
  subst hxk
  have HX := Lib.hid hx; clear hx
  have HSs := Lib.hid h; clear h
  go_enter Try.func61, Try.ntmps61
  go_wp2
  go_loopw [1, 5] (fun t i wr => ∃ j q : Nat, j ≤ n ∧ i = .int .i64 j ∧ t = .int .i64 q ∧ Hid (q = kS k xs j) ∧ q ≤ 10000000 ∧ 0 < q ∧ Below w.heap.size w wr) (fun _ i _ => n - (intOf i).toNat)
  case atStart => exact ⟨0, k, Nat.zero_le _, rfl, rfl, Lib.hid (by simp [kS, fldSum]), by omega, h0, Below.refl _ _⟩
  case round =>
    obtain ⟨j, q, hj, rfl, rfl, HQ, hq, hq0, hb⟩ := hrel
    have hz := hb.size
    by_cases hlt : j < n
    · obtain ⟨e, he, _⟩ := at_lt (xs := xs) (k := j) (by rw [HX.out]; exact hlt)
      obtain ⟨b, off, a', cap', rfl, hlb, c0, c1, hfl⟩ := (HSs.out.below hb (Nat.le_refl _)) j _ (marksS_at he)
      have hfe := fldSum_ge he
      have hks := Lib.hid (kS_succ (k := k) he)
      have hkl := Lib.hid (kS_le k xs (j + 1))
      simp only [markShp, ← HQ.out, marksF_len] at c0 c1 hfl
      have HFl := Lib.hid hfl
      clear he hfl
      go_wp2_with (first
        | (go_at_call 87; refine (heldFieldS_any _ _ _ _ (q + 1) (by omega) _ (Sl.keep HFl.out (by ((repeat (first | (with_reducible exact Below.refl _ _) | (with_reducible assumption) | (with_reducible refine Below.alloc ?_ ?_ _) | (with_reducible refine Below.setCell ?_ ?_ _) | (with_reducible refine Below.drew ?_) | (with_reducible refine below_setRow ?_ ?_ _) | (refine Below.trans ?_ (Below.mono (by assumption) ?_)))); all_goals (first | omega | (simp; done) | (simp; omega))))) (by omega) (by omega) (by omega)).mono ?_; rintro r w2 ⟨rfl, hb2⟩; obtain ⟨hc2, hf2⟩ := bcell hb2; have hz2 := hb2.size; (try simp only [World.size_alloc, World.size_setCell, World.size_drew] at hz2)))
      go_roundw
      case rel => exact ⟨j + 1, q + 1 + 5 * e.flds.length, by omega, by go_num, by go_num, Lib.hid (by have := HQ.out; have := hks.out; omega), by have := hks.out; have := hkl.out; have := HQ.out; omega, by omega, by ((repeat (first | (with_reducible exact Below.refl _ _) | (with_reducible assumption) | (with_reducible refine Below.alloc ?_ ?_ _) | (with_reducible refine Below.setCell ?_ ?_ _) | (with_reducible refine Below.drew ?_) | (with_reducible refine below_setRow ?_ ?_ _) | (refine Below.trans ?_ (Below.mono (by assumption) ?_)))); all_goals (first | omega | (simp; done) | (simp; omega)))⟩
      case measure => simp [intOf]; omega
    · have hjn : j = n := by omega
      subst hjn
      go_wp2
      go_ret
      exact ⟨ret_int (by rw [HQ.out]), hb⟩
set_option maxHeartbeats 1000000 in
theorem markSchema_any (a : Option Addr) (cap n : Nat) (rs : List ShR) (xs : List Shp) (x : Int) (k : Nat) (hxk : x = k) (lo hi : Nat) (w : World) (ho : OwnSh w lo hi a n rs xs) (hn : n ≤ 1048576) (hm : fldSum xs ≤ 1048576) (h0 : 0 < k) (hk : k ≤ 1000000) :
    Calls Try.prog 28 #[.agg #[.slice a n cap], .int .i64 x] w fun r w' => r = .returned (.int .i64 (kS k xs n : Nat)) ∧ (∃ rs', OwnSh w' lo hi a n rs' (marksS k xs) ∧ SameR rs rs') ∧ ChgB (ShBlk a n rs) w w' := by
  subst hxk
  have HO0 := Lib.hid ho; clear ho
  go_enter Try.func28, Try.ntmps28
  go_wp2_with fail
  refine (markShapeS_any a cap n rs xs _ k rfl lo hi _ (HO0.out.keep (by ((repeat (first | (with_reducible exact Below.refl _ _) | (with_reducible assumption) | (with_reducible refine Below.alloc ?_ ?_ _) | (with_reducible refine Below.setCell ?_ ?_ _) | (with_reducible refine Below.drew ?_) | (with_reducible refine below_setRow ?_ ?_ _) | (refine Below.trans ?_ (Below.mono (by assumption) ?_)))); all_goals (first | omega | (simp; done) | (simp; omega))))) hn hm h0 hk).mono ?_
  rintro r w1 ⟨rfl, ⟨rs', ho1, hsr1⟩, hc1⟩
  have HSR := Lib.hid hsr1; clear hsr1
  have HO := Lib.hid ho1; clear ho1
  have HC := Lib.hid hc1; clear hc1
  go_wp2
  go_ret
  exact ⟨rfl, ⟨rs', HO.out, HSR.out⟩, (ChgB.trans (Chg.toB (g := 0) (e := 0) (Chg.of_below (by ((repeat (first | (with_reducible exact Below.refl _ _) | (with_reducible assumption) | (with_reducible refine Below.alloc ?_ ?_ _) | (with_reducible refine Below.setCell ?_ ?_ _) | (with_reducible refine Below.drew ?_) | (with_reducible refine below_setRow ?_ ?_ _) | (refine Below.trans ?_ (Below.mono (by assumption) ?_)))); all_goals (first | omega | (simp; done) | (simp; omega))))) (fun b h1 h2 => by omega)) HC.out)⟩
set_option maxHeartbeats 1000000 in
theorem heldSchema_any (a : Option Addr) (cap n : Nat) (xs : List Shp) (x : Int) (k : Nat) (hxk : x = k) (w : World) (h : Shs w a (marksS k xs)) (hx : xs.length = n) (hn : n ≤ 1048576) (hm : fldSum xs ≤ 1048576) (h0 : 0 < k) (hk : k ≤ 1000000) :
    Calls Try.prog 29 #[.agg #[.slice a n cap], .int .i64 x] w fun r w' => r = .returned (.int .i64 (kS k xs n : Nat)) ∧ Below w.heap.size w w' := by
  subst hxk
  have HX := Lib.hid hx; clear hx
  have HSs := Lib.hid h; clear h
  go_enter Try.func29, Try.ntmps29
  go_wp2_with (first | (go_at_call 61; refine (heldShapeS_any _ _ _ xs _ k rfl _ (HSs.out.keep (by ((repeat (first | (with_reducible exact Below.refl _ _) | (with_reducible assumption) | (with_reducible refine Below.alloc ?_ ?_ _) | (with_reducible refine Below.setCell ?_ ?_ _) | (with_reducible refine Below.drew ?_) | (with_reducible refine below_setRow ?_ ?_ _) | (refine Below.trans ?_ (Below.mono (by assumption) ?_)))); all_goals (first | omega | (simp; done) | (simp; omega))))) HX.out hn hm h0 hk).mono ?_; rintro r w1 ⟨rfl, hb1⟩; obtain ⟨hc1, hf1⟩ := bcell hb1; have hz1 := hb1.size; (try simp only [World.size_alloc, World.size_setCell, World.size_drew] at hz1)))
  go_ret
  exact ⟨rfl, by ((repeat (first | (with_reducible exact Below.refl _ _) | (with_reducible assumption) | (with_reducible refine Below.alloc ?_ ?_ _) | (with_reducible refine Below.setCell ?_ ?_ _) | (with_reducible refine Below.drew ?_) | (with_reducible refine below_setRow ?_ ?_ _) | (refine Below.trans ?_ (Below.mono (by assumption) ?_)))); all_goals (first | omega | (simp; done) | (simp; omega)))⟩
theorem sl_news {α : Type} {sz : Nat} {cs : α → List Value} {w : World} {ad : Addr} {xs : List α} (hsz : 0 < sz) (hcs : ∀ x, (cs x).length = sz) (h : Sl sz cs w (some ad) xs) :
    ∀ (j : Nat) (u : Value), (xs.flatMap cs)[j]? = some u → w.cell? (ad.add j) = some u := by
  intro j u hu
  have hj : j < xs.length * sz := by
    rcases Nat.lt_or_ge j (xs.length * sz) with h' | h'
    · exact h'
    · rw [List.getElem?_eq_none (by rw [flatMap_len hcs]; exact h')] at hu; simp at hu
  have hk : j / sz < xs.length := (Nat.div_lt_iff_lt_mul hsz).2 hj
  have hm : j % sz < sz := Nat.mod_lt _ hsz
  have hjj : j / sz * sz + j % sz = j := by rw [Nat.mul_comm]; exact Nat.div_add_mod j sz
  obtain ⟨e, he, _⟩ := at_lt hk
  obtain ⟨b, off, ha, _, hc⟩ := h _ e he
  simp only [Option.some.injEq] at ha; subst ha
  have h1 := flatMap_at hcs xs _ (j % sz) e he hm
  rw [hjj, hu] at h1
  have h2 := hc _ u h1.symm
  rw [Addr.add_lit, ← h2, Nat.add_assoc, hjj]
theorem own_built (w : World) (t : TypeId) (sz : Nat) : (w.alloc (.cells #[] t)).ownsRow w.heap.size t sz (.slice (some ⟨w.heap.size, 0, none⟩) 0 0) 0 [] :=
  ⟨by simp, .inr ⟨w.heap.size, 0, #[], rfl, Nat.le_refl _, heap_nth0 w _, Nat.le_refl _, Nat.zero_le _, by simp, by simp⟩⟩
theorem own_sh {w : World} {base n size : Nat} {t : TypeId} {v : Value} {L : List Value} (h : w.ownsRow base t size v n L) : ∃ a cap, v = .slice a n cap ∧ w.ownsRow base t size (.slice a n cap) n L := by
  rcases h.2 with ⟨rfl, h0⟩ | ⟨g, cap', cur, rfl, _⟩
  · subst h0; exact ⟨none, 0, rfl, h⟩
  · exact ⟨_, _, rfl, h⟩
theorem fld_one (e : Fld) : ∀ u ∈ e.cs, u.oneCell' = true := by
  intro u hu
  simp only [List.mem_cons, List.not_mem_nil, or_false] at hu
  rcases hu with rfl | rfl | rfl | rfl | rfl <;> rfl
theorem flat_one {α : Type} {cs : α → List Value} (h : ∀ e, ∀ u ∈ cs e, u.oneCell' = true) (xs : List α) : ∀ u ∈ xs.flatMap cs, u.oneCell' = true := by
  intro u hu
  obtain ⟨e, _, he⟩ := List.mem_flatMap.1 hu
  exact h e u he
def ShsC (w : World) (a : Option Addr) (xs : List Shp) : Prop :=
  ∀ (k : Nat) (x : Shp), xs[k]? = some x → ∃ b off a' cap', a = some ⟨b, off, none⟩ ∧ b < w.heap.size ∧ w.cell? ⟨b, off + k * 2, none⟩ = some (.int .i64 x.id) ∧ w.cell? ⟨b, off + k * 2 + 1, none⟩ = some (.slice a' x.flds.length cap') ∧ Flds w a' x.flds ∧ (a' = none → cap' = 0)
theorem ShsC.shs {w : World} {a : Option Addr} {xs : List Shp} (h : ShsC w a xs) : Shs w a xs := fun k x hx => by
  obtain ⟨b, off, a', cap', h1, h2, h3, h4, h5, _⟩ := h k x hx
  exact ⟨b, off, a', cap', h1, h2, h3, h4, h5⟩
theorem ShsC.keep {w w' : World} {a : Option Addr} {xs : List Shp} (h : ShsC w a xs) (hb : Below w.heap.size w w') : ShsC w' a xs := fun k x hx => by
  obtain ⟨b, off, a', cap', h1, h2, h3, h4, h5, h6⟩ := h k x hx
  exact ⟨b, off, a', cap', h1, Nat.lt_of_lt_of_le h2 hb.size, (hb.cell (p := ⟨b, _, none⟩) h2).trans h3, (hb.cell (p := ⟨b, _, none⟩) h2).trans h4, Sl.keep h5 hb, h6⟩
theorem OwnShs.push {w w' : World} {base n : Nat} {T TF : TypeId} {v v' : Value} {rs : List ShR} {xs : List Shp} {r : ShR} {x : Shp} (h : OwnShs w base T TF v n rs xs) (hne : T ≠ TF) (hr : RowIs w base TF r x)
    (hf : ∀ (i : Nat) (s : ShR), rs[i]? = some s → ∀ g, (Value.slice s.a s.n s.cap).ownBlock = some g → (Value.slice r.a r.n r.cap).ownBlock ≠ some g)
    (ho : w'.ownsRow base T 2 v' (n + 1) (rs.flatMap ShR.cs ++ r.cs)) (hg : w.grownBy w' v.ownBlock) : OwnShs w' base T TF v' (n + 1) (rs ++ [r]) (xs ++ [x]) := by
  have keep : ∀ (s : ShR) (y : Shp), RowIs w base TF s y → RowIs w' base TF s y := by
    intro s y hs
    refine ⟨hs.1, hs.2.1, hs.2.2.kept hg ?_⟩
    cases hb : (Value.slice s.a s.n s.cap).ownBlock with
    | none => exact .inl rfl
    | some g =>
      refine .inr (fun hv => ?_)
      obtain ⟨a0, cap0, rfl, ho0⟩ := own_sh h.outer
      rcases hs.2.2.2 with ⟨e, _⟩ | ⟨g', c', cur, e, _, hh, _⟩
      · rw [e] at hb; simp [Value.ownBlock] at hb
      · rcases ho0.2 with ⟨e2, _⟩ | ⟨g2, c2, cur2, e2, _, hh2, _⟩
        · rw [e2] at hv; simp [Value.ownBlock] at hv
        · rw [e] at hb; rw [e2] at hv
          simp only [Value.ownBlock, Option.some.injEq] at hb hv
          subst hb
          rw [← hv, hh] at hh2
          simp only [Option.some.injEq, Obj.cells.injEq] at hh2
          exact hne hh2.2.1.symm
  refine ⟨by simp [h.len], by simp [h.lenx], by rw [List.flatMap_append]; simpa using ho, ?_, h.apart.snoc hf⟩
  intro k s y hs hy
  rcases Nat.lt_trichotomy k n with hk | hk | hk
  · rw [List.getElem?_append_left (by rw [h.len]; exact hk)] at hs
    rw [List.getElem?_append_left (by rw [h.lenx]; exact hk)] at hy
    exact keep s y (h.each k s y hs hy)
  · rw [List.getElem?_append_right (by rw [h.len]; omega), h.len, hk] at hs
    rw [List.getElem?_append_right (by rw [h.lenx]; omega), h.lenx, hk] at hy
    simp at hs hy; subst hs; subst hy
    exact keep _ _ hr
  · rw [List.getElem?_eq_none (by simp [h.len]; omega)] at hs; simp at hs
theorem OwnShs.nil (w : World) (base : Nat) (T TF : TypeId) : OwnShs w base T TF (.slice none 0 0) 0 [] [] :=
  ⟨rfl, rfl, World.ownsRow_nil _ _ _ _, fun k r x h => by simp at h, Apart.nil⟩
section
variable {P : Program} {ops : Array Oper} {Q : Exit → Act → World → Prop} {md : Region.Mode} {S : World → Prop} {D : Nat → Bool}
def wpTill (P : Program) (md : Region.Mode) (ops : Array Oper) (Q : Exit → Act → World → Prop) (S : World → Prop) (D : Nat → Bool) : Nat → Array Bool → Act → World → Prop
  | 0, listed, a, w => Region.ready md ops listed = [] ∧ Q .normal a w
  | f + 1, listed, a, w => (Region.ready md ops listed = [] → Q .normal a w) ∧
      ∀ i ∈ Region.ready md ops listed, wpOp P ops Q i (fun a' w' => (D i = false → S w') ∧ wpTill P md ops Q S D f (listed.setIfInBounds i true) a' w') a w
theorem wpTill_any : ∀ (f : Nat) (listed : Array Bool) (a : Act) (w : World), wpTill P md ops Q S D f listed a w → wpAny P md ops Q f listed a w
  | 0, _, _, _, h => h
  | f + 1, _, _, _, h => ⟨h.1, fun i hi => wpOp_mono (fun a' w' g => wpTill_any f _ a' w' g.2) (h.2 i hi)⟩
theorem ready_nowait {listed : Array Bool} {i j : Nat} {oj : Oper} (hi : i ∈ Region.ready md ops listed) (hj : j ∈ Region.ready md ops listed) (hoj : ops[j]? = some oj) : ∀ e ∈ oj.after, Region.binds md e = true → e.on ≠ i := by
  intro e he hb heq
  obtain ⟨_, o, ho, hall⟩ := mem_ready.1 hj
  rw [hoj] at ho
  obtain rfl := Option.some.inj ho
  have h1 := hall e he hb
  have h0 := (mem_ready.1 hi).1
  rw [heq] at h1
  rcases Nat.lt_or_ge i listed.size with h' | h'
  · simp [h'] at h0 h1; rw [h0] at h1; cases h1
  · simp [Array.getElem?_eq_none h'] at h1
def waits (md : Region.Mode) (ops : Array Oper) (D : Nat → Bool) (i : Nat) : Bool :=
  (List.range ops.size).all fun j => !D j || (match ops[j]? with | some o => o.after.any fun e => Region.binds md e && e.on == i | none => true)
theorem waits_spec {i j : Nat} {oj : Oper} (h : waits md ops D i = true) (hoj : ops[j]? = some oj) (hD : D j = true) : ∃ e ∈ oj.after, Region.binds md e = true ∧ e.on = i := by
  have hj : j < ops.size := by
    rcases Nat.lt_or_ge j ops.size with h' | h'
    · exact h'
    · rw [Array.getElem?_eq_none h'] at hoj; cases hoj
  have h1 := List.all_eq_true.1 h j (List.mem_range.2 hj)
  rw [hD, hoj] at h1
  simp only [Bool.not_true, Bool.false_or, Array.any_eq_true', Bool.and_eq_true, beq_iff_eq] at h1
  exact h1
theorem wpTill_first {i : Nat} {oi : Oper} {v : Value} (hi : ops[i]? = some oi) (hsel : ∀ (j : Nat) (o : Oper) cs b, ops[j]? = some o → o.op ≠ .select cs b)
    (hQ : ∀ c a w, Q (.panic c) (a.put oi.dst v) w → Q (.panic c) a w) (hw : waits md ops D i = true) :
    ∀ (f : Nat) (listed : Array Bool) (a : Act) (w : World),
      (∀ j oj, ops[j]? = some oj → j ≠ i → listed.getD j true = false → (∀ e ∈ oj.after, Region.binds md e = true → e.on ≠ i) → oi.apart ops oj = true) →
      i ∈ Region.ready md ops listed → YieldsIf P ops S oi v a → S w →
      wpTill P md ops Q S D f (listed.setIfInBounds i true) (a.put oi.dst v) w → wpTill P md ops Q S D (f + 1) listed a w := by
  intro f
  induction f with
  | zero =>
    intro listed a w _ hr hy hS H
    refine ⟨fun h => (by rw [h] at hr; cases hr), fun j hj => ?_⟩
    by_cases hji : j = i
    · subst hji; exact hy.wpOp hi hS ⟨fun _ => hS, H⟩
    · have := ready_mono hj hji
      rw [H.1] at this; cases this
  | succ f ih =>
    intro listed a w hfree hr hy hS H
    refine ⟨fun h => (by rw [h] at hr; cases hr), fun j hj => ?_⟩
    by_cases hji : j = i
    · subst hji; exact hy.wpOp hi hS ⟨fun _ => hS, H⟩
    · have h1 := H.2 j (ready_mono hj hji)
      obtain ⟨hun, oj, hoj, _⟩ := mem_ready.1 hj
      have hno := ready_nowait hr hj hoj
      have hDj : D j = false := by
        cases hd : D j with
        | false => rfl
        | true =>
          obtain ⟨e, he, hb, ho⟩ := waits_spec hw hoj hd
          exact absurd ho (hno e he hb)
      have h2 := wpOp_putIf hoj (hfree j oj hoj hji hun hno) (fun cs b => hsel i oi cs b hi) (fun cs b => hsel j oj cs b hoj) hQ hy h1
      refine wpOp_mono (fun a' w' g => ⟨g.2.1, ih (listed.setIfInBounds j true) a' w' ?_ (ready_mono hr (Ne.symm hji)) g.1 (g.2.1 hDj) ?_⟩) h2
      · intro k ok hk hki hunk hnok
        refine hfree k ok hk hki ?_ hnok
        by_cases hjk : j = k
        · subst hjk; exact hun
        · rw [getD_set_ne true hjk] at hunk; exact hunk
      · rw [Array.setIfInBounds_comm _ _ hji]; exact g.2.2
theorem wpTill_take {i : Nat} {oi : Oper} {v : Value} {f : Nat} {listed : Array Bool} {a : Act} {w : World} (hi : ops[i]? = some oi)
    (hs : Region.noSelect ops = true) (hf : Region.free md ops listed i = true) (hr : (Region.ready md ops listed).contains i = true) (hw : waits md ops D i = true)
    (hQ : ∀ c a w, Q (.panic c) (a.put oi.dst v) w → Q (.panic c) a w) (hy : YieldsIf P ops S oi v a) (hS : S w)
    (h : wpTill P md ops Q S D f (listed.setIfInBounds i true) (a.put oi.dst v) w) : wpTill P md ops Q S D (f + 1) listed a w :=
  wpTill_first hi (Region.noSelect_spec hs) hQ hw f listed a w (Region.free_spec hi hf) (by simpa using hr) hy hS h
theorem wpTill_op {i : Nat} {o : Oper} {f : Nat} {listed : Array Bool} {a : Act} {w : World} (hr : Region.ready md ops listed = [i]) (ho : ops[i]? = some o)
    (h : ∀ K' : Act → World → Prop, Shut (∀ a w, (D i = false → S w) → wpTill P md ops Q S D f (listed.setIfInBounds i true) a w → K' a w) → if Region.wanted o (yielded ops a.tmps) = true then Oper.wp P o a w K' Q else K' (a.put o.dst undef) w) :
    wpTill P md ops Q S D (f + 1) listed a w :=
  ⟨fun h0 => (by rw [hr] at h0; cases h0), fun j hj => by
    rw [hr] at hj
    rcases List.mem_cons.1 hj with rfl | hj
    · exact wpOp_step ho (fun K' hK => h K' (fun a w hS hW => hK a w ⟨hS, hW⟩))
    · cases hj⟩
theorem wpTill_two {i j : Nat} {o p : Oper} {f : Nat} {listed : Array Bool} {a : Act} {w : World} (hr : Region.ready md ops listed = [i, j]) (ho : ops[i]? = some o) (hp : ops[j]? = some p)
    (h : ∀ K' : Act → World → Prop, Shut (∀ a w, (D i = false → S w) → wpTill P md ops Q S D f (listed.setIfInBounds i true) a w → K' a w) → if Region.wanted o (yielded ops a.tmps) = true then Oper.wp P o a w K' Q else K' (a.put o.dst undef) w)
    (g : ∀ K' : Act → World → Prop, Shut (∀ a w, (D j = false → S w) → wpTill P md ops Q S D f (listed.setIfInBounds j true) a w → K' a w) → if Region.wanted p (yielded ops a.tmps) = true then Oper.wp P p a w K' Q else K' (a.put p.dst undef) w) :
    wpTill P md ops Q S D (f + 1) listed a w :=
  ⟨fun h0 => (by rw [hr] at h0; cases h0), fun k hk => by
    rw [hr] at hk
    rcases List.mem_cons.1 hk with rfl | hk
    · exact wpOp_step ho (fun K' hK => h K' (fun a w hS hW => hK a w ⟨hS, hW⟩))
    · rcases List.mem_cons.1 hk with rfl | hk
      · exact wpOp_step hp (fun K' hK => g K' (fun a w hS hW => hK a w ⟨hS, hW⟩))
      · cases hk⟩
theorem wpTill_done {listed : Array Bool} {a : Act} {w : World} (hr : Region.ready md ops listed = []) (h : Q .normal a w) : ∀ f, wpTill P md ops Q S D f listed a w
  | 0 => ⟨hr, h⟩
  | _ + 1 => ⟨fun _ => h, by rw [hr]; simp⟩
theorem wp_region_till {id : Nat} {a : Act} {w : World} (S : World → Prop) (D : Nat → Bool) (hm : P.follows .mixedOrders = true)
    (h : wpTill P .any ops Q S D ops.size (Array.replicate ops.size false) a w.drew) : (Code.region id ops true).wp P Q a w :=
  wp_region_any hm (wpTill_any _ _ _ _ h)
theorem step_append_own {o : Oper} {a : Act} {w : World} {K : Act → World → Prop} {E : Prop} (hgd : o.guard = none) (s x : Operand) (t : TypeId)
    (ho : o.op = .call { callee := .builtin .append, args := #[s, x], argTypes := #[t, t] })
    (base : Nat) (e : TypeId) (i : TypeInfo) (z : Value) (size bytes : Nat) (ht : P.underlying t = some (.slice e)) (hi : P.info? e = some i) (hz : i.zero = some z)
    (hsize : i.size = size) (hby : i.bytes = bytes) (hzs : z.cells.size = size) (hsz : 0 < size)
    (v : Value) (n : Nat) (xs : List Value) (hs : a.eval s = v) (hown : w.ownsRow base e size v n xs)
    (ad : Addr) (m c : Nat) (news : List Value) (hx : a.eval x = .slice (some ad) m c) (hl : news.length = m * size) (hnews : ∀ j u, news[j]? = some u → w.cell? (ad.add j) = some u) (h1 : ∀ u ∈ news, u.oneCell' = true)
    (h63 : n + m ≤ maxLen) (hbytes : (n + m) * bytes ≤ 140737488355328) (hbase : base ≤ w.heap.size)
    (h : ∀ v' w', w'.ownsRow base e size v' (n + m) (xs ++ news) → w.grownBy w' v.ownBlock → (v' = .slice none 0 0 ↔ v = .slice none 0 0 ∧ m = 0) → K (a.put o.dst v') w') :
    if Region.wanted o (yielded ops a.tmps) = true then Oper.wp P o a w K Q else E := by
  have hw : Region.wanted o (yielded ops a.tmps) = true := by simp [Region.wanted, hgd]
  rw [if_pos hw]
  exact wp_append_own w s x t ho base e i z size bytes ht hi hz hsize hby hzs hsz v n xs hs hown ad m c news hx hl hnews h1 h63 hbytes hbase fun v' w' h2 h3 h4 => h v' w' h2 h3 h4
theorem step_append_none {o : Oper} {a : Act} {w : World} {K : Act → World → Prop} {E : Prop} (hgd : o.guard = none) (s x : Operand) (t : TypeId)
    (ho : o.op = .call { callee := .builtin .append, args := #[s, x], argTypes := #[t, t] })
    (base : Nat) (e : TypeId) (i : TypeInfo) (size : Nat) (ht : P.underlying t = some (.slice e)) (hi : P.info? e = some i)
    (v : Value) (n : Nat) (xs : List Value) (hs : a.eval s = v) (hown : w.ownsRow base e size v n xs) (hx : a.eval x = .slice none 0 0)
    (h : K (a.put o.dst v) w) : if Region.wanted o (yielded ops a.tmps) = true then Oper.wp P o a w K Q else E := by
  have hw : Region.wanted o (yielded ops a.tmps) = true := by simp [Region.wanted, hgd]
  rw [if_pos hw]
  have hrun := run_append_owned_none (P := P) (w := w) base t o.type e i size ht hi v n xs hown
  unfold Oper.wp
  simp [execOp, ho, resolve, invoke, builtin, hs, hx, hrun, Result.andThen]
  exact h
theorem wpList_append_any {o : Oper} {rest : List Oper} {a : Act} {w : World} (hgd : o.guard = none) (s x : Operand) (t : TypeId)
    (ho : o.op = .call { callee := .builtin .append, args := #[s, x], argTypes := #[t, t] })
    (base : Nat) (e : TypeId) (i : TypeInfo) (z : Value) (size bytes : Nat) (ht : P.underlying t = some (.slice e)) (hi : P.info? e = some i) (hz : i.zero = some z)
    (hsize : i.size = size) (hby : i.bytes = bytes) (hzs : z.cells.size = size) (hsz : 0 < size)
    (v : Value) (n : Nat) (xs : List Value) (hs : a.eval s = v) (hown : w.ownsRow base e size v n xs)
    (a' : Option Addr) (m c : Nat) (news : List Value) (hx : a.eval x = .slice a' m c) (hnil : a' = none → m = 0 ∧ c = 0) (hl : news.length = m * size) (hnews : ∀ ad, a' = some ad → ∀ j u, news[j]? = some u → w.cell? (ad.add j) = some u) (h1 : ∀ u ∈ news, u.oneCell' = true)
    (h63 : n + m ≤ maxLen) (hbytes : (n + m) * bytes ≤ 140737488355328) (hbase : base ≤ w.heap.size)
    (h : ∀ v' w', w'.ownsRow base e size v' (n + m) (xs ++ news) → w.grownBy w' v.ownBlock → wpList P ops Q rest (a.put o.dst v') w') : wpList P ops Q (o :: rest) a w := by
  cases a' with
  | none =>
    obtain ⟨rfl, rfl⟩ := hnil rfl
    have hn : news = [] := List.eq_nil_of_length_eq_zero (by simpa using hl)
    subst hn
    exact wpList_append_own_none hgd s x t ho base e i size ht hi v n xs hs hown hx (h v w (by simpa using hown) ⟨rfl, rfl, rfl, Nat.le_refl _, fun _ _ _ => rfl⟩)
  | some ad => exact wpList_append_own w hgd s x t ho base e i z size bytes ht hi hz hsize hby hzs hsz v n xs hs hown ad m c news hx hl (hnews ad rfl) h1 h63 hbytes hbase fun v' w' h2 h3 _ => h v' w' h2 h3
end
def Cells (l : List (Addr × Value)) (w : World) : Prop := ∀ q ∈ l, w.cell? q.1 = some q.2
theorem cells_nil (w : World) : Cells [] w ↔ True := by simp [Cells]
theorem cells_cons (q : Addr × Value) (l : List (Addr × Value)) (w : World) : Cells (q :: l) w ↔ w.cell? q.1 = some q.2 ∧ Cells l w := by simp [Cells]
theorem cells_mk {q : Addr} {v : Value} {l : List (Addr × Value)} {w : World} (h : w.cell? q = some v) (h' : Cells l w) : Cells ((q, v) :: l) w := (cells_cons _ _ _).2 ⟨h, h'⟩
theorem cells_no (w : World) : Cells [] w := (cells_nil w).2 trivial
theorem cell_alloc {w : World} {p : Addr} {v : Value} (o : Obj) (h : w.cell? p = some v) : (w.alloc o).cell? p = some v := by rw [World.cell?_alloc_some w p o (by rw [h]; rfl)]; exact h
theorem cell_grown {w w' : World} {p : Addr} {v : Value} {row : Option Nat} (hg : w.grownBy w' row) (h : w.cell? p = some v) (hne : row ≠ some p.block) : w'.cell? p = some v := by
  rw [World.cell?_of_block (a := p) (hg.block p.block (World.block_lt_of_cell? w _ h) (fun e => hne e.symm))]; exact h
theorem Cells.drew {l : List (Addr × Value)} {w : World} (h : Cells l w) : Cells l w.drew := fun q hq => h q hq
theorem Cells.alloc {l : List (Addr × Value)} {w : World} (h : Cells l w) (o : Obj) : Cells l (w.alloc o) := fun q hq => cell_alloc o (h q hq)
theorem Cells.below {l : List (Addr × Value)} {w w' : World} (h : Cells l w) (hb : Below w.heap.size w w') : Cells l w' := fun q hq => (hb.cell (World.block_lt_of_cell? w _ (h q hq))).trans (h q hq)
theorem Cells.grown {l : List (Addr × Value)} {w w' : World} {row : Option Nat} (h : Cells l w) (hg : w.grownBy w' row) (hr : ∀ q ∈ l, row ≠ some q.1.block) : Cells l w' := fun q hq => cell_grown hg (h q hq) (hr q hq)
theorem pre_at {cs more : List Value} {j : Nat} {u : Value} (h : cs[j]? = some u) : (cs ++ more)[j]? = some u := by
  have hl : j < cs.length := by
    rcases Nat.lt_or_ge j cs.length with h' | h'
    · exact h'
    · rw [List.getElem?_eq_none h'] at h; simp at h
  rw [List.getElem?_append_left hl, h]
theorem info_Shape : (Try.prog.info? 43).map (fun i => (i.zero, i.size, i.bytes)) = some (some (.agg #[.int .i64 0, .slice none 0 0]), 2, 32) := by kernel_rfl
theorem fresh_apart {w w1 : World} {base base1 n : Nat} {T TF : TypeId} {v : Value} {rs : List ShR} {xs : List Shp} {r : ShR} {L : List Value} (h : OwnShs w base T TF v n rs xs) (hb : w.heap.size ≤ base1) (hr : w1.ownsRow base1 TF 5 (.slice r.a r.n r.cap) r.n L) :
    ∀ (i : Nat) (s : ShR), rs[i]? = some s → ∀ g, (Value.slice s.a s.n s.cap).ownBlock = some g → (Value.slice r.a r.n r.cap).ownBlock ≠ some g := by
  intro i s hs g hg hrg
  have hi : i < n := by
    rcases Nat.lt_or_ge i rs.length with h' | h'
    · rw [← h.len]; exact h'
    · rw [List.getElem?_eq_none h'] at hs; simp at hs
  obtain ⟨x, hx⟩ : ∃ x, xs[i]? = some x := ⟨_, List.getElem?_eq_getElem (by rw [h.lenx]; exact hi)⟩
  have h1 := ((h.each i s x hs hx).2.2.lt g hg).2
  have h2 := (hr.lt g hrg).1
  omega
theorem OwnShs.alloc {w : World} {base n : Nat} {T TF : TypeId} {v : Value} {rs : List ShR} {xs : List Shp} (h : OwnShs w base T TF v n rs xs) (o : Obj) : OwnShs (w.alloc o) base T TF v n rs xs := OwnShs.below h (Below.refl _ _ |>.alloc (Nat.le_refl _) o) (Nat.le_refl _)
theorem RowIs.alloc {w : World} {base : Nat} {TF : TypeId} {r : ShR} {x : Shp} (h : RowIs w base TF r x) (o : Obj) : RowIs (w.alloc o) base TF r x := ⟨h.1, h.2.1, h.2.2.alloc o⟩
theorem OwnShs.drew {w : World} {base n : Nat} {T TF : TypeId} {v : Value} {rs : List ShR} {xs : List Shp} (h : OwnShs w base T TF v n rs xs) : OwnShs w.drew base T TF v n rs xs := OwnShs.below h (Below.refl _ _).drew (Nat.le_refl _)
theorem below_grown {B : Nat} {w0 w w' : World} {row : Option Nat} (hb : Below B w0 w) (hg : w.grownBy w' row) (hr : ∀ g, row = some g → B ≤ g) (hB : B ≤ w.heap.size) : Below B w0 w' :=
  hb.trans ⟨hg.os, hg.tape, hg.output, hg.size, fun k hk => hg.block k (by omega) (fun e => by have := hr k e.symm; omega)⟩
theorem results_cell {fn : Func} {p : Tmp} {ty : TypeId} (h : fn.results = #[.cell p ty]) {tmps : Array Value} {a : Addr} (hp : tmps.getD p undef = .pointer (some a)) {P : Program} {w : World} {v : Value} (hv : (loadVar ty a).run P w = .ok v w) : (results fn tmps).run P w = .ok v w := by
  have hp' : tmps[p]?.getD undef = .pointer (some a) := by simpa using hp
  simp only [results, h]
  simp [Sem.run_bind, Result.andThen, hp', asAddr, hv]
theorem range_of_box {w : World} {b : Nat} {cs : List Value} {t : TypeId} (h : w.heap[b]? = some (.cells cs.toArray t (0, 0))) : w.rangeAt b 0 cs := by
  intro j u hj
  simp [World.cell?, h, hj]
def shAt (id : Int) : Nat → List Shp → Int
  | _, [] => -1
  | k, x :: xs => if x.id = id then k else shAt id (k + 1) xs
def zeroF : Fld := ⟨0, 0, false, false, 0⟩
theorem shAt_yes {id : Int} {k : Nat} {xs : List Shp} {e : Shp} {R : Int} (h : shAt id k (xs.drop k) = R) (he : xs[k]? = some e) (hi : e.id = id) : (k : Int) = R := by
  rw [drop_cons he, shAt, if_pos hi] at h; exact h
theorem shAt_no {id : Int} {k : Nat} {xs : List Shp} {e : Shp} {R : Int} (h : shAt id k (xs.drop k) = R) (he : xs[k]? = some e) (hi : ¬ e.id = id) : shAt id (k + 1) (xs.drop (k + 1)) = R := by
  rw [drop_cons he, shAt, if_neg hi] at h; exact h
theorem shAt_end {id : Int} {k : Nat} {xs : List Shp} {R : Int} (h : shAt id k (xs.drop k) = R) (hk : xs.length ≤ k) : (-1 : Int) = R := by
  rw [List.drop_of_length_le hk] at h; exact h
theorem block_lt {w : World} {b : Nat} {o : Obj} (h : w.heap[b]? = some o) : b < w.heap.size := by
  rcases Nat.lt_or_ge b w.heap.size with h1 | h1
  · exact h1
  · rw [Array.getElem?_eq_none h1] at h; simp at h
theorem sl_newsN {α : Type} {sz : Nat} {cs : α → List Value} {w : World} {a : Option Addr} {xs : List α} (hsz : 0 < sz) (hcs : ∀ x, (cs x).length = sz) (h : Sl sz cs w a xs) :
    ∀ (ad : Addr), a = some ad → ∀ (j : Nat) (u : Value), (xs.flatMap cs)[j]? = some u → w.cell? (ad.add j) = some u := fun ad e => sl_news hsz hcs (by rw [← e]; exact h)
end Go.Proofs.Ytbpilecgnfnndaa
