/- Decoders: marking shapes and levels, and looking at the marks. -/
import Derived.Test.YtbgejldjgkihaaaDecW
import Derived.Test.YtbgejldjgkihaaaEvMark
namespace Go.Proofs.Ytbgejldjgkihaaa
set_option linter.unusedSimpArgs false
set_option linter.unusedVariables false
open Go.ChangeShapes Go.WideShapes Go.ChangeAt Go.RowKit Go.BigFrame

theorem Chg.widen {lo hi g e : Nat} {w w' : World} (h : Chg g e w w') (h1 : lo ≤ g) (h2 : e ≤ hi) : Chg lo hi w w' :=
  ⟨h.os, h.tape, h.output, h.size, fun k hk ho => h.block k hk (by omega)⟩
theorem OwnR.widen {w : World} {lo hi g e n : Nat} {a : Option Addr} {L : List Value} (h : OwnR w g e a n L) (h1 : lo ≤ g) (h2 : e ≤ hi) : OwnR w lo hi a n L := by
  refine ⟨h.len, ?_⟩
  rcases h.own with h0 | ⟨b, ha, k1, k2, k3, k4, k5⟩
  · exact .inl h0
  · exact .inr ⟨b, ha, by omega, by omega, k3, k4, k5⟩
theorem OwnR.narrow {w : World} {lo hi n : Nat} {a : Option Addr} {L : List Value} (h : OwnR w lo hi a n L) (hlh : lo ≤ hi) : ∃ g e, lo ≤ g ∧ e ≤ hi ∧ OwnR w g e a n L ∧ (n = 0 ∧ e = g ∨ n ≠ 0 ∧ e = g + 1 ∧ a = some ⟨g, 0, none⟩) := by
  by_cases hn : n = 0
  · exact ⟨lo, lo, Nat.le_refl _, hlh, ⟨h.len, .inl hn⟩, .inl ⟨hn, rfl⟩⟩
  · rcases h.own with h0 | ⟨g, ha, h1, h2, h3, h4, h5⟩
    · exact absurd h0 hn
    · exact ⟨g, g + 1, h1, by omega, ⟨h.len, .inr ⟨g, ha, Nat.le_refl _, by omega, h3, h4, h5⟩⟩, .inr ⟨hn, rfl, ha⟩⟩
theorem OwnR.chg1 {w w' : World} {lo hi g e n : Nat} {a : Option Addr} {L : List Value} (h : OwnR w lo hi a n L) (hc : Chg g e w w') (hd : ∀ b, a = some ⟨b, 0, none⟩ → n ≠ 0 → b < g ∨ e ≤ b) : OwnR w' lo hi a n L := by
  refine ⟨h.len, ?_⟩
  by_cases hn : n = 0
  · exact .inl hn
  rcases h.own with h0 | ⟨b, ha, h1, h2, h3, h4, h5⟩
  · exact .inl h0
  · have hb := hc.block b h3 (hd b ha hn)
    exact .inr ⟨b, ha, h1, h2, Nat.lt_of_lt_of_le h3 hc.size, fun j u hu => (World.cell?_of_block (a := ⟨b, j, none⟩) hb).trans (h4 j u hu), fun j => (World.frozen?_of_block (a := ⟨b, j, none⟩) hb).trans (h5 j)⟩

/-! ### fields -/
def markF (q : Nat) : Fld := ⟨(q : Int), (q : Int) + 1, decide ((q + 2) % 3 = 0), decide (q % 3 = 0), (q : Int) + 1 + 1 + 1 + 1⟩
def marksF (k n : Nat) : List Fld := (List.range n).map fun i => markF (k + 5 * i)
theorem marksF_len (k n : Nat) : (marksF k n).length = n := by simp [marksF]
theorem marksF_succ (k n : Nat) : marksF k (n + 1) = marksF k n ++ [markF (k + 5 * n)] := by simp [marksF, List.range_succ]
theorem marksF_at {k n j : Nat} (hj : j < n) : (marksF k n)[j]? = some (markF (k + 5 * j)) := by simp [marksF, hj]
theorem mod3 (q c : Nat) (x : Int) (h : x = (q : Int) + c) : (x % 3 == 0) = decide ((q + c) % 3 = 0) := by
  subst h
  rw [Bool.eq_iff_iff]; simp only [beq_iff_eq, decide_eq_true_eq]; omega
set_option maxRecDepth 100000 in
set_option maxHeartbeats 2000000 in
theorem markFieldS_any (a : Option Addr) (cap n : Nat) (L : List Value) (x : Int) (k : Nat) (hxk : x = k) (lo hi : Nat) (w : World) (ho : OwnR w lo hi a (n * 5) L) (hn : n ≤ 1048576) (h0 : 0 < k) (hk : k ≤ 100000000) :
    Calls Try.prog 136 #[.slice a n cap, .int .i64 x] w fun r w' => r = .returned (.int .i64 (x + 5 * n)) ∧ OwnR w' lo hi a (n * 5) ((marksF k n).flatMap Fld.cs) ∧ Chg lo hi w w' := by
  subst hxk
  have HO0 := Lib.hid ho; clear ho
  go_enter Try.func136, Try.ntmps136
  go_wp2
  go_loopw [1, 5] (fun t i wr => ∃ j q : Nat, j ≤ n ∧ i = .int .i64 j ∧ t = .int .i64 q ∧ Hid (q = k + 5 * j) ∧ q ≤ 106000000 ∧ 0 < q ∧ (∃ L', OwnR wr lo hi a (n * 5) L' ∧ L'.take (j * 5) = (marksF k j).flatMap Fld.cs) ∧ Chg lo hi w wr) (fun _ i _ => n - (intOf i).toNat)
  case atStart => exact ⟨0, k, Nat.zero_le _, rfl, rfl, Lib.hid (by omega), by omega, h0, ⟨_, HO0.out, by simp [marksF]⟩, Chg.refl _ _ _⟩
  case round =>
    obtain ⟨j, q, hj, rfl, rfl, HQ, hq, hq0, ⟨L', ho, hT⟩, hc⟩ := hrel
    have HT := Lib.hid hT; clear hT
    by_cases hlt : j < n
    · have HO := Lib.hid ho
      have HC := Lib.hid hc; clear hc
      have hlen := ho.len
      rcases ho.own with h' | ⟨g, rfl, h1, h2, h3, h4, h5⟩
      · omega
      have d0 := h4 (j * 5) L'[j * 5] (List.getElem?_eq_getElem (by omega))
      have d1 := h4 (j * 5 + 1) L'[j * 5 + 1] (List.getElem?_eq_getElem (by omega))
      have d2 := h4 (j * 5 + 2) L'[j * 5 + 2] (List.getElem?_eq_getElem (by omega))
      have d3 := h4 (j * 5 + 3) L'[j * 5 + 3] (List.getElem?_eq_getElem (by omega))
      have d4 := h4 (j * 5 + 4) L'[j * 5 + 4] (List.getElem?_eq_getElem (by omega))
      clear h4 ho
      have e2 := mod3 q 2 ((q : Int) + 1 + 1) (by push_cast; omega)
      have e3 := mod3 q 3 ((q : Int) + 1 + 1 + 1) (by push_cast; omega)
      go_wp2
      go_roundw
      case rel =>
        have hl5 : j * 5 + 5 ≤ n * 5 := by omega
        have hq5 : q + 5 ≤ 106000000 := by have := HQ.out; omega
        refine ⟨j + 1, q + 5, by omega, by go_num, by go_num, Lib.hid (by have := HQ.out; omega), hq5, by omega, ⟨setRow L' (j * 5) (markF q).cs, ?_, ?_⟩, ?_⟩
        · exact ((((HO.out.store (j := j * 5) (by omega) _).store (j := j * 5 + 1) (by omega) _).store (j := j * 5 + 2) (by omega) _).store (j := j * 5 + 3) (by omega) _).store (j := j * 5 + 4) (by omega) _
        · rw [show (j + 1) * 5 = j * 5 + (markF q).cs.length from by rw [fld_len]; omega, setRow_take (markF q).cs L' (j * 5) (by rw [fld_len, hlen]; omega), HT.out, marksF_succ, ← HQ.out]
          simp
        · exact ((((HC.out.trans (Chg.setCell h1 h2 _)).trans (Chg.setCell h1 h2 _)).trans (Chg.setCell h1 h2 _)).trans (Chg.setCell h1 h2 _)).trans (Chg.setCell h1 h2 _)
      case measure => simp [intOf]; omega
    · have hjn : j = n := by omega
      subst hjn
      have hL := Lib.hid (show L' = (marksF k j).flatMap Fld.cs by have h1 := HT.out; rw [List.take_of_length_le (by rw [ho.len]; omega)] at h1; exact h1)
      have HO := Lib.hid ho; clear ho
      have HC := Lib.hid hc; clear hc
      go_wp2
      go_ret
      exact ⟨ret_int (by have := HQ.out; omega), by rw [← hL.out]; exact HO.out, HC.out⟩
set_option maxRecDepth 100000 in
set_option maxHeartbeats 2000000 in
theorem heldFieldS_any (a : Option Addr) (cap n : Nat) (x : Int) (k : Nat) (hxk : x = k) (w : World) (h : Flds w a (marksF k n)) (hn : n ≤ 1048576) (h0 : 0 < k) (hk : k ≤ 100000000) :
    Calls Try.prog 137 #[.slice a n cap, .int .i64 x] w fun r w' => r = .returned (.int .i64 (x + 5 * n)) ∧ Below w.heap.size w w' := by
  subst hxk
  have HS := Lib.hid h; clear h
  go_enter Try.func137, Try.ntmps137
  go_wp2
  go_loopw [1, 5] (fun t i wr => ∃ j q : Nat, j ≤ n ∧ i = .int .i64 j ∧ t = .int .i64 q ∧ Hid (q = k + 5 * j) ∧ q ≤ 106000000 ∧ 0 < q ∧ Below w.heap.size w wr) (fun _ i _ => n - (intOf i).toNat)
  case atStart => exact ⟨0, k, Nat.zero_le _, rfl, rfl, Lib.hid (by omega), by omega, h0, Below.refl _ _⟩
  case round =>
    obtain ⟨j, q, hj, rfl, rfl, HQ, hq, hq0, hb⟩ := hrel
    have hz := hb.size
    by_cases hlt : j < n
    · obtain ⟨b, off, rfl, hlb, c0, c1, c2, c3, c4⟩ := Flds.at (Sl.keep HS.out hb) (marksF_at hlt)
      rw [← HQ.out] at c0 c1 c2 c3 c4
      simp only [markF] at c0 c1 c2 c3 c4
      have e2 := mod3 q 2 ((q : Int) + 1 + 1) (by push_cast; omega)
      have e3 := mod3 q 3 ((q : Int) + 1 + 1 + 1) (by push_cast; omega)
      go_wp2
      go_roundw
      case rel => exact ⟨j + 1, q + 5, by omega, by go_num, by go_num, Lib.hid (by have := HQ.out; omega), by have := HQ.out; omega, by omega, hb⟩
      case measure => simp [intOf]; omega
    · have hjn : j = n := by omega
      subst hjn
      go_wp2
      go_ret
      exact ⟨ret_int (by have := HQ.out; omega), hb⟩

/-! ### levels -/
def markL (q : Nat) : Lvl := ⟨(q : Int), (q : Int) + 1⟩
def marksL (k n : Nat) : List Lvl := (List.range n).map fun i => markL (k + 2 * i)
theorem marksL_len (k n : Nat) : (marksL k n).length = n := by simp [marksL]
theorem marksL_succ (k n : Nat) : marksL k (n + 1) = marksL k n ++ [markL (k + 2 * n)] := by simp [marksL, List.range_succ]
theorem marksL_at {k n j : Nat} (hj : j < n) : (marksL k n)[j]? = some (markL (k + 2 * j)) := by simp [marksL, hj]

/-! ### shapes -/
/-- Shapes in memory of one's own, between lo and hi: what may be written to. -/
structure OwnSh (w : World) (lo hi : Nat) (a : Option Addr) (n : Nat) (rs : List ShR) (xs : List Shp) : Prop where
  le : lo ≤ hi
  len : rs.length = n
  lenx : xs.length = n
  outer : OwnR w lo hi a (n * 2) (rs.flatMap ShR.cs)
  each : ∀ (k : Nat) (r : ShR) (x : Shp), rs[k]? = some r → xs[k]? = some x → r.id = x.id ∧ r.n = x.flds.length ∧ OwnR w lo hi r.a (r.n * 5) (x.flds.flatMap Fld.cs)
  apart : ∀ (i j : Nat) (r s : ShR) (g : Nat), rs[i]? = some r → rs[j]? = some s → i ≠ j → r.n ≠ 0 → s.n ≠ 0 → r.a = some ⟨g, 0, none⟩ → s.a ≠ some ⟨g, 0, none⟩
  off : ∀ (i : Nat) (r : ShR) (g : Nat), rs[i]? = some r → r.n ≠ 0 → a = some ⟨g, 0, none⟩ → r.a ≠ some ⟨g, 0, none⟩
/-- The blocks of the shapes. -/
def ShBlk (a : Option Addr) (n : Nat) (rs : List ShR) (b : Nat) : Prop := n ≠ 0 ∧ a = some ⟨b, 0, none⟩ ∨ ∃ (i : Nat) (r : ShR), rs[i]? = some r ∧ r.n ≠ 0 ∧ r.a = some ⟨b, 0, none⟩
theorem owns_typed {w : World} {base n cap size : Nat} {t : TypeId} {a : Option Addr} {L : List Value} (h : w.ownsRow base t size (.slice a n cap) n L) {g : Nat} (hg : a = some ⟨g, 0, none⟩) : ∃ cur, w.heap[g]? = some (.cells cur t (0, 0)) := by
  subst hg
  rcases h.2 with ⟨e, _⟩ | ⟨g', cap', cur, e, _, hh, _⟩
  · simp at e
  · simp only [Value.slice.injEq, Option.some.injEq, Addr.mk.injEq, and_true] at e
    obtain ⟨rfl, _⟩ := e
    exact ⟨cur, hh⟩
theorem owns_apart {w : World} {base n cap size base' n' cap' size' g : Nat} {t t' : TypeId} {a a' : Option Addr} {L L' : List Value} (h : w.ownsRow base t size (.slice a n cap) n L) (h' : w.ownsRow base' t' size' (.slice a' n' cap') n' L') (hne : t ≠ t') (hg : a = some ⟨g, 0, none⟩) : a' ≠ some ⟨g, 0, none⟩ := by
  intro hg'
  obtain ⟨c1, e1⟩ := owns_typed h hg
  obtain ⟨c2, e2⟩ := owns_typed h' hg'
  rw [e1] at e2
  simp only [Option.some.injEq, Obj.cells.injEq] at e2
  exact hne e2.2.1
theorem OwnSh.of_own {w : World} {base n cap : Nat} {T TF : TypeId} {a : Option Addr} {rs : List ShR} {xs : List Shp} (h : OwnShs w base T TF (.slice a n cap) n rs xs) (hb : base ≤ w.heap.size) (hne : T ≠ TF) : OwnSh w base w.heap.size a n rs xs where
  le := hb
  len := h.len
  lenx := h.lenx
  outer := OwnR.of_ownsK h.outer
  each k r x hr hx := ⟨(h.each k r x hr hx).1, (h.each k r x hr hx).2.1, OwnR.of_ownsK (h.each k r x hr hx).2.2⟩
  apart i j r s g hr hs hij hn hn' ha hb := h.apart i j r s hr hs hij g (by rw [ha]; rfl) (by rw [hb]; rfl)
  off i r g hr hn ha := by
    have hi : i < n := by
      rcases Nat.lt_or_ge i rs.length with h' | h'
      · rw [← h.len]; exact h'
      · rw [List.getElem?_eq_none h'] at hr; simp at hr
    obtain ⟨x, hx⟩ : ∃ x, xs[i]? = some x := ⟨_, List.getElem?_eq_getElem (by rw [h.lenx]; exact hi)⟩
    exact owns_apart h.outer (h.each i r x hr hx).2.2 hne ha
section
variable {w w' : World} {lo hi n : Nat} {a : Option Addr} {rs : List ShR} {xs : List Shp}
theorem OwnSh.at (h : OwnSh w lo hi a n rs xs) {k : Nat} (hk : k < n) : ∃ r x, rs[k]? = some r ∧ xs[k]? = some x :=
  ⟨_, _, List.getElem?_eq_getElem (by rw [h.len]; exact hk), List.getElem?_eq_getElem (by rw [h.lenx]; exact hk)⟩
theorem OwnSh.shs (h : OwnSh w lo hi a n rs xs) : Shs w a xs := by
  intro k x hx
  have hk : k < n := by
    rcases Nat.lt_or_ge k xs.length with h' | h'
    · rw [← h.lenx]; exact h'
    · rw [List.getElem?_eq_none h'] at hx; simp at hx
  obtain ⟨r, x', hr, hx'⟩ := h.at hk
  rw [hx] at hx'; simp at hx'; subst hx'
  obtain ⟨e1, e2, e3⟩ := h.each k r x hr hx
  obtain ⟨b, off, ha, hlt, hc⟩ := OwnR.slK (by omega) shR_len h.outer k r hr
  have c0 := hc 0 _ rfl
  have c1 := hc 1 _ rfl
  rw [e1] at c0
  rw [e2] at c1
  exact ⟨b, off, r.a, r.cap, ha, hlt, c0, c1, by rw [e2] at e3; exact OwnR.slK (by omega) fld_len e3⟩
theorem OwnSh.chgB (h : OwnSh w lo hi a n rs xs) {g e : Nat} (hc : Chg g e w w') (hd : ∀ b, ShBlk a n rs b → b < g ∨ e ≤ b) : OwnSh w' lo hi a n rs xs where
  le := h.le
  len := h.len
  lenx := h.lenx
  outer := h.outer.chg1 hc fun b hb hn => hd b (.inl ⟨by omega, hb⟩)
  each k r x hr hx := ⟨(h.each k r x hr hx).1, (h.each k r x hr hx).2.1, (h.each k r x hr hx).2.2.chg1 hc fun b hb hn => hd b (.inr ⟨k, r, hr, by omega, hb⟩)⟩
  apart := h.apart
  off := h.off
theorem OwnSh.blk (h : OwnSh w lo hi a n rs xs) {b : Nat} (hb : ShBlk a n rs b) : lo ≤ b ∧ b < hi := by
  rcases hb with ⟨hn, ha⟩ | ⟨i, r, hr, hn, ha⟩
  · rcases h.outer.own with h0 | ⟨g, hg, h1, h2, _⟩
    · omega
    · rw [hg] at ha; simp at ha; subst ha; exact ⟨h1, h2⟩
  · have hi' : i < n := by
      rcases Nat.lt_or_ge i rs.length with h' | h'
      · rw [← h.len]; exact h'
      · rw [List.getElem?_eq_none h'] at hr; simp at hr
    obtain ⟨x, hx⟩ : ∃ x, xs[i]? = some x := ⟨_, List.getElem?_eq_getElem (by rw [h.lenx]; exact hi')⟩
    rcases (h.each i r x hr hx).2.2.own with h0 | ⟨g, hg, h1, h2, _⟩
    · omega
    · rw [hg] at ha; simp at ha; subst ha; exact ⟨h1, h2⟩
theorem OwnSh.chg (h : OwnSh w lo hi a n rs xs) {lo' hi' : Nat} (hc : Chg lo' hi' w w') (hd : hi ≤ lo' ∨ hi' ≤ lo) : OwnSh w' lo hi a n rs xs :=
  h.chgB hc fun b hb => by have := h.blk hb; omega
theorem OwnSh.keep (h : OwnSh w lo hi a n rs xs) (hb : Below w.heap.size w w') : OwnSh w' lo hi a n rs xs :=
  h.chg (Chg.of_below (lo := hi) (hi := hi) hb) (.inl (Nat.le_refl _))
end
theorem shr_set : ∀ (rs : List ShR) (k : Nat) (r : ShR) (q : Int), rs[k]? = some r → (rs.flatMap ShR.cs).set (k * 2) (.int .i64 q) = (rs.set k ⟨q, r.a, r.n, r.cap⟩).flatMap ShR.cs
  | [], k, r, q, h => by simp at h
  | s :: rs, 0, r, q, h => by simp at h; subst h; simp [List.flatMap_cons]
  | s :: rs, k + 1, r, q, h => by
    have ih := shr_set rs k r q (by simpa using h)
    rw [show (k + 1) * 2 = k * 2 + 1 + 1 by omega]
    simp only [List.flatMap_cons, List.cons_append, List.nil_append, List.set_cons_succ, ih]
/-- One shape is marked: its id, then its fields. -/
theorem OwnSh.put {w w2 : World} {lo hi g n k g1 e1 : Nat} {rs : List ShR} {xs : List Shp} {r : ShR} {x : Shp} {q : Int} {ys : List Fld} (h : OwnSh w lo hi (some ⟨g, 0, none⟩) n rs xs) (hk : k < n) (hr : rs[k]? = some r) (hx : xs[k]? = some x)
    (ho : OwnR w2 g1 e1 r.a (r.n * 5) (ys.flatMap Fld.cs)) (hy : ys.length = r.n) (hc : Chg g1 e1 (w.setCell ⟨g, k * 2, none⟩ (.int .i64 q)) w2) (h1 : lo ≤ g1) (h2 : e1 ≤ hi) (hp : r.n = 0 ∧ e1 = g1 ∨ r.n ≠ 0 ∧ e1 = g1 + 1 ∧ r.a = some ⟨g1, 0, none⟩) :
    OwnSh w2 lo hi (some ⟨g, 0, none⟩) n (rs.set k ⟨q, r.a, r.n, r.cap⟩) (xs.set k ⟨q, ys⟩) := by
  have hset : Chg g (g + 1) w (w.setCell ⟨g, k * 2, none⟩ (.int .i64 q)) := Chg.setCell (Nat.le_refl _) (by omega) _
  have hrs : ∀ (i : Nat) (s : ShR), (rs.set k ⟨q, r.a, r.n, r.cap⟩)[i]? = some s → ∃ s', rs[i]? = some s' ∧ s.a = s'.a ∧ s.n = s'.n ∧ (i = k → s = ⟨q, r.a, r.n, r.cap⟩) ∧ (i ≠ k → s = s') := by
    intro i s hs
    rw [List.getElem?_set] at hs
    by_cases hik : k = i
    · subst hik
      rw [if_pos rfl, if_pos (by rw [h.len]; exact hk)] at hs
      simp at hs; subst hs
      exact ⟨r, hr, rfl, rfl, fun _ => rfl, fun hh => absurd rfl hh⟩
    · rw [if_neg hik] at hs
      exact ⟨s, hs, rfl, rfl, fun hh => absurd hh.symm hik, fun _ => rfl⟩
  refine ⟨h.le, by rw [List.length_set, h.len], by rw [List.length_set, h.lenx], ?_, ?_, ?_, ?_⟩
  · rw [← shr_set rs k r q hr]
    refine (h.outer.store (j := k * 2) (by omega) _).chg1 hc fun b hb hn => ?_
    simp at hb; subst hb
    rcases hp with ⟨_, hp⟩ | ⟨hp0, hp1, hp2⟩
    · omega
    · have := h.off k r g hr hp0 rfl
      by_cases hgg : g = g1
      · subst hgg; exact absurd hp2 this
      · omega
  · intro i s y hs hyy
    obtain ⟨s', hs', e1', e2', e3', e4'⟩ := hrs i s hs
    rw [List.getElem?_set] at hyy
    by_cases hik : k = i
    · subst hik
      rw [if_pos rfl, if_pos (by rw [h.lenx]; exact hk)] at hyy
      simp at hyy; subst hyy
      have e := e3' rfl
      subst e
      exact ⟨rfl, hy.symm, ho.widen h1 h2⟩
    · rw [if_neg hik] at hyy
      have e := e4' (fun hh => hik hh.symm)
      subst e
      obtain ⟨f1, f2, f3⟩ := h.each i s y hs' hyy
      refine ⟨f1, f2, (f3.chg1 hset fun b hb hn => ?_).chg1 hc fun b hb hn => ?_⟩
      · have := h.off i s b hs' (by omega)
        by_cases hbg : b = g
        · subst hbg; exact absurd hb (this rfl)
        · omega
      · rcases hp with ⟨_, hp⟩ | ⟨hp0, hp1, hp2⟩
        · omega
        · by_cases hbg : b = g1
          · subst hbg; exact absurd hp2 (h.apart i k s r b hs' hr (fun hh => hik hh.symm) (by omega) hp0 hb)
          · omega
  · intro i j s t b hs ht hij hn hn' ha
    obtain ⟨s', hs', f1, f2, _⟩ := hrs i s hs
    obtain ⟨t', ht', f3, f4, _⟩ := hrs j t ht
    rw [f3]
    exact h.apart i j s' t' b hs' ht' hij (by rw [← f2]; exact hn) (by rw [← f4]; exact hn') (by rw [← f1]; exact ha)
  · intro i s b hs hn ha
    obtain ⟨s', hs', f1, f2, _⟩ := hrs i s hs
    rw [f1]
    exact h.off i s' b hs' (by rw [← f2]; exact hn) ha
/-- The mark at which a shape starts. -/
def kS (k : Nat) (xs : List Shp) (i : Nat) : Nat := k + i + 5 * fldSum (xs.take i)
def markShp (k : Nat) (xs : List Shp) (i : Nat) (x : Shp) : Shp := ⟨(kS k xs i : Int), marksF (kS k xs i + 1) x.flds.length⟩
def partS (k : Nat) (xs : List Shp) (i : Nat) : List Shp := xs.mapIdx fun j x => if j < i then markShp k xs j x else x
def marksS (k : Nat) (xs : List Shp) : List Shp := partS k xs xs.length
theorem partS_at (k : Nat) (xs : List Shp) (i j : Nat) : (partS k xs i)[j]? = xs[j]?.map fun x => if j < i then markShp k xs j x else x := by simp [partS]
theorem partS_zero (k : Nat) (xs : List Shp) : partS k xs 0 = xs := by
  apply List.ext_getElem?; intro j
  rw [partS_at]; cases xs[j]? <;> simp
theorem partS_succ {k : Nat} {xs : List Shp} {i : Nat} {e : Shp} (he : xs[i]? = some e) : (partS k xs i).set i (markShp k xs i e) = partS k xs (i + 1) := by
  apply List.ext_getElem?; intro j
  rw [List.getElem?_set, partS_at, partS_at]
  have hi : i < xs.length := by
    rcases Nat.lt_or_ge i xs.length with h' | h'
    · exact h'
    · rw [List.getElem?_eq_none h'] at he; simp at he
  by_cases hij : i = j
  · subst hij
    rw [if_pos rfl, if_pos (by simp [partS]; exact hi), he]; simp
  · rw [if_neg hij]
    cases xs[j]? with
    | none => rfl
    | some y =>
      simp only [Option.map_some]
      by_cases hlt : j < i
      · rw [if_pos hlt, if_pos (by omega)]
      · rw [if_neg hlt, if_neg (by omega)]
theorem marksS_at {k : Nat} {xs : List Shp} {i : Nat} {e : Shp} (he : xs[i]? = some e) : (marksS k xs)[i]? = some (markShp k xs i e) := by
  have hi : i < xs.length := by
    rcases Nat.lt_or_ge i xs.length with h' | h'
    · exact h'
    · rw [List.getElem?_eq_none h'] at he; simp at he
  rw [marksS, partS_at, he]; simp [hi]
theorem kS_succ {k : Nat} {xs : List Shp} {i : Nat} {e : Shp} (he : xs[i]? = some e) : kS k xs (i + 1) = kS k xs i + 1 + 5 * e.flds.length := by
  unfold kS; rw [fldSum_snoc he]; omega
theorem kS_le (k : Nat) (xs : List Shp) (i : Nat) : kS k xs i ≤ k + i + 5 * fldSum xs := by
  unfold kS; have := fldSum_take xs i; omega
end Go.Proofs.Ytbgejldjgkihaaa
