/- A decoder and its events in memory of the call's own: the marks put and looked at. -/
import Derived.Test.YtigmdaiecdoimaaCpy
namespace Go.Proofs.Ytigmdaiecdoimaa
set_option linter.unusedSimpArgs false
set_option linter.unusedVariables false
open Go.ChangeShapes Go.WideShapes Go.ChangeAt Go.RowKit Go.BigFrame

structure OwnDE (w : World) (lo hi : Nat) (a : Option Addr) (n : Nat) (rs : List ShR) (xs : List Shp) (sa : Option Addr) (m : Nat) (L : List Value) (ea : Option Addr) (k : Nat) (E : List Value) : Prop where
  sh : OwnSh w lo hi a n rs xs
  lv : OwnR w lo hi sa (m * 2) L
  ev : OwnR w lo hi ea (k * 7) E
  a1 : ∀ b, ShBlk a n rs b → m ≠ 0 → sa ≠ some ⟨b, 0, none⟩
  a2 : ∀ b, ShBlk a n rs b → k ≠ 0 → ea ≠ some ⟨b, 0, none⟩
  a3 : ∀ b, m ≠ 0 → k ≠ 0 → sa = some ⟨b, 0, none⟩ → ea ≠ some ⟨b, 0, none⟩
  le : hi ≤ w.heap.size
theorem shblk_typed {w : World} {base n cap : Nat} {T TF : TypeId} {a : Option Addr} {rs : List ShR} {xs : List Shp} (h : OwnShs w base T TF (.slice a n cap) n rs xs) {b : Nat} (hb : ShBlk a n rs b) :
    ∃ cur t, w.heap[b]? = some (.cells cur t (0, 0)) ∧ (t = T ∨ t = TF) := by
  rcases hb with ⟨_, ha⟩ | ⟨i, r, hr, _, ha⟩
  · obtain ⟨cur, hc⟩ := owns_typed h.outer ha
    exact ⟨cur, T, hc, .inl rfl⟩
  · have hi : i < n := by
      rcases Nat.lt_or_ge i rs.length with h' | h'
      · rw [← h.len]; exact h'
      · rw [List.getElem?_eq_none h'] at hr; simp at hr
    obtain ⟨x, hx⟩ : ∃ x, xs[i]? = some x := ⟨_, List.getElem?_eq_getElem (by rw [h.lenx]; exact hi)⟩
    obtain ⟨cur, hc⟩ := owns_typed (h.each i r x hr hx).2.2 ha
    exact ⟨cur, TF, hc, .inr rfl⟩
theorem typed_ne {w : World} {b : Nat} {cur cur' : Array Value} {t t' : TypeId} (h : w.heap[b]? = some (.cells cur t (0, 0))) (h' : w.heap[b]? = some (.cells cur' t' (0, 0))) : t = t' := by
  rw [h] at h'
  simp only [Option.some.injEq, Obj.cells.injEq] at h'
  exact h'.2.1
theorem OwnDE.of_own {w : World} {base n cap m scap k ecap : Nat} {T TF TL TE : TypeId} {a sa ea : Option Addr} {rs : List ShR} {xs : List Shp} {L E : List Value} (h : OwnShs w base T TF (.slice a n cap) n rs xs)
    (h' : w.ownsRow base TL 2 (.slice sa m scap) m L) (h'' : w.ownsRow base TE 7 (.slice ea k ecap) k E) (hb : base ≤ w.heap.size) (d1 : T ≠ TF) (d2 : T ≠ TL) (d3 : TF ≠ TL) (d4 : T ≠ TE) (d5 : TF ≠ TE) (d6 : TL ≠ TE) :
    OwnDE w base w.heap.size a n rs xs sa m L ea k E where
  sh := OwnSh.of_own h hb d1
  lv := OwnR.of_ownsK h'
  ev := OwnR.of_ownsK h''
  a1 b hsb hm hs := by
    obtain ⟨cur, t, hc, ht⟩ := shblk_typed h hsb
    obtain ⟨cur', hc'⟩ := owns_typed h' hs
    have := typed_ne hc hc'
    rcases ht with rfl | rfl
    · exact d2 this
    · exact d3 this
  a2 b hsb hm hs := by
    obtain ⟨cur, t, hc, ht⟩ := shblk_typed h hsb
    obtain ⟨cur', hc'⟩ := owns_typed h'' hs
    have := typed_ne hc hc'
    rcases ht with rfl | rfl
    · exact d4 this
    · exact d5 this
  a3 b hm hk hs he := by
    obtain ⟨cur, hc⟩ := owns_typed h' hs
    obtain ⟨cur', hc'⟩ := owns_typed h'' he
    exact d6 (typed_ne hc hc')
  le := Nat.le_refl _
section
variable {w w' : World} {lo hi n m k : Nat} {a sa ea : Option Addr} {rs : List ShR} {xs : List Shp} {L E : List Value}
theorem OwnDE.chg (h : OwnDE w lo hi a n rs xs sa m L ea k E) {lo' hi' : Nat} (hc : Chg lo' hi' w w') (hd : hi ≤ lo' ∨ hi' ≤ lo) : OwnDE w' lo hi a n rs xs sa m L ea k E :=
  ⟨h.sh.chg hc hd, h.lv.chg hc hd, h.ev.chg hc hd, h.a1, h.a2, h.a3, Nat.le_trans h.le hc.size⟩
theorem OwnDE.keep (h : OwnDE w lo hi a n rs xs sa m L ea k E) (hb : Below w.heap.size w w') : OwnDE w' lo hi a n rs xs sa m L ea k E :=
  h.chg (Chg.of_below (lo := hi) (hi := hi) hb) (.inl (Nat.le_refl _))
theorem OwnDE.widen (h : OwnDE w lo hi a n rs xs sa m L ea k E) {lo' : Nat} (h1 : lo' ≤ lo) : OwnDE w lo' hi a n rs xs sa m L ea k E :=
  ⟨⟨Nat.le_trans h1 h.sh.le, h.sh.len, h.sh.lenx, h.sh.outer.widen h1 (Nat.le_refl _), fun q r x hr hx => ⟨(h.sh.each q r x hr hx).1, (h.sh.each q r x hr hx).2.1, (h.sh.each q r x hr hx).2.2.widen h1 (Nat.le_refl _)⟩, h.sh.apart, h.sh.off⟩,
    h.lv.widen h1 (Nat.le_refl _), h.ev.widen h1 (Nat.le_refl _), h.a1, h.a2, h.a3, h.le⟩
theorem OwnDE.shs (h : OwnDE w lo hi a n rs xs sa m L ea k E) : Shs w a xs := h.sh.shs
theorem OwnDE.lvls {ls : List Lvl} (h : OwnDE w lo hi a n rs xs sa m (ls.flatMap Lvl.cs) ea k E) : Lvls w sa ls := OwnR.slK (by omega) lvl_len h.lv
theorem OwnDE.evs {es : List Ev} (h : OwnDE w lo hi a n rs xs sa m L ea k (es.flatMap Ev.cs)) : Evs w ea es := OwnR.slK (by omega) ev_len h.ev
/-- Writes to the shapes alone. -/
theorem OwnDE.shape {rs' : List ShR} {ys : List Shp} (h : OwnDE w lo hi a n rs xs sa m L ea k E) (hs : OwnSh w' lo hi a n rs' ys) (hr : SameR rs rs') (hc : ChgB (ShBlk a n rs) w w') : OwnDE w' lo hi a n rs' ys sa m L ea k E where
  sh := hs
  lv := h.lv.chgB hc fun b hb hn hp => h.a1 b hp (by omega) hb
  ev := h.ev.chgB hc fun b hb hn hp => h.a2 b hp (by omega) hb
  a1 b hb := h.a1 b (hr.blk hb)
  a2 b hb := h.a2 b (hr.blk hb)
  a3 := h.a3
  le := Nat.le_trans h.le hc.size
theorem OwnDE.shapeChg (h : OwnDE w lo hi a n rs xs sa m L ea k E) (hc : ChgB (ShBlk a n rs) w w') : Chg lo hi w w' := hc.toChg fun b hb => h.sh.blk hb
/-- Writes to the levels alone. -/
theorem OwnDE.level {L' : List Value} {g e : Nat} (h : OwnDE w lo hi a n rs xs sa m L ea k E) (ho : OwnR w' g e sa (m * 2) L') (h1 : lo ≤ g) (h2 : e ≤ hi) (hp : m * 2 = 0 ∧ e = g ∨ m * 2 ≠ 0 ∧ e = g + 1 ∧ sa = some ⟨g, 0, none⟩) (hc : Chg g e w w') : OwnDE w' lo hi a n rs xs sa m L' ea k E where
  sh := h.sh.chgB hc fun b hb => by
    rcases hp with ⟨u, v⟩ | ⟨u, v, z⟩
    · omega
    · by_cases hbg : b = g
      · subst hbg; exact absurd z (h.a1 b hb (by omega))
      · omega
  lv := ho.widen h1 h2
  ev := h.ev.chg1 hc fun b hb hn => by
    rcases hp with ⟨u, v⟩ | ⟨u, v, z⟩
    · omega
    · by_cases hbg : b = g
      · subst hbg; exact absurd hb (h.a3 b (by omega) (by omega) z)
      · omega
  a1 := h.a1
  a2 := h.a2
  a3 := h.a3
  le := Nat.le_trans h.le hc.size
/-- Writes to the events alone. -/
theorem OwnDE.event {E' : List Value} {g e : Nat} (h : OwnDE w lo hi a n rs xs sa m L ea k E) (ho : OwnR w' g e ea (k * 7) E') (h1 : lo ≤ g) (h2 : e ≤ hi) (hp : k * 7 = 0 ∧ e = g ∨ k * 7 ≠ 0 ∧ e = g + 1 ∧ ea = some ⟨g, 0, none⟩) (hc : Chg g e w w') : OwnDE w' lo hi a n rs xs sa m L ea k E' where
  sh := h.sh.chgB hc fun b hb => by
    rcases hp with ⟨u, v⟩ | ⟨u, v, z⟩
    · omega
    · by_cases hbg : b = g
      · subst hbg; exact absurd z (h.a2 b hb (by omega))
      · omega
  lv := h.lv.chg1 hc fun b hb hn => by
    rcases hp with ⟨u, v⟩ | ⟨u, v, z⟩
    · omega
    · by_cases hbg : b = g
      · subst hbg; exact absurd z (h.a3 b (by omega) (by omega) hb)
      · omega
  ev := ho.widen h1 h2
  a1 := h.a1
  a2 := h.a2
  a3 := h.a3
  le := Nat.le_trans h.le hc.size
end
set_option maxRecDepth 100000 in
set_option maxHeartbeats 2000000 in
theorem markDec_own (d : Dc) (a : Option Addr) (cap n : Nat) (rs : List ShR) (xs : List Shp) (sa : Option Addr) (scap m : Nat) (L : List Value) (ea : Option Addr) (k : Nat) (E : List Value) (lo hi : Nat) (w : World) (ho : OwnDE w lo hi a n rs xs sa m L ea k E) (hn : n ≤ 1048576) (hm : fldSum xs ≤ 1048576) (hm' : m ≤ 1048576) :
    Calls Try.prog 45 #[d.val (.slice a n cap) (.slice sa m scap), .int .i64 1] w fun r w' => r = .returned (.int .i64 ((kS 1 xs n + 2 * m : Nat) : Int)) ∧ (∃ rs', OwnDE w' lo hi a n rs' (marksS 1 xs) sa m ((marksL (kS 1 xs n) m).flatMap Lvl.cs) ea k E) ∧ Chg lo hi w w' := by
  have HO := Lib.hid ho; clear ho
  have hk' := kS_le 1 xs n
  have hkp : 0 < kS 1 xs n := by unfold kS; omega
  go_enter Try.func45, Try.ntmps45
  go_wp2_with fail
  refine (markPlan_any d.p a cap n rs xs 1 1 rfl lo hi _ (HO.out.sh.keep (by ((repeat (first | (with_reducible exact Below.refl _ _) | (with_reducible assumption) | (with_reducible refine Below.alloc ?_ ?_ _) | (with_reducible refine Below.setCell ?_ ?_ _) | (with_reducible refine Below.drew ?_) | (with_reducible refine below_setRow ?_ ?_ _) | (refine Below.trans ?_ (Below.mono (by assumption) ?_)))); all_goals (first | omega | (simp; done) | (simp; omega))))) hn hm (by omega) (by omega)).mono ?_
  rintro r w1 ⟨rfl, ⟨rs', ho1, hsr1⟩, hc1⟩
  have HC1 := Lib.hid (ChgB.trans (Chg.toB (g := 0) (e := 0) (Chg.of_below (show Below w.heap.size w _ from by ((repeat (first | (with_reducible exact Below.refl _ _) | (with_reducible assumption) | (with_reducible refine Below.alloc ?_ ?_ _) | (with_reducible refine Below.setCell ?_ ?_ _) | (with_reducible refine Below.drew ?_) | (with_reducible refine below_setRow ?_ ?_ _) | (refine Below.trans ?_ (Below.mono (by assumption) ?_)))); all_goals (first | omega | (simp; done) | (simp; omega))))) (fun b h1 h2 => by omega)) hc1)
  have hA_ : w1.heap[w.heap.size]? = some (.cells #[.slice a n cap, .int .i64 d.p.root, .int .i64 d.p.deep, .int .i64 d.p.most, .int .i64 d.mode, .slice sa m scap, .int .u64 d.bits, .int .i64 d.have_, .int .i64 d.start, .int .i64 d.at_, .int .i64 d.field.number, .int .i64 d.field.kind, .bool d.field.rep, .bool d.field.packed, .int .i64 d.field.msg, .int .i64 d.wire, .int .i64 d.want, .int .i64 d.utf.want, .int .i64 d.utf.low, .int .i64 d.utf.high, .int .i64 d.end_.kind, .int .i64 d.end_.field, .int .u64 d.end_.bits, .int .i64 d.end_.len, .string d.end_.text, .int .i64 d.end_.code, .int .i64 d.end_.at_] 69 (0, 0)) := (hc1.block w.heap.size (by simp) (fun hp => by have := HO.out.sh.blk hp; have := HO.out.le; omega)).trans (hset_new rfl)
  have kA := box_cells hA_; have hBA := box_lt hA_; clear hA_
  clear hc1
  have HO1 := Lib.hid (HO.out.shape ho1 hsr1 HC1.out); clear ho1 hsr1
  obtain ⟨g1, e1, p1, p2, p3, p4⟩ := HO1.out.lv.narrow HO1.out.sh.le
  have HP := Lib.hid p4; clear p4
  have HL := Lib.hid p3; clear p3
  have hlt := HO1.out.le
  go_wp2_with fail
  refine (markLevelS_any sa scap m _ _ (kS 1 xs n) rfl g1 e1 _ (HL.out.keep (by ((repeat (first | (with_reducible exact Below.refl _ _) | (with_reducible assumption) | (with_reducible refine Below.alloc ?_ ?_ _) | (with_reducible refine Below.setCell ?_ ?_ _) | (with_reducible refine Below.drew ?_) | (with_reducible refine below_setRow ?_ ?_ _) | (refine Below.trans ?_ (Below.mono (by assumption) ?_)))); all_goals (first | omega | (simp; done) | (simp; omega))))) (by omega) (by omega) (by omega)).mono ?_
  rintro r w2 ⟨rfl, ho2, hc2⟩
  have HC2 := Lib.hid ((Chg.of_below (lo := g1) (hi := e1) (show Below w1.heap.size w1 _ from by ((repeat (first | (with_reducible exact Below.refl _ _) | (with_reducible assumption) | (with_reducible refine Below.alloc ?_ ?_ _) | (with_reducible refine Below.setCell ?_ ?_ _) | (with_reducible refine Below.drew ?_) | (with_reducible refine below_setRow ?_ ?_ _) | (refine Below.trans ?_ (Below.mono (by assumption) ?_)))); all_goals (first | omega | (simp; done) | (simp; omega))))).trans hc2); clear hc2
  have HO2 := Lib.hid ho2; clear ho2
  go_wp2
  go_ret
  exact ⟨ret_int (by omega), ⟨rs', HO1.out.level HO2.out p1 p2 HP.out HC2.out⟩, (HO.out.shapeChg HC1.out).trans (HC2.out.widen p1 p2)⟩
set_option maxRecDepth 100000 in
set_option maxHeartbeats 2000000 in
theorem heldDec_own (d : Dc) (a : Option Addr) (cap n : Nat) (rs : List ShR) (xs : List Shp) (sa : Option Addr) (scap m : Nat) (ea : Option Addr) (k : Nat) (E : List Value) (lo hi : Nat) (w : World) (ho : OwnDE w lo hi a n rs (marksS 1 xs) sa m ((marksL (kS 1 xs n) m).flatMap Lvl.cs) ea k E) (hx : xs.length = n) (hn : n ≤ 1048576) (hm : fldSum xs ≤ 1048576) (hm' : m ≤ 1048576) :
    Calls Try.prog 47 #[d.val (.slice a n cap) (.slice sa m scap), .int .i64 1] w fun r w' => r = .returned (.int .i64 ((kS 1 xs n + 2 * m : Nat) : Int)) ∧ Below w.heap.size w w' := by
  have HO := Lib.hid ho; clear ho
  have hk' := kS_le 1 xs n
  have hkp : 0 < kS 1 xs n := by unfold kS; omega
  have HX := Lib.hid hx; clear hx
  go_enter Try.func47, Try.ntmps47
  go_wp2_with fail
  refine (heldPlan_any d.p a cap n xs 1 1 rfl _ ((HO.out.keep (by ((repeat (first | (with_reducible exact Below.refl _ _) | (with_reducible assumption) | (with_reducible refine Below.alloc ?_ ?_ _) | (with_reducible refine Below.setCell ?_ ?_ _) | (with_reducible refine Below.drew ?_) | (with_reducible refine below_setRow ?_ ?_ _) | (refine Below.trans ?_ (Below.mono (by assumption) ?_)))); all_goals (first | omega | (simp; done) | (simp; omega))))).shs) HX.out hn hm (by omega) (by omega)).mono ?_
  rintro r w1 ⟨rfl, hb1⟩
  have hz1 := hb1.size
  try simp only [World.size_alloc, World.size_setCell, World.size_drew] at hz1
  have hb1b : Below w.heap.size w w1 := by ((repeat (first | (with_reducible exact Below.refl _ _) | (with_reducible assumption) | (with_reducible refine Below.alloc ?_ ?_ _) | (with_reducible refine Below.setCell ?_ ?_ _) | (with_reducible refine Below.drew ?_) | (with_reducible refine below_setRow ?_ ?_ _) | (refine Below.trans ?_ (Below.mono (by assumption) ?_)))); all_goals (first | omega | (simp; done) | (simp; omega)))
  have kA := box_new0 hb1
  have hBA := box_lt0 hb1
  try simp only [World.size_alloc, World.size_setCell, World.size_drew] at kA
  try simp only [World.size_alloc, World.size_setCell, World.size_drew] at hBA
  clear hb1; have hb1 := hb1b; clear hb1b
  go_wp2_with fail
  refine (heldLevelS_any sa scap m _ (kS 1 xs n) rfl _ ((HO.out.keep (by ((repeat (first | (with_reducible exact Below.refl _ _) | (with_reducible assumption) | (with_reducible refine Below.alloc ?_ ?_ _) | (with_reducible refine Below.setCell ?_ ?_ _) | (with_reducible refine Below.drew ?_) | (with_reducible refine below_setRow ?_ ?_ _) | (refine Below.trans ?_ (Below.mono (by assumption) ?_)))); all_goals (first | omega | (simp; done) | (simp; omega))))).lvls) (by omega) (by omega) (by omega)).mono ?_
  rintro r w2 ⟨rfl, hb2⟩
  have hz2 := hb2.size
  try simp only [World.size_alloc, World.size_setCell, World.size_drew] at hz2
  have hb2b : Below w1.heap.size w1 w2 := by ((repeat (first | (with_reducible exact Below.refl _ _) | (with_reducible assumption) | (with_reducible refine Below.alloc ?_ ?_ _) | (with_reducible refine Below.setCell ?_ ?_ _) | (with_reducible refine Below.drew ?_) | (with_reducible refine below_setRow ?_ ?_ _) | (refine Below.trans ?_ (Below.mono (by assumption) ?_)))); all_goals (first | omega | (simp; done) | (simp; omega)))
  have kA_ := box_next hb2b hBA kA; clear kA
  have kA := kA_; clear kA_
  have hBA_ := Nat.lt_of_lt_of_le hBA hb2b.size; clear hBA; have hBA := hBA_; clear hBA_
  clear hb2; have hb2 := hb2b; clear hb2b
  go_wp2
  go_ret
  exact ⟨ret_int (by omega), by ((repeat (first | (with_reducible exact Below.refl _ _) | (with_reducible assumption) | (with_reducible refine Below.alloc ?_ ?_ _) | (with_reducible refine Below.setCell ?_ ?_ _) | (with_reducible refine Below.drew ?_) | (with_reducible refine below_setRow ?_ ?_ _) | (refine Below.trans ?_ (Below.mono (by assumption) ?_)))); all_goals (first | omega | (simp; done) | (simp; omega)))⟩
end Go.Proofs.Ytigmdaiecdoimaa
