/- Shapes and decoders: the marks put and looked at. -/
import Derived.Test.YtbgejldjgkihaaaMarkD
namespace Go.Proofs.Ytbgejldjgkihaaa
set_option linter.unusedSimpArgs false
set_option linter.unusedVariables false
open Go.ChangeShapes Go.WideShapes Go.ChangeAt Go.RowKit Go.BigFrame

/-- w' is w with new blocks, and with writes to the named blocks alone. -/
structure ChgB (P : Nat → Prop) (w w' : World) : Prop where
  os : w'.os = w.os
  tape : w'.tape = w.tape
  output : w'.output = w.output
  size : w.heap.size ≤ w'.heap.size
  block : ∀ k, k < w.heap.size → ¬ P k → w'.heap[k]? = w.heap[k]?
theorem ChgB.refl (P : Nat → Prop) (w : World) : ChgB P w w := ⟨rfl, rfl, rfl, Nat.le_refl _, fun _ _ _ => rfl⟩
theorem ChgB.trans {P : Nat → Prop} {a b c : World} (h : ChgB P a b) (k : ChgB P b c) : ChgB P a c :=
  ⟨k.os.trans h.os, k.tape.trans h.tape, k.output.trans h.output, Nat.le_trans h.size k.size, fun i hi' ho => (k.block i (Nat.lt_of_lt_of_le hi' h.size) ho).trans (h.block i hi' ho)⟩
theorem Chg.toB {P : Nat → Prop} {g e : Nat} {w w' : World} (h : Chg g e w w') (hP : ∀ b, g ≤ b → b < e → P b) : ChgB P w w' :=
  ⟨h.os, h.tape, h.output, h.size, fun k hk hn => h.block k hk (by
    rcases Nat.lt_or_ge k g with h1 | h1
    · exact .inl h1
    · rcases Nat.lt_or_ge k e with h2 | h2
      · exact absurd (hP k h1 h2) hn
      · exact .inr h2)⟩
theorem ChgB.toChg {P : Nat → Prop} {lo hi : Nat} {w w' : World} (h : ChgB P w w') (hP : ∀ b, P b → lo ≤ b ∧ b < hi) : Chg lo hi w w' :=
  ⟨h.os, h.tape, h.output, h.size, fun k hk ho => h.block k hk (fun hp => by have := hP k hp; omega)⟩
theorem OwnR.chgB {P : Nat → Prop} {w w' : World} {lo hi n : Nat} {a : Option Addr} {L : List Value} (h : OwnR w lo hi a n L) (hc : ChgB P w w') (hd : ∀ b, a = some ⟨b, 0, none⟩ → n ≠ 0 → ¬ P b) : OwnR w' lo hi a n L := by
  refine ⟨h.len, ?_⟩
  by_cases hn : n = 0
  · exact .inl hn
  rcases h.own with h0 | ⟨b, ha, h1, h2, h3, h4, h5⟩
  · exact .inl h0
  · have hb := hc.block b h3 (hd b ha hn)
    exact .inr ⟨b, ha, h1, h2, Nat.lt_of_lt_of_le h3 hc.size, fun j u hu => (World.cell?_of_block (a := ⟨b, j, none⟩) hb).trans (h4 j u hu), fun j => (World.frozen?_of_block (a := ⟨b, j, none⟩) hb).trans (h5 j)⟩
/-- The same rows but for the ids. -/
def SameR (rs rs' : List ShR) : Prop := ∀ (i : Nat) (r' : ShR), rs'[i]? = some r' → ∃ r, rs[i]? = some r ∧ r'.a = r.a ∧ r'.n = r.n
theorem SameR.refl (rs : List ShR) : SameR rs rs := fun i r h => ⟨r, h, rfl, rfl⟩
theorem SameR.blk {rs rs' : List ShR} (h : SameR rs rs') {a : Option Addr} {n b : Nat} (hb : ShBlk a n rs' b) : ShBlk a n rs b := by
  rcases hb with hb | ⟨i, r, hr, hn, ha⟩
  · exact .inl hb
  · obtain ⟨r0, h0, h1, h2⟩ := h i r hr
    exact .inr ⟨i, r0, h0, by omega, by rw [← h1]; exact ha⟩
theorem SameR.set {rs rs' : List ShR} (h : SameR rs rs') {k : Nat} {r : ShR} (hr : rs'[k]? = some r) (q : Int) : SameR rs (rs'.set k ⟨q, r.a, r.n, r.cap⟩) := by
  intro i s hs
  rw [List.getElem?_set] at hs
  by_cases hik : k = i
  · subst hik
    rw [if_pos rfl] at hs
    split at hs
    · simp at hs; subst hs
      obtain ⟨r0, h0, h1, h2⟩ := h k r hr
      exact ⟨r0, h0, h1, h2⟩
    · simp at hs
  · rw [if_neg hik] at hs
    exact h i s hs
set_option maxRecDepth 100000 in
set_option maxHeartbeats 2000000 in
theorem markShapeS_any (a : Option Addr) (cap n : Nat) (rs : List ShR) (xs : List Shp) (x : Int) (k : Nat) (hxk : x = k) (lo hi : Nat) (w : World) (ho : OwnSh w lo hi a n rs xs) (hn : n ≤ 1048576) (hm : fldSum xs ≤ 1048576) (h0 : 0 < k) (hk : k ≤ 1000000) :
    Calls Try.prog 97 #[.slice a n cap, .int .i64 x] w fun r w' => r = .returned (.int .i64 (kS k xs n : Nat)) ∧ (∃ rs', OwnSh w' lo hi a n rs' (marksS k xs) ∧ SameR rs rs') ∧ ChgB (ShBlk a n rs) w w' := by
  subst hxk
  have HO0 := Lib.hid ho; clear ho
  go_enter Try.func97, Try.ntmps97
  go_wp2
  go_loopw [1, 5] (fun t i wr => ∃ j q : Nat, j ≤ n ∧ i = .int .i64 j ∧ t = .int .i64 q ∧ Hid (q = kS k xs j) ∧ q ≤ 10000000 ∧ 0 < q ∧ (∃ rs', OwnSh wr lo hi a n rs' (partS k xs j) ∧ SameR rs rs') ∧ ChgB (ShBlk a n rs) w wr) (fun _ i _ => n - (intOf i).toNat)
  case atStart => exact ⟨0, k, Nat.zero_le _, rfl, rfl, Lib.hid (by simp [kS, fldSum]), by omega, h0, ⟨_, by rw [partS_zero]; exact HO0.out, SameR.refl _⟩, ChgB.refl _ _⟩
  case round =>
    obtain ⟨j, q, hj, rfl, rfl, HQ, hq, hq0, ⟨rs', ho, hsr⟩, hc⟩ := hrel
    by_cases hlt : j < n
    · obtain ⟨r, y, hr, hy⟩ := ho.at hlt
      have hxj : j < xs.length := by rw [HO0.out.lenx]; exact hlt
      have he : xs[j]? = some y := by
        rw [partS_at] at hy
        cases hxx : xs[j]? with
        | none => rw [hxx] at hy; simp at hy
        | some z => rw [hxx] at hy; simp at hy; rw [hy]
      obtain ⟨f1, f2, f3⟩ := ho.each j r y hr hy
      obtain ⟨g1, e1, p1, p2, p3, p4⟩ := f3.narrow ho.le
      have hlen := ho.outer.len
      have hcr : ∀ i u, (r.cs)[i]? = some u → i < 2 → (rs'.flatMap ShR.cs)[j * 2 + i]? = some u := fun i u hu hi => by rw [flatMap_at shR_len rs' j i r hr hi]; exact hu
      have hfe := fldSum_ge he
      have hks := Lib.hid (kS_succ (k := k) he)
      have hkl := Lib.hid (kS_le k xs (j + 1))
      have hrn : r.n ≤ 1048576 := by omega
      have HF2 := Lib.hid f2
      have HO := Lib.hid ho
      have HR := Lib.hid hr
      have HY := Lib.hid hy
      have HE := Lib.hid he
      have HP := Lib.hid p4
      have HS := Lib.hid hsr
      have HC := Lib.hid hc
      have HF := Lib.hid p3
      have hn0 := hn
      have hoff := Lib.hid (fun g hg hne => ho.off j r g hr hne hg)
      rcases ho.outer.own with h' | ⟨g, rfl, h1, h2, h3, h4, h5⟩
      · omega
      have d0 : wr.cell? ⟨g, j * 2, none⟩ = some (.int .i64 r.id) := h4 (j * 2) _ (hcr 0 _ rfl (by omega))
      have d1 : wr.cell? ⟨g, j * 2 + 1, none⟩ = some (.slice r.a r.n r.cap) := h4 (j * 2 + 1) _ (hcr 1 _ rfl (by omega))
      clear h4 ho hcr hsr hr hy he p4 hc f3 p3 f1 f2 hfe
      have hrow : OwnR (wr.setCell ⟨g, j * 2, none⟩ (.int .i64 (q : Int))) g1 e1 r.a (r.n * 5) (y.flds.flatMap Fld.cs) := HF.out.chg1 (Chg.setCell (lo := g) (hi := g + 1) (Nat.le_refl _) (by omega) _) fun b hb hne => by
        by_cases hbg : b = g
        · subst hbg; exact absurd hb (hoff.out b rfl (by omega))
        · omega
      have HW := Lib.hid hrow
      clear hrow
      go_wp2_with fail
      refine (markFieldS_any r.a r.cap r.n _ _ (q + 1) (by omega) g1 e1 _ HW.out (by omega) (by omega) (by omega)).mono ?_
      rintro r2 w2 ⟨rfl, hr2, hc2⟩
      have HR2 := Lib.hid hr2; clear hr2
      have HC2 := Lib.hid hc2; clear hc2
      go_wp2
      go_roundw
      case rel =>
        have hqv : q + 1 + 5 * r.n = kS k xs (j + 1) := by have := HQ.out; have := hks.out; have := HF2.out; omega
        refine ⟨j + 1, q + 1 + 5 * r.n, by omega, by go_num, by go_num, Lib.hid hqv, by rw [hqv]; have := hkl.out; omega, by omega, ⟨_, ?_, HS.out.set HR.out (q : Int)⟩, ?_⟩
        · have hp' : r.n = 0 ∧ e1 = g1 ∨ r.n ≠ 0 ∧ e1 = g1 + 1 ∧ r.a = some ⟨g1, 0, none⟩ := by
            rcases HP.out with hh | hh
            · exact .inl ⟨by have := hh.1; omega, hh.2⟩
            · exact .inr ⟨by have := hh.1; omega, hh.2⟩
          have hput := OwnSh.put HO.out hlt HR.out HY.out HR2.out (marksF_len _ _) HC2.out p1 p2 hp'
          rw [← partS_succ HE.out]
          have hmk : markShp k xs j y = ⟨(q : Int), marksF (q + 1) r.n⟩ := by simp only [markShp]; rw [← HQ.out, ← HF2.out]
          rw [hmk]; exact hput
        · refine (HC.out.trans (Chg.toB (Chg.setCell (lo := g) (hi := g + 1) (Nat.le_refl _) (by omega) _) fun b hb1 hb2 => ?_)).trans (Chg.toB HC2.out fun b hb1 hb2 => ?_)
          · have : b = g := by omega
            subst this
            exact .inl ⟨by omega, rfl⟩
          · rcases HP.out with ⟨u, v⟩ | ⟨u, v, z⟩
            · omega
            · have : b = g1 := by omega
              subst this
              exact HS.out.blk (.inr ⟨j, r, HR.out, by omega, z⟩)
      case measure => simp [intOf]; omega
    · have hjn : j = n := by omega
      subst hjn
      have HO := Lib.hid ho; clear ho
      have HC := Lib.hid hc; clear hc
      have HSR := Lib.hid hsr; clear hsr
      go_wp2
      go_ret
      exact ⟨ret_int (by rw [HQ.out]), ⟨rs', by rw [marksS, HO0.out.lenx]; exact HO.out, HSR.out⟩, HC.out⟩
set_option maxRecDepth 100000 in
set_option maxHeartbeats 2000000 in
theorem heldShapeS_any (a : Option Addr) (cap n : Nat) (xs : List Shp) (x : Int) (k : Nat) (hxk : x = k) (w : World) (h : Shs w a (marksS k xs)) (hx : xs.length = n) (hn : n ≤ 1048576) (hm : fldSum xs ≤ 1048576) (h0 : 0 < k) (hk : k ≤ 1000000) :
    Calls Try.prog 98 #[.slice a n cap, .int .i64 x] w fun r w' => r = .returned (.int .i64 (kS k xs n : Nat)) ∧ Below w.heap.size w w' := by
  subst hxk
  have HX := Lib.hid hx; clear hx
  have HSs := Lib.hid h; clear h
  go_enter Try.func98, Try.ntmps98
  go_wp2
  go_loopw [1, 5] (fun t i wr => ∃ j q : Nat, j ≤ n ∧ i = .int .i64 j ∧ t = .int .i64 q ∧ Hid (q = kS k xs j) ∧ q ≤ 10000000 ∧ 0 < q ∧ Below w.heap.size w wr) (fun _ i _ => n - (intOf i).toNat)
  case atStart => exact ⟨0, k, Nat.zero_le _, rfl, rfl, Lib.hid (by simp [kS, fldSum]), by omega, h0, Below.refl _ _⟩
  case round =>
    obtain ⟨j, q, hj, rfl, rfl, HQ, hq, hq0, hb⟩ := hrel
    have hz := hb.size
    by_cases hlt : j < n
    · obtain ⟨e, he, _⟩ := at_lt (xs := xs) (k := j) (by rw [HX.out]; exact hlt)
      obtain ⟨b, off, a', cap', rfl, hlb, c0, c1, hfl⟩ := (HSs.out.below hb (Nat.le_refl _)) j _ (marksS_at he)
      have hfe := fldSum_ge he
      have hks := Lib.hid (kS_succ (k := k) he)
      have hkl := Lib.hid (kS_le k xs (j + 1))
      simp only [markShp, ← HQ.out, marksF_len] at c0 c1 hfl
      have HFl := Lib.hid hfl
      clear he hfl
      go_wp2_with (first
        | (go_at_call 137; refine (heldFieldS_any _ _ _ _ (q + 1) (by omega) _ (Sl.keep HFl.out (by ((repeat (first | (with_reducible exact Below.refl _ _) | (with_reducible assumption) | (with_reducible refine Below.alloc ?_ ?_ _) | (with_reducible refine Below.setCell ?_ ?_ _) | (with_reducible refine Below.drew ?_) | (with_reducible refine below_setRow ?_ ?_ _) | (refine Below.trans ?_ (Below.mono (by assumption) ?_)))); all_goals (first | omega | (simp; done) | (simp; omega))))) (by omega) (by omega) (by omega)).mono ?_; rintro r w2 ⟨rfl, hb2⟩; obtain ⟨hc2, hf2⟩ := bcell hb2; have hz2 := hb2.size; (try simp only [World.size_alloc, World.size_setCell, World.size_drew] at hz2)))
      go_roundw
      case rel => exact ⟨j + 1, q + 1 + 5 * e.flds.length, by omega, by go_num, by go_num, Lib.hid (by have := HQ.out; have := hks.out; omega), by have := hks.out; have := hkl.out; have := HQ.out; omega, by omega, by ((repeat (first | (with_reducible exact Below.refl _ _) | (with_reducible assumption) | (with_reducible refine Below.alloc ?_ ?_ _) | (with_reducible refine Below.setCell ?_ ?_ _) | (with_reducible refine Below.drew ?_) | (with_reducible refine below_setRow ?_ ?_ _) | (refine Below.trans ?_ (Below.mono (by assumption) ?_)))); all_goals (first | omega | (simp; done) | (simp; omega)))⟩
      case measure => simp [intOf]; omega
    · have hjn : j = n := by omega
      subst hjn
      go_wp2
      go_ret
      exact ⟨ret_int (by rw [HQ.out]), hb⟩
set_option maxHeartbeats 1000000 in
theorem markSchema_any (a : Option Addr) (cap n : Nat) (rs : List ShR) (xs : List Shp) (x : Int) (k : Nat) (hxk : x = k) (lo hi : Nat) (w : World) (ho : OwnSh w lo hi a n rs xs) (hn : n ≤ 1048576) (hm : fldSum xs ≤ 1048576) (h0 : 0 < k) (hk : k ≤ 1000000) :
    Calls Try.prog 41 #[.agg #[.slice a n cap], .int .i64 x] w fun r w' => r = .returned (.int .i64 (kS k xs n : Nat)) ∧ (∃ rs', OwnSh w' lo hi a n rs' (marksS k xs) ∧ SameR rs rs') ∧ ChgB (ShBlk a n rs) w w' := by
  subst hxk
  have HO0 := Lib.hid ho; clear ho
  go_enter Try.func41, Try.ntmps41
  go_wp2_with fail
  refine (markShapeS_any a cap n rs xs _ k rfl lo hi _ (HO0.out.keep (by ((repeat (first | (with_reducible exact Below.refl _ _) | (with_reducible assumption) | (with_reducible refine Below.alloc ?_ ?_ _) | (with_reducible refine Below.setCell ?_ ?_ _) | (with_reducible refine Below.drew ?_) | (with_reducible refine below_setRow ?_ ?_ _) | (refine Below.trans ?_ (Below.mono (by assumption) ?_)))); all_goals (first | omega | (simp; done) | (simp; omega))))) hn hm h0 hk).mono ?_
  rintro r w1 ⟨rfl, ⟨rs', ho1, hsr1⟩, hc1⟩
  have HSR := Lib.hid hsr1; clear hsr1
  have HO := Lib.hid ho1; clear ho1
  have HC := Lib.hid hc1; clear hc1
  go_wp2
  go_ret
  exact ⟨rfl, ⟨rs', HO.out, HSR.out⟩, (ChgB.trans (Chg.toB (g := 0) (e := 0) (Chg.of_below (by ((repeat (first | (with_reducible exact Below.refl _ _) | (with_reducible assumption) | (with_reducible refine Below.alloc ?_ ?_ _) | (with_reducible refine Below.setCell ?_ ?_ _) | (with_reducible refine Below.drew ?_) | (with_reducible refine below_setRow ?_ ?_ _) | (refine Below.trans ?_ (Below.mono (by assumption) ?_)))); all_goals (first | omega | (simp; done) | (simp; omega))))) (fun b h1 h2 => by omega)) HC.out)⟩
set_option maxHeartbeats 1000000 in
theorem heldSchema_any (a : Option Addr) (cap n : Nat) (xs : List Shp) (x : Int) (k : Nat) (hxk : x = k) (w : World) (h : Shs w a (marksS k xs)) (hx : xs.length = n) (hn : n ≤ 1048576) (hm : fldSum xs ≤ 1048576) (h0 : 0 < k) (hk : k ≤ 1000000) :
    Calls Try.prog 42 #[.agg #[.slice a n cap], .int .i64 x] w fun r w' => r = .returned (.int .i64 (kS k xs n : Nat)) ∧ Below w.heap.size w w' := by
  subst hxk
  have HX := Lib.hid hx; clear hx
  have HSs := Lib.hid h; clear h
  go_enter Try.func42, Try.ntmps42
  go_wp2_with (first | (go_at_call 98; refine (heldShapeS_any _ _ _ xs _ k rfl _ (HSs.out.keep (by ((repeat (first | (with_reducible exact Below.refl _ _) | (with_reducible assumption) | (with_reducible refine Below.alloc ?_ ?_ _) | (with_reducible refine Below.setCell ?_ ?_ _) | (with_reducible refine Below.drew ?_) | (with_reducible refine below_setRow ?_ ?_ _) | (refine Below.trans ?_ (Below.mono (by assumption) ?_)))); all_goals (first | omega | (simp; done) | (simp; omega))))) HX.out hn hm h0 hk).mono ?_; rintro r w1 ⟨rfl, hb1⟩; obtain ⟨hc1, hf1⟩ := bcell hb1; have hz1 := hb1.size; (try simp only [World.size_alloc, World.size_setCell, World.size_drew] at hz1)))
  go_ret
  exact ⟨rfl, by ((repeat (first | (with_reducible exact Below.refl _ _) | (with_reducible assumption) | (with_reducible refine Below.alloc ?_ ?_ _) | (with_reducible refine Below.setCell ?_ ?_ _) | (with_reducible refine Below.drew ?_) | (with_reducible refine below_setRow ?_ ?_ _) | (refine Below.trans ?_ (Below.mono (by assumption) ?_)))); all_goals (first | omega | (simp; done) | (simp; omega)))⟩
end Go.Proofs.Ytbgejldjgkihaaa
