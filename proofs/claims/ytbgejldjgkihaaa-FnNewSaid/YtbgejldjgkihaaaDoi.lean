/- The program's tests on levels, fields and numbers of a decoder. -/
import Derived.Test.YtbgejldjgkihaaaDok5
namespace Go.Proofs.Ytbgejldjgkihaaa
set_option linter.unusedSimpArgs false
set_option linter.unusedVariables false
open Go.ChangeShapes Go.WideShapes Go.ChangeAt Go.RowKit Go.BigFrame

theorem isShape_any (p : Pl) (a : Option Addr) (cap n : Nat) (k : Int) (w : World) (hn : n ≤ 1048576) : Calls Try.prog 165 #[p.val (.slice a n cap), .int .i64 k] w fun r w' => r = .returned (.bool (inB k 0 (n - 1))) ∧ Below w.heap.size w w' := by
  go_enter Try.func165, Try.ntmps165
  go_wp2_with (first | (go_at_call 60; refine (within_any _ _ _ _).mono ?_; rintro r w1 ⟨rfl, rfl⟩))
  go_ret
  exact ⟨rfl, by ((repeat (first | (with_reducible exact Below.refl _ _) | (with_reducible assumption) | (with_reducible refine Below.alloc ?_ ?_ _) | (with_reducible refine Below.setCell ?_ ?_ _) | (with_reducible refine Below.drew ?_) | (with_reducible refine below_setRow ?_ ?_ _) | (refine Below.trans ?_ (Below.mono (by assumption) ?_)))); all_goals (first | omega | (simp; done) | (simp; omega)))⟩
theorem isLevel_any (p : Pl) (a : Option Addr) (cap n : Nat) (l : Lvl) (w : World) (hn : n ≤ 1048576) : Calls Try.prog 120 #[p.val (.slice a n cap), l.val] w fun r w' => r = .returned (.bool (lvlOk n l)) ∧ Below w.heap.size w w' := by
  obtain ⟨lm, ll⟩ := l
  go_enter Try.func120, Try.ntmps120
  go_wp2_with fail
  refine (isShape_any p a cap n lm _ hn).mono ?_
  rintro r w1 ⟨rfl, hb1⟩
  have hz1 := hb1.size
  try simp only [World.size_alloc, World.size_setCell, World.size_drew] at hz1
  have hb1b : Below w.heap.size w w1 := by ((repeat (first | (with_reducible exact Below.refl _ _) | (with_reducible assumption) | (with_reducible refine Below.alloc ?_ ?_ _) | (with_reducible refine Below.setCell ?_ ?_ _) | (with_reducible refine Below.drew ?_) | (with_reducible refine below_setRow ?_ ?_ _) | (refine Below.trans ?_ (Below.mono (by assumption) ?_)))); all_goals (first | omega | (simp; done) | (simp; omega)))
  have kL := box_new0 hb1
  have hBL := box_lt0 hb1
  try simp only [World.size_alloc, World.size_setCell, World.size_drew] at kL
  try simp only [World.size_alloc, World.size_setCell, World.size_drew] at hBL
  have kP := box_new1 hb1
  have hBP := box_lt1 hb1
  try simp only [World.size_alloc, World.size_setCell, World.size_drew] at kP
  try simp only [World.size_alloc, World.size_setCell, World.size_drew] at hBP
  clear hb1; have hb1 := hb1b; clear hb1b
  cases hs : inB lm 0 (n - 1)
  · go_wp2
    go_ret
    exact ⟨ret_bool (by simp [lvlOk, hs]), by ((repeat (first | (with_reducible exact Below.refl _ _) | (with_reducible assumption) | (with_reducible refine Below.alloc ?_ ?_ _) | (with_reducible refine Below.setCell ?_ ?_ _) | (with_reducible refine Below.drew ?_) | (with_reducible refine below_setRow ?_ ?_ _) | (refine Below.trans ?_ (Below.mono (by assumption) ?_)))); all_goals (first | omega | (simp; done) | (simp; omega)))⟩
  · go_wp2_with (first | (go_at_call 60; refine (within_any _ _ _ _).mono ?_; rintro r w2 ⟨rfl, rfl⟩))
    go_ret
    exact ⟨ret_bool (by simp [lvlOk, hs]), by ((repeat (first | (with_reducible exact Below.refl _ _) | (with_reducible assumption) | (with_reducible refine Below.alloc ?_ ?_ _) | (with_reducible refine Below.setCell ?_ ?_ _) | (with_reducible refine Below.drew ?_) | (with_reducible refine below_setRow ?_ ?_ _) | (refine Below.trans ?_ (Below.mono (by assumption) ?_)))); all_goals (first | omega | (simp; done) | (simp; omega)))⟩
theorem levelsOk1_any (d : Dc) (a : Option Addr) (cap n : Nat) (st : Value) (l : Lvl) (B : Nat) (w : World) (hn : n ≤ 1048576) (hB : B < w.heap.size) (kB : ∀ i : Nat, w.cell? ⟨B, i, none⟩ = (#[.slice a n cap, .int .i64 d.p.root, .int .i64 d.p.deep, .int .i64 d.p.most, .int .i64 d.mode, st, .int .u64 d.bits, .int .i64 d.have_, .int .i64 d.start, .int .i64 d.at_, .int .i64 d.field.number, .int .i64 d.field.kind, .bool d.field.rep, .bool d.field.packed, .int .i64 d.field.msg, .int .i64 d.wire, .int .i64 d.want, .int .i64 d.utf.want, .int .i64 d.utf.low, .int .i64 d.utf.high, .int .i64 d.end_.kind, .int .i64 d.end_.field, .int .u64 d.end_.bits, .int .i64 d.end_.len, .string d.end_.text, .int .i64 d.end_.code, .int .i64 d.end_.at_] : Array Value)[i]?) :
    Calls Try.prog 119 #[l.val, .pointer (some ⟨B, 0, none⟩)] w fun r w' => r = .returned (.bool (!lvlOk n l)) ∧ Below w.heap.size w w' := by
  go_enter Try.func119, Try.ntmps119
  go_wp2_with fail
  refine (isLevel_any d.p a cap n l _ hn).mono ?_
  rintro r w1 ⟨rfl, hb1⟩
  go_wp2
  go_ret
  exact ⟨rfl, by ((repeat (first | (with_reducible exact Below.refl _ _) | (with_reducible assumption) | (with_reducible refine Below.alloc ?_ ?_ _) | (with_reducible refine Below.setCell ?_ ?_ _) | (with_reducible refine Below.drew ?_) | (with_reducible refine below_setRow ?_ ?_ _) | (refine Below.trans ?_ (Below.mono (by assumption) ?_)))); all_goals (first | omega | (simp; done) | (simp; omega)))⟩
theorem none_bad {n : Nat} {ls : List Lvl} (h : ls.all (lvlOk n) = true) : decide ((0 : Int) ≤ -1) = !(ls.all (lvlOk n)) := by rw [h]; rfl
theorem some_bad {n : Nat} {ls : List Lvl} {k : Nat} {e : Lvl} (he : ls[k]? = some e) (h : lvlOk n e = false) : decide ((0 : Int) ≤ (k : Int)) = !(ls.all (lvlOk n)) := by rw [all_bad he h]; simp
set_option maxHeartbeats 2000000 in
theorem indexFuncLvl_any (d : Dc) (a : Option Addr) (cap n : Nat) (st : Value) (sa : Option Addr) (scap m : Nat) (ls : List Lvl) (B : Nat) (w : World) (h' : Lvls w sa ls) (hl : ls.length = m) (hn : n ≤ 1048576) (hm' : m ≤ 1048576) (hB : B < w.heap.size) (kB : ∀ i : Nat, w.cell? ⟨B, i, none⟩ = (#[.slice a n cap, .int .i64 d.p.root, .int .i64 d.p.deep, .int .i64 d.p.most, .int .i64 d.mode, st, .int .u64 d.bits, .int .i64 d.have_, .int .i64 d.start, .int .i64 d.at_, .int .i64 d.field.number, .int .i64 d.field.kind, .bool d.field.rep, .bool d.field.packed, .int .i64 d.field.msg, .int .i64 d.wire, .int .i64 d.want, .int .i64 d.utf.want, .int .i64 d.utf.low, .int .i64 d.utf.high, .int .i64 d.end_.kind, .int .i64 d.end_.field, .int .u64 d.end_.bits, .int .i64 d.end_.len, .string d.end_.text, .int .i64 d.end_.code, .int .i64 d.end_.at_] : Array Value)[i]?) :
    Calls Try.prog 164 #[.slice sa m scap, .func (.func 119) #[] #[.pointer (some ⟨B, 0, none⟩)]] w fun r w' => (∃ i : Int, r = .returned (.int .i64 i) ∧ decide (0 ≤ i) = !(ls.all (lvlOk n))) ∧ Below w.heap.size w w' := by
  have HL := Lib.hid hl; clear hl
  have HSl := Lib.hid h'; clear h'
  have HKB := Lib.hid kB; clear kB
  go_enter Try.func164, Try.ntmps164
  go_wp2
  go_loopw [4, 8] (fun t i wr => ∃ k : Nat, k ≤ m ∧ i = .int .i64 k ∧ Hid ((ls.take k).all (lvlOk n) = true) ∧ Below w.heap.size w wr) (fun _ i _ => m - (intOf i).toNat)
  case atStart => exact ⟨0, Nat.zero_le _, rfl, Lib.hid (by simp), Below.refl _ _⟩
  case round =>
    obtain ⟨k, hk, rfl, HK, hb⟩ := hrel
    have hz := hb.size
    have HK1 := Lib.hid (box_next hb hB HKB.out)
    by_cases hlt : k < m
    · obtain ⟨e, he, _⟩ := at_lt (xs := ls) (k := k) (by rw [HL.out]; exact hlt)
      have HE := Lib.hid he
      obtain ⟨b, off, rfl, hlb, c0, c1⟩ := Lvls.at (HSl.out.below hb (Nat.le_refl _)) he
      clear he
      obtain ⟨em, el⟩ := e
      cases hi : lvlOk n ⟨em, el⟩
      · have H := Lib.hid (some_bad HE.out hi)
        go_wp2_with fail
        refine (levelsOk1_any d a cap n st ⟨em, el⟩ B _ hn (by omega) HK1.out).mono ?_
        rintro r w2 ⟨rfl, hb2⟩
        rw [hi]
        go_wp2
        go_ret
        exact ⟨⟨_, rfl, H.out⟩, by ((repeat (first | (with_reducible exact Below.refl _ _) | (with_reducible assumption) | (with_reducible refine Below.alloc ?_ ?_ _) | (with_reducible refine Below.setCell ?_ ?_ _) | (with_reducible refine Below.drew ?_) | (with_reducible refine below_setRow ?_ ?_ _) | (refine Below.trans ?_ (Below.mono (by assumption) ?_)))); all_goals (first | omega | (simp; done) | (simp; omega)))⟩
      · have H := Lib.hid (show (ls.take (k + 1)).all (lvlOk n) = true by rw [all_snoc HE.out, HK.out, hi]; rfl)
        go_wp2_with fail
        refine (levelsOk1_any d a cap n st ⟨em, el⟩ B _ hn (by omega) HK1.out).mono ?_
        rintro r w2 ⟨rfl, hb2⟩
        have hz2 := hb2.size
        rw [hi]
        go_wp2
        go_roundw
        case rel => exact ⟨k + 1, by omega, by go_num, H, by ((repeat (first | (with_reducible exact Below.refl _ _) | (with_reducible assumption) | (with_reducible refine Below.alloc ?_ ?_ _) | (with_reducible refine Below.setCell ?_ ?_ _) | (with_reducible refine Below.drew ?_) | (with_reducible refine below_setRow ?_ ?_ _) | (refine Below.trans ?_ (Below.mono (by assumption) ?_)))); all_goals (first | omega | (simp; done) | (simp; omega)))⟩
        case measure => simp [intOf]; omega
    · have H := Lib.hid (none_bad (n := n) (ls := ls) (by have := HK.out; rw [List.take_of_length_le (by rw [HL.out]; omega)] at this; exact this))
      go_wp2
      go_ret
      exact ⟨⟨_, rfl, H.out⟩, hb⟩
theorem containsFuncLvl_any (d : Dc) (a : Option Addr) (cap n : Nat) (st : Value) (sa : Option Addr) (scap m : Nat) (ls : List Lvl) (B : Nat) (w : World) (h' : Lvls w sa ls) (hl : ls.length = m) (hn : n ≤ 1048576) (hm' : m ≤ 1048576) (hB : B < w.heap.size) (kB : ∀ i : Nat, w.cell? ⟨B, i, none⟩ = (#[.slice a n cap, .int .i64 d.p.root, .int .i64 d.p.deep, .int .i64 d.p.most, .int .i64 d.mode, st, .int .u64 d.bits, .int .i64 d.have_, .int .i64 d.start, .int .i64 d.at_, .int .i64 d.field.number, .int .i64 d.field.kind, .bool d.field.rep, .bool d.field.packed, .int .i64 d.field.msg, .int .i64 d.wire, .int .i64 d.want, .int .i64 d.utf.want, .int .i64 d.utf.low, .int .i64 d.utf.high, .int .i64 d.end_.kind, .int .i64 d.end_.field, .int .u64 d.end_.bits, .int .i64 d.end_.len, .string d.end_.text, .int .i64 d.end_.code, .int .i64 d.end_.at_] : Array Value)[i]?) :
    Calls Try.prog 118 #[.slice sa m scap, .func (.func 119) #[] #[.pointer (some ⟨B, 0, none⟩)]] w fun r w' => r = .returned (.bool (!(ls.all (lvlOk n)))) ∧ Below w.heap.size w w' := by
  have HKB := Lib.hid kB; clear kB
  go_enter Try.func118, Try.ntmps118
  go_wp2_with fail
  refine (indexFuncLvl_any d a cap n st sa scap m ls B _ h' hl hn hm' hB HKB.out).mono ?_
  rintro r w1 ⟨⟨i, rfl, hi⟩, hb1⟩
  have H := Lib.hid hi; clear hi
  go_wp2
  go_ret
  exact ⟨ret_bool (by rw [← H.out]), hb1⟩
set_option maxRecDepth 100000 in
set_option maxHeartbeats 4000000 in
theorem levelsOk_any (d : Dc) (a : Option Addr) (cap n : Nat) (xs : List Shp) (sa : Option Addr) (scap m : Nat) (ls : List Lvl) (w : World) (h : Shs w a xs) (h' : Lvls w sa ls) (hx : xs.length = n) (hl : ls.length = m) (hn : n ≤ 1048576) (hm : fldSum xs ≤ 1048576) (hm' : m ≤ 1048576) :
    Calls Try.prog 67 #[d.val (.slice a n cap) (.slice sa m scap)] w fun r w' => r = .returned (.bool (planOk d.p xs && (decide ((m : Int) ≤ d.p.deep) && ls.all (lvlOk n)))) ∧ Below w.heap.size w w' := by
  have HL := Lib.hid hl; clear hl
  have HX := Lib.hid hx; clear hx
  have HSs := Lib.hid h; clear h
  have HSl := Lib.hid h'; clear h'
  go_enter Try.func67, Try.ntmps67
  go_wp2_with fail
  refine (implPlanOk_any a cap n d.p xs _ (HSs.out.keep (by ((repeat (first | (with_reducible exact Below.refl _ _) | (with_reducible assumption) | (with_reducible refine Below.alloc ?_ ?_ _) | (with_reducible refine Below.setCell ?_ ?_ _) | (with_reducible refine Below.drew ?_) | (with_reducible refine below_setRow ?_ ?_ _) | (refine Below.trans ?_ (Below.mono (by assumption) ?_)))); all_goals (first | omega | (simp; done) | (simp; omega))))) HX.out hn hm).mono ?_
  rintro r w1 ⟨rfl, hb1⟩
  have hz1 := hb1.size
  try simp only [World.size_alloc, World.size_setCell, World.size_drew] at hz1
  have hb1b : Below w.heap.size w w1 := by ((repeat (first | (with_reducible exact Below.refl _ _) | (with_reducible assumption) | (with_reducible refine Below.alloc ?_ ?_ _) | (with_reducible refine Below.setCell ?_ ?_ _) | (with_reducible refine Below.drew ?_) | (with_reducible refine below_setRow ?_ ?_ _) | (refine Below.trans ?_ (Below.mono (by assumption) ?_)))); all_goals (first | omega | (simp; done) | (simp; omega)))
  have kA := box_new0 hb1
  have hBA := box_lt0 hb1
  try simp only [World.size_alloc, World.size_setCell, World.size_drew] at kA
  try simp only [World.size_alloc, World.size_setCell, World.size_drew] at hBA
  clear hb1; have hb1 := hb1b; clear hb1b
  cases h1 : planOk d.p xs
  · go_wp2
    go_ret
    exact ⟨ret_bool (by simp [h1]), by ((repeat (first | (with_reducible exact Below.refl _ _) | (with_reducible assumption) | (with_reducible refine Below.alloc ?_ ?_ _) | (with_reducible refine Below.setCell ?_ ?_ _) | (with_reducible refine Below.drew ?_) | (with_reducible refine below_setRow ?_ ?_ _) | (refine Below.trans ?_ (Below.mono (by assumption) ?_)))); all_goals (first | omega | (simp; done) | (simp; omega)))⟩
  · by_cases h2 : (m : Int) ≤ d.p.deep
    · have hd : decide ((m : Int) ≤ d.p.deep) = true := by simp [h2]
      go_wp2_with fail
      refine (containsFuncLvl_any d a cap n (.slice sa m scap) sa scap m ls w.heap.size _ (Sl.keep HSl.out (by ((repeat (first | (with_reducible exact Below.refl _ _) | (with_reducible assumption) | (with_reducible refine Below.alloc ?_ ?_ _) | (with_reducible refine Below.setCell ?_ ?_ _) | (with_reducible refine Below.drew ?_) | (with_reducible refine below_setRow ?_ ?_ _) | (refine Below.trans ?_ (Below.mono (by assumption) ?_)))); all_goals (first | omega | (simp; done) | (simp; omega))))) HL.out hn hm' hBA kA).mono ?_
      rintro r w2 ⟨rfl, hb2⟩
      go_wp2
      go_ret
      exact ⟨ret_bool (by simp [h1, h2]), by ((repeat (first | (with_reducible exact Below.refl _ _) | (with_reducible assumption) | (with_reducible refine Below.alloc ?_ ?_ _) | (with_reducible refine Below.setCell ?_ ?_ _) | (with_reducible refine Below.drew ?_) | (with_reducible refine below_setRow ?_ ?_ _) | (refine Below.trans ?_ (Below.mono (by assumption) ?_)))); all_goals (first | omega | (simp; done) | (simp; omega)))⟩
    · have hd : decide ((m : Int) ≤ d.p.deep) = false := by simp [h2]
      go_wp2
      go_ret
      exact ⟨ret_bool (by simp [h1]; intro hq; omega), by ((repeat (first | (with_reducible exact Below.refl _ _) | (with_reducible assumption) | (with_reducible refine Below.alloc ?_ ?_ _) | (with_reducible refine Below.setCell ?_ ?_ _) | (with_reducible refine Below.drew ?_) | (with_reducible refine below_setRow ?_ ?_ _) | (refine Below.trans ?_ (Below.mono (by assumption) ?_)))); all_goals (first | omega | (simp; done) | (simp; omega)))⟩
end Go.Proofs.Ytbgejldjgkihaaa
