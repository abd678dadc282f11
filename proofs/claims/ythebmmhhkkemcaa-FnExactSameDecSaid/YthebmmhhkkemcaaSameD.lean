/- Both SameDec. (Printed by wip/tools/samed.py.) -/
import Derived.Test.YthebmmhhkkemcaaDok4
import Derived.Test.YthebmmhhkkemcaaSame
namespace Go.Proofs.Ythebmmhhkkemcaa
set_option linter.unusedSimpArgs false
set_option linter.unusedVariables false
open Go.ChangeShapes Go.WideShapes Go.ChangeAt Go.RowKit Go.BigFrame

def sameDec (d : Dc) (xs : List Shp) (ls : List Lvl) (e : Dc) (ys : List Shp) (ms : List Lvl) : Bool :=
  decide (xs = ys) && ((d.p.root == e.p.root) && ((d.p.deep == e.p.deep) && ((d.p.most == e.p.most) && ((d.mode == e.mode) && (decide (ls = ms) && (sameS d.bits d.have_ e.bits e.have_ && ((d.start == e.start) && ((d.at_ == e.at_) && (sameF ⟨d.field.number, d.field.kind, d.field.rep, d.field.packed, d.field.msg⟩ ⟨e.field.number, e.field.kind, e.field.rep, e.field.packed, e.field.msg⟩ && ((d.wire == e.wire) && ((d.want == e.want) && (sameU ⟨d.utf.want, d.utf.low, d.utf.high⟩ ⟨e.utf.want, e.utf.low, e.utf.high⟩ && (sameEv ⟨d.end_.kind, d.end_.field, d.end_.bits, d.end_.len, d.end_.text, d.end_.code, d.end_.at_⟩ ⟨e.end_.kind, e.end_.field, e.end_.bits, e.end_.len, e.end_.text, e.end_.code, e.end_.at_⟩)))))))))))))
def sameLv (a b a' b' : Int) : Bool := decide (a = a' ∧ b = b')
theorem sameLv_eq (x y : Lvl) : sameLv x.msg x.left y.msg y.left = decide (x = y) := by
  obtain ⟨a, b⟩ := x
  obtain ⟨a', b'⟩ := y
  simp [sameLv]
theorem run_neq_lvl (a b a' b' : Int) (w : World) :
    (binOp .neq 121 (.agg #[.int .i64 a, .int .i64 b]) (.agg #[.int .i64 a', .int .i64 b'])).run Try.prog w = .ok (.bool (!sameLv a b a' b')) w := by
  simp [go_sem, sameLv]
  by_cases h1 : a = a' <;> by_cases h2 : b = b' <;> simp [h1, h2]
theorem run_eql_ev (k f b l c a k' f' b' l' c' a' : Int) (t t' : ByteArray) (w : World) :
    (binOp .eql 72 (.agg #[.int .i64 k, .int .i64 f, .int .u64 b, .int .i64 l, .string t, .int .i64 c, .int .i64 a]) (.agg #[.int .i64 k', .int .i64 f', .int .u64 b', .int .i64 l', .string t', .int .i64 c', .int .i64 a'])).run Try.prog w
      = .ok (.bool (sameEv (Ev.mk k f b l t c a) (Ev.mk k' f' b' l' t' c' a'))) w := by
  simp [go_sem, beq_bytes, sameEv]
  by_cases h1 : k = k' <;> by_cases h2 : f = f' <;> by_cases h3 : b = b' <;> by_cases h4 : l = l' <;> by_cases h5 : t = t' <;> by_cases h6 : c = c' <;> by_cases h7 : a = a' <;> simp [h1, h2, h3, h4, h5, h6, h7]
set_option maxHeartbeats 2000000 in
theorem slicesEqualLvl_any (a a' : Option Addr) (cap cap' n n' : Nat) (xs ys : List Lvl) (w : World) (h : Lvls w a xs) (h' : Lvls w a' ys) (hx : xs.length = n) (hy : ys.length = n') (hn : n ≤ 1048576) (hn' : n' ≤ 1048576) :
    Calls Try.prog 89 #[.slice a n cap, .slice a' n' cap'] w fun r w' => r = .returned (.bool (decide (xs = ys))) ∧ Below w.heap.size w w' := by
  have HX := Lib.hid hx; clear hx
  have HY := Lib.hid hy; clear hy
  by_cases hl : n = n'
  · subst hl
    go_enter Try.func89, Try.ntmps89
    go_wp2
    go_loopw [4, 5, 13] (fun t i j wr => ∃ k : Nat, k ≤ n ∧ j = .int .i64 k ∧ t = .bool false ∧ Hid (xs.take k = ys.take k) ∧ Below w.heap.size w wr) (fun _ _ i _ => n - (intOf i).toNat)
    case atStart => exact ⟨0, Nat.zero_le _, rfl, rfl, Lib.hid rfl, Below.refl _ _⟩
    case round =>
      obtain ⟨k, hk, rfl, rfl, HT, hb⟩ := hrel
      have hz := hb.size
      by_cases hlt : k < n
      · obtain ⟨e, he, _⟩ := at_lt (xs := xs) (k := k) (by rw [HX.out]; exact hlt)
        obtain ⟨f, hf, _⟩ := at_lt (xs := ys) (k := k) (by rw [HY.out]; exact hlt)
        have HE := Lib.hid he
        have HF := Lib.hid hf
        obtain ⟨b, off, rfl, hlb, c0, c1⟩ := Lvls.at (h.below hb (Nat.le_refl _)) he
        obtain ⟨b', off', rfl, hlb', d0, d1⟩ := Lvls.at (h'.below hb (Nat.le_refl _)) hf
        clear he hf
        by_cases hef : e = f
        · have hd : sameLv e.msg e.left f.msg f.left = true := by rw [sameLv_eq]; simp [hef]
          have HD := Lib.hid hef; clear hef
          have HT2 := Lib.hid (take_same HT.out HE.out (by rw [HD.out]; exact HF.out))
          have hne := run_neq_lvl
          go_wp2_with fail
          (refine wp_region_ext (by kernel_rfl) (by kernel_rfl) ?_; (repeat (go_big_quiet_step (fail))); refine wpQuiet_nil ?_; intro w1 hb1; obtain ⟨hc1, hf1⟩ := bcell hb1; have hz1 := hb1.size; (try simp only [World.size_alloc, World.size_setCell, World.size_drew] at hz1))
          go_wp2
          go_roundw
          case rel => exact ⟨k + 1, by omega, by go_num, rfl, HT2, by ((repeat (first | (with_reducible exact Below.refl _ _) | (with_reducible assumption) | (with_reducible refine Below.alloc ?_ ?_ _) | (with_reducible refine Below.setCell ?_ ?_ _) | (with_reducible refine Below.drew ?_) | (with_reducible refine below_setRow ?_ ?_ _) | (refine Below.trans ?_ (Below.mono (by assumption) ?_)))); all_goals (first | omega | (simp; done) | (simp; omega)))⟩
          case measure => simp [intOf]; omega
        · have hd : sameLv e.msg e.left f.msg f.left = false := by rw [sameLv_eq]; simp [hef]
          have HS := Lib.hid (ne_of_at HE.out HF.out hef)
          clear hef
          have hne := run_neq_lvl
          go_wp2_with fail
          (refine wp_region_ext (by kernel_rfl) (by kernel_rfl) ?_; (repeat (go_big_quiet_step (fail))); refine wpQuiet_nil ?_; intro w1 hb1; obtain ⟨hc1, hf1⟩ := bcell hb1; have hz1 := hb1.size; (try simp only [World.size_alloc, World.size_setCell, World.size_drew] at hz1))
          go_wp2
          go_ret
          exact ⟨ret_bool HS.out.symm, by ((repeat (first | (with_reducible exact Below.refl _ _) | (with_reducible assumption) | (with_reducible refine Below.alloc ?_ ?_ _) | (with_reducible refine Below.setCell ?_ ?_ _) | (with_reducible refine Below.drew ?_) | (with_reducible refine below_setRow ?_ ?_ _) | (refine Below.trans ?_ (Below.mono (by assumption) ?_)))); all_goals (first | omega | (simp; done) | (simp; omega)))⟩
      · have HS := Lib.hid (take_end HT.out (by rw [HX.out]; omega) (by rw [HY.out]; omega))
        go_wp2
        go_ret
        exact ⟨ret_bool HS.out.symm, hb⟩
  · have HS := Lib.hid (show decide (xs = ys) = false by
      simp only [decide_eq_false_iff_not]; intro hxy; subst hxy; exact hl (HX.out.symm.trans HY.out))
    have hl' : ((n : Int) != (n' : Int)) = true := by simp; omega
    go_enter Try.func89, Try.ntmps89
    go_wp2
    go_ret
    exact ⟨ret_bool HS.out.symm, Below.refl _ _⟩
set_option maxRecDepth 100000 in
set_option maxHeartbeats 16000000 in
theorem implSameDec_any (d : Dc) (a : Option Addr) (cap n : Nat) (xs : List Shp) (sa : Option Addr) (scap m : Nat) (ls : List Lvl) (e : Dc) (b : Option Addr) (bap k : Nat) (ys : List Shp) (sb : Option Addr) (sbap q : Nat) (ms : List Lvl) (w : World) (h : Shs w a xs) (h' : Lvls w sa ls) (hd : d.ok) (hok : ∀ e ∈ xs, ShpOk e) (hx : xs.length = n) (hl : ls.length = m) (hn : n ≤ 1048576) (hm : fldSum xs ≤ 1048576) (hm' : m ≤ 1048576) (i : Shs w b ys) (i' : Lvls w sb ms) (he : e.ok) (hoky : ∀ e ∈ ys, ShpOk e) (hy : ys.length = k) (hk : ms.length = q) (kn : k ≤ 1048576) (km : fldSum ys ≤ 1048576) (km' : q ≤ 1048576) :
    Calls Try.prog 34 #[d.val (.slice a n cap) (.slice sa m scap), e.val (.slice b k bap) (.slice sb q sbap)] w fun r w' => r = .returned (.bool (sameDec d xs ls e ys ms)) ∧ Below w.heap.size w w' := by
  have HL := Lib.hid hl; clear hl
  have HX := Lib.hid hx; clear hx
  have HK := Lib.hid hk; clear hk
  have HY := Lib.hid hy; clear hy
  have HSs := Lib.hid h; clear h
  have HSl := Lib.hid h'; clear h'
  have HTs := Lib.hid i; clear i
  have HTl := Lib.hid i'; clear i'
  obtain ⟨R, hR⟩ : ∃ R, sameDec d xs ls e ys ms = R := ⟨_, rfl⟩
  rw [hR]
  simp only [sameDec] at hR
  have HR := Lib.hid hR; clear hR
  have q1 := run_eql_fld; have q2 := run_eql_scan; have q3 := run_eql_ut; have q4 := run_eql_ev
  go_enter Try.func34, Try.ntmps34
  go_wp2_with fail
  refine (implSameSchema_any _ _ _ _ _ _ xs ys _ (HSs.out.keep (by ((repeat (first | (with_reducible exact Below.refl _ _) | (with_reducible assumption) | (with_reducible refine Below.alloc ?_ ?_ _) | (with_reducible refine Below.setCell ?_ ?_ _) | (with_reducible refine Below.drew ?_) | (with_reducible refine below_setRow ?_ ?_ _) | (refine Below.trans ?_ (Below.mono (by assumption) ?_)))); all_goals (first | omega | (simp; done) | (simp; omega))))) (HTs.out.keep (by ((repeat (first | (with_reducible exact Below.refl _ _) | (with_reducible assumption) | (with_reducible refine Below.alloc ?_ ?_ _) | (with_reducible refine Below.setCell ?_ ?_ _) | (with_reducible refine Below.drew ?_) | (with_reducible refine below_setRow ?_ ?_ _) | (refine Below.trans ?_ (Below.mono (by assumption) ?_)))); all_goals (first | omega | (simp; done) | (simp; omega))))) HX.out HY.out hn kn hm km).mono ?_
  rintro r w1 ⟨rfl, hb1⟩
  have hz1 := hb1.size
  try simp only [World.size_alloc, World.size_setCell, World.size_drew] at hz1
  have hb1b : Below w.heap.size w w1 := by ((repeat (first | (with_reducible exact Below.refl _ _) | (with_reducible assumption) | (with_reducible refine Below.alloc ?_ ?_ _) | (with_reducible refine Below.setCell ?_ ?_ _) | (with_reducible refine Below.drew ?_) | (with_reducible refine below_setRow ?_ ?_ _) | (refine Below.trans ?_ (Below.mono (by assumption) ?_)))); all_goals (first | omega | (simp; done) | (simp; omega)))
  have kB := box_new0 hb1
  have hBB := box_lt0 hb1
  try simp only [World.size_alloc, World.size_setCell, World.size_drew] at kB
  try simp only [World.size_alloc, World.size_setCell, World.size_drew] at hBB
  have kA := box_new1 hb1
  have hBA := box_lt1 hb1
  try simp only [World.size_alloc, World.size_setCell, World.size_drew] at kA
  try simp only [World.size_alloc, World.size_setCell, World.size_drew] at hBA
  clear hb1; have hb1 := hb1b; clear hb1b
  cases g1 : decide (xs = ys)
  · skip
    have HB := Lib.hid (show false = R by rw [← HR.out]; simp only [g1, Bool.and_false, Bool.false_and, Bool.true_and, Bool.and_true])
    clear HR
    go_wp2_with fail
    go_ret
    exact ⟨ret_bool HB.out, by ((repeat (first | (with_reducible exact Below.refl _ _) | (with_reducible assumption) | (with_reducible refine Below.alloc ?_ ?_ _) | (with_reducible refine Below.setCell ?_ ?_ _) | (with_reducible refine Below.drew ?_) | (with_reducible refine below_setRow ?_ ?_ _) | (refine Below.trans ?_ (Below.mono (by assumption) ?_)))); all_goals (first | omega | (simp; done) | (simp; omega)))⟩
  · skip
    cases g2 : (d.p.root == e.p.root)
    · skip
      have HB := Lib.hid (show false = R by rw [← HR.out]; simp only [g1, g2, Bool.and_false, Bool.false_and, Bool.true_and, Bool.and_true])
      clear HR
      go_wp2_with fail
      go_ret
      exact ⟨ret_bool HB.out, by ((repeat (first | (with_reducible exact Below.refl _ _) | (with_reducible assumption) | (with_reducible refine Below.alloc ?_ ?_ _) | (with_reducible refine Below.setCell ?_ ?_ _) | (with_reducible refine Below.drew ?_) | (with_reducible refine below_setRow ?_ ?_ _) | (refine Below.trans ?_ (Below.mono (by assumption) ?_)))); all_goals (first | omega | (simp; done) | (simp; omega)))⟩
    · skip
      cases g3 : (d.p.deep == e.p.deep)
      · skip
        have HB := Lib.hid (show false = R by rw [← HR.out]; simp only [g1, g2, g3, Bool.and_false, Bool.false_and, Bool.true_and, Bool.and_true])
        clear HR
        go_wp2_with fail
        go_ret
        exact ⟨ret_bool HB.out, by ((repeat (first | (with_reducible exact Below.refl _ _) | (with_reducible assumption) | (with_reducible refine Below.alloc ?_ ?_ _) | (with_reducible refine Below.setCell ?_ ?_ _) | (with_reducible refine Below.drew ?_) | (with_reducible refine below_setRow ?_ ?_ _) | (refine Below.trans ?_ (Below.mono (by assumption) ?_)))); all_goals (first | omega | (simp; done) | (simp; omega)))⟩
      · skip
        cases g4 : (d.p.most == e.p.most)
        · skip
          have HB := Lib.hid (show false = R by rw [← HR.out]; simp only [g1, g2, g3, g4, Bool.and_false, Bool.false_and, Bool.true_and, Bool.and_true])
          clear HR
          go_wp2_with fail
          go_ret
          exact ⟨ret_bool HB.out, by ((repeat (first | (with_reducible exact Below.refl _ _) | (with_reducible assumption) | (with_reducible refine Below.alloc ?_ ?_ _) | (with_reducible refine Below.setCell ?_ ?_ _) | (with_reducible refine Below.drew ?_) | (with_reducible refine below_setRow ?_ ?_ _) | (refine Below.trans ?_ (Below.mono (by assumption) ?_)))); all_goals (first | omega | (simp; done) | (simp; omega)))⟩
        · skip
          cases g5 : (d.mode == e.mode)
          · skip
            have HB := Lib.hid (show false = R by rw [← HR.out]; simp only [g1, g2, g3, g4, g5, Bool.and_false, Bool.false_and, Bool.true_and, Bool.and_true])
            clear HR
            go_wp2_with fail
            go_ret
            exact ⟨ret_bool HB.out, by ((repeat (first | (with_reducible exact Below.refl _ _) | (with_reducible assumption) | (with_reducible refine Below.alloc ?_ ?_ _) | (with_reducible refine Below.setCell ?_ ?_ _) | (with_reducible refine Below.drew ?_) | (with_reducible refine below_setRow ?_ ?_ _) | (refine Below.trans ?_ (Below.mono (by assumption) ?_)))); all_goals (first | omega | (simp; done) | (simp; omega)))⟩
          · skip
            go_wp2_with fail
            refine (slicesEqualLvl_any _ _ _ _ _ _ ls ms _ (Sl.keep HSl.out (by ((repeat (first | (with_reducible exact Below.refl _ _) | (with_reducible assumption) | (with_reducible refine Below.alloc ?_ ?_ _) | (with_reducible refine Below.setCell ?_ ?_ _) | (with_reducible refine Below.drew ?_) | (with_reducible refine below_setRow ?_ ?_ _) | (refine Below.trans ?_ (Below.mono (by assumption) ?_)))); all_goals (first | omega | (simp; done) | (simp; omega))))) (Sl.keep HTl.out (by ((repeat (first | (with_reducible exact Below.refl _ _) | (with_reducible assumption) | (with_reducible refine Below.alloc ?_ ?_ _) | (with_reducible refine Below.setCell ?_ ?_ _) | (with_reducible refine Below.drew ?_) | (with_reducible refine below_setRow ?_ ?_ _) | (refine Below.trans ?_ (Below.mono (by assumption) ?_)))); all_goals (first | omega | (simp; done) | (simp; omega))))) HL.out HK.out hm' km').mono ?_
            rintro r w2 ⟨rfl, hb2⟩
            have hz2 := hb2.size
            try simp only [World.size_alloc, World.size_setCell, World.size_drew] at hz2
            have hb2b : Below w1.heap.size w1 w2 := by ((repeat (first | (with_reducible exact Below.refl _ _) | (with_reducible assumption) | (with_reducible refine Below.alloc ?_ ?_ _) | (with_reducible refine Below.setCell ?_ ?_ _) | (with_reducible refine Below.drew ?_) | (with_reducible refine below_setRow ?_ ?_ _) | (refine Below.trans ?_ (Below.mono (by assumption) ?_)))); all_goals (first | omega | (simp; done) | (simp; omega)))
            have kA_ := box_next hb2b hBA kA; clear kA
            have kA := kA_; clear kA_
            have hBA_ := Nat.lt_of_lt_of_le hBA hb2b.size; clear hBA; have hBA := hBA_; clear hBA_
            have kB_ := box_next hb2b hBB kB; clear kB
            have kB := kB_; clear kB_
            have hBB_ := Nat.lt_of_lt_of_le hBB hb2b.size; clear hBB; have hBB := hBB_; clear hBB_
            clear hb2; have hb2 := hb2b; clear hb2b
            cases g6 : decide (ls = ms)
            · skip
              have HB := Lib.hid (show false = R by rw [← HR.out]; simp only [g1, g2, g3, g4, g5, g6, Bool.and_false, Bool.false_and, Bool.true_and, Bool.and_true])
              clear HR
              go_wp2_with fail
              go_ret
              exact ⟨ret_bool HB.out, by ((repeat (first | (with_reducible exact Below.refl _ _) | (with_reducible assumption) | (with_reducible refine Below.alloc ?_ ?_ _) | (with_reducible refine Below.setCell ?_ ?_ _) | (with_reducible refine Below.drew ?_) | (with_reducible refine below_setRow ?_ ?_ _) | (refine Below.trans ?_ (Below.mono (by assumption) ?_)))); all_goals (first | omega | (simp; done) | (simp; omega)))⟩
            · skip
              cases g7 : sameS d.bits d.have_ e.bits e.have_
              · skip
                have HB := Lib.hid (show false = R by rw [← HR.out]; simp only [g1, g2, g3, g4, g5, g6, g7, Bool.and_false, Bool.false_and, Bool.true_and, Bool.and_true])
                clear HR
                go_wp2_with fail
                go_ret
                exact ⟨ret_bool HB.out, by ((repeat (first | (with_reducible exact Below.refl _ _) | (with_reducible assumption) | (with_reducible refine Below.alloc ?_ ?_ _) | (with_reducible refine Below.setCell ?_ ?_ _) | (with_reducible refine Below.drew ?_) | (with_reducible refine below_setRow ?_ ?_ _) | (refine Below.trans ?_ (Below.mono (by assumption) ?_)))); all_goals (first | omega | (simp; done) | (simp; omega)))⟩
              · skip
                cases g8 : (d.start == e.start)
                · skip
                  have HB := Lib.hid (show false = R by rw [← HR.out]; simp only [g1, g2, g3, g4, g5, g6, g7, g8, Bool.and_false, Bool.false_and, Bool.true_and, Bool.and_true])
                  clear HR
                  go_wp2_with fail
                  go_ret
                  exact ⟨ret_bool HB.out, by ((repeat (first | (with_reducible exact Below.refl _ _) | (with_reducible assumption) | (with_reducible refine Below.alloc ?_ ?_ _) | (with_reducible refine Below.setCell ?_ ?_ _) | (with_reducible refine Below.drew ?_) | (with_reducible refine below_setRow ?_ ?_ _) | (refine Below.trans ?_ (Below.mono (by assumption) ?_)))); all_goals (first | omega | (simp; done) | (simp; omega)))⟩
                · skip
                  cases g9 : (d.at_ == e.at_)
                  · skip
                    have HB := Lib.hid (show false = R by rw [← HR.out]; simp only [g1, g2, g3, g4, g5, g6, g7, g8, g9, Bool.and_false, Bool.false_and, Bool.true_and, Bool.and_true])
                    clear HR
                    go_wp2_with fail
                    go_ret
                    exact ⟨ret_bool HB.out, by ((repeat (first | (with_reducible exact Below.refl _ _) | (with_reducible assumption) | (with_reducible refine Below.alloc ?_ ?_ _) | (with_reducible refine Below.setCell ?_ ?_ _) | (with_reducible refine Below.drew ?_) | (with_reducible refine below_setRow ?_ ?_ _) | (refine Below.trans ?_ (Below.mono (by assumption) ?_)))); all_goals (first | omega | (simp; done) | (simp; omega)))⟩
                  · skip
                    cases g10 : sameF ⟨d.field.number, d.field.kind, d.field.rep, d.field.packed, d.field.msg⟩ ⟨e.field.number, e.field.kind, e.field.rep, e.field.packed, e.field.msg⟩
                    · skip
                      have HB := Lib.hid (show false = R by rw [← HR.out]; simp only [g1, g2, g3, g4, g5, g6, g7, g8, g9, g10, Bool.and_false, Bool.false_and, Bool.true_and, Bool.and_true])
                      clear HR
                      go_wp2_with fail
                      go_ret
                      exact ⟨ret_bool HB.out, by ((repeat (first | (with_reducible exact Below.refl _ _) | (with_reducible assumption) | (with_reducible refine Below.alloc ?_ ?_ _) | (with_reducible refine Below.setCell ?_ ?_ _) | (with_reducible refine Below.drew ?_) | (with_reducible refine below_setRow ?_ ?_ _) | (refine Below.trans ?_ (Below.mono (by assumption) ?_)))); all_goals (first | omega | (simp; done) | (simp; omega)))⟩
                    · skip
                      cases g11 : (d.wire == e.wire)
                      · skip
                        have HB := Lib.hid (show false = R by rw [← HR.out]; simp only [g1, g2, g3, g4, g5, g6, g7, g8, g9, g10, g11, Bool.and_false, Bool.false_and, Bool.true_and, Bool.and_true])
                        clear HR
                        go_wp2_with fail
                        go_ret
                        exact ⟨ret_bool HB.out, by ((repeat (first | (with_reducible exact Below.refl _ _) | (with_reducible assumption) | (with_reducible refine Below.alloc ?_ ?_ _) | (with_reducible refine Below.setCell ?_ ?_ _) | (with_reducible refine Below.drew ?_) | (with_reducible refine below_setRow ?_ ?_ _) | (refine Below.trans ?_ (Below.mono (by assumption) ?_)))); all_goals (first | omega | (simp; done) | (simp; omega)))⟩
                      · skip
                        cases g12 : (d.want == e.want)
                        · skip
                          have HB := Lib.hid (show false = R by rw [← HR.out]; simp only [g1, g2, g3, g4, g5, g6, g7, g8, g9, g10, g11, g12, Bool.and_false, Bool.false_and, Bool.true_and, Bool.and_true])
                          clear HR
                          go_wp2_with fail
                          go_ret
                          exact ⟨ret_bool HB.out, by ((repeat (first | (with_reducible exact Below.refl _ _) | (with_reducible assumption) | (with_reducible refine Below.alloc ?_ ?_ _) | (with_reducible refine Below.setCell ?_ ?_ _) | (with_reducible refine Below.drew ?_) | (with_reducible refine below_setRow ?_ ?_ _) | (refine Below.trans ?_ (Below.mono (by assumption) ?_)))); all_goals (first | omega | (simp; done) | (simp; omega)))⟩
                        · skip
                          cases g13 : sameU ⟨d.utf.want, d.utf.low, d.utf.high⟩ ⟨e.utf.want, e.utf.low, e.utf.high⟩
                          · skip
                            have HB := Lib.hid (show false = R by rw [← HR.out]; simp only [g1, g2, g3, g4, g5, g6, g7, g8, g9, g10, g11, g12, g13, Bool.and_false, Bool.false_and, Bool.true_and, Bool.and_true])
                            clear HR
                            go_wp2_with fail
                            go_ret
                            exact ⟨ret_bool HB.out, by ((repeat (first | (with_reducible exact Below.refl _ _) | (with_reducible assumption) | (with_reducible refine Below.alloc ?_ ?_ _) | (with_reducible refine Below.setCell ?_ ?_ _) | (with_reducible refine Below.drew ?_) | (with_reducible refine below_setRow ?_ ?_ _) | (refine Below.trans ?_ (Below.mono (by assumption) ?_)))); all_goals (first | omega | (simp; done) | (simp; omega)))⟩
                          · skip
                            cases g14 : sameEv ⟨d.end_.kind, d.end_.field, d.end_.bits, d.end_.len, d.end_.text, d.end_.code, d.end_.at_⟩ ⟨e.end_.kind, e.end_.field, e.end_.bits, e.end_.len, e.end_.text, e.end_.code, e.end_.at_⟩
                            · skip
                              have HB := Lib.hid (show false = R by rw [← HR.out]; simp only [g1, g2, g3, g4, g5, g6, g7, g8, g9, g10, g11, g12, g13, g14, Bool.and_false, Bool.false_and, Bool.true_and, Bool.and_true])
                              clear HR
                              go_wp2_with fail
                              go_ret
                              exact ⟨ret_bool HB.out, by ((repeat (first | (with_reducible exact Below.refl _ _) | (with_reducible assumption) | (with_reducible refine Below.alloc ?_ ?_ _) | (with_reducible refine Below.setCell ?_ ?_ _) | (with_reducible refine Below.drew ?_) | (with_reducible refine below_setRow ?_ ?_ _) | (refine Below.trans ?_ (Below.mono (by assumption) ?_)))); all_goals (first | omega | (simp; done) | (simp; omega)))⟩
                            · skip
                              have HB := Lib.hid (show true = R by rw [← HR.out]; simp only [g1, g2, g3, g4, g5, g6, g7, g8, g9, g10, g11, g12, g13, g14, Bool.and_false, Bool.false_and, Bool.true_and, Bool.and_true])
                              clear HR
                              go_wp2_with fail
                              go_ret
                              exact ⟨ret_bool HB.out, by ((repeat (first | (with_reducible exact Below.refl _ _) | (with_reducible assumption) | (with_reducible refine Below.alloc ?_ ?_ _) | (with_reducible refine Below.setCell ?_ ?_ _) | (with_reducible refine Below.drew ?_) | (with_reducible refine below_setRow ?_ ?_ _) | (refine Below.trans ?_ (Below.mono (by assumption) ?_)))); all_goals (first | omega | (simp; done) | (simp; omega)))⟩
end Go.Proofs.Ythebmmhhkkemcaa
