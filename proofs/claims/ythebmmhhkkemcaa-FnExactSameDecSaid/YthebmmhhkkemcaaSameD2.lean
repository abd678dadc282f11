/- The reference's SameDec. (Printed by wip/tools/samed.py.) -/
import Derived.Test.YthebmmhhkkemcaaSameD
namespace Go.Proofs.Ythebmmhhkkemcaa
set_option linter.unusedSimpArgs false
set_option linter.unusedVariables false
open Go.ChangeShapes Go.WideShapes Go.ChangeAt Go.RowKit Go.BigFrame

set_option maxRecDepth 100000 in
set_option maxHeartbeats 16000000 in
theorem specSameDec_any (d : Dc) (a : Option Addr) (cap n : Nat) (xs : List Shp) (sa : Option Addr) (scap m : Nat) (ls : List Lvl) (e : Dc) (b : Option Addr) (bap k : Nat) (ys : List Shp) (sb : Option Addr) (sbap q : Nat) (ms : List Lvl) (w : World) (h : Shs w a xs) (h' : Lvls w sa ls) (hd : d.ok) (hok : ∀ e ∈ xs, ShpOk e) (hx : xs.length = n) (hl : ls.length = m) (hn : n ≤ 1048576) (hm : fldSum xs ≤ 1048576) (hm' : m ≤ 1048576) (i : Shs w b ys) (i' : Lvls w sb ms) (he : e.ok) (hoky : ∀ e ∈ ys, ShpOk e) (hy : ys.length = k) (hk : ms.length = q) (kn : k ≤ 1048576) (km : fldSum ys ≤ 1048576) (km' : q ≤ 1048576) :
    Calls Try.prog 32 #[d.val (.slice a n cap) (.slice sa m scap), e.val (.slice b k bap) (.slice sb q sbap)] w fun r w' => r = .returned (.bool (sameDec d xs ls e ys ms)) ∧ Below w.heap.size w w' := by
  have HL := Lib.hid hl; clear hl
  have HX := Lib.hid hx; clear hx
  have HK := Lib.hid hk; clear hk
  have HY := Lib.hid hy; clear hy
  have HSs := Lib.hid h; clear h
  have HSl := Lib.hid h'; clear h'
  have HTs := Lib.hid i; clear i
  have HTl := Lib.hid i'; clear i'
  obtain ⟨R, hR⟩ : ∃ R, sameDec d xs ls e ys ms = R := ⟨_, rfl⟩
  rw [hR]
  simp only [sameDec] at hR
  have HR := Lib.hid hR; clear hR
  have q1 := run_eql_fld; have q2 := run_eql_scan; have q3 := run_eql_ut; have q4 := run_eql_ev
  go_enter Try.func32, Try.ntmps32
  go_wp2_with fail
  refine (specSameSchema_any _ _ _ _ _ _ xs ys _ (HSs.out.keep (by ((repeat (first | (with_reducible exact Below.refl _ _) | (with_reducible assumption) | (with_reducible refine Below.alloc ?_ ?_ _) | (with_reducible refine Below.setCell ?_ ?_ _) | (with_reducible refine Below.drew ?_) | (with_reducible refine below_setRow ?_ ?_ _) | (refine Below.trans ?_ (Below.mono (by assumption) ?_)))); all_goals (first | omega | (simp; done) | (simp; omega))))) (HTs.out.keep (by ((repeat (first | (with_reducible exact Below.refl _ _) | (with_reducible assumption) | (with_reducible refine Below.alloc ?_ ?_ _) | (with_reducible refine Below.setCell ?_ ?_ _) | (with_reducible refine Below.drew ?_) | (with_reducible refine below_setRow ?_ ?_ _) | (refine Below.trans ?_ (Below.mono (by assumption) ?_)))); all_goals (first | omega | (simp; done) | (simp; omega))))) HX.out HY.out hn kn hm km).mono ?_
  rintro r w1 ⟨rfl, hb1⟩
  have hz1 := hb1.size
  try simp only [World.size_alloc, World.size_setCell, World.size_drew] at hz1
  have hb1b : Below w.heap.size w w1 := by ((repeat (first | (with_reducible exact Below.refl _ _) | (with_reducible assumption) | (with_reducible refine Below.alloc ?_ ?_ _) | (with_reducible refine Below.setCell ?_ ?_ _) | (with_reducible refine Below.drew ?_) | (with_reducible refine below_setRow ?_ ?_ _) | (refine Below.trans ?_ (Below.mono (by assumption) ?_)))); all_goals (first | omega | (simp; done) | (simp; omega)))
  have kB := box_new0 hb1
  have hBB := box_lt0 hb1
  try simp only [World.size_alloc, World.size_setCell, World.size_drew] at kB
  try simp only [World.size_alloc, World.size_setCell, World.size_drew] at hBB
  have kA := box_new1 hb1
  have hBA := box_lt1 hb1
  try simp only [World.size_alloc, World.size_setCell, World.size_drew] at kA
  try simp only [World.size_alloc, World.size_setCell, World.size_drew] at hBA
  clear hb1; have hb1 := hb1b; clear hb1b
  cases g1 : decide (xs = ys)
  · skip
    have HB := Lib.hid (show false = R by rw [← HR.out]; simp only [g1, Bool.and_false, Bool.false_and, Bool.true_and, Bool.and_true])
    clear HR
    go_wp2_with fail
    go_ret
    exact ⟨ret_bool HB.out, by ((repeat (first | (with_reducible exact Below.refl _ _) | (with_reducible assumption) | (with_reducible refine Below.alloc ?_ ?_ _) | (with_reducible refine Below.setCell ?_ ?_ _) | (with_reducible refine Below.drew ?_) | (with_reducible refine below_setRow ?_ ?_ _) | (refine Below.trans ?_ (Below.mono (by assumption) ?_)))); all_goals (first | omega | (simp; done) | (simp; omega)))⟩
  · skip
    cases g2 : (d.p.root == e.p.root)
    · skip
      have n2 : (d.p.root != e.p.root) = true := by simp only [bne, g2]; rfl
      have HB := Lib.hid (show false = R by rw [← HR.out]; simp only [g1, g2, Bool.and_false, Bool.false_and, Bool.true_and, Bool.and_true])
      clear HR
      go_wp2_with fail
      go_ret
      exact ⟨ret_bool HB.out, by ((repeat (first | (with_reducible exact Below.refl _ _) | (with_reducible assumption) | (with_reducible refine Below.alloc ?_ ?_ _) | (with_reducible refine Below.setCell ?_ ?_ _) | (with_reducible refine Below.drew ?_) | (with_reducible refine below_setRow ?_ ?_ _) | (refine Below.trans ?_ (Below.mono (by assumption) ?_)))); all_goals (first | omega | (simp; done) | (simp; omega)))⟩
    · skip
      have n2 : (d.p.root != e.p.root) = false := by simp only [bne, g2]; rfl
      cases g3 : (d.p.deep == e.p.deep)
      · skip
        have n3 : (d.p.deep != e.p.deep) = true := by simp only [bne, g3]; rfl
        have HB := Lib.hid (show false = R by rw [← HR.out]; simp only [g1, g2, g3, Bool.and_false, Bool.false_and, Bool.true_and, Bool.and_true])
        clear HR
        go_wp2_with fail
        go_ret
        exact ⟨ret_bool HB.out, by ((repeat (first | (with_reducible exact Below.refl _ _) | (with_reducible assumption) | (with_reducible refine Below.alloc ?_ ?_ _) | (with_reducible refine Below.setCell ?_ ?_ _) | (with_reducible refine Below.drew ?_) | (with_reducible refine below_setRow ?_ ?_ _) | (refine Below.trans ?_ (Below.mono (by assumption) ?_)))); all_goals (first | omega | (simp; done) | (simp; omega)))⟩
      · skip
        have n3 : (d.p.deep != e.p.deep) = false := by simp only [bne, g3]; rfl
        cases g4 : (d.p.most == e.p.most)
        · skip
          have n4 : (d.p.most != e.p.most) = true := by simp only [bne, g4]; rfl
          have HB := Lib.hid (show false = R by rw [← HR.out]; simp only [g1, g2, g3, g4, Bool.and_false, Bool.false_and, Bool.true_and, Bool.and_true])
          clear HR
          go_wp2_with fail
          go_ret
          exact ⟨ret_bool HB.out, by ((repeat (first | (with_reducible exact Below.refl _ _) | (with_reducible assumption) | (with_reducible refine Below.alloc ?_ ?_ _) | (with_reducible refine Below.setCell ?_ ?_ _) | (with_reducible refine Below.drew ?_) | (with_reducible refine below_setRow ?_ ?_ _) | (refine Below.trans ?_ (Below.mono (by assumption) ?_)))); all_goals (first | omega | (simp; done) | (simp; omega)))⟩
        · skip
          have n4 : (d.p.most != e.p.most) = false := by simp only [bne, g4]; rfl
          by_cases hmq : m = q
          · skip
            subst hmq
            go_wp2
            go_loopw [5] (fun i wr => ∃ j : Nat, j ≤ m ∧ i = .int .i64 j ∧ Hid (ls.take j = ms.take j) ∧ Below w.heap.size w wr ∧ w.heap.size + 1 < wr.heap.size ∧ (∀ i : Nat, wr.cell? ⟨w.heap.size, i, none⟩ = (#[.slice a n cap, .int .i64 d.p.root, .int .i64 d.p.deep, .int .i64 d.p.most, .int .i64 d.mode, .slice sa m scap, .int .u64 d.bits, .int .i64 d.have_, .int .i64 d.start, .int .i64 d.at_, .int .i64 d.field.number, .int .i64 d.field.kind, .bool d.field.rep, .bool d.field.packed, .int .i64 d.field.msg, .int .i64 d.wire, .int .i64 d.want, .int .i64 d.utf.want, .int .i64 d.utf.low, .int .i64 d.utf.high, .int .i64 d.end_.kind, .int .i64 d.end_.field, .int .u64 d.end_.bits, .int .i64 d.end_.len, .string d.end_.text, .int .i64 d.end_.code, .int .i64 d.end_.at_] : Array Value)[i]?) ∧ (∀ i : Nat, wr.cell? ⟨w.heap.size + 1, i, none⟩ = (#[.slice b k bap, .int .i64 e.p.root, .int .i64 e.p.deep, .int .i64 e.p.most, .int .i64 e.mode, .slice sb m sbap, .int .u64 e.bits, .int .i64 e.have_, .int .i64 e.start, .int .i64 e.at_, .int .i64 e.field.number, .int .i64 e.field.kind, .bool e.field.rep, .bool e.field.packed, .int .i64 e.field.msg, .int .i64 e.wire, .int .i64 e.want, .int .i64 e.utf.want, .int .i64 e.utf.low, .int .i64 e.utf.high, .int .i64 e.end_.kind, .int .i64 e.end_.field, .int .u64 e.end_.bits, .int .i64 e.end_.len, .string e.end_.text, .int .i64 e.end_.code, .int .i64 e.end_.at_] : Array Value)[i]?)) (fun i _ => m - (intOf i).toNat)
            case atStart => exact ⟨0, Nat.zero_le _, rfl, Lib.hid rfl, by ((repeat (first | (with_reducible exact Below.refl _ _) | (with_reducible assumption) | (with_reducible refine Below.alloc ?_ ?_ _) | (with_reducible refine Below.setCell ?_ ?_ _) | (with_reducible refine Below.drew ?_) | (with_reducible refine below_setRow ?_ ?_ _) | (refine Below.trans ?_ (Below.mono (by assumption) ?_)))); all_goals (first | omega | (simp; done) | (simp; omega))), by omega, kA, kB⟩
            case round =>
              obtain ⟨j, hj, rfl, HT, hb, hBB2, kA2, kB2⟩ := hrel
              clear kA kB; have kA := kA2; have kB := kB2; clear kA2 kB2
              have hz := hb.size
              have hB0 : w.heap.size < wr.heap.size := by omega
              by_cases hlt : j < m
              · obtain ⟨x, hx, _⟩ := at_lt (xs := ls) (k := j) (by rw [HL.out]; exact hlt)
                obtain ⟨y, hy, _⟩ := at_lt (xs := ms) (k := j) (by rw [HK.out]; exact hlt)
                have HE := Lib.hid hx
                have HF := Lib.hid hy
                obtain ⟨b1, off1, rfl, hlb, c0, c1⟩ := Lvls.at (Sl.keep HSl.out (show Below w.heap.size w wr by ((repeat (first | (with_reducible exact Below.refl _ _) | (with_reducible assumption) | (with_reducible refine Below.alloc ?_ ?_ _) | (with_reducible refine Below.setCell ?_ ?_ _) | (with_reducible refine Below.drew ?_) | (with_reducible refine below_setRow ?_ ?_ _) | (refine Below.trans ?_ (Below.mono (by assumption) ?_)))); all_goals (first | omega | (simp; done) | (simp; omega))))) hx
                obtain ⟨b2, off2, rfl, hlb2, d0, d1⟩ := Lvls.at (Sl.keep HTl.out (show Below w.heap.size w wr by ((repeat (first | (with_reducible exact Below.refl _ _) | (with_reducible assumption) | (with_reducible refine Below.alloc ?_ ?_ _) | (with_reducible refine Below.setCell ?_ ?_ _) | (with_reducible refine Below.drew ?_) | (with_reducible refine below_setRow ?_ ?_ _) | (refine Below.trans ?_ (Below.mono (by assumption) ?_)))); all_goals (first | omega | (simp; done) | (simp; omega))))) hy
                clear hx hy
                by_cases hef : x = y
                · have hd : sameLv x.msg x.left y.msg y.left = true := by rw [sameLv_eq]; simp [hef]
                  have HD := Lib.hid hef; clear hef
                  have HT2 := Lib.hid (take_same HT.out HE.out (by rw [HD.out]; exact HF.out))
                  have hne := run_neq_lvl
                  go_wp2_with fail
                  (refine wp_region_ext (by kernel_rfl) (by kernel_rfl) ?_; (repeat (go_big_quiet_step (fail))); refine wpQuiet_nil ?_; intro w9 hb9; obtain ⟨hc9, hf9⟩ := bcell hb9; have hz9 := hb9.size; (try simp only [World.size_alloc, World.size_setCell, World.size_drew] at hz9))
                  go_wp2
                  go_roundw
                  case rel => exact ⟨j + 1, by omega, by go_num, HT2, by ((repeat (first | (with_reducible exact Below.refl _ _) | (with_reducible assumption) | (with_reducible refine Below.alloc ?_ ?_ _) | (with_reducible refine Below.setCell ?_ ?_ _) | (with_reducible refine Below.drew ?_) | (with_reducible refine below_setRow ?_ ?_ _) | (refine Below.trans ?_ (Below.mono (by assumption) ?_)))); all_goals (first | omega | (simp; done) | (simp; omega))), by omega, box_next hb9 hB0 kA, box_next hb9 hBB2 kB⟩
                  case measure => simp [intOf]; omega
                · have hd : sameLv x.msg x.left y.msg y.left = false := by rw [sameLv_eq]; simp [hef]
                  have g6 := ne_of_at HE.out HF.out hef
                  clear hef
                  have hne := run_neq_lvl
                  have HB := Lib.hid (show false = R by rw [← HR.out]; simp only [g1, g2, g3, g4, g6, Bool.and_false, Bool.false_and, Bool.true_and, Bool.and_true])
                  clear HR
                  go_wp2_with fail
                  (refine wp_region_ext (by kernel_rfl) (by kernel_rfl) ?_; (repeat (go_big_quiet_step (fail))); refine wpQuiet_nil ?_; intro w9 hb9; obtain ⟨hc9, hf9⟩ := bcell hb9; have hz9 := hb9.size; (try simp only [World.size_alloc, World.size_setCell, World.size_drew] at hz9))
                  go_wp2
                  go_ret
                  exact ⟨ret_bool HB.out, by ((repeat (first | (with_reducible exact Below.refl _ _) | (with_reducible assumption) | (with_reducible refine Below.alloc ?_ ?_ _) | (with_reducible refine Below.setCell ?_ ?_ _) | (with_reducible refine Below.drew ?_) | (with_reducible refine below_setRow ?_ ?_ _) | (refine Below.trans ?_ (Below.mono (by assumption) ?_)))); all_goals (first | omega | (simp; done) | (simp; omega)))⟩
              · have g6 := take_end HT.out (by rw [HL.out]; omega) (by rw [HK.out]; omega)
                cases g5 : (d.mode == e.mode)
                · skip
                  have HB := Lib.hid (show false = R by rw [← HR.out]; simp only [g1, g2, g3, g4, g6, g5, Bool.and_false, Bool.false_and, Bool.true_and, Bool.and_true])
                  clear HR
                  go_wp2_with fail
                  go_ret
                  exact ⟨ret_bool HB.out, by ((repeat (first | (with_reducible exact Below.refl _ _) | (with_reducible assumption) | (with_reducible refine Below.alloc ?_ ?_ _) | (with_reducible refine Below.setCell ?_ ?_ _) | (with_reducible refine Below.drew ?_) | (with_reducible refine below_setRow ?_ ?_ _) | (refine Below.trans ?_ (Below.mono (by assumption) ?_)))); all_goals (first | omega | (simp; done) | (simp; omega)))⟩
                · skip
                  cases g7 : sameS d.bits d.have_ e.bits e.have_
                  · skip
                    have HB := Lib.hid (show false = R by rw [← HR.out]; simp only [g1, g2, g3, g4, g6, g5, g7, Bool.and_false, Bool.false_and, Bool.true_and, Bool.and_true])
                    clear HR
                    go_wp2_with fail
                    go_ret
                    exact ⟨ret_bool HB.out, by ((repeat (first | (with_reducible exact Below.refl _ _) | (with_reducible assumption) | (with_reducible refine Below.alloc ?_ ?_ _) | (with_reducible refine Below.setCell ?_ ?_ _) | (with_reducible refine Below.drew ?_) | (with_reducible refine below_setRow ?_ ?_ _) | (refine Below.trans ?_ (Below.mono (by assumption) ?_)))); all_goals (first | omega | (simp; done) | (simp; omega)))⟩
                  · skip
                    cases g8 : (d.start == e.start)
                    · skip
                      have HB := Lib.hid (show false = R by rw [← HR.out]; simp only [g1, g2, g3, g4, g6, g5, g7, g8, Bool.and_false, Bool.false_and, Bool.true_and, Bool.and_true])
                      clear HR
                      go_wp2_with fail
                      go_ret
                      exact ⟨ret_bool HB.out, by ((repeat (first | (with_reducible exact Below.refl _ _) | (with_reducible assumption) | (with_reducible refine Below.alloc ?_ ?_ _) | (with_reducible refine Below.setCell ?_ ?_ _) | (with_reducible refine Below.drew ?_) | (with_reducible refine below_setRow ?_ ?_ _) | (refine Below.trans ?_ (Below.mono (by assumption) ?_)))); all_goals (first | omega | (simp; done) | (simp; omega)))⟩
                    · skip
                      cases g9 : (d.at_ == e.at_)
                      · skip
                        have HB := Lib.hid (show false = R by rw [← HR.out]; simp only [g1, g2, g3, g4, g6, g5, g7, g8, g9, Bool.and_false, Bool.false_and, Bool.true_and, Bool.and_true])
                        clear HR
                        go_wp2_with fail
                        go_ret
                        exact ⟨ret_bool HB.out, by ((repeat (first | (with_reducible exact Below.refl _ _) | (with_reducible assumption) | (with_reducible refine Below.alloc ?_ ?_ _) | (with_reducible refine Below.setCell ?_ ?_ _) | (with_reducible refine Below.drew ?_) | (with_reducible refine below_setRow ?_ ?_ _) | (refine Below.trans ?_ (Below.mono (by assumption) ?_)))); all_goals (first | omega | (simp; done) | (simp; omega)))⟩
                      · skip
                        cases g10 : sameF ⟨d.field.number, d.field.kind, d.field.rep, d.field.packed, d.field.msg⟩ ⟨e.field.number, e.field.kind, e.field.rep, e.field.packed, e.field.msg⟩
                        · skip
                          have HB := Lib.hid (show false = R by rw [← HR.out]; simp only [g1, g2, g3, g4, g6, g5, g7, g8, g9, g10, Bool.and_false, Bool.false_and, Bool.true_and, Bool.and_true])
                          clear HR
                          go_wp2_with fail
                          go_ret
                          exact ⟨ret_bool HB.out, by ((repeat (first | (with_reducible exact Below.refl _ _) | (with_reducible assumption) | (with_reducible refine Below.alloc ?_ ?_ _) | (with_reducible refine Below.setCell ?_ ?_ _) | (with_reducible refine Below.drew ?_) | (with_reducible refine below_setRow ?_ ?_ _) | (refine Below.trans ?_ (Below.mono (by assumption) ?_)))); all_goals (first | omega | (simp; done) | (simp; omega)))⟩
                        · skip
                          cases g11 : (d.wire == e.wire)
                          · skip
                            have HB := Lib.hid (show false = R by rw [← HR.out]; simp only [g1, g2, g3, g4, g6, g5, g7, g8, g9, g10, g11, Bool.and_false, Bool.false_and, Bool.true_and, Bool.and_true])
                            clear HR
                            go_wp2_with fail
                            go_ret
                            exact ⟨ret_bool HB.out, by ((repeat (first | (with_reducible exact Below.refl _ _) | (with_reducible assumption) | (with_reducible refine Below.alloc ?_ ?_ _) | (with_reducible refine Below.setCell ?_ ?_ _) | (with_reducible refine Below.drew ?_) | (with_reducible refine below_setRow ?_ ?_ _) | (refine Below.trans ?_ (Below.mono (by assumption) ?_)))); all_goals (first | omega | (simp; done) | (simp; omega)))⟩
                          · skip
                            cases g12 : (d.want == e.want)
                            · skip
                              have HB := Lib.hid (show false = R by rw [← HR.out]; simp only [g1, g2, g3, g4, g6, g5, g7, g8, g9, g10, g11, g12, Bool.and_false, Bool.false_and, Bool.true_and, Bool.and_true])
                              clear HR
                              go_wp2_with fail
                              go_ret
                              exact ⟨ret_bool HB.out, by ((repeat (first | (with_reducible exact Below.refl _ _) | (with_reducible assumption) | (with_reducible refine Below.alloc ?_ ?_ _) | (with_reducible refine Below.setCell ?_ ?_ _) | (with_reducible refine Below.drew ?_) | (with_reducible refine below_setRow ?_ ?_ _) | (refine Below.trans ?_ (Below.mono (by assumption) ?_)))); all_goals (first | omega | (simp; done) | (simp; omega)))⟩
                            · skip
                              cases g13 : sameU ⟨d.utf.want, d.utf.low, d.utf.high⟩ ⟨e.utf.want, e.utf.low, e.utf.high⟩
                              · skip
                                have HB := Lib.hid (show false = R by rw [← HR.out]; simp only [g1, g2, g3, g4, g6, g5, g7, g8, g9, g10, g11, g12, g13, Bool.and_false, Bool.false_and, Bool.true_and, Bool.and_true])
                                clear HR
                                go_wp2_with fail
                                go_ret
                                exact ⟨ret_bool HB.out, by ((repeat (first | (with_reducible exact Below.refl _ _) | (with_reducible assumption) | (with_reducible refine Below.alloc ?_ ?_ _) | (with_reducible refine Below.setCell ?_ ?_ _) | (with_reducible refine Below.drew ?_) | (with_reducible refine below_setRow ?_ ?_ _) | (refine Below.trans ?_ (Below.mono (by assumption) ?_)))); all_goals (first | omega | (simp; done) | (simp; omega)))⟩
                              · skip
                                cases g14 : sameEv ⟨d.end_.kind, d.end_.field, d.end_.bits, d.end_.len, d.end_.text, d.end_.code, d.end_.at_⟩ ⟨e.end_.kind, e.end_.field, e.end_.bits, e.end_.len, e.end_.text, e.end_.code, e.end_.at_⟩
                                · skip
                                  have HB := Lib.hid (show false = R by rw [← HR.out]; simp only [g1, g2, g3, g4, g6, g5, g7, g8, g9, g10, g11, g12, g13, g14, Bool.and_false, Bool.false_and, Bool.true_and, Bool.and_true])
                                  clear HR
                                  go_wp2_with fail
                                  go_ret
                                  exact ⟨ret_bool HB.out, by ((repeat (first | (with_reducible exact Below.refl _ _) | (with_reducible assumption) | (with_reducible refine Below.alloc ?_ ?_ _) | (with_reducible refine Below.setCell ?_ ?_ _) | (with_reducible refine Below.drew ?_) | (with_reducible refine below_setRow ?_ ?_ _) | (refine Below.trans ?_ (Below.mono (by assumption) ?_)))); all_goals (first | omega | (simp; done) | (simp; omega)))⟩
                                · skip
                                  have HB := Lib.hid (show true = R by rw [← HR.out]; simp only [g1, g2, g3, g4, g5, g6, g7, g8, g9, g10, g11, g12, g13, g14, Bool.and_false, Bool.false_and, Bool.true_and, Bool.and_true])
                                  clear HR
                                  go_wp2_with fail
                                  go_ret
                                  exact ⟨ret_bool HB.out, by ((repeat (first | (with_reducible exact Below.refl _ _) | (with_reducible assumption) | (with_reducible refine Below.alloc ?_ ?_ _) | (with_reducible refine Below.setCell ?_ ?_ _) | (with_reducible refine Below.drew ?_) | (with_reducible refine below_setRow ?_ ?_ _) | (refine Below.trans ?_ (Below.mono (by assumption) ?_)))); all_goals (first | omega | (simp; done) | (simp; omega)))⟩
          · have hl' : ((m : Int) != (q : Int)) = true := by simp; omega
            have g6 : decide (ls = ms) = false := by simp only [decide_eq_false_iff_not]; intro hh; subst hh; exact hmq (HL.out.symm.trans HK.out)
            have HB := Lib.hid (show false = R by rw [← HR.out]; simp only [g1, g2, g3, g4, g6, Bool.and_false, Bool.false_and, Bool.true_and, Bool.and_true])
            clear HR
            go_wp2_with fail
            go_ret
            exact ⟨ret_bool HB.out, by ((repeat (first | (with_reducible exact Below.refl _ _) | (with_reducible assumption) | (with_reducible refine Below.alloc ?_ ?_ _) | (with_reducible refine Below.setCell ?_ ?_ _) | (with_reducible refine Below.drew ?_) | (with_reducible refine below_setRow ?_ ?_ _) | (refine Below.trans ?_ (Below.mono (by assumption) ?_)))); all_goals (first | omega | (simp; done) | (simp; omega)))⟩
end Go.Proofs.Ythebmmhhkkemcaa
