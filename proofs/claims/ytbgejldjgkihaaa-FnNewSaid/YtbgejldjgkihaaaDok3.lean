/- Fields, levels and numbers of a decoder tested. -/
import Derived.Test.YtbgejldjgkihaaaDok2
import Derived.Test.YtbgejldjgkihaaaSame
namespace Go.Proofs.Ytbgejldjgkihaaa
set_option linter.unusedSimpArgs false
set_option linter.unusedVariables false
open Go.ChangeShapes Go.WideShapes Go.ChangeAt Go.RowKit Go.BigFrame

theorem known_yes {f : Fld} {xs : List Shp} {k : Nat} (hk : k < xs.length) (h : fieldAt xs k f.number = (f, true)) : known f xs = true := by
  simp only [known, List.any_eq_true, List.mem_range, decide_eq_true_eq]; exact ⟨k, hk, h⟩
theorem known_no {f : Fld} {xs : List Shp} (h : ∀ j : Nat, j < xs.length → ¬ fieldAt xs j f.number = (f, true)) : known f xs = false := by
  simp only [known, List.any_eq_false, List.mem_range, decide_eq_true_eq]; exact h
def fieldIn (f : Fld) (xs : List Shp) : Bool := decide (f = zeroF) || known f xs
theorem sameF_zero (f : Fld) : sameF ⟨f.number, f.kind, f.rep, f.packed, f.msg⟩ ⟨0, 0, false, false, 0⟩ = decide (f = zeroF) := rfl
set_option maxRecDepth 100000 in
set_option maxHeartbeats 2000000 in
theorem specFieldOk_any (d : Dc) (a : Option Addr) (cap n : Nat) (xs : List Shp) (sa : Option Addr) (scap m : Nat) (ls : List Lvl) (w : World) (h : Shs w a xs) (h' : Lvls w sa ls) (hx : xs.length = n) (hl : ls.length = m) (hn : n ≤ 1048576) (hm : fldSum xs ≤ 1048576) (hm' : m ≤ 1048576) :
    Calls Try.prog 78 #[d.val (.slice a n cap) (.slice sa m scap)] w fun r w' => r = .returned (.bool (fieldIn d.field xs)) ∧ Below w.heap.size w w' := by
  have HX := Lib.hid hx; clear hx
  have HSs := Lib.hid h; clear h
  have hne := run_eql_fld
  by_cases hz : d.field = zeroF
  · have hs : sameF ⟨d.field.number, d.field.kind, d.field.rep, d.field.packed, d.field.msg⟩ ⟨0, 0, false, false, 0⟩ = true := by rw [sameF_zero]; simp [hz]
    have HR := Lib.hid (show fieldIn d.field xs = true by simp [fieldIn, hz])
    clear hz hl
    go_enter Try.func78, Try.ntmps78
    go_wp2
    go_ret
    exact ⟨ret_bool HR.out.symm, by ((repeat (first | (with_reducible exact Below.refl _ _) | (with_reducible assumption) | (with_reducible refine Below.alloc ?_ ?_ _) | (with_reducible refine Below.setCell ?_ ?_ _) | (with_reducible refine Below.drew ?_) | (with_reducible refine below_setRow ?_ ?_ _) | (refine Below.trans ?_ (Below.mono (by assumption) ?_)))); all_goals (first | omega | (simp; done) | (simp; omega)))⟩
  · have hs : sameF ⟨d.field.number, d.field.kind, d.field.rep, d.field.packed, d.field.msg⟩ ⟨0, 0, false, false, 0⟩ = false := by rw [sameF_zero]; simp [hz]
    have HR := Lib.hid (show fieldIn d.field xs = known d.field xs by simp [fieldIn, hz])
    clear hz hl
    go_enter Try.func78, Try.ntmps78
    go_wp2_with fail
    go_loopw [3] (fun i wr => ∃ k : Nat, k ≤ n ∧ i = .int .i64 k ∧ Hid (∀ j : Nat, j < k → ¬ fieldAt xs j d.field.number = (d.field, true)) ∧ Below w.heap.size w wr ∧ w.heap.size < wr.heap.size ∧ (∀ i : Nat, wr.cell? ⟨w.heap.size, i, none⟩ = (#[.slice a n cap, .int .i64 d.p.root, .int .i64 d.p.deep, .int .i64 d.p.most, .int .i64 d.mode, .slice sa m scap, .int .u64 d.bits, .int .i64 d.have_, .int .i64 d.start, .int .i64 d.at_, .int .i64 d.field.number, .int .i64 d.field.kind, .bool d.field.rep, .bool d.field.packed, .int .i64 d.field.msg, .int .i64 d.wire, .int .i64 d.want, .int .i64 d.utf.want, .int .i64 d.utf.low, .int .i64 d.utf.high, .int .i64 d.end_.kind, .int .i64 d.end_.field, .int .u64 d.end_.bits, .int .i64 d.end_.len, .string d.end_.text, .int .i64 d.end_.code, .int .i64 d.end_.at_] : Array Value)[i]?)) (fun i _ => n - (intOf i).toNat)
    case atStart => exact ⟨0, Nat.zero_le _, rfl, Lib.hid (by omega), by ((repeat (first | (with_reducible exact Below.refl _ _) | (with_reducible assumption) | (with_reducible refine Below.alloc ?_ ?_ _) | (with_reducible refine Below.setCell ?_ ?_ _) | (with_reducible refine Below.drew ?_) | (with_reducible refine below_setRow ?_ ?_ _) | (refine Below.trans ?_ (Below.mono (by assumption) ?_)))); all_goals (first | omega | (simp; done) | (simp; omega))), by simp, box_cells (heap_nth0 w _)⟩
    case round =>
      obtain ⟨k, hk, rfl, HK, hb, hBA, kA⟩ := hrel
      have hz := hb.size
      by_cases hlt : k < n
      · obtain ⟨⟨g, ok⟩, hg⟩ : ∃ R, fieldAt xs k d.field.number = R := ⟨_, rfl⟩
        go_wp2_with fail
        refine (specFieldAt_any a cap n xs k d.field.number _ (HSs.out.keep (by ((repeat (first | (with_reducible exact Below.refl _ _) | (with_reducible assumption) | (with_reducible refine Below.alloc ?_ ?_ _) | (with_reducible refine Below.setCell ?_ ?_ _) | (with_reducible refine Below.drew ?_) | (with_reducible refine below_setRow ?_ ?_ _) | (refine Below.trans ?_ (Below.mono (by assumption) ?_)))); all_goals (first | omega | (simp; done) | (simp; omega))))) HX.out hn hm).mono ?_
        rintro r w1 ⟨rfl, hb1⟩
        have hz1 := hb1.size
        try simp only [World.size_alloc, World.size_setCell, World.size_drew] at hz1
        have hb1b : Below wr.heap.size wr w1 := by ((repeat (first | (with_reducible exact Below.refl _ _) | (with_reducible assumption) | (with_reducible refine Below.alloc ?_ ?_ _) | (with_reducible refine Below.setCell ?_ ?_ _) | (with_reducible refine Below.drew ?_) | (with_reducible refine below_setRow ?_ ?_ _) | (refine Below.trans ?_ (Below.mono (by assumption) ?_)))); all_goals (first | omega | (simp; done) | (simp; omega)))
        have kA_ := box_next hb1b hBA kA; clear kA
        have kA := kA_; clear kA_
        have hBA_ := Nat.lt_of_lt_of_le hBA hb1b.size; clear hBA; have hBA := hBA_; clear hBA_
        clear hb1; have hb1 := hb1b; clear hb1b
        rw [hg]
        have HG := Lib.hid hg; clear hg
        obtain ⟨gn, gk, gr, gp, gm⟩ := g
        cases ok
        · have HK2 := Lib.hid (show ∀ j : Nat, j < k + 1 → ¬ fieldAt xs j d.field.number = (d.field, true) from fun j hj => by
            by_cases hjk : j < k
            · exact HK.out j hjk
            · obtain rfl : j = k := by omega
              rw [HG.out]; simp)
          go_wp2
          go_roundw
          case rel => exact ⟨k + 1, by omega, by go_num, HK2, by ((repeat (first | (with_reducible exact Below.refl _ _) | (with_reducible assumption) | (with_reducible refine Below.alloc ?_ ?_ _) | (with_reducible refine Below.setCell ?_ ?_ _) | (with_reducible refine Below.drew ?_) | (with_reducible refine below_setRow ?_ ?_ _) | (refine Below.trans ?_ (Below.mono (by assumption) ?_)))); all_goals (first | omega | (simp; done) | (simp; omega))), by simp; omega, box_next (w := w1) (by ((repeat (first | (with_reducible exact Below.refl _ _) | (with_reducible assumption) | (with_reducible refine Below.alloc ?_ ?_ _) | (with_reducible refine Below.setCell ?_ ?_ _) | (with_reducible refine Below.drew ?_) | (with_reducible refine below_setRow ?_ ?_ _) | (refine Below.trans ?_ (Below.mono (by assumption) ?_)))); all_goals (first | omega | (simp; done) | (simp; omega)))) hBA kA⟩
          case measure => simp [intOf]; omega
        · cases hs2 : sameF ⟨gn, gk, gr, gp, gm⟩ ⟨d.field.number, d.field.kind, d.field.rep, d.field.packed, d.field.msg⟩
          · have HK2 := Lib.hid (show ∀ j : Nat, j < k + 1 → ¬ fieldAt xs j d.field.number = (d.field, true) from fun j hj => by
              by_cases hjk : j < k
              · exact HK.out j hjk
              · obtain rfl : j = k := by omega
                rw [HG.out]; intro h; simp only [Prod.mk.injEq, and_true] at h; rw [h] at hs2; simp [sameF] at hs2)
            go_wp2
            go_roundw
            case rel => exact ⟨k + 1, by omega, by go_num, HK2, by ((repeat (first | (with_reducible exact Below.refl _ _) | (with_reducible assumption) | (with_reducible refine Below.alloc ?_ ?_ _) | (with_reducible refine Below.setCell ?_ ?_ _) | (with_reducible refine Below.drew ?_) | (with_reducible refine below_setRow ?_ ?_ _) | (refine Below.trans ?_ (Below.mono (by assumption) ?_)))); all_goals (first | omega | (simp; done) | (simp; omega))), by simp; omega, box_next (w := w1) (by ((repeat (first | (with_reducible exact Below.refl _ _) | (with_reducible assumption) | (with_reducible refine Below.alloc ?_ ?_ _) | (with_reducible refine Below.setCell ?_ ?_ _) | (with_reducible refine Below.drew ?_) | (with_reducible refine below_setRow ?_ ?_ _) | (refine Below.trans ?_ (Below.mono (by assumption) ?_)))); all_goals (first | omega | (simp; done) | (simp; omega)))) hBA kA⟩
            case measure => simp [intOf]; omega
          · have HR2 := Lib.hid (show fieldIn d.field xs = true by
              rw [HR.out]
              refine known_yes (k := k) (by rw [HX.out]; exact hlt) ?_
              rw [HG.out]; simp only [sameF, decide_eq_true_eq] at hs2; rw [hs2])
            go_wp2
            go_ret
            exact ⟨ret_bool HR2.out.symm, by ((repeat (first | (with_reducible exact Below.refl _ _) | (with_reducible assumption) | (with_reducible refine Below.alloc ?_ ?_ _) | (with_reducible refine Below.setCell ?_ ?_ _) | (with_reducible refine Below.drew ?_) | (with_reducible refine below_setRow ?_ ?_ _) | (refine Below.trans ?_ (Below.mono (by assumption) ?_)))); all_goals (first | omega | (simp; done) | (simp; omega)))⟩
      · have HR2 := Lib.hid (show fieldIn d.field xs = false by
          rw [HR.out]; exact known_no (fun j hj => HK.out j (by rw [HX.out] at hj; omega)))
        go_wp2
        go_ret
        exact ⟨ret_bool HR2.out.symm, by ((repeat (first | (with_reducible exact Below.refl _ _) | (with_reducible assumption) | (with_reducible refine Below.alloc ?_ ?_ _) | (with_reducible refine Below.setCell ?_ ?_ _) | (with_reducible refine Below.drew ?_) | (with_reducible refine below_setRow ?_ ?_ _) | (refine Below.trans ?_ (Below.mono (by assumption) ?_)))); all_goals (first | omega | (simp; done) | (simp; omega)))⟩
def stackOk (d : Dc) (n : Nat) (ls : List Lvl) : Bool := ls.all (lvlOk n) && (if d.mode = 1 then decide (ls.length = 0) else if d.mode = 9 then decide ((ls.length : Int) ≤ d.p.deep) else inB ls.length 1 d.p.deep && decide (1 ≤ topL ls))
theorem all_snoc {n : Nat} {ls : List Lvl} {k : Nat} {e : Lvl} (he : ls[k]? = some e) : (ls.take (k + 1)).all (lvlOk n) = ((ls.take k).all (lvlOk n) && lvlOk n e) := by
  rw [List.take_add_one, he, List.all_append]; simp
theorem all_bad {n : Nat} {ls : List Lvl} {k : Nat} {e : Lvl} (he : ls[k]? = some e) (h : lvlOk n e = false) : ls.all (lvlOk n) = false := by
  rw [List.all_eq_false]; exact ⟨e, List.mem_of_getElem? he, by simp [h]⟩
set_option maxRecDepth 100000 in
set_option maxHeartbeats 4000000 in
theorem specStackOk_any (d : Dc) (a : Option Addr) (cap n : Nat) (xs : List Shp) (sa : Option Addr) (scap m : Nat) (ls : List Lvl) (w : World) (h : Shs w a xs) (h' : Lvls w sa ls) (hx : xs.length = n) (hl : ls.length = m) (hn : n ≤ 1048576) (hm : fldSum xs ≤ 1048576) (hm' : m ≤ 1048576) :
    Calls Try.prog 79 #[d.val (.slice a n cap) (.slice sa m scap)] w fun r w' => r = .returned (.bool (stackOk d n ls)) ∧ Below w.heap.size w w' := by
  have HL := Lib.hid hl; clear hl
  have HX := Lib.hid hx; clear hx
  have HSs := Lib.hid h; clear h
  have HSl := Lib.hid h'; clear h'
  obtain ⟨R, hR⟩ : ∃ R, stackOk d n ls = R := ⟨_, rfl⟩
  rw [hR]
  have HR := Lib.hid hR; clear hR
  go_enter Try.func79, Try.ntmps79
  go_wp2_with fail
  go_loopw [4] (fun i wr => ∃ k : Nat, k ≤ m ∧ i = .int .i64 k ∧ Hid ((ls.take k).all (lvlOk n) = true) ∧ Below w.heap.size w wr ∧ w.heap.size < wr.heap.size ∧ (∀ i : Nat, wr.cell? ⟨w.heap.size, i, none⟩ = (#[.slice a n cap, .int .i64 d.p.root, .int .i64 d.p.deep, .int .i64 d.p.most, .int .i64 d.mode, .slice sa m scap, .int .u64 d.bits, .int .i64 d.have_, .int .i64 d.start, .int .i64 d.at_, .int .i64 d.field.number, .int .i64 d.field.kind, .bool d.field.rep, .bool d.field.packed, .int .i64 d.field.msg, .int .i64 d.wire, .int .i64 d.want, .int .i64 d.utf.want, .int .i64 d.utf.low, .int .i64 d.utf.high, .int .i64 d.end_.kind, .int .i64 d.end_.field, .int .u64 d.end_.bits, .int .i64 d.end_.len, .string d.end_.text, .int .i64 d.end_.code, .int .i64 d.end_.at_] : Array Value)[i]?)) (fun i _ => m - (intOf i).toNat)
  case atStart => exact ⟨0, Nat.zero_le _, rfl, Lib.hid (by simp), by ((repeat (first | (with_reducible exact Below.refl _ _) | (with_reducible assumption) | (with_reducible refine Below.alloc ?_ ?_ _) | (with_reducible refine Below.setCell ?_ ?_ _) | (with_reducible refine Below.drew ?_) | (with_reducible refine below_setRow ?_ ?_ _) | (refine Below.trans ?_ (Below.mono (by assumption) ?_)))); all_goals (first | omega | (simp; done) | (simp; omega))), by simp, box_cells (heap_nth0 w _)⟩
  case round =>
    obtain ⟨k, hk, rfl, HK, hb, hBA, kA⟩ := hrel
    have hz := hb.size
    by_cases hlt : k < m
    · obtain ⟨e, he, _⟩ := at_lt (xs := ls) (k := k) (by rw [HL.out]; exact hlt)
      have HE := Lib.hid he
      obtain ⟨b, off, rfl, hlb, c0, c1⟩ := Lvls.at (HSl.out.below hb (Nat.le_refl _)) he
      clear he
      cases h1 : inB e.msg 0 (n - 1)
      · have HB := Lib.hid (show false = R by rw [← HR.out, stackOk, all_bad HE.out (by simp [lvlOk, h1])]; rfl)
        go_wp2_with fail
        (refine wp_region_ext (by kernel_rfl) (by kernel_rfl) ?_; (repeat (go_big_quiet_step (first | (go_at_call 56; refine Calls.ext_of_same (l1In_any _ _ _ _))))); refine wpQuiet_nil ?_; intro w1 hb1; obtain ⟨hc1, hf1⟩ := bcell hb1; have hz1 := hb1.size; (try simp only [World.size_alloc, World.size_setCell, World.size_drew] at hz1))
        have kA1 := box_next (hb1.mono (Nat.le_refl _)) hBA kA
        go_wp2
        go_ret
        exact ⟨ret_bool HB.out, by ((repeat (first | (with_reducible exact Below.refl _ _) | (with_reducible assumption) | (with_reducible refine Below.alloc ?_ ?_ _) | (with_reducible refine Below.setCell ?_ ?_ _) | (with_reducible refine Below.drew ?_) | (with_reducible refine below_setRow ?_ ?_ _) | (refine Below.trans ?_ (Below.mono (by assumption) ?_)))); all_goals (first | omega | (simp; done) | (simp; omega)))⟩
      · cases h2 : inB e.left 0 2000
        · have HB := Lib.hid (show false = R by rw [← HR.out, stackOk, all_bad HE.out (by simp [lvlOk, h2])]; rfl)
          go_wp2_with fail
          (refine wp_region_ext (by kernel_rfl) (by kernel_rfl) ?_; (repeat (go_big_quiet_step (first | (go_at_call 56; refine Calls.ext_of_same (l1In_any _ _ _ _))))); refine wpQuiet_nil ?_; intro w1 hb1; obtain ⟨hc1, hf1⟩ := bcell hb1; have hz1 := hb1.size; (try simp only [World.size_alloc, World.size_setCell, World.size_drew] at hz1))
          have kA1 := box_next (hb1.mono (Nat.le_refl _)) hBA kA
          go_wp2
          go_ret
          exact ⟨ret_bool HB.out, by ((repeat (first | (with_reducible exact Below.refl _ _) | (with_reducible assumption) | (with_reducible refine Below.alloc ?_ ?_ _) | (with_reducible refine Below.setCell ?_ ?_ _) | (with_reducible refine Below.drew ?_) | (with_reducible refine below_setRow ?_ ?_ _) | (refine Below.trans ?_ (Below.mono (by assumption) ?_)))); all_goals (first | omega | (simp; done) | (simp; omega)))⟩
        · have HK2 := Lib.hid (show (ls.take (k + 1)).all (lvlOk n) = true by rw [all_snoc HE.out, HK.out]; simp [lvlOk, h1, h2])
          go_wp2_with fail
          (refine wp_region_ext (by kernel_rfl) (by kernel_rfl) ?_; (repeat (go_big_quiet_step (first | (go_at_call 56; refine Calls.ext_of_same (l1In_any _ _ _ _))))); refine wpQuiet_nil ?_; intro w1 hb1; obtain ⟨hc1, hf1⟩ := bcell hb1; have hz1 := hb1.size; (try simp only [World.size_alloc, World.size_setCell, World.size_drew] at hz1))
          have kA1 := box_next (hb1.mono (Nat.le_refl _)) hBA kA
          go_wp2
          go_roundw
          case rel => exact ⟨k + 1, by omega, by go_num, HK2, by ((repeat (first | (with_reducible exact Below.refl _ _) | (with_reducible assumption) | (with_reducible refine Below.alloc ?_ ?_ _) | (with_reducible refine Below.setCell ?_ ?_ _) | (with_reducible refine Below.drew ?_) | (with_reducible refine below_setRow ?_ ?_ _) | (refine Below.trans ?_ (Below.mono (by assumption) ?_)))); all_goals (first | omega | (simp; done) | (simp; omega))), by omega, kA1⟩
          case measure => simp [intOf]; omega
    · have hall : ls.all (lvlOk n) = true := by have := HK.out; rw [List.take_of_length_le (by rw [HL.out]; omega)] at this; exact this
      have HR2 := Lib.hid (show (if d.mode = 1 then decide (m = 0) else if d.mode = 9 then decide ((m : Int) ≤ d.p.deep) else inB m 1 d.p.deep && decide (1 ≤ topL ls)) = R by rw [← HR.out, stackOk, hall, HL.out]; rfl)
      clear hall HR HK
      by_cases hm1 : d.mode = 1
      · have HB := Lib.hid (show decide (m = 0) = R by rw [← HR2.out, if_pos hm1])
        go_wp2
        go_ret
        exact ⟨ret_bool (by rw [← HB.out, Bool.eq_iff_iff]; simp), by ((repeat (first | (with_reducible exact Below.refl _ _) | (with_reducible assumption) | (with_reducible refine Below.alloc ?_ ?_ _) | (with_reducible refine Below.setCell ?_ ?_ _) | (with_reducible refine Below.drew ?_) | (with_reducible refine below_setRow ?_ ?_ _) | (refine Below.trans ?_ (Below.mono (by assumption) ?_)))); all_goals (first | omega | (simp; done) | (simp; omega)))⟩
      · by_cases hm9 : d.mode = 9
        · have HB := Lib.hid (show decide ((m : Int) ≤ d.p.deep) = R by rw [← HR2.out, if_neg hm1, if_pos hm9])
          clear hm1
          go_wp2
          go_ret
          exact ⟨ret_bool (by rw [← HB.out]), by ((repeat (first | (with_reducible exact Below.refl _ _) | (with_reducible assumption) | (with_reducible refine Below.alloc ?_ ?_ _) | (with_reducible refine Below.setCell ?_ ?_ _) | (with_reducible refine Below.drew ?_) | (with_reducible refine below_setRow ?_ ?_ _) | (refine Below.trans ?_ (Below.mono (by assumption) ?_)))); all_goals (first | omega | (simp; done) | (simp; omega)))⟩
        · have HB := Lib.hid (show (inB m 1 d.p.deep && decide (1 ≤ topL ls)) = R by rw [← HR2.out, if_neg hm1, if_neg hm9])
          cases hin : inB m 1 d.p.deep
          · rw [hin] at HB
            go_wp2_with (first | (go_at_call 56; refine (l1In_any _ _ _ _).mono ?_; rintro r w1 ⟨rfl, rfl⟩))
            go_ret
            exact ⟨ret_bool HB.out, by ((repeat (first | (with_reducible exact Below.refl _ _) | (with_reducible assumption) | (with_reducible refine Below.alloc ?_ ?_ _) | (with_reducible refine Below.setCell ?_ ?_ _) | (with_reducible refine Below.drew ?_) | (with_reducible refine below_setRow ?_ ?_ _) | (refine Below.trans ?_ (Below.mono (by assumption) ?_)))); all_goals (first | omega | (simp; done) | (simp; omega)))⟩
          · rw [hin] at HB
            go_wp2_with fail
            refine (l1In_any _ _ _ _).mono ?_
            rintro r w1 ⟨rfl, rfl⟩
            rw [hin]
            go_wp2_with (first | ((with_reducible show wpList _ _ _ (⟨_, Op.load 66 _, _, _, _, _⟩ :: _) _ _); first | (refine wpList_load_mid rfl 66 _ rfl w.heap.size 0 rfl (Dc.cl d (.slice a n cap) (.slice sa m scap)) _ (range_of_cells (by assumption)) Try.underlying66 rfl size_Dec ?_) | (refine wpList_load_want 66 _ rfl rfl w.heap.size 0 rfl (Dc.cl d (.slice a n cap) (.slice sa m scap)) _ (range_of_cells (by assumption)) Try.underlying66 rfl size_Dec ?_)))
            refine (specTop_any d a cap n xs sa scap m ls _ (HSs.out.keep (by ((repeat (first | (with_reducible exact Below.refl _ _) | (with_reducible assumption) | (with_reducible refine Below.alloc ?_ ?_ _) | (with_reducible refine Below.setCell ?_ ?_ _) | (with_reducible refine Below.drew ?_) | (with_reducible refine below_setRow ?_ ?_ _) | (refine Below.trans ?_ (Below.mono (by assumption) ?_)))); all_goals (first | omega | (simp; done) | (simp; omega))))) (Sl.keep HSl.out (by ((repeat (first | (with_reducible exact Below.refl _ _) | (with_reducible assumption) | (with_reducible refine Below.alloc ?_ ?_ _) | (with_reducible refine Below.setCell ?_ ?_ _) | (with_reducible refine Below.drew ?_) | (with_reducible refine below_setRow ?_ ?_ _) | (refine Below.trans ?_ (Below.mono (by assumption) ?_)))); all_goals (first | omega | (simp; done) | (simp; omega))))) HX.out HL.out hn hm hm').mono ?_
            rintro r w2 ⟨rfl, hb2⟩
            go_wp2
            go_ret
            exact ⟨ret_bool (by rw [← HB.out]; rfl), by ((repeat (first | (with_reducible exact Below.refl _ _) | (with_reducible assumption) | (with_reducible refine Below.alloc ?_ ?_ _) | (with_reducible refine Below.setCell ?_ ?_ _) | (with_reducible refine Below.drew ?_) | (with_reducible refine below_setRow ?_ ?_ _) | (refine Below.trans ?_ (Below.mono (by assumption) ?_)))); all_goals (first | omega | (simp; done) | (simp; omega)))⟩
end Go.Proofs.Ytbgejldjgkihaaa
