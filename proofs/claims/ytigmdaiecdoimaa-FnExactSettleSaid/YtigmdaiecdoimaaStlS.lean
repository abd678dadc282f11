/- Settling: the reference's function. -/
import Derived.Test.YtigmdaiecdoimaaSetS
namespace Go.Proofs.Ytigmdaiecdoimaa
set_option linter.unusedSimpArgs false
set_option linter.unusedVariables false
open Go.ChangeShapes Go.WideShapes Go.ChangeAt Go.RowKit Go.BigFrame

set_option maxRecDepth 100000 in
set_option maxHeartbeats 1000000 in
theorem specSettle_any (d : Dc) (a : Option Addr) (cap : Nat) (xs : List Shp) (sa : Option Addr) (scap : Nat) (ls : List Lvl) (w : World) (h : ShsC w a xs) (h' : Lvls w sa ls) (hn : xs.length ≤ 1048576) (hm : fldSum xs ≤ 1048576) (hm' : ls.length ≤ 1048576) (hnil : sa = none → scap = 0) :
    Calls Try.prog 40 #[d.val (.slice a xs.length cap) (.slice sa ls.length scap)] w (FreshDE w 38 40 131 67 xs (settleO d xs ls)) := by
  have HSs := Lib.hid h; clear h
  have HSl := Lib.hid h'; clear h'
  go_enter Try.func40, Try.ntmps40
  go_wp2_with (first | (refine wpList_load_mid rfl 69 (.tmp 1) rfl w.heap.size 0 rfl [.slice a xs.length cap, .int .i64 d.p.root, .int .i64 d.p.deep, .int .i64 d.p.most, .int .i64 d.mode, .slice sa ls.length scap, .int .u64 d.bits, .int .i64 d.have_, .int .i64 d.start, .int .i64 d.at_, .int .i64 d.field.number, .int .i64 d.field.kind, .bool d.field.rep, .bool d.field.packed, .int .i64 d.field.msg, .int .i64 d.wire, .int .i64 d.want, .int .i64 d.utf.want, .int .i64 d.utf.low, .int .i64 d.utf.high, .int .i64 d.end_.kind, .int .i64 d.end_.field, .int .u64 d.end_.bits, .int .i64 d.end_.len, .string d.end_.text, .int .i64 d.end_.code, .int .i64 d.end_.at_] _ (range_of_box (t := 69) (hset_alloc (hset_new rfl))) Try.underlying69 rfl size_Dec ?_))
  refine (l15Ok_any d a cap _ xs sa scap _ ls _ (HSs.out.shs.keep (by ((repeat (first | (with_reducible exact Below.refl _ _) | (with_reducible assumption) | (with_reducible refine Below.alloc ?_ ?_ _) | (with_reducible refine Below.setCell ?_ ?_ _) | (with_reducible refine Below.drew ?_) | (with_reducible refine below_setRow ?_ ?_ _) | (refine Below.trans ?_ (Below.mono (by assumption) ?_)))); all_goals (first | omega | (simp; done) | (simp; omega))))) (Sl.keep HSl.out (by ((repeat (first | (with_reducible exact Below.refl _ _) | (with_reducible assumption) | (with_reducible refine Below.alloc ?_ ?_ _) | (with_reducible refine Below.setCell ?_ ?_ _) | (with_reducible refine Below.drew ?_) | (with_reducible refine below_setRow ?_ ?_ _) | (refine Below.trans ?_ (Below.mono (by assumption) ?_)))); all_goals (first | omega | (simp; done) | (simp; omega))))) rfl rfl hn hm hm').mono ?_
  rintro r w1 ⟨rfl, hb1⟩
  have hz1 := hb1.size
  simp only [World.size_alloc] at hz1
  have hA_ : w1.heap[w.heap.size]? = some (.cells #[.slice a xs.length cap, .int .i64 d.p.root, .int .i64 d.p.deep, .int .i64 d.p.most, .int .i64 d.mode, .slice sa ls.length scap, .int .u64 d.bits, .int .i64 d.have_, .int .i64 d.start, .int .i64 d.at_, .int .i64 d.field.number, .int .i64 d.field.kind, .bool d.field.rep, .bool d.field.packed, .int .i64 d.field.msg, .int .i64 d.wire, .int .i64 d.want, .int .i64 d.utf.want, .int .i64 d.utf.low, .int .i64 d.utf.high, .int .i64 d.end_.kind, .int .i64 d.end_.field, .int .u64 d.end_.bits, .int .i64 d.end_.len, .string d.end_.text, .int .i64 d.end_.code, .int .i64 d.end_.at_] 69 (0, 0)) := (hb1.block _ (by simp; omega)).trans (hset_alloc (hset_new rfl))
  have hR_ : w1.heap[w.heap.size + 1]? = some (.cells #[.slice none 0 0, .int .i64 0, .int .i64 0, .int .i64 0, .int .i64 0, .slice none 0 0, .int .u64 0, .int .i64 0, .int .i64 0, .int .i64 0, .int .i64 0, .int .i64 0, .bool false, .bool false, .int .i64 0, .int .i64 0, .int .i64 0, .int .i64 0, .int .i64 0, .int .i64 0, .int .i64 0, .int .i64 0, .int .u64 0, .int .i64 0, .string ⟨#[]⟩, .int .i64 0, .int .i64 0] 69 (0, 0)) := (hb1.block _ (by simp)).trans (hset_new (by simp))
  have hb1b : Below w.heap.size w w1 := by ((repeat (first | (with_reducible exact Below.refl _ _) | (with_reducible assumption) | (with_reducible refine Below.alloc ?_ ?_ _) | (with_reducible refine Below.setCell ?_ ?_ _) | (with_reducible refine Below.drew ?_) | (with_reducible refine below_setRow ?_ ?_ _) | (refine Below.trans ?_ (Below.mono (by assumption) ?_)))); all_goals (first | omega | (simp; done) | (simp; omega)))
  have HA := Lib.hid hA_; clear hA_
  have HR := Lib.hid hR_; clear hR_ hb1
  cases hok : lvOk d xs ls
  · have HO : Hid (settleO d xs ls = (d, ls, [])) := Lib.hid (by simp only [settleO, hok]; rfl)
    go_wp2_with (first | (refine wpList_load_mid rfl 69 (.tmp 1) rfl w.heap.size 0 rfl [.slice a xs.length cap, .int .i64 d.p.root, .int .i64 d.p.deep, .int .i64 d.p.most, .int .i64 d.mode, .slice sa ls.length scap, .int .u64 d.bits, .int .i64 d.have_, .int .i64 d.start, .int .i64 d.at_, .int .i64 d.field.number, .int .i64 d.field.kind, .bool d.field.rep, .bool d.field.packed, .int .i64 d.field.msg, .int .i64 d.wire, .int .i64 d.want, .int .i64 d.utf.want, .int .i64 d.utf.low, .int .i64 d.utf.high, .int .i64 d.end_.kind, .int .i64 d.end_.field, .int .u64 d.end_.bits, .int .i64 d.end_.len, .string d.end_.text, .int .i64 d.end_.code, .int .i64 d.end_.at_] _ (range_of_box (t := 69) HA.out) Try.underlying69 rfl size_Dec ?_))
    refine (l14Copy_any d a cap xs sa scap ls _ (HSs.out.keep (by ((repeat (first | (with_reducible exact Below.refl _ _) | (with_reducible assumption) | (with_reducible refine Below.alloc ?_ ?_ _) | (with_reducible refine Below.setCell ?_ ?_ _) | (with_reducible refine Below.drew ?_) | (with_reducible refine below_setRow ?_ ?_ _) | (refine Below.trans ?_ (Below.mono (by assumption) ?_)))); all_goals (first | omega | (simp; done) | (simp; omega))))) (Sl.keep HSl.out (by ((repeat (first | (with_reducible exact Below.refl _ _) | (with_reducible assumption) | (with_reducible refine Below.alloc ?_ ?_ _) | (with_reducible refine Below.setCell ?_ ?_ _) | (with_reducible refine Below.drew ?_) | (with_reducible refine below_setRow ?_ ?_ _) | (refine Below.trans ?_ (Below.mono (by assumption) ?_)))); all_goals (first | omega | (simp; done) | (simp; omega))))) hn hm hm' hnil).mono ?_
    rintro r w2 ⟨a2, cap2, rs2, sa2, scap2, rfl, ho2, hp2, hb2⟩
    have hz2 := hb2.size
    have HR2 := Lib.hid ((hb2.block _ (by omega)).trans HR.out); clear HR
    have P1 := Lib.hid ho2; clear ho2
    have P2 := Lib.hid hp2; clear hp2
    go_wp2_with (first | (refine wpList_store_row rfl 69 (.tmp 2) (.tmp 8) rfl (w.heap.size + 1) #[.slice a2 xs.length cap2, .int .i64 d.p.root, .int .i64 d.p.deep, .int .i64 d.p.most, .int .i64 d.mode, .slice sa2 ls.length scap2, .int .u64 d.bits, .int .i64 d.have_, .int .i64 d.start, .int .i64 d.at_, .int .i64 d.field.number, .int .i64 d.field.kind, .bool d.field.rep, .bool d.field.packed, .int .i64 d.field.msg, .int .i64 d.wire, .int .i64 d.want, .int .i64 d.utf.want, .int .i64 d.utf.low, .int .i64 d.utf.high, .int .i64 d.end_.kind, .int .i64 d.end_.field, .int .u64 d.end_.bits, .int .i64 d.end_.len, .string d.end_.text, .int .i64 d.end_.code, .int .i64 d.end_.at_] rfl rfl 69 #[.slice none 0 0, .int .i64 0, .int .i64 0, .int .i64 0, .int .i64 0, .slice none 0 0, .int .u64 0, .int .i64 0, .int .i64 0, .int .i64 0, .int .i64 0, .int .i64 0, .bool false, .bool false, .int .i64 0, .int .i64 0, .int .i64 0, .int .i64 0, .int .i64 0, .int .i64 0, .int .i64 0, .int .i64 0, .int .u64 0, .int .i64 0, .string ⟨#[]⟩, .int .i64 0, .int .i64 0] (hset_alloc HR2.out) size_Dec rfl (one_Dec _ _ _ _ _ _ _) ?_))
    rw [HO.out]
    refine finDE (w := w) (R := w.heap.size + 1) (base := w1.heap.size) (e := d) (ms := ls) (es := ([] : List Ev)) (rs := rs2) (a := a2) (cap := cap2) (sa := sa2) (scap := scap2) (ea := some ⟨w2.heap.size, 0, none⟩) (ecap := 0) Try.results40 ?_ ?_ ?_ ?_ ?_ ?_ ?_ (by omega)
    · rfl
    · rfl
    · exact hset_row (cs := #[.slice none 0 0, .int .i64 0, .int .i64 0, .int .i64 0, .int .i64 0, .slice none 0 0, .int .u64 0, .int .i64 0, .int .i64 0, .int .i64 0, .int .i64 0, .int .i64 0, .bool false, .bool false, .int .i64 0, .int .i64 0, .int .i64 0, .int .i64 0, .int .i64 0, .int .i64 0, .int .i64 0, .int .i64 0, .int .u64 0, .int .i64 0, .string ⟨#[]⟩, .int .i64 0, .int .i64 0]) (hset_alloc HR2.out)
    · exact OwnShs.setRow (P1.out.alloc _) (by omega) _
    · exact owns_setRow (P2.out.alloc _) (by omega) _
    · exact owns_setRow (owns_le (own_built w2 67 7) hz2) (by omega) _
    · ((repeat (first | (with_reducible exact Below.refl _ _) | (with_reducible assumption) | (with_reducible refine Below.alloc ?_ ?_ _) | (with_reducible refine Below.setCell ?_ ?_ _) | (with_reducible refine Below.drew ?_) | (with_reducible refine below_setRow ?_ ?_ _) | (refine Below.trans ?_ (Below.mono (by assumption) ?_)))); all_goals (first | omega | (simp; done) | (simp; omega)))
  · have HO : Hid (settleO d xs ls = settle d ls) := Lib.hid (by simp only [settleO, hok]; rfl)
    have h8 := lvOk_le hok
    go_wp2_with (first | (refine wpList_load_mid rfl 69 (.tmp 1) rfl w.heap.size 0 rfl [.slice a xs.length cap, .int .i64 d.p.root, .int .i64 d.p.deep, .int .i64 d.p.most, .int .i64 d.mode, .slice sa ls.length scap, .int .u64 d.bits, .int .i64 d.have_, .int .i64 d.start, .int .i64 d.at_, .int .i64 d.field.number, .int .i64 d.field.kind, .bool d.field.rep, .bool d.field.packed, .int .i64 d.field.msg, .int .i64 d.wire, .int .i64 d.want, .int .i64 d.utf.want, .int .i64 d.utf.low, .int .i64 d.utf.high, .int .i64 d.end_.kind, .int .i64 d.end_.field, .int .u64 d.end_.bits, .int .i64 d.end_.len, .string d.end_.text, .int .i64 d.end_.code, .int .i64 d.end_.at_] _ (range_of_box (t := 69) HA.out) Try.underlying69 rfl size_Dec ?_))
    refine (l14Copy_any d a cap xs sa scap ls _ (HSs.out.keep (by ((repeat (first | (with_reducible exact Below.refl _ _) | (with_reducible assumption) | (with_reducible refine Below.alloc ?_ ?_ _) | (with_reducible refine Below.setCell ?_ ?_ _) | (with_reducible refine Below.drew ?_) | (with_reducible refine below_setRow ?_ ?_ _) | (refine Below.trans ?_ (Below.mono (by assumption) ?_)))); all_goals (first | omega | (simp; done) | (simp; omega))))) (Sl.keep HSl.out (by ((repeat (first | (with_reducible exact Below.refl _ _) | (with_reducible assumption) | (with_reducible refine Below.alloc ?_ ?_ _) | (with_reducible refine Below.setCell ?_ ?_ _) | (with_reducible refine Below.drew ?_) | (with_reducible refine below_setRow ?_ ?_ _) | (refine Below.trans ?_ (Below.mono (by assumption) ?_)))); all_goals (first | omega | (simp; done) | (simp; omega))))) hn hm hm' hnil).mono ?_
    rintro r w2 ⟨a2, cap2, rs2, sa2, scap2, rfl, ho2, hp2, hb2⟩
    have hz2 := hb2.size
    have HR2 := Lib.hid ((hb2.block _ (by omega)).trans HR.out); clear HR
    have P1 := Lib.hid ho2; clear ho2
    have P2 := Lib.hid hp2; clear hp2
    have hb2b : Below w.heap.size w w2 := by ((repeat (first | (with_reducible exact Below.refl _ _) | (with_reducible assumption) | (with_reducible refine Below.alloc ?_ ?_ _) | (with_reducible refine Below.setCell ?_ ?_ _) | (with_reducible refine Below.drew ?_) | (with_reducible refine below_setRow ?_ ?_ _) | (refine Below.trans ?_ (Below.mono (by assumption) ?_)))); all_goals (first | omega | (simp; done) | (simp; omega)))
    clear hb2
    go_wp2_with fail
    refine (l15Settle_any d a2 cap2 _ sa2 scap2 ls w1.heap.size w2 P2.out hz2 h8).mono ?_
    rintro r w3 ⟨sa3, scap3, ea, ecap, rfl, hp3, he3, hb3⟩
    obtain ⟨⟨e, ms, es⟩, hO2⟩ : ∃ O, O = settle d ls := ⟨_, rfl⟩
    rw [← hO2] at hp3 he3 ⊢
    have hz3 := hb3.size
    have HR3 := Lib.hid ((hb3.block _ (by omega)).trans HR2.out); clear HR2
    have P3 := Lib.hid hp3; clear hp3
    have P4 := Lib.hid he3; clear he3
    simp only
    go_wp2_with (first | (refine wpList_store_row rfl 69 (.tmp 2) (.tmp 13) rfl (w.heap.size + 1) #[.slice a2 xs.length cap2, .int .i64 e.p.root, .int .i64 e.p.deep, .int .i64 e.p.most, .int .i64 e.mode, .slice sa3 ms.length scap3, .int .u64 e.bits, .int .i64 e.have_, .int .i64 e.start, .int .i64 e.at_, .int .i64 e.field.number, .int .i64 e.field.kind, .bool e.field.rep, .bool e.field.packed, .int .i64 e.field.msg, .int .i64 e.wire, .int .i64 e.want, .int .i64 e.utf.want, .int .i64 e.utf.low, .int .i64 e.utf.high, .int .i64 e.end_.kind, .int .i64 e.end_.field, .int .u64 e.end_.bits, .int .i64 e.end_.len, .string e.end_.text, .int .i64 e.end_.code, .int .i64 e.end_.at_] rfl rfl 69 #[.slice none 0 0, .int .i64 0, .int .i64 0, .int .i64 0, .int .i64 0, .slice none 0 0, .int .u64 0, .int .i64 0, .int .i64 0, .int .i64 0, .int .i64 0, .int .i64 0, .bool false, .bool false, .int .i64 0, .int .i64 0, .int .i64 0, .int .i64 0, .int .i64 0, .int .i64 0, .int .i64 0, .int .i64 0, .int .u64 0, .int .i64 0, .string ⟨#[]⟩, .int .i64 0, .int .i64 0] HR3.out size_Dec rfl (one_Dec _ _ _ _ _ _ _) ?_))
    rw [HO.out, ← hO2]
    refine finDE (w := w) (R := w.heap.size + 1) (base := w1.heap.size) (e := e) (ms := ms) (es := es) (rs := rs2) (a := a2) (cap := cap2) (sa := sa3) (scap := scap3) (ea := ea) (ecap := ecap) Try.results40 ?_ ?_ ?_ ?_ ?_ ?_ ?_ (by omega)
    · rfl
    · rfl
    · exact hset_row (cs := #[.slice none 0 0, .int .i64 0, .int .i64 0, .int .i64 0, .int .i64 0, .slice none 0 0, .int .u64 0, .int .i64 0, .int .i64 0, .int .i64 0, .int .i64 0, .int .i64 0, .bool false, .bool false, .int .i64 0, .int .i64 0, .int .i64 0, .int .i64 0, .int .i64 0, .int .i64 0, .int .i64 0, .int .i64 0, .int .u64 0, .int .i64 0, .string ⟨#[]⟩, .int .i64 0, .int .i64 0]) HR3.out
    · exact OwnShs.setRow (P1.out.chain hb3 (Nat.le_refl _)) (by omega) _
    · exact owns_setRow P3.out (by omega) _
    · exact owns_setRow (owns_le P4.out hz2) (by omega) _
    · ((repeat (first | (with_reducible exact Below.refl _ _) | (with_reducible assumption) | (with_reducible refine Below.alloc ?_ ?_ _) | (with_reducible refine Below.setCell ?_ ?_ _) | (with_reducible refine Below.drew ?_) | (with_reducible refine below_setRow ?_ ?_ _) | (refine Below.trans ?_ (Below.mono (by assumption) ?_)))); all_goals (first | omega | (simp; done) | (simp; omega)))
end Go.Proofs.Ytigmdaiecdoimaa
