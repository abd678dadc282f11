/- Settling: the machine's loop and the program. -/
import Derived.Test.YtigmdaiecdoimaaClose
import Derived.Test.YtigmdaiecdoimaaFailI
import Derived.Test.YtigmdaiecdoimaaStp
namespace Go.Proofs.Ytigmdaiecdoimaa
set_option linter.unusedSimpArgs false
set_option linter.unusedVariables false
open Go.ChangeShapes Go.WideShapes Go.ChangeAt Go.RowKit Go.BigFrame

/-- The measure of a machine, read from its box. -/
def msrW (M : Nat) (w : World) : Nat :=
  match w.cell? ⟨M, 4, none⟩, w.cell? ⟨M, 5, none⟩ with
  | some (.int _ m), some (.slice _ n _) => 2 * n + if m = 2 then 0 else if m = 1 then 0 else if m = 9 then 0 else 1
  | _, _ => 0
theorem msrW_eq {base M : Nat} {w0 w : World} {d : Dc} {xs : List Shp} {ls : List Lvl} {es : List Ev} (h : Mach base w0 w M d xs ls es) : msrW M w = msr d ls := by
  obtain ⟨a, cap, rs, sa, scap, ea, ecap, h⟩ := h
  have k := box_cells h.box
  have k4 : w.cell? ⟨M, 4, none⟩ = some (.int .i64 d.mode) := k 4
  have k5 : w.cell? ⟨M, 5, none⟩ = some (.slice sa ls.length scap) := k 5
  unfold msrW
  rw [k4, k5]; rfl
set_option maxRecDepth 100000 in
set_option maxHeartbeats 2000000 in
theorem settle_any (base : Nat) (w0 w : World) (M : Nat) (d : Dc) (xs : List Shp) (ls : List Lvl) (es : List Ev) (hm : Mach base w0 w M d xs ls es) (hes : es.length ≤ 1000000) (hn : xs.length ≤ 1048576) (hm2 : fldSum xs ≤ 1048576) (hm' : ls.length ≤ 1048576) :
    Calls Try.prog 108 #[.pointer (some ⟨M, 0, none⟩)] w fun r w' => r = .returned (.tuple #[]) ∧ Mach base w0 w' M (behind es (settleO d xs ls)).1 xs (behind es (settleO d xs ls)).2.1 (behind es (settleO d xs ls)).2.2 := by
  obtain ⟨a, cap, rs, sa, scap, ea, ecap, hm⟩ := hm
  have HM := Lib.hid hm; clear hm
  have kM := box_cells HM.out.box
  obtain ⟨R, hR⟩ : ∃ R, behind es (settleO d xs ls) = R := ⟨_, rfl⟩
  rw [hR]
  go_enter Try.func108, Try.ntmps108
  go_wp2_with (first | (refine wpList_load_mid rfl 69 (.tmp 4) rfl M 0 rfl [.slice a xs.length cap, .int .i64 d.p.root, .int .i64 d.p.deep, .int .i64 d.p.most, .int .i64 d.mode, .slice sa ls.length scap, .int .u64 d.bits, .int .i64 d.have_, .int .i64 d.start, .int .i64 d.at_, .int .i64 d.field.number, .int .i64 d.field.kind, .bool d.field.rep, .bool d.field.packed, .int .i64 d.field.msg, .int .i64 d.wire, .int .i64 d.want, .int .i64 d.utf.want, .int .i64 d.utf.low, .int .i64 d.utf.high, .int .i64 d.end_.kind, .int .i64 d.end_.field, .int .u64 d.end_.bits, .int .i64 d.end_.len, .string d.end_.text, .int .i64 d.end_.code, .int .i64 d.end_.at_] _ (fun j u hj => (kM (0 + j)).trans (by rw [Nat.zero_add, List.getElem?_toArray]; exact pre_at hj)) Try.underlying69 rfl size_Dec ?_))
  refine (levelsOk_any d a cap _ xs sa scap _ ls _ HM.out.sh.shs (lvls_of_own HM.out.lv rfl) rfl rfl hn hm2 hm').mono ?_
  rintro r w1 ⟨rfl, hb1⟩
  have H1 := Lib.hid (HM.out.keep hb1); clear hb1 kM HM
  have e0 : (planOk d.p xs && (decide ((ls.length : Int) ≤ d.p.deep) && ls.all (lvlOk xs.length))) = lvOk d xs ls := rfl
  rw [e0]
  cases hl : lvOk d xs ls
  · have eR : (d, ls, es) = R := by rw [← hR]; simp [settleO, hl, behind]
    go_wp2
    rw [← eR]
    exact bodyPost_ret (v := .tuple #[]) (results_none rfl _ _ _) rfl ⟨rfl, _, _, _, _, _, _, _, H1.out⟩
  · have eR : behind es (settle d ls) = R := by rw [← hR]; simp [settleO, hl]
    have h8 := lvOk_le hl
    have hms := msr_le d ls
    have HR := Lib.hid eR; clear eR hR
    go_wp2
    go_loopw [9] (fun t wr => ∃ (d' : Dc) (ls' : List Lvl) (fs : List Ev), Mach base w0 wr M d' xs ls' fs ∧ Hid (behind fs (settle d' ls') = R) ∧ fs.length + msr d' ls' ≤ 1000100 ∧ ls'.length ≤ 8) (fun _ wr => msrW M wr)
    case atStart => exact ⟨d, ls, es, ⟨_, _, _, _, _, _, _, H1.out⟩, HR, by omega, h8⟩
    case round =>
      obtain ⟨d1, ls1, fs, hmm, HR1, hle, h81⟩ := hrel
      have hmeas := msrW_eq hmm
      go_wp2_with fail
      refine (close_any base w0 _ M d1 xs ls1 fs hmm (by omega) hn hm2 (by omega)).mono ?_
      rintro r w2 (⟨hc, rfl, h2⟩ | ⟨d2, ls2, gs, hc, rfl, h2⟩)
      · have eR := settle_end hc HR1.out
        go_wp2
        go_end0
        rw [← eR]
        exact ⟨rfl, h2⟩
      · have hq1 := closeS_msr hc
        have hq2 := closeS_len hc
        have eR := Lib.hid (settle_step hc HR1.out)
        have hmeas2 := msrW_eq h2
        go_wp2
        go_roundw
        case rel => exact ⟨d2, ls2, fs ++ gs, h2, eR, by rw [List.length_append]; omega, by omega⟩
        case measure => rw [hmeas2, hmeas]; exact hq1
set_option maxRecDepth 100000 in
set_option maxHeartbeats 1000000 in
theorem implSettle_any (d : Dc) (a : Option Addr) (cap : Nat) (xs : List Shp) (sa : Option Addr) (scap : Nat) (ls : List Lvl) (w : World) (h : ShsC w a xs) (h' : Lvls w sa ls) (hn : xs.length ≤ 1048576) (hm : fldSum xs ≤ 1048576) (hm' : ls.length ≤ 1048576) (hnil : sa = none → scap = 0) :
    Calls Try.prog 42 #[d.val (.slice a xs.length cap) (.slice sa ls.length scap)] w (FreshDE w 38 40 131 67 xs (settleO d xs ls)) := by
  have HSs := Lib.hid h; clear h
  have HSl := Lib.hid h'; clear h'
  have hF := enter_of Try.func108 (by kernel_rfl) (by kernel_rfl)
  obtain ⟨O, hO⟩ : ∃ O, settleO d xs ls = O := ⟨_, rfl⟩
  rw [hO]
  go_enter Try.func42, Try.ntmps42
  go_wp2_with (first | (refine wpList_load_mid rfl 69 (.tmp 1) rfl w.heap.size 0 rfl [.slice a xs.length cap, .int .i64 d.p.root, .int .i64 d.p.deep, .int .i64 d.p.most, .int .i64 d.mode, .slice sa ls.length scap, .int .u64 d.bits, .int .i64 d.have_, .int .i64 d.start, .int .i64 d.at_, .int .i64 d.field.number, .int .i64 d.field.kind, .bool d.field.rep, .bool d.field.packed, .int .i64 d.field.msg, .int .i64 d.wire, .int .i64 d.want, .int .i64 d.utf.want, .int .i64 d.utf.low, .int .i64 d.utf.high, .int .i64 d.end_.kind, .int .i64 d.end_.field, .int .u64 d.end_.bits, .int .i64 d.end_.len, .string d.end_.text, .int .i64 d.end_.code, .int .i64 d.end_.at_] _ (range_of_box (t := 69) (hset_alloc (hset_new rfl))) Try.underlying69 rfl size_Dec ?_))
  refine (on_any d a cap xs sa scap ls 108 #[] O _ (HSs.out.keep (by ((repeat (first | (with_reducible exact Below.refl _ _) | (with_reducible assumption) | (with_reducible refine Below.alloc ?_ ?_ _) | (with_reducible refine Below.setCell ?_ ?_ _) | (with_reducible refine Below.drew ?_) | (with_reducible refine below_setRow ?_ ?_ _) | (refine Below.trans ?_ (Below.mono (by assumption) ?_)))); all_goals (first | omega | (simp; done) | (simp; omega))))) (Sl.keep HSl.out (by ((repeat (first | (with_reducible exact Below.refl _ _) | (with_reducible assumption) | (with_reducible refine Below.alloc ?_ ?_ _) | (with_reducible refine Below.setCell ?_ ?_ _) | (with_reducible refine Below.drew ?_) | (with_reducible refine below_setRow ?_ ?_ _) | (refine Below.trans ?_ (Below.mono (by assumption) ?_)))); all_goals (first | omega | (simp; done) | (simp; omega))))) hn hm hm' hnil hF ?_ ?_).mono ?_
  · intro hl base w0 w1 M hb hbase hbz hmach
    refine (settle_any base w0 w1 M d xs ls [] hmach (by simp) hn hm hm').mono ?_
    rintro r w3 ⟨rfl, h3⟩
    rw [hO, behind_nil] at h3
    exact ⟨rfl, h3⟩
  · intro hl
    rw [← hO]; simp [settleO, hl]
  rintro r w2 ⟨a2, cap2, rs2, sa2, scap2, ea2, ecap2, rfl, ho2, hp2, he2, hb2⟩
  have hz2 := hb2.size
  simp only [World.size_alloc] at hz2
  obtain ⟨e, ms, es⟩ := O
  have HR := Lib.hid ((hb2.block (w.heap.size + 1) (by simp)).trans (hset_new (by simp)))
  have hbw : Below w.heap.size w w2 := by ((repeat (first | (with_reducible exact Below.refl _ _) | (with_reducible assumption) | (with_reducible refine Below.alloc ?_ ?_ _) | (with_reducible refine Below.setCell ?_ ?_ _) | (with_reducible refine Below.drew ?_) | (with_reducible refine below_setRow ?_ ?_ _) | (refine Below.trans ?_ (Below.mono (by assumption) ?_)))); all_goals (first | omega | (simp; done) | (simp; omega)))
  have P1 := Lib.hid (OwnShs.le ho2 (show w.heap.size + 1 + 1 ≤ _ by simp)); clear ho2
  have P2 := Lib.hid (owns_le hp2 (show w.heap.size + 1 + 1 ≤ _ by simp)); clear hp2
  have P3 := Lib.hid (owns_le he2 (show w.heap.size + 1 + 1 ≤ _ by simp)); clear he2 hb2
  go_wp2_with (first | (refine wpList_store_row rfl 69 (.tmp 2) (.tmp 6) rfl (w.heap.size + 1) #[.slice a2 xs.length cap2, .int .i64 e.p.root, .int .i64 e.p.deep, .int .i64 e.p.most, .int .i64 e.mode, .slice sa2 ms.length scap2, .int .u64 e.bits, .int .i64 e.have_, .int .i64 e.start, .int .i64 e.at_, .int .i64 e.field.number, .int .i64 e.field.kind, .bool e.field.rep, .bool e.field.packed, .int .i64 e.field.msg, .int .i64 e.wire, .int .i64 e.want, .int .i64 e.utf.want, .int .i64 e.utf.low, .int .i64 e.utf.high, .int .i64 e.end_.kind, .int .i64 e.end_.field, .int .u64 e.end_.bits, .int .i64 e.end_.len, .string e.end_.text, .int .i64 e.end_.code, .int .i64 e.end_.at_] rfl rfl 69 #[.slice none 0 0, .int .i64 0, .int .i64 0, .int .i64 0, .int .i64 0, .slice none 0 0, .int .u64 0, .int .i64 0, .int .i64 0, .int .i64 0, .int .i64 0, .int .i64 0, .bool false, .bool false, .int .i64 0, .int .i64 0, .int .i64 0, .int .i64 0, .int .i64 0, .int .i64 0, .int .i64 0, .int .i64 0, .int .u64 0, .int .i64 0, .string ⟨#[]⟩, .int .i64 0, .int .i64 0] HR.out size_Dec rfl (one_Dec _ _ _ _ _ _ _) ?_))
  refine finDE (w := w) (R := w.heap.size + 1) (base := w.heap.size + 1 + 1) (e := e) (ms := ms) (es := es) (rs := rs2) (a := a2) (cap := cap2) (sa := sa2) (scap := scap2) (ea := ea2) (ecap := ecap2) Try.results42 rfl rfl ?_ ?_ ?_ ?_ ?_ (by omega)
  · exact hset_row (cs := #[.slice none 0 0, .int .i64 0, .int .i64 0, .int .i64 0, .int .i64 0, .slice none 0 0, .int .u64 0, .int .i64 0, .int .i64 0, .int .i64 0, .int .i64 0, .int .i64 0, .bool false, .bool false, .int .i64 0, .int .i64 0, .int .i64 0, .int .i64 0, .int .i64 0, .int .i64 0, .int .i64 0, .int .i64 0, .int .u64 0, .int .i64 0, .string ⟨#[]⟩, .int .i64 0, .int .i64 0]) HR.out
  · refine OwnShs.setRow P1.out ?_ _; omega
  · refine owns_setRow P2.out ?_ _; omega
  · refine owns_setRow P3.out ?_ _; omega
  · ((repeat (first | (with_reducible exact Below.refl _ _) | (with_reducible assumption) | (with_reducible refine Below.alloc ?_ ?_ _) | (with_reducible refine Below.setCell ?_ ?_ _) | (with_reducible refine Below.drew ?_) | (with_reducible refine below_setRow ?_ ?_ _) | (refine Below.trans ?_ (Below.mono (by assumption) ?_)))); all_goals (first | omega | (simp; done) | (simp; omega)))
end Go.Proofs.Ytigmdaiecdoimaa
