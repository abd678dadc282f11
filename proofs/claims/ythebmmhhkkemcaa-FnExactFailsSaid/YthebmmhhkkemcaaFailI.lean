/- Failing: the program. -/
import Derived.Test.YthebmmhhkkemcaaMach
namespace Go.Proofs.Ythebmmhhkkemcaa
set_option linter.unusedSimpArgs false
set_option linter.unusedVariables false
open Go.ChangeShapes Go.WideShapes Go.ChangeAt Go.RowKit Go.BigFrame

theorem enter_of {f : FuncId} {fn : Func} (h : Try.prog.funcs[f]? = some fn) (hn : (fn.name == "runtime.NumGoroutine") = false) (hb : fn.body.isNone = false) : ∀ (args : Array Value) (w : World), (callFunc f args).run Try.prog w = .ok (.enter f args) w := by
  intro args w
  have h1 : ¬ fn.name = "runtime.NumGoroutine" := by simpa using hn
  have h2 : ¬ fn.body = none := fun e => by rw [e] at hb; simp at hb
  simp [callFunc, go_sem, h, h1, h2]
set_option maxRecDepth 100000 in
set_option maxHeartbeats 1000000 in
theorem implFails_any (d : Dc) (a : Option Addr) (cap : Nat) (xs : List Shp) (sa : Option Addr) (scap : Nat) (ls : List Lvl) (c t : Int) (w : World) (h : ShsC w a xs) (h' : Lvls w sa ls) (hn : xs.length ≤ 1048576) (hm : fldSum xs ≤ 1048576) (hm' : ls.length ≤ 1048576) (hnil : sa = none → scap = 0) :
    Calls Try.prog 52 #[d.val (.slice a xs.length cap) (.slice sa ls.length scap), .int .i64 c, .int .i64 t] w (FreshDE w 32 34 121 72 xs (failsO d xs ls c t)) := by
  have HSs := Lib.hid h; clear h
  have HSl := Lib.hid h'; clear h'
  have hF := enter_of Try.func126 (by kernel_rfl) (by kernel_rfl)
  obtain ⟨O, hO⟩ : ∃ O, failsO d xs ls c t = O := ⟨_, rfl⟩
  rw [hO]
  go_enter Try.func52, Try.ntmps52
  go_wp2_with (first | (refine wpList_load_mid rfl 74 (.tmp 3) rfl w.heap.size 0 rfl [.slice a xs.length cap, .int .i64 d.p.root, .int .i64 d.p.deep, .int .i64 d.p.most, .int .i64 d.mode, .slice sa ls.length scap, .int .u64 d.bits, .int .i64 d.have_, .int .i64 d.start, .int .i64 d.at_, .int .i64 d.field.number, .int .i64 d.field.kind, .bool d.field.rep, .bool d.field.packed, .int .i64 d.field.msg, .int .i64 d.wire, .int .i64 d.want, .int .i64 d.utf.want, .int .i64 d.utf.low, .int .i64 d.utf.high, .int .i64 d.end_.kind, .int .i64 d.end_.field, .int .u64 d.end_.bits, .int .i64 d.end_.len, .string d.end_.text, .int .i64 d.end_.code, .int .i64 d.end_.at_] _ (range_of_box (t := 74) (hset_alloc (hset_alloc (hset_alloc (hset_new rfl))))) Try.underlying74 rfl size_Dec ?_))
  refine (on_any d a cap xs sa scap ls 126 #[.pointer (some ⟨w.heap.size + 1, 0, none⟩), .pointer (some ⟨w.heap.size + 1 + 1, 0, none⟩)] O _ (HSs.out.keep (by ((repeat (first | (with_reducible exact Below.refl _ _) | (with_reducible assumption) | (with_reducible refine Below.alloc ?_ ?_ _) | (with_reducible refine Below.setCell ?_ ?_ _) | (with_reducible refine Below.drew ?_) | (with_reducible refine below_setRow ?_ ?_ _) | (refine Below.trans ?_ (Below.mono (by assumption) ?_)))); all_goals (first | omega | (simp; done) | (simp; omega))))) (Sl.keep HSl.out (by ((repeat (first | (with_reducible exact Below.refl _ _) | (with_reducible assumption) | (with_reducible refine Below.alloc ?_ ?_ _) | (with_reducible refine Below.setCell ?_ ?_ _) | (with_reducible refine Below.drew ?_) | (with_reducible refine below_setRow ?_ ?_ _) | (refine Below.trans ?_ (Below.mono (by assumption) ?_)))); all_goals (first | omega | (simp; done) | (simp; omega))))) hn hm hm' hnil hF ?_ ?_).mono ?_
  · intro hl base w0 w1 M hb hbase hbz hmach
    obtain ⟨a1, cap1, rs1, sa1, scap1, ea1, ecap1, hI⟩ := hmach
    have hbl := hI.bel
    have hlt : ∀ B v, B + 1 ≤ w.heap.size + 1 + 1 + 1 → (((((w.alloc (.cells #[.slice a xs.length cap, .int .i64 d.p.root, .int .i64 d.p.deep, .int .i64 d.p.most, .int .i64 d.mode, .slice sa ls.length scap, .int .u64 d.bits, .int .i64 d.have_, .int .i64 d.start, .int .i64 d.at_, .int .i64 d.field.number, .int .i64 d.field.kind, .bool d.field.rep, .bool d.field.packed, .int .i64 d.field.msg, .int .i64 d.wire, .int .i64 d.want, .int .i64 d.utf.want, .int .i64 d.utf.low, .int .i64 d.utf.high, .int .i64 d.end_.kind, .int .i64 d.end_.field, .int .u64 d.end_.bits, .int .i64 d.end_.len, .string d.end_.text, .int .i64 d.end_.code, .int .i64 d.end_.at_] 74)).alloc (.cells #[.int .i64 c] 3)).alloc (.cells #[.int .i64 t] 3)).alloc (.cells #[.slice none 0 0, .int .i64 0, .int .i64 0, .int .i64 0, .int .i64 0, .slice none 0 0, .int .u64 0, .int .i64 0, .int .i64 0, .int .i64 0, .int .i64 0, .int .i64 0, .bool false, .bool false, .int .i64 0, .int .i64 0, .int .i64 0, .int .i64 0, .int .i64 0, .int .i64 0, .int .i64 0, .int .i64 0, .int .u64 0, .int .i64 0, .string ⟨#[]⟩, .int .i64 0, .int .i64 0] 74)).cell? ⟨B, 0, none⟩ = some v) → w1.cell? ⟨B, 0, none⟩ = some v := by
      intro B v hB hv
      simp only [World.size_alloc] at hbase
      exact (hbl.cell (p := ⟨B, 0, none⟩) (by simp only; omega)).trans ((hb.cell (p := ⟨B, 0, none⟩) (by simp only [World.size_alloc]; omega)).trans hv)
    have hC := hlt (w.heap.size + 1) (.int .i64 c) (by omega) (box_cells (hset_alloc (hset_alloc (hset_new (by simp)))) 0)
    have hT := hlt (w.heap.size + 1 + 1) (.int .i64 t) (by omega) (box_cells (hset_alloc (hset_new (by simp))) 0)
    refine (fails1_any base w0 w1 M d xs ls [] (w.heap.size + 1) (w.heap.size + 1 + 1) c t ⟨a1, cap1, rs1, sa1, scap1, ea1, ecap1, hI⟩ (by simp) hC hT).mono ?_
    rintro r w3 ⟨rfl, h3⟩
    have eO : O = failO d ls c t := by rw [← hO]; simp only [failsO, hl]; rfl
    rw [eO]
    exact ⟨rfl, h3⟩
  · intro hl
    rw [← hO]; simp only [failsO, hl]; rfl
  rintro r w2 ⟨a2, cap2, rs2, sa2, scap2, ea2, ecap2, rfl, ho2, hp2, he2, hb2⟩
  have hz2 := hb2.size
  simp only [World.size_alloc] at hz2
  obtain ⟨e, ms, es⟩ := O
  have HR := Lib.hid ((hb2.block (w.heap.size + 1 + 1 + 1) (by simp)).trans (hset_new (by simp)))
  have hbw : Below w.heap.size w w2 := by ((repeat (first | (with_reducible exact Below.refl _ _) | (with_reducible assumption) | (with_reducible refine Below.alloc ?_ ?_ _) | (with_reducible refine Below.setCell ?_ ?_ _) | (with_reducible refine Below.drew ?_) | (with_reducible refine below_setRow ?_ ?_ _) | (refine Below.trans ?_ (Below.mono (by assumption) ?_)))); all_goals (first | omega | (simp; done) | (simp; omega)))
  have hs4 : w.heap.size + 1 + 1 + 1 + 1 ≤ w2.heap.size := hz2
  have P1 := Lib.hid (OwnShs.le ho2 (show w.heap.size + 1 + 1 + 1 + 1 ≤ _ by simp)); clear ho2
  have P2 := Lib.hid (owns_le hp2 (show w.heap.size + 1 + 1 + 1 + 1 ≤ _ by simp)); clear hp2
  have P3 := Lib.hid (owns_le he2 (show w.heap.size + 1 + 1 + 1 + 1 ≤ _ by simp)); clear he2 hb2
  go_wp2_with (first | (refine wpList_store_row rfl 74 (.tmp 6) (.tmp 11) rfl (w.heap.size + 1 + 1 + 1) #[.slice a2 xs.length cap2, .int .i64 e.p.root, .int .i64 e.p.deep, .int .i64 e.p.most, .int .i64 e.mode, .slice sa2 ms.length scap2, .int .u64 e.bits, .int .i64 e.have_, .int .i64 e.start, .int .i64 e.at_, .int .i64 e.field.number, .int .i64 e.field.kind, .bool e.field.rep, .bool e.field.packed, .int .i64 e.field.msg, .int .i64 e.wire, .int .i64 e.want, .int .i64 e.utf.want, .int .i64 e.utf.low, .int .i64 e.utf.high, .int .i64 e.end_.kind, .int .i64 e.end_.field, .int .u64 e.end_.bits, .int .i64 e.end_.len, .string e.end_.text, .int .i64 e.end_.code, .int .i64 e.end_.at_] rfl rfl 74 #[.slice none 0 0, .int .i64 0, .int .i64 0, .int .i64 0, .int .i64 0, .slice none 0 0, .int .u64 0, .int .i64 0, .int .i64 0, .int .i64 0, .int .i64 0, .int .i64 0, .bool false, .bool false, .int .i64 0, .int .i64 0, .int .i64 0, .int .i64 0, .int .i64 0, .int .i64 0, .int .i64 0, .int .i64 0, .int .u64 0, .int .i64 0, .string ⟨#[]⟩, .int .i64 0, .int .i64 0] HR.out size_Dec rfl (one_Dec _ _ _ _ _ _ _) ?_))
  refine finDE (w := w) (R := w.heap.size + 1 + 1 + 1) (base := w.heap.size + 1 + 1 + 1 + 1) (e := e) (ms := ms) (es := es) (rs := rs2) (a := a2) (cap := cap2) (sa := sa2) (scap := scap2) (ea := ea2) (ecap := ecap2) Try.results52 rfl rfl ?_ ?_ ?_ ?_ ?_ (by omega)
  · exact hset_row (cs := #[.slice none 0 0, .int .i64 0, .int .i64 0, .int .i64 0, .int .i64 0, .slice none 0 0, .int .u64 0, .int .i64 0, .int .i64 0, .int .i64 0, .int .i64 0, .int .i64 0, .bool false, .bool false, .int .i64 0, .int .i64 0, .int .i64 0, .int .i64 0, .int .i64 0, .int .i64 0, .int .i64 0, .int .i64 0, .int .u64 0, .int .i64 0, .string ⟨#[]⟩, .int .i64 0, .int .i64 0]) HR.out
  · refine OwnShs.setRow P1.out ?_ _; omega
  · refine owns_setRow P2.out ?_ _; omega
  · refine owns_setRow P3.out ?_ _; omega
  · ((repeat (first | (with_reducible exact Below.refl _ _) | (with_reducible assumption) | (with_reducible refine Below.alloc ?_ ?_ _) | (with_reducible refine Below.setCell ?_ ?_ _) | (with_reducible refine Below.drew ?_) | (with_reducible refine below_setRow ?_ ?_ _) | (refine Below.trans ?_ (Below.mono (by assumption) ?_)))); all_goals (first | omega | (simp; done) | (simp; omega)))
end Go.Proofs.Ythebmmhhkkemcaa
