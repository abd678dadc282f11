/- FnExactTagStep: for every decoder (and all further arguments) the program's function returns the decoder and the events that the reference's returns, in memory of its own, and the decoder that was handed in is left as it was. No condition. -/
import Derived.Test.YtigmdaiecdoimaaGreatToDec
import Derived.Test.YtigmdaiecdoimaaGreatDELaw
import Derived.Test.YtigmdaiecdoimaaGreatTagS
import Derived.Test.YtigmdaiecdoimaaGreatTagI
namespace Go.Proofs.YtigmdaiecdoimaaGreat.fnExactTagStep
set_option linter.unusedSimpArgs false
set_option linter.unusedVariables false
open Go.ChangeShapes Go.WideShapes Go.ChangeAt Go.RowKit Go.BigFrame

theorem shape {f : FuncId} {args : Array Value} {w : World} {T TF TL TE : TypeId} {xs : List Shp} {O : Outc} {e : Dc} {ms : List Lvl} {es : List Ev} (h : Calls Tryz.prog f args w (FreshDE w T TF TL TE xs O)) (hO : (e, ms, es) = O) :
    Calls Tryz.prog f args w fun r w' => ∃ a cap rs sa scap ea ecap, r = .returned (.tuple #[e.val (.slice a xs.length cap) (.slice sa ms.length scap), .slice ea es.length ecap]) ∧ OwnShs w' w.heap.size T TF (.slice a xs.length cap) xs.length rs xs
      ∧ w'.ownsRow w.heap.size TL 2 (.slice sa ms.length scap) ms.length (ms.flatMap Lvl.cs) ∧ w'.ownsRow w.heap.size TE 7 (.slice ea es.length ecap) es.length (es.flatMap Ev.cs) ∧ Below w.heap.size w w' := by
  subst hO; exact h
set_option maxRecDepth 100000 in
set_option maxHeartbeats 4000000 in
theorem walk (w : World) (x : DcArg) (hx : x.ok w) (u : Int) (h_u : (Lit.int .u64 u).wf = true) :
    Calls Tryz.prog 3 #[x.val, .int .u64 u] w fun r w' => r = .returned (.bool true) ∧ Below w.heap.size w w' := by
  obtain ⟨d, ⟨a, cap, xs⟩, ⟨sa, scap, ls⟩⟩ := x
  obtain ⟨hd, ⟨hsl, hok, hle, hcap⟩, ⟨hsl2, hok2, hle2, hcap2⟩⟩ := hx
  simp only at hsl hok hle hcap hsl2 hok2 hle2 hcap2 hd
  have hmx : xs.length ≤ maxLen := Nat.le_trans hle hcap
  have hml : ls.length ≤ maxLen := Nat.le_trans hle2 hcap2
  by_cases hs : (1048576 : Int) < (xs.length : Int) + fldSum xs + ls.length + d.end_.text.size
  · have hs' : szD 1048576 xs ls d.end_.text.size = -1 := by simp only [szD]; rw [if_pos hs]
    go_enter Tryz.func3, Tryz.ntmps3
    go_wp2_with (first | (refine wpList_load_mid rfl 38 (.tmp 2) rfl w.heap.size 0 rfl [.slice a xs.length cap, .int .i64 d.p.root, .int .i64 d.p.deep, .int .i64 d.p.most, .int .i64 d.mode, .slice sa ls.length scap, .int .u64 d.bits, .int .i64 d.have_, .int .i64 d.start, .int .i64 d.at_, .int .i64 d.field.number, .int .i64 d.field.kind, .bool d.field.rep, .bool d.field.packed, .int .i64 d.field.msg, .int .i64 d.wire, .int .i64 d.want, .int .i64 d.utf.want, .int .i64 d.utf.low, .int .i64 d.utf.high, .int .i64 d.end_.kind, .int .i64 d.end_.field, .int .u64 d.end_.bits, .int .i64 d.end_.len, .string d.end_.text, .int .i64 d.end_.code, .int .i64 d.end_.at_] _ (range_of_box (t := 38) (hset_new rfl)) Tryz.underlying38 rfl size_LDec ?_))
    refine (szDec_any d _ _ _ xs _ _ _ ls _ _ (by (first | assumption | exact Shs.keep (by assumption) (by ((repeat (first | (with_reducible exact Below.refl _ _) | (with_reducible assumption) | (with_reducible refine Below.alloc ?_ ?_ _) | (with_reducible refine Below.setCell ?_ ?_ _) | (with_reducible refine Below.drew ?_) | (with_reducible refine below_setRow ?_ ?_ _) | (refine Below.trans ?_ (Below.mono (by assumption) ?_)))); all_goals (first | omega | (simp; done) | (simp; omega)))) | exact Sl.keep (by assumption) (by ((repeat (first | (with_reducible exact Below.refl _ _) | (with_reducible assumption) | (with_reducible refine Below.alloc ?_ ?_ _) | (with_reducible refine Below.setCell ?_ ?_ _) | (with_reducible refine Below.drew ?_) | (with_reducible refine below_setRow ?_ ?_ _) | (refine Below.trans ?_ (Below.mono (by assumption) ?_)))); all_goals (first | omega | (simp; done) | (simp; omega)))))) hok hd rfl rfl hmx hml (by omega) (by omega)).mono ?_
    rintro r w1 ⟨rfl, hb1⟩
    go_wp2
    go_ret
    exact ⟨rfl, by ((repeat (first | (with_reducible exact Below.refl _ _) | (with_reducible assumption) | (with_reducible refine Below.alloc ?_ ?_ _) | (with_reducible refine Below.setCell ?_ ?_ _) | (with_reducible refine Below.drew ?_) | (with_reducible refine below_setRow ?_ ?_ _) | (refine Below.trans ?_ (Below.mono (by assumption) ?_)))); all_goals (first | omega | (simp; done) | (simp; omega)))⟩
  · have hn : xs.length ≤ 1048576 := by omega
    have hm : fldSum xs ≤ 1048576 := by omega
    have hl : ls.length ≤ 1048576 := by omega
    have hs' : 0 ≤ szD 1048576 xs ls d.end_.text.size := by simp only [szD]; rw [if_neg hs]; omega
    obtain ⟨⟨e, ms, es⟩, hO⟩ : ∃ O : Outc, O = tagO d xs ls u := ⟨_, rfl⟩
    obtain ⟨hms, hes⟩ : ms.length ≤ 1048576 ∧ es.length ≤ 1048576 := by
      have h0 := tagO_len d xs ls u hl
      rw [← hO] at h0
      exact h0
    have HO := Lib.hid hO; clear hO
    obtain ⟨N4, hN4⟩ : ∃ N, kS 1 xs xs.length + 2 * ls.length = N := ⟨_, rfl⟩
    obtain ⟨N5, hN5⟩ : ∃ N, kS 1 xs xs.length + 2 * ms.length = N := ⟨_, rfl⟩
    have hN5p : 0 < N5 := by rw [← hN5]; unfold kS; omega
    have hN5b : N5 ≤ 100000000 := by have := kS_le 1 xs xs.length; omega
    have HN4 := Lib.hid hN4; clear hN4
    have HN5 := Lib.hid hN5; clear hN5
    go_enter Tryz.func3, Tryz.ntmps3
    go_wp2_with (first | (refine wpList_load_mid rfl 38 (.tmp 2) rfl (w.heap.size) 0 rfl [.slice a xs.length cap, .int .i64 d.p.root, .int .i64 d.p.deep, .int .i64 d.p.most, .int .i64 d.mode, .slice sa ls.length scap, .int .u64 d.bits, .int .i64 d.have_, .int .i64 d.start, .int .i64 d.at_, .int .i64 d.field.number, .int .i64 d.field.kind, .bool d.field.rep, .bool d.field.packed, .int .i64 d.field.msg, .int .i64 d.wire, .int .i64 d.want, .int .i64 d.utf.want, .int .i64 d.utf.low, .int .i64 d.utf.high, .int .i64 d.end_.kind, .int .i64 d.end_.field, .int .u64 d.end_.bits, .int .i64 d.end_.len, .string d.end_.text, .int .i64 d.end_.code, .int .i64 d.end_.at_] _ (range_of_box (t := 38) (hset_new rfl)) Tryz.underlying38 rfl size_LDec ?_))
    refine (szDec_any d _ _ _ xs _ _ _ ls _ _ (Shs.keep hsl (show Below w.heap.size w _ from by ((repeat (first | (with_reducible exact Below.refl _ _) | (with_reducible assumption) | (with_reducible refine Below.alloc ?_ ?_ _) | (with_reducible refine Below.setCell ?_ ?_ _) | (with_reducible refine Below.drew ?_) | (with_reducible refine below_setRow ?_ ?_ _) | (refine Below.trans ?_ (Below.mono (by assumption) ?_)))); all_goals (first | omega | (simp; done) | (simp; omega))))) hok hd rfl rfl hmx hml (by omega) (by omega)).mono ?_
    rintro r w1 ⟨rfl, hb1⟩
    have hy1 := hb1.size
    try simp only [World.size_alloc, World.size_setCell, World.size_drew, size_setRow] at hy1
    have hD1 : Below w.heap.size w w1 := by ((repeat (first | (with_reducible exact Below.refl _ _) | (with_reducible assumption) | (with_reducible refine Below.alloc ?_ ?_ _) | (with_reducible refine Below.setCell ?_ ?_ _) | (with_reducible refine Below.drew ?_) | (with_reducible refine below_setRow ?_ ?_ _) | (refine Below.trans ?_ (Below.mono (by assumption) ?_)))); all_goals (first | omega | (simp; done) | (simp; omega)))
    have hz1 := hD1.size
    have hT1 : Below w.heap.size w w1 := hD1
    have hA_ : w1.heap[w.heap.size]? = some (.cells #[.slice a xs.length cap, .int .i64 d.p.root, .int .i64 d.p.deep, .int .i64 d.p.most, .int .i64 d.mode, .slice sa ls.length scap, .int .u64 d.bits, .int .i64 d.have_, .int .i64 d.start, .int .i64 d.at_, .int .i64 d.field.number, .int .i64 d.field.kind, .bool d.field.rep, .bool d.field.packed, .int .i64 d.field.msg, .int .i64 d.wire, .int .i64 d.want, .int .i64 d.utf.want, .int .i64 d.utf.low, .int .i64 d.utf.high, .int .i64 d.end_.kind, .int .i64 d.end_.field, .int .u64 d.end_.bits, .int .i64 d.end_.len, .string d.end_.text, .int .i64 d.end_.code, .int .i64 d.end_.at_] 38 (0, 0)) := (hb1.block _ (by first | omega | (simp; done) | (simp; omega))).trans (hset_new rfl)
    have kA := box_cells hA_; have hBA := box_lt hA_; clear hA_
    go_wp2_with (first | (refine wpList_load_mid rfl 38 (.tmp 2) rfl (w.heap.size) 0 rfl [.slice a xs.length cap, .int .i64 d.p.root, .int .i64 d.p.deep, .int .i64 d.p.most, .int .i64 d.mode, .slice sa ls.length scap, .int .u64 d.bits, .int .i64 d.have_, .int .i64 d.start, .int .i64 d.at_, .int .i64 d.field.number, .int .i64 d.field.kind, .bool d.field.rep, .bool d.field.packed, .int .i64 d.field.msg, .int .i64 d.wire, .int .i64 d.want, .int .i64 d.utf.want, .int .i64 d.utf.low, .int .i64 d.utf.high, .int .i64 d.end_.kind, .int .i64 d.end_.field, .int .u64 d.end_.bits, .int .i64 d.end_.len, .string d.end_.text, .int .i64 d.end_.code, .int .i64 d.end_.at_] _ (range_of_cells kA) Tryz.underlying38 rfl size_LDec ?_))
    refine (toDec_any d a cap xs sa scap ls _ (Shs.keep hsl (show Below w.heap.size w _ from by ((repeat (first | (with_reducible exact Below.refl _ _) | (with_reducible assumption) | (with_reducible refine Below.alloc ?_ ?_ _) | (with_reducible refine Below.setCell ?_ ?_ _) | (with_reducible refine Below.drew ?_) | (with_reducible refine below_setRow ?_ ?_ _) | (refine Below.trans ?_ (Below.mono (by assumption) ?_)))); all_goals (first | omega | (simp; done) | (simp; omega))))) (Sl.keep hsl2 (show Below w.heap.size w _ from by ((repeat (first | (with_reducible exact Below.refl _ _) | (with_reducible assumption) | (with_reducible refine Below.alloc ?_ ?_ _) | (with_reducible refine Below.setCell ?_ ?_ _) | (with_reducible refine Below.drew ?_) | (with_reducible refine below_setRow ?_ ?_ _) | (refine Below.trans ?_ (Below.mono (by assumption) ?_)))); all_goals (first | omega | (simp; done) | (simp; omega))))) hn hm hl).mono ?_
    rintro r w2 ⟨a2, cap2, rs2, sa2, scap2, rfl, ho2, hp2, hb2⟩
    have hy2 := hb2.size
    try simp only [World.size_alloc, World.size_setCell, World.size_drew, size_setRow] at hy2
    have hD2 : Below w1.heap.size w1 w2 := by ((repeat (first | (with_reducible exact Below.refl _ _) | (with_reducible assumption) | (with_reducible refine Below.alloc ?_ ?_ _) | (with_reducible refine Below.setCell ?_ ?_ _) | (with_reducible refine Below.drew ?_) | (with_reducible refine below_setRow ?_ ?_ _) | (refine Below.trans ?_ (Below.mono (by assumption) ?_)))); all_goals (first | omega | (simp; done) | (simp; omega)))
    have hz2 := hD2.size
    have hT2 : Below w.heap.size w w2 := hT1.trans (hD2.mono hT1.size)
    have kA_ := box_next hD2 hBA kA; clear kA; have kA := kA_; clear kA_; have hBA_ := Nat.lt_of_lt_of_le hBA hz2; clear hBA; have hBA := hBA_; clear hBA_
    have hc2S := ho2.shsC
    have ht2 : Lvls w2 sa2 ls := lvls_of_own hp2 rfl
    have hn2n : sa2 = none → scap2 = 0 := own_nilc hp2
    clear ho2 hp2
    go_wp2_with fail
    refine (shape (specTag_any d a2 cap2 xs sa2 scap2 ls u _ (ShsC.keep hc2S (show Below w2.heap.size w2 _ from by ((repeat (first | (with_reducible exact Below.refl _ _) | (with_reducible assumption) | (with_reducible refine Below.alloc ?_ ?_ _) | (with_reducible refine Below.setCell ?_ ?_ _) | (with_reducible refine Below.drew ?_) | (with_reducible refine below_setRow ?_ ?_ _) | (refine Below.trans ?_ (Below.mono (by assumption) ?_)))); all_goals (first | omega | (simp; done) | (simp; omega))))) (Sl.keep ht2 (show Below w2.heap.size w2 _ from by ((repeat (first | (with_reducible exact Below.refl _ _) | (with_reducible assumption) | (with_reducible refine Below.alloc ?_ ?_ _) | (with_reducible refine Below.setCell ?_ ?_ _) | (with_reducible refine Below.drew ?_) | (with_reducible refine below_setRow ?_ ?_ _) | (refine Below.trans ?_ (Below.mono (by assumption) ?_)))); all_goals (first | omega | (simp; done) | (simp; omega))))) hn hm hl hn2n h_u) HO.out).mono ?_
    rintro r w3 ⟨a3, cap3, rs3, sa3, scap3, ea3, ecap3, rfl, ho3, hp3, he3, hb3⟩
    have hy3 := hb3.size
    try simp only [World.size_alloc, World.size_setCell, World.size_drew, size_setRow] at hy3
    have hD3 : Below w2.heap.size w2 w3 := by ((repeat (first | (with_reducible exact Below.refl _ _) | (with_reducible assumption) | (with_reducible refine Below.alloc ?_ ?_ _) | (with_reducible refine Below.setCell ?_ ?_ _) | (with_reducible refine Below.drew ?_) | (with_reducible refine below_setRow ?_ ?_ _) | (refine Below.trans ?_ (Below.mono (by assumption) ?_)))); all_goals (first | omega | (simp; done) | (simp; omega)))
    have hz3 := hD3.size
    have hT3 : Below w.heap.size w w3 := hT2.trans (hD3.mono hT2.size)
    have kA_ := box_next hD3 hBA kA; clear kA; have kA := kA_; clear kA_; have hBA_ := Nat.lt_of_lt_of_le hBA hz3; clear hBA; have hBA := hBA_; clear hBA_
    have R3 := Lib.hid (OwnDE.of_de ho3 hp3 he3 (by first | omega | (simp; done) | (simp; omega)))
    clear ho3 hp3 he3 hc2S ht2
    go_wp2_with (first | (refine wpList_store_row rfl 51 (.tmp 6) (.tmp 26) rfl (w3.heap.size) #[.slice a3 xs.length cap3, .int .i64 e.p.root, .int .i64 e.p.deep, .int .i64 e.p.most, .int .i64 e.mode, .slice sa3 ms.length scap3, .int .u64 e.bits, .int .i64 e.have_, .int .i64 e.start, .int .i64 e.at_, .int .i64 e.field.number, .int .i64 e.field.kind, .bool e.field.rep, .bool e.field.packed, .int .i64 e.field.msg, .int .i64 e.wire, .int .i64 e.want, .int .i64 e.utf.want, .int .i64 e.utf.low, .int .i64 e.utf.high, .int .i64 e.end_.kind, .int .i64 e.end_.field, .int .u64 e.end_.bits, .int .i64 e.end_.len, .string e.end_.text, .int .i64 e.end_.code, .int .i64 e.end_.at_] rfl rfl 51 #[.slice none 0 0, .int .i64 0, .int .i64 0, .int .i64 0, .int .i64 0, .slice none 0 0, .int .u64 0, .int .i64 0, .int .i64 0, .int .i64 0, .int .i64 0, .int .i64 0, .bool false, .bool false, .int .i64 0, .int .i64 0, .int .i64 0, .int .i64 0, .int .i64 0, .int .i64 0, .int .i64 0, .int .i64 0, .int .u64 0, .int .i64 0, .string ⟨#[]⟩, .int .i64 0, .int .i64 0] (hset_new rfl) size_Dec rfl (one_Dec _ _ _ _ _ _ _) ?_) | (refine wpList_load_mid rfl 38 (.tmp 2) rfl (w.heap.size) 0 rfl [.slice a xs.length cap, .int .i64 d.p.root, .int .i64 d.p.deep, .int .i64 d.p.most, .int .i64 d.mode, .slice sa ls.length scap, .int .u64 d.bits, .int .i64 d.have_, .int .i64 d.start, .int .i64 d.at_, .int .i64 d.field.number, .int .i64 d.field.kind, .bool d.field.rep, .bool d.field.packed, .int .i64 d.field.msg, .int .i64 d.wire, .int .i64 d.want, .int .i64 d.utf.want, .int .i64 d.utf.low, .int .i64 d.utf.high, .int .i64 d.end_.kind, .int .i64 d.end_.field, .int .u64 d.end_.bits, .int .i64 d.end_.len, .string d.end_.text, .int .i64 d.end_.code, .int .i64 d.end_.at_] _ (range_of_cells (box_next (w := w3) (by ((repeat (first | (with_reducible exact Below.refl _ _) | (with_reducible assumption) | (with_reducible refine Below.alloc ?_ ?_ _) | (with_reducible refine Below.setCell ?_ ?_ _) | (with_reducible refine Below.drew ?_) | (with_reducible refine below_setRow ?_ ?_ _) | (refine Below.trans ?_ (Below.mono (by assumption) ?_)))); all_goals (first | omega | (simp; done) | (simp; omega)))) hBA kA)) Tryz.underlying38 rfl size_LDec ?_))
    refine (toDec_any d a cap xs sa scap ls _ (Shs.keep hsl (show Below w.heap.size w _ from by ((repeat (first | (with_reducible exact Below.refl _ _) | (with_reducible assumption) | (with_reducible refine Below.alloc ?_ ?_ _) | (with_reducible refine Below.setCell ?_ ?_ _) | (with_reducible refine Below.drew ?_) | (with_reducible refine below_setRow ?_ ?_ _) | (refine Below.trans ?_ (Below.mono (by assumption) ?_)))); all_goals (first | omega | (simp; done) | (simp; omega))))) (Sl.keep hsl2 (show Below w.heap.size w _ from by ((repeat (first | (with_reducible exact Below.refl _ _) | (with_reducible assumption) | (with_reducible refine Below.alloc ?_ ?_ _) | (with_reducible refine Below.setCell ?_ ?_ _) | (with_reducible refine Below.drew ?_) | (with_reducible refine below_setRow ?_ ?_ _) | (refine Below.trans ?_ (Below.mono (by assumption) ?_)))); all_goals (first | omega | (simp; done) | (simp; omega))))) hn hm hl).mono ?_
    rintro r w4 ⟨a4, cap4, rs4, sa4, scap4, rfl, ho4, hp4, hb4⟩
    have hy4 := hb4.size
    try simp only [World.size_alloc, World.size_setCell, World.size_drew, size_setRow] at hy4
    have hD4 : Below w3.heap.size w3 w4 := by ((repeat (first | (with_reducible exact Below.refl _ _) | (with_reducible assumption) | (with_reducible refine Below.alloc ?_ ?_ _) | (with_reducible refine Below.setCell ?_ ?_ _) | (with_reducible refine Below.drew ?_) | (with_reducible refine below_setRow ?_ ?_ _) | (refine Below.trans ?_ (Below.mono (by assumption) ?_)))); all_goals (first | omega | (simp; done) | (simp; omega)))
    have hz4 := hD4.size
    have hT4 : Below w.heap.size w w4 := hT3.trans (hD4.mono hT3.size)
    have kA_ := box_next hD4 hBA kA; clear kA; have kA := kA_; clear kA_; have hBA_ := Nat.lt_of_lt_of_le hBA hz4; clear hBA; have hBA := hBA_; clear hBA_
    have R3_ := Lib.hid (R3.out.keep hD4); clear R3; have R3 := R3_; clear R3_
    have hW_ : w4.heap[w3.heap.size]? = some (.cells #[.slice a3 xs.length cap3, .int .i64 e.p.root, .int .i64 e.p.deep, .int .i64 e.p.most, .int .i64 e.mode, .slice sa3 ms.length scap3, .int .u64 e.bits, .int .i64 e.have_, .int .i64 e.start, .int .i64 e.at_, .int .i64 e.field.number, .int .i64 e.field.kind, .bool e.field.rep, .bool e.field.packed, .int .i64 e.field.msg, .int .i64 e.wire, .int .i64 e.want, .int .i64 e.utf.want, .int .i64 e.utf.low, .int .i64 e.utf.high, .int .i64 e.end_.kind, .int .i64 e.end_.field, .int .u64 e.end_.bits, .int .i64 e.end_.len, .string e.end_.text, .int .i64 e.end_.code, .int .i64 e.end_.at_] 51 (0, 0)) := (hb4.block _ (by first | omega | (simp; done) | (simp; omega))).trans (hset_row (cs := #[.slice none 0 0, .int .i64 0, .int .i64 0, .int .i64 0, .int .i64 0, .slice none 0 0, .int .u64 0, .int .i64 0, .int .i64 0, .int .i64 0, .int .i64 0, .int .i64 0, .bool false, .bool false, .int .i64 0, .int .i64 0, .int .i64 0, .int .i64 0, .int .i64 0, .int .i64 0, .int .i64 0, .int .i64 0, .int .u64 0, .int .i64 0, .string ⟨#[]⟩, .int .i64 0, .int .i64 0]) (hset_new rfl))
    have kW := box_cells hW_; have hBW := box_lt hW_; clear hW_
    simp only [World.size_alloc, size_setRow] at ho4 hp4
    have hc4S := ho4.shsC
    have ht4 : Lvls w4 sa4 ls := lvls_of_own hp4 rfl
    have hn4n : sa4 = none → scap4 = 0 := own_nilc hp4
    have R4 := Lib.hid (OwnDE.of_dec ho4 hp4 (by first | omega | (simp; done) | (simp; omega)))
    clear ho4 hp4
    go_wp2_with (first | (refine wpList_store_row rfl 51 (.tmp 8) (.tmp 29) rfl (w4.heap.size) #[.slice a4 xs.length cap4, .int .i64 d.p.root, .int .i64 d.p.deep, .int .i64 d.p.most, .int .i64 d.mode, .slice sa4 ls.length scap4, .int .u64 d.bits, .int .i64 d.have_, .int .i64 d.start, .int .i64 d.at_, .int .i64 d.field.number, .int .i64 d.field.kind, .bool d.field.rep, .bool d.field.packed, .int .i64 d.field.msg, .int .i64 d.wire, .int .i64 d.want, .int .i64 d.utf.want, .int .i64 d.utf.low, .int .i64 d.utf.high, .int .i64 d.end_.kind, .int .i64 d.end_.field, .int .u64 d.end_.bits, .int .i64 d.end_.len, .string d.end_.text, .int .i64 d.end_.code, .int .i64 d.end_.at_] rfl rfl 51 #[.slice none 0 0, .int .i64 0, .int .i64 0, .int .i64 0, .int .i64 0, .slice none 0 0, .int .u64 0, .int .i64 0, .int .i64 0, .int .i64 0, .int .i64 0, .int .i64 0, .bool false, .bool false, .int .i64 0, .int .i64 0, .int .i64 0, .int .i64 0, .int .i64 0, .int .i64 0, .int .i64 0, .int .i64 0, .int .u64 0, .int .i64 0, .string ⟨#[]⟩, .int .i64 0, .int .i64 0] (hset_new rfl) size_Dec rfl (one_Dec _ _ _ _ _ _ _) ?_) | (refine wpList_load_mid rfl 51 (.tmp 8) rfl (w4.heap.size) 0 rfl [.slice a4 xs.length cap4, .int .i64 d.p.root, .int .i64 d.p.deep, .int .i64 d.p.most, .int .i64 d.mode, .slice sa4 ls.length scap4, .int .u64 d.bits, .int .i64 d.have_, .int .i64 d.start, .int .i64 d.at_, .int .i64 d.field.number, .int .i64 d.field.kind, .bool d.field.rep, .bool d.field.packed, .int .i64 d.field.msg, .int .i64 d.wire, .int .i64 d.want, .int .i64 d.utf.want, .int .i64 d.utf.low, .int .i64 d.utf.high, .int .i64 d.end_.kind, .int .i64 d.end_.field, .int .u64 d.end_.bits, .int .i64 d.end_.len, .string d.end_.text, .int .i64 d.end_.code, .int .i64 d.end_.at_] _ (range_of_box (t := 51) (hset_row (cs := #[.slice none 0 0, .int .i64 0, .int .i64 0, .int .i64 0, .int .i64 0, .slice none 0 0, .int .u64 0, .int .i64 0, .int .i64 0, .int .i64 0, .int .i64 0, .int .i64 0, .bool false, .bool false, .int .i64 0, .int .i64 0, .int .i64 0, .int .i64 0, .int .i64 0, .int .i64 0, .int .i64 0, .int .i64 0, .int .u64 0, .int .i64 0, .string ⟨#[]⟩, .int .i64 0, .int .i64 0]) (hset_new rfl))) Tryz.underlying51 rfl size_Dec ?_))
    refine (shape (implTag_any d a4 cap4 xs sa4 scap4 ls u _ (ShsC.keep hc4S (show Below w4.heap.size w4 _ from by ((repeat (first | (with_reducible exact Below.refl _ _) | (with_reducible assumption) | (with_reducible refine Below.alloc ?_ ?_ _) | (with_reducible refine Below.setCell ?_ ?_ _) | (with_reducible refine Below.drew ?_) | (with_reducible refine below_setRow ?_ ?_ _) | (refine Below.trans ?_ (Below.mono (by assumption) ?_)))); all_goals (first | omega | (simp; done) | (simp; omega))))) (Sl.keep ht4 (show Below w4.heap.size w4 _ from by ((repeat (first | (with_reducible exact Below.refl _ _) | (with_reducible assumption) | (with_reducible refine Below.alloc ?_ ?_ _) | (with_reducible refine Below.setCell ?_ ?_ _) | (with_reducible refine Below.drew ?_) | (with_reducible refine below_setRow ?_ ?_ _) | (refine Below.trans ?_ (Below.mono (by assumption) ?_)))); all_goals (first | omega | (simp; done) | (simp; omega))))) hn hm hl hn4n h_u) HO.out).mono ?_
    rintro r w5 ⟨a5, cap5, rs5, sa5, scap5, ea5, ecap5, rfl, ho5, hp5, he5, hb5⟩
    have hy5 := hb5.size
    try simp only [World.size_alloc, World.size_setCell, World.size_drew, size_setRow] at hy5
    have hD5 : Below w4.heap.size w4 w5 := by ((repeat (first | (with_reducible exact Below.refl _ _) | (with_reducible assumption) | (with_reducible refine Below.alloc ?_ ?_ _) | (with_reducible refine Below.setCell ?_ ?_ _) | (with_reducible refine Below.drew ?_) | (with_reducible refine below_setRow ?_ ?_ _) | (refine Below.trans ?_ (Below.mono (by assumption) ?_)))); all_goals (first | omega | (simp; done) | (simp; omega)))
    have hz5 := hD5.size
    have hT5 : Below w.heap.size w w5 := hT4.trans (hD5.mono hT4.size)
    have kA_ := box_next hD5 hBA kA; clear kA; have kA := kA_; clear kA_; have hBA_ := Nat.lt_of_lt_of_le hBA hz5; clear hBA; have hBA := hBA_; clear hBA_
    have kW_ := box_next hD5 hBW kW; clear kW; have kW := kW_; clear kW_; have hBW_ := Nat.lt_of_lt_of_le hBW hz5; clear hBW; have hBW := hBW_; clear hBW_
    have R3_ := Lib.hid (R3.out.keep hD5); clear R3; have R3 := R3_; clear R3_
    have R4_ := Lib.hid (R4.out.keep hD5); clear R4; have R4 := R4_; clear R4_
    have hX_ : w5.heap[w4.heap.size]? = some (.cells #[.slice a4 xs.length cap4, .int .i64 d.p.root, .int .i64 d.p.deep, .int .i64 d.p.most, .int .i64 d.mode, .slice sa4 ls.length scap4, .int .u64 d.bits, .int .i64 d.have_, .int .i64 d.start, .int .i64 d.at_, .int .i64 d.field.number, .int .i64 d.field.kind, .bool d.field.rep, .bool d.field.packed, .int .i64 d.field.msg, .int .i64 d.wire, .int .i64 d.want, .int .i64 d.utf.want, .int .i64 d.utf.low, .int .i64 d.utf.high, .int .i64 d.end_.kind, .int .i64 d.end_.field, .int .u64 d.end_.bits, .int .i64 d.end_.len, .string d.end_.text, .int .i64 d.end_.code, .int .i64 d.end_.at_] 51 (0, 0)) := (hb5.block _ (by first | omega | (simp; done) | (simp; omega))).trans (hset_row (cs := #[.slice none 0 0, .int .i64 0, .int .i64 0, .int .i64 0, .int .i64 0, .slice none 0 0, .int .u64 0, .int .i64 0, .int .i64 0, .int .i64 0, .int .i64 0, .int .i64 0, .bool false, .bool false, .int .i64 0, .int .i64 0, .int .i64 0, .int .i64 0, .int .i64 0, .int .i64 0, .int .i64 0, .int .i64 0, .int .u64 0, .int .i64 0, .string ⟨#[]⟩, .int .i64 0, .int .i64 0]) (hset_new rfl))
    have kX := box_cells hX_; have hBX := box_lt hX_; clear hX_
    simp only [World.size_alloc, size_setRow] at ho5 hp5 he5
    have R5 := Lib.hid (OwnDE.of_de ho5 hp5 he5 (by first | omega | (simp; done) | (simp; omega)))
    clear ho5 hp5 he5 hc4S ht4
    go_wp2_with (first | (refine wpList_store_row rfl 51 (.tmp 9) (.tmp 34) rfl (w5.heap.size) #[.slice a5 xs.length cap5, .int .i64 e.p.root, .int .i64 e.p.deep, .int .i64 e.p.most, .int .i64 e.mode, .slice sa5 ms.length scap5, .int .u64 e.bits, .int .i64 e.have_, .int .i64 e.start, .int .i64 e.at_, .int .i64 e.field.number, .int .i64 e.field.kind, .bool e.field.rep, .bool e.field.packed, .int .i64 e.field.msg, .int .i64 e.wire, .int .i64 e.want, .int .i64 e.utf.want, .int .i64 e.utf.low, .int .i64 e.utf.high, .int .i64 e.end_.kind, .int .i64 e.end_.field, .int .u64 e.end_.bits, .int .i64 e.end_.len, .string e.end_.text, .int .i64 e.end_.code, .int .i64 e.end_.at_] rfl rfl 51 #[.slice none 0 0, .int .i64 0, .int .i64 0, .int .i64 0, .int .i64 0, .slice none 0 0, .int .u64 0, .int .i64 0, .int .i64 0, .int .i64 0, .int .i64 0, .int .i64 0, .bool false, .bool false, .int .i64 0, .int .i64 0, .int .i64 0, .int .i64 0, .int .i64 0, .int .i64 0, .int .i64 0, .int .i64 0, .int .u64 0, .int .i64 0, .string ⟨#[]⟩, .int .i64 0, .int .i64 0] (hset_new rfl) size_Dec rfl (one_Dec _ _ _ _ _ _ _) ?_) | (refine wpList_load_mid rfl 51 (.tmp 9) rfl (w5.heap.size) 0 rfl [.slice a5 xs.length cap5, .int .i64 e.p.root, .int .i64 e.p.deep, .int .i64 e.p.most, .int .i64 e.mode, .slice sa5 ms.length scap5, .int .u64 e.bits, .int .i64 e.have_, .int .i64 e.start, .int .i64 e.at_, .int .i64 e.field.number, .int .i64 e.field.kind, .bool e.field.rep, .bool e.field.packed, .int .i64 e.field.msg, .int .i64 e.wire, .int .i64 e.want, .int .i64 e.utf.want, .int .i64 e.utf.low, .int .i64 e.utf.high, .int .i64 e.end_.kind, .int .i64 e.end_.field, .int .u64 e.end_.bits, .int .i64 e.end_.len, .string e.end_.text, .int .i64 e.end_.code, .int .i64 e.end_.at_] _ (range_of_box (t := 51) (hset_row (cs := #[.slice none 0 0, .int .i64 0, .int .i64 0, .int .i64 0, .int .i64 0, .slice none 0 0, .int .u64 0, .int .i64 0, .int .i64 0, .int .i64 0, .int .i64 0, .int .i64 0, .bool false, .bool false, .int .i64 0, .int .i64 0, .int .i64 0, .int .i64 0, .int .i64 0, .int .i64 0, .int .i64 0, .int .i64 0, .int .u64 0, .int .i64 0, .string ⟨#[]⟩, .int .i64 0, .int .i64 0]) (hset_new rfl))) Tryz.underlying51 rfl size_Dec ?_) | (refine wpList_load_mid rfl 51 (.tmp 6) rfl (w3.heap.size) 0 rfl [.slice a3 xs.length cap3, .int .i64 e.p.root, .int .i64 e.p.deep, .int .i64 e.p.most, .int .i64 e.mode, .slice sa3 ms.length scap3, .int .u64 e.bits, .int .i64 e.have_, .int .i64 e.start, .int .i64 e.at_, .int .i64 e.field.number, .int .i64 e.field.kind, .bool e.field.rep, .bool e.field.packed, .int .i64 e.field.msg, .int .i64 e.wire, .int .i64 e.want, .int .i64 e.utf.want, .int .i64 e.utf.low, .int .i64 e.utf.high, .int .i64 e.end_.kind, .int .i64 e.end_.field, .int .u64 e.end_.bits, .int .i64 e.end_.len, .string e.end_.text, .int .i64 e.end_.code, .int .i64 e.end_.at_] _ (range_of_cells (box_next (w := w5) (by ((repeat (first | (with_reducible exact Below.refl _ _) | (with_reducible assumption) | (with_reducible refine Below.alloc ?_ ?_ _) | (with_reducible refine Below.setCell ?_ ?_ _) | (with_reducible refine Below.drew ?_) | (with_reducible refine below_setRow ?_ ?_ _) | (refine Below.trans ?_ (Below.mono (by assumption) ?_)))); all_goals (first | omega | (simp; done) | (simp; omega)))) hBW kW)) Tryz.underlying51 rfl size_Dec ?_))
    refine (eqDec_same e _ _ _ _ _ xs _ _ _ _ _ ms _ (R5.out.keep (show Below w5.heap.size w5 _ from by ((repeat (first | (with_reducible exact Below.refl _ _) | (with_reducible assumption) | (with_reducible refine Below.alloc ?_ ?_ _) | (with_reducible refine Below.setCell ?_ ?_ _) | (with_reducible refine Below.drew ?_) | (with_reducible refine below_setRow ?_ ?_ _) | (refine Below.trans ?_ (Below.mono (by assumption) ?_)))); all_goals (first | omega | (simp; done) | (simp; omega))))).shs (R3.out.keep (show Below w5.heap.size w5 _ from by ((repeat (first | (with_reducible exact Below.refl _ _) | (with_reducible assumption) | (with_reducible refine Below.alloc ?_ ?_ _) | (with_reducible refine Below.setCell ?_ ?_ _) | (with_reducible refine Below.drew ?_) | (with_reducible refine below_setRow ?_ ?_ _) | (refine Below.trans ?_ (Below.mono (by assumption) ?_)))); all_goals (first | omega | (simp; done) | (simp; omega))))).shs (R5.out.keep (show Below w5.heap.size w5 _ from by ((repeat (first | (with_reducible exact Below.refl _ _) | (with_reducible assumption) | (with_reducible refine Below.alloc ?_ ?_ _) | (with_reducible refine Below.setCell ?_ ?_ _) | (with_reducible refine Below.drew ?_) | (with_reducible refine below_setRow ?_ ?_ _) | (refine Below.trans ?_ (Below.mono (by assumption) ?_)))); all_goals (first | omega | (simp; done) | (simp; omega))))).lvls (R3.out.keep (show Below w5.heap.size w5 _ from by ((repeat (first | (with_reducible exact Below.refl _ _) | (with_reducible assumption) | (with_reducible refine Below.alloc ?_ ?_ _) | (with_reducible refine Below.setCell ?_ ?_ _) | (with_reducible refine Below.drew ?_) | (with_reducible refine below_setRow ?_ ?_ _) | (refine Below.trans ?_ (Below.mono (by assumption) ?_)))); all_goals (first | omega | (simp; done) | (simp; omega))))).lvls rfl rfl hn hm hms).mono ?_
    rintro r w6 ⟨rfl, hb6⟩
    have hy6 := hb6.size
    try simp only [World.size_alloc, World.size_setCell, World.size_drew, size_setRow] at hy6
    have hD6 : Below w5.heap.size w5 w6 := by ((repeat (first | (with_reducible exact Below.refl _ _) | (with_reducible assumption) | (with_reducible refine Below.alloc ?_ ?_ _) | (with_reducible refine Below.setCell ?_ ?_ _) | (with_reducible refine Below.drew ?_) | (with_reducible refine below_setRow ?_ ?_ _) | (refine Below.trans ?_ (Below.mono (by assumption) ?_)))); all_goals (first | omega | (simp; done) | (simp; omega)))
    have hz6 := hD6.size
    have hT6 : Below w.heap.size w w6 := hT5.trans (hD6.mono hT5.size)
    have kA_ := box_next hD6 hBA kA; clear kA; have kA := kA_; clear kA_; have hBA_ := Nat.lt_of_lt_of_le hBA hz6; clear hBA; have hBA := hBA_; clear hBA_
    have kW_ := box_next hD6 hBW kW; clear kW; have kW := kW_; clear kW_; have hBW_ := Nat.lt_of_lt_of_le hBW hz6; clear hBW; have hBW := hBW_; clear hBW_
    have kX_ := box_next hD6 hBX kX; clear kX; have kX := kX_; clear kX_; have hBX_ := Nat.lt_of_lt_of_le hBX hz6; clear hBX; have hBX := hBX_; clear hBX_
    have R3_ := Lib.hid (R3.out.keep hD6); clear R3; have R3 := R3_; clear R3_
    have R4_ := Lib.hid (R4.out.keep hD6); clear R4; have R4 := R4_; clear R4_
    have R5_ := Lib.hid (R5.out.keep hD6); clear R5; have R5 := R5_; clear R5_
    have hG_ : w6.heap[w5.heap.size]? = some (.cells #[.slice a5 xs.length cap5, .int .i64 e.p.root, .int .i64 e.p.deep, .int .i64 e.p.most, .int .i64 e.mode, .slice sa5 ms.length scap5, .int .u64 e.bits, .int .i64 e.have_, .int .i64 e.start, .int .i64 e.at_, .int .i64 e.field.number, .int .i64 e.field.kind, .bool e.field.rep, .bool e.field.packed, .int .i64 e.field.msg, .int .i64 e.wire, .int .i64 e.want, .int .i64 e.utf.want, .int .i64 e.utf.low, .int .i64 e.utf.high, .int .i64 e.end_.kind, .int .i64 e.end_.field, .int .u64 e.end_.bits, .int .i64 e.end_.len, .string e.end_.text, .int .i64 e.end_.code, .int .i64 e.end_.at_] 51 (0, 0)) := (hb6.block _ (by first | omega | (simp; done) | (simp; omega))).trans (hset_row (cs := #[.slice none 0 0, .int .i64 0, .int .i64 0, .int .i64 0, .int .i64 0, .slice none 0 0, .int .u64 0, .int .i64 0, .int .i64 0, .int .i64 0, .int .i64 0, .int .i64 0, .bool false, .bool false, .int .i64 0, .int .i64 0, .int .i64 0, .int .i64 0, .int .i64 0, .int .i64 0, .int .i64 0, .int .i64 0, .int .u64 0, .int .i64 0, .string ⟨#[]⟩, .int .i64 0, .int .i64 0]) (hset_new rfl))
    have kG := box_cells hG_; have hBG := box_lt hG_; clear hG_
    go_wp2_with fail
    refine (eqE_same ea5 ea3 ecap5 ecap3 _ es _ (R5.out.keep (show Below w6.heap.size w6 _ from by ((repeat (first | (with_reducible exact Below.refl _ _) | (with_reducible assumption) | (with_reducible refine Below.alloc ?_ ?_ _) | (with_reducible refine Below.setCell ?_ ?_ _) | (with_reducible refine Below.drew ?_) | (with_reducible refine below_setRow ?_ ?_ _) | (refine Below.trans ?_ (Below.mono (by assumption) ?_)))); all_goals (first | omega | (simp; done) | (simp; omega))))).evs (R3.out.keep (show Below w6.heap.size w6 _ from by ((repeat (first | (with_reducible exact Below.refl _ _) | (with_reducible assumption) | (with_reducible refine Below.alloc ?_ ?_ _) | (with_reducible refine Below.setCell ?_ ?_ _) | (with_reducible refine Below.drew ?_) | (with_reducible refine below_setRow ?_ ?_ _) | (refine Below.trans ?_ (Below.mono (by assumption) ?_)))); all_goals (first | omega | (simp; done) | (simp; omega))))).evs rfl hes).mono ?_
    rintro r w7 ⟨rfl, hb7⟩
    have hy7 := hb7.size
    try simp only [World.size_alloc, World.size_setCell, World.size_drew, size_setRow] at hy7
    have hD7 : Below w6.heap.size w6 w7 := by ((repeat (first | (with_reducible exact Below.refl _ _) | (with_reducible assumption) | (with_reducible refine Below.alloc ?_ ?_ _) | (with_reducible refine Below.setCell ?_ ?_ _) | (with_reducible refine Below.drew ?_) | (with_reducible refine below_setRow ?_ ?_ _) | (refine Below.trans ?_ (Below.mono (by assumption) ?_)))); all_goals (first | omega | (simp; done) | (simp; omega)))
    have hz7 := hD7.size
    have hT7 : Below w.heap.size w w7 := hT6.trans (hD7.mono hT6.size)
    have kA_ := box_next hD7 hBA kA; clear kA; have kA := kA_; clear kA_; have hBA_ := Nat.lt_of_lt_of_le hBA hz7; clear hBA; have hBA := hBA_; clear hBA_
    have kW_ := box_next hD7 hBW kW; clear kW; have kW := kW_; clear kW_; have hBW_ := Nat.lt_of_lt_of_le hBW hz7; clear hBW; have hBW := hBW_; clear hBW_
    have kX_ := box_next hD7 hBX kX; clear kX; have kX := kX_; clear kX_; have hBX_ := Nat.lt_of_lt_of_le hBX hz7; clear hBX; have hBX := hBX_; clear hBX_
    have kG_ := box_next hD7 hBG kG; clear kG; have kG := kG_; clear kG_; have hBG_ := Nat.lt_of_lt_of_le hBG hz7; clear hBG; have hBG := hBG_; clear hBG_
    have R3_ := Lib.hid (R3.out.keep hD7); clear R3; have R3 := R3_; clear R3_
    have R4_ := Lib.hid (R4.out.keep hD7); clear R4; have R4 := R4_; clear R4_
    have R5_ := Lib.hid (R5.out.keep hD7); clear R5; have R5 := R5_; clear R5_
    go_wp2_with fail
    refine wp_region_held_drew (S := fun w' => w'.rangeAt (w4.heap.size) 0 [.slice a4 xs.length cap4, .int .i64 d.p.root, .int .i64 d.p.deep, .int .i64 d.p.most, .int .i64 d.mode, .slice sa4 ls.length scap4, .int .u64 d.bits, .int .i64 d.have_, .int .i64 d.start, .int .i64 d.at_, .int .i64 d.field.number, .int .i64 d.field.kind, .bool d.field.rep, .bool d.field.packed, .int .i64 d.field.msg, .int .i64 d.wire, .int .i64 d.want, .int .i64 d.utf.want, .int .i64 d.utf.low, .int .i64 d.utf.high, .int .i64 d.end_.kind, .int .i64 d.end_.field, .int .u64 d.end_.bits, .int .i64 d.end_.len, .string d.end_.text, .int .i64 d.end_.code, .int .i64 d.end_.at_] ∧ w'.rangeAt (w.heap.size) 0 [.slice a xs.length cap, .int .i64 d.p.root, .int .i64 d.p.deep, .int .i64 d.p.most, .int .i64 d.mode, .slice sa ls.length scap, .int .u64 d.bits, .int .i64 d.have_, .int .i64 d.start, .int .i64 d.at_, .int .i64 d.field.number, .int .i64 d.field.kind, .bool d.field.rep, .bool d.field.packed, .int .i64 d.field.msg, .int .i64 d.wire, .int .i64 d.want, .int .i64 d.utf.want, .int .i64 d.utf.low, .int .i64 d.utf.high, .int .i64 d.end_.kind, .int .i64 d.end_.field, .int .u64 d.end_.bits, .int .i64 d.end_.len, .string d.end_.text, .int .i64 d.end_.code, .int .i64 d.end_.at_] ∧ Below w7.heap.size w7 w') (by kernel_rfl) ⟨range_of_cells kX, range_of_cells kA, (Below.refl _ _).drew⟩ (fun hHeld => ?_)
    refine' wpAnyH_take (i := 0) (oi := _) (v := _) rfl (by kernel_rfl) (by kernel_rfl) (by kernel_rfl) (fun _ _ _ h => h) (yieldsIf_load_mid (by rfl) _ _ rfl _ _ rfl [.slice a4 xs.length cap4, .int .i64 d.p.root, .int .i64 d.p.deep, .int .i64 d.p.most, .int .i64 d.mode, .slice sa4 ls.length scap4, .int .u64 d.bits, .int .i64 d.have_, .int .i64 d.start, .int .i64 d.at_, .int .i64 d.field.number, .int .i64 d.field.kind, .bool d.field.rep, .bool d.field.packed, .int .i64 d.field.msg, .int .i64 d.wire, .int .i64 d.want, .int .i64 d.utf.want, .int .i64 d.utf.low, .int .i64 d.utf.high, .int .i64 d.end_.kind, .int .i64 d.end_.field, .int .u64 d.end_.bits, .int .i64 d.end_.len, .string d.end_.text, .int .i64 d.end_.code, .int .i64 d.end_.at_] _ (fun w h => h.1) Tryz.underlying51 rfl size_Dec) hHeld ?_
    try simp only [Act.put, List.setIfInBounds_toArray, List.set_cons_zero, List.set_cons_succ]
    refine' wpAnyH_take (i := 1) (oi := _) (v := _) rfl (by kernel_rfl) (by kernel_rfl) (by kernel_rfl) (fun _ _ _ h => h) (yieldsIf_load_mid (by rfl) _ _ rfl _ _ rfl [.slice a xs.length cap, .int .i64 d.p.root, .int .i64 d.p.deep, .int .i64 d.p.most, .int .i64 d.mode, .slice sa ls.length scap, .int .u64 d.bits, .int .i64 d.have_, .int .i64 d.start, .int .i64 d.at_, .int .i64 d.field.number, .int .i64 d.field.kind, .bool d.field.rep, .bool d.field.packed, .int .i64 d.field.msg, .int .i64 d.wire, .int .i64 d.want, .int .i64 d.utf.want, .int .i64 d.utf.low, .int .i64 d.utf.high, .int .i64 d.end_.kind, .int .i64 d.end_.field, .int .u64 d.end_.bits, .int .i64 d.end_.len, .string d.end_.text, .int .i64 d.end_.code, .int .i64 d.end_.at_] _ (fun w h => h.2.1) Tryz.underlying38 rfl size_LDec) hHeld ?_
    try simp only [Act.put, List.setIfInBounds_toArray, List.set_cons_zero, List.set_cons_succ]
    refine wpAnyH_ready (rs := [2]) (by kernel_rfl) (by simp) ?_
    refine AllReadyH.cons rfl (fun K hK => ?_) AllReadyH.nil
    obtain ⟨_, _, hbH⟩ := hHeld
    go_simp
    refine (toDec_any d a cap xs sa scap ls _ (Shs.keep hsl (show Below w.heap.size w _ from by ((repeat (first | (with_reducible exact Below.refl _ _) | (with_reducible assumption) | (with_reducible refine Below.alloc ?_ ?_ _) | (with_reducible refine Below.setCell ?_ ?_ _) | (with_reducible refine Below.drew ?_) | (with_reducible refine below_setRow ?_ ?_ _) | (refine Below.trans ?_ (Below.mono (by assumption) ?_)))); all_goals (first | omega | (simp; done) | (simp; omega))))) (Sl.keep hsl2 (show Below w.heap.size w _ from by ((repeat (first | (with_reducible exact Below.refl _ _) | (with_reducible assumption) | (with_reducible refine Below.alloc ?_ ?_ _) | (with_reducible refine Below.setCell ?_ ?_ _) | (with_reducible refine Below.drew ?_) | (with_reducible refine below_setRow ?_ ?_ _) | (refine Below.trans ?_ (Below.mono (by assumption) ?_)))); all_goals (first | omega | (simp; done) | (simp; omega))))) hn hm hl).mono ?_
    rintro r w8 ⟨a8, cap8, rs8, sa8, scap8, rfl, ho8, hp8, hb8⟩
    have hs8 := ho8.shs; clear ho8; have ht8 : Lvls w8 sa8 ls := lvls_of_own hp8 rfl; clear hp8
    have hD8 : Below w7.heap.size w7 w8 := by ((repeat (first | (with_reducible exact Below.refl _ _) | (with_reducible assumption) | (with_reducible refine Below.alloc ?_ ?_ _) | (with_reducible refine Below.setCell ?_ ?_ _) | (with_reducible refine Below.drew ?_) | (with_reducible refine below_setRow ?_ ?_ _) | (refine Below.trans ?_ (Below.mono (by assumption) ?_)))); all_goals (first | omega | (simp; done) | (simp; omega)))
    have hz8 := hD8.size
    refine hK.out _ _ ⟨range_of_cells (box_next hD8 hBX kX), range_of_cells (box_next hD8 hBA kA), hD8⟩ (fun hHeld => ?_)
    clear hK K hHeld
    try simp only [Act.put, List.setIfInBounds_toArray, List.set_cons_zero, List.set_cons_succ]
    refine wpAnyH_ready (rs := [3]) (by kernel_rfl) (by simp) ?_
    refine AllReadyH.cons rfl (fun K hK => ?_) AllReadyH.nil
    go_simp
    refine (eqDec_same d _ _ _ _ _ xs _ _ _ _ _ ls _ (R4.out.keep hD8).shs hs8 (R4.out.keep hD8).lvls ht8 rfl rfl hn hm hl).mono ?_
    rintro r w9 ⟨rfl, hb9⟩
    have hD9 : Below w7.heap.size w7 w9 := by ((repeat (first | (with_reducible exact Below.refl _ _) | (with_reducible assumption) | (with_reducible refine Below.alloc ?_ ?_ _) | (with_reducible refine Below.setCell ?_ ?_ _) | (with_reducible refine Below.drew ?_) | (with_reducible refine below_setRow ?_ ?_ _) | (refine Below.trans ?_ (Below.mono (by assumption) ?_)))); all_goals (first | omega | (simp; done) | (simp; omega)))
    have hz9 := hD9.size
    refine hK.out _ _ ⟨range_of_cells (box_next hD9 hBX kX), range_of_cells (box_next hD9 hBA kA), hD9⟩ (fun hHeld => ?_)
    clear hK K hHeld
    try simp only [Act.put, List.setIfInBounds_toArray, List.set_cons_zero, List.set_cons_succ]
    refine wpAnyH_ready (rs := [4]) (by kernel_rfl) (by simp) ?_
    refine AllReadyH.cons rfl (fun K hK => ?_) AllReadyH.nil
    go_simp
    refine hK.out _ _ ⟨range_of_cells (box_next hD9 hBX kX), range_of_cells (box_next hD9 hBA kA), hD9⟩ (fun hHeld => ?_)
    clear hK K hHeld
    try simp only [Act.put, List.setIfInBounds_toArray, List.set_cons_zero, List.set_cons_succ]
    refine wpAnyH_done (by kernel_rfl) ?_ _
    have hT9 : Below w.heap.size w w9 := hT7.trans (hD9.mono hT7.size)
    have kA_ := box_next hD9 hBA kA; clear kA; have kA := kA_; clear kA_; have hBA_ := Nat.lt_of_lt_of_le hBA hz9; clear hBA; have hBA := hBA_; clear hBA_
    have kW_ := box_next hD9 hBW kW; clear kW; have kW := kW_; clear kW_; have hBW_ := Nat.lt_of_lt_of_le hBW hz9; clear hBW; have hBW := hBW_; clear hBW_
    have kX_ := box_next hD9 hBX kX; clear kX; have kX := kX_; clear kX_; have hBX_ := Nat.lt_of_lt_of_le hBX hz9; clear hBX; have hBX := hBX_; clear hBX_
    have kG_ := box_next hD9 hBG kG; clear kG; have kG := kG_; clear kG_; have hBG_ := Nat.lt_of_lt_of_le hBG hz9; clear hBG; have hBG := hBG_; clear hBG_
    have R3_ := Lib.hid (R3.out.keep hD9); clear R3; have R3 := R3_; clear R3_
    have R4_ := Lib.hid (R4.out.keep hD9); clear R4; have R4 := R4_; clear R4_
    have R5_ := Lib.hid (R5.out.keep hD9); clear R5; have R5 := R5_; clear R5_
    go_wp2_with (first | (refine wpList_load_mid rfl 51 (.tmp 8) rfl (w4.heap.size) 0 rfl [.slice a4 xs.length cap4, .int .i64 d.p.root, .int .i64 d.p.deep, .int .i64 d.p.most, .int .i64 d.mode, .slice sa4 ls.length scap4, .int .u64 d.bits, .int .i64 d.have_, .int .i64 d.start, .int .i64 d.at_, .int .i64 d.field.number, .int .i64 d.field.kind, .bool d.field.rep, .bool d.field.packed, .int .i64 d.field.msg, .int .i64 d.wire, .int .i64 d.want, .int .i64 d.utf.want, .int .i64 d.utf.low, .int .i64 d.utf.high, .int .i64 d.end_.kind, .int .i64 d.end_.field, .int .u64 d.end_.bits, .int .i64 d.end_.len, .string d.end_.text, .int .i64 d.end_.code, .int .i64 d.end_.at_] _ (range_of_cells kX) Tryz.underlying51 rfl size_Dec ?_))
    refine (markD_N d a4 cap4 _ rs4 xs sa4 scap4 _ _ none 0 [] _ _ N4 _ R4.out hn hm hl HN4.out).mono ?_
    rintro r w10 ⟨rfl, ⟨rs4', h4'⟩, hc10⟩
    have hz10 := hc10.size
    have hT10 : Below w.heap.size w w10 := hT9.trans ((hc10.below (by omega)).mono (by omega))
    have kA_ := box_chg hc10 hBA (by omega) kA; clear kA; have kA := kA_; clear kA_; have hBA_ := Nat.lt_of_lt_of_le hBA hz10; clear hBA; have hBA := hBA_; clear hBA_
    have kW_ := box_chg hc10 hBW (by omega) kW; clear kW; have kW := kW_; clear kW_; have hBW_ := Nat.lt_of_lt_of_le hBW hz10; clear hBW; have hBW := hBW_; clear hBW_
    have kX_ := box_chg hc10 hBX (by omega) kX; clear kX; have kX := kX_; clear kX_; have hBX_ := Nat.lt_of_lt_of_le hBX hz10; clear hBX; have hBX := hBX_; clear hBX_
    have kG_ := box_chg hc10 hBG (by omega) kG; clear kG; have kG := kG_; clear kG_; have hBG_ := Nat.lt_of_lt_of_le hBG hz10; clear hBG; have hBG := hBG_; clear hBG_
    have R3_ := Lib.hid (R3.out.chg hc10 (by omega)); clear R3; have R3 := R3_; clear R3_
    have R5_ := Lib.hid (R5.out.chg hc10 (by omega)); clear R5; have R5 := R5_; clear R5_
    clear R4; have R4 := Lib.hid h4'; clear h4'
    go_wp2_with (first | (refine wpList_load_mid rfl 51 (.tmp 9) rfl (w5.heap.size) 0 rfl [.slice a5 xs.length cap5, .int .i64 e.p.root, .int .i64 e.p.deep, .int .i64 e.p.most, .int .i64 e.mode, .slice sa5 ms.length scap5, .int .u64 e.bits, .int .i64 e.have_, .int .i64 e.start, .int .i64 e.at_, .int .i64 e.field.number, .int .i64 e.field.kind, .bool e.field.rep, .bool e.field.packed, .int .i64 e.field.msg, .int .i64 e.wire, .int .i64 e.want, .int .i64 e.utf.want, .int .i64 e.utf.low, .int .i64 e.utf.high, .int .i64 e.end_.kind, .int .i64 e.end_.field, .int .u64 e.end_.bits, .int .i64 e.end_.len, .string e.end_.text, .int .i64 e.end_.code, .int .i64 e.end_.at_] _ (range_of_cells kG) Tryz.underlying51 rfl size_Dec ?_) | (refine wpList_load_want 51 (.tmp 9) rfl rfl (w5.heap.size) 0 rfl [.slice a5 xs.length cap5, .int .i64 e.p.root, .int .i64 e.p.deep, .int .i64 e.p.most, .int .i64 e.mode, .slice sa5 ms.length scap5, .int .u64 e.bits, .int .i64 e.have_, .int .i64 e.start, .int .i64 e.at_, .int .i64 e.field.number, .int .i64 e.field.kind, .bool e.field.rep, .bool e.field.packed, .int .i64 e.field.msg, .int .i64 e.wire, .int .i64 e.want, .int .i64 e.utf.want, .int .i64 e.utf.low, .int .i64 e.utf.high, .int .i64 e.end_.kind, .int .i64 e.end_.field, .int .u64 e.end_.bits, .int .i64 e.end_.len, .string e.end_.text, .int .i64 e.end_.code, .int .i64 e.end_.at_] _ (range_of_cells kG) Tryz.underlying51 rfl size_Dec ?_) | (refine wpList_load_mid rfl 51 (.tmp 6) rfl (w3.heap.size) 0 rfl [.slice a3 xs.length cap3, .int .i64 e.p.root, .int .i64 e.p.deep, .int .i64 e.p.most, .int .i64 e.mode, .slice sa3 ms.length scap3, .int .u64 e.bits, .int .i64 e.have_, .int .i64 e.start, .int .i64 e.at_, .int .i64 e.field.number, .int .i64 e.field.kind, .bool e.field.rep, .bool e.field.packed, .int .i64 e.field.msg, .int .i64 e.wire, .int .i64 e.want, .int .i64 e.utf.want, .int .i64 e.utf.low, .int .i64 e.utf.high, .int .i64 e.end_.kind, .int .i64 e.end_.field, .int .u64 e.end_.bits, .int .i64 e.end_.len, .string e.end_.text, .int .i64 e.end_.code, .int .i64 e.end_.at_] _ (range_of_cells kW) Tryz.underlying51 rfl size_Dec ?_) | (refine wpList_load_want 51 (.tmp 6) rfl rfl (w3.heap.size) 0 rfl [.slice a3 xs.length cap3, .int .i64 e.p.root, .int .i64 e.p.deep, .int .i64 e.p.most, .int .i64 e.mode, .slice sa3 ms.length scap3, .int .u64 e.bits, .int .i64 e.have_, .int .i64 e.start, .int .i64 e.at_, .int .i64 e.field.number, .int .i64 e.field.kind, .bool e.field.rep, .bool e.field.packed, .int .i64 e.field.msg, .int .i64 e.wire, .int .i64 e.want, .int .i64 e.utf.want, .int .i64 e.utf.low, .int .i64 e.utf.high, .int .i64 e.end_.kind, .int .i64 e.end_.field, .int .u64 e.end_.bits, .int .i64 e.end_.len, .string e.end_.text, .int .i64 e.end_.code, .int .i64 e.end_.at_] _ (range_of_cells kW) Tryz.underlying51 rfl size_Dec ?_))
    refine (eqDec_same e _ _ _ _ _ xs _ _ _ _ _ ms _ (R5.out.keep (show Below w10.heap.size w10 _ from by ((repeat (first | (with_reducible exact Below.refl _ _) | (with_reducible assumption) | (with_reducible refine Below.alloc ?_ ?_ _) | (with_reducible refine Below.setCell ?_ ?_ _) | (with_reducible refine Below.drew ?_) | (with_reducible refine below_setRow ?_ ?_ _) | (refine Below.trans ?_ (Below.mono (by assumption) ?_)))); all_goals (first | omega | (simp; done) | (simp; omega))))).shs (R3.out.keep (show Below w10.heap.size w10 _ from by ((repeat (first | (with_reducible exact Below.refl _ _) | (with_reducible assumption) | (with_reducible refine Below.alloc ?_ ?_ _) | (with_reducible refine Below.setCell ?_ ?_ _) | (with_reducible refine Below.drew ?_) | (with_reducible refine below_setRow ?_ ?_ _) | (refine Below.trans ?_ (Below.mono (by assumption) ?_)))); all_goals (first | omega | (simp; done) | (simp; omega))))).shs (R5.out.keep (show Below w10.heap.size w10 _ from by ((repeat (first | (with_reducible exact Below.refl _ _) | (with_reducible assumption) | (with_reducible refine Below.alloc ?_ ?_ _) | (with_reducible refine Below.setCell ?_ ?_ _) | (with_reducible refine Below.drew ?_) | (with_reducible refine below_setRow ?_ ?_ _) | (refine Below.trans ?_ (Below.mono (by assumption) ?_)))); all_goals (first | omega | (simp; done) | (simp; omega))))).lvls (R3.out.keep (show Below w10.heap.size w10 _ from by ((repeat (first | (with_reducible exact Below.refl _ _) | (with_reducible assumption) | (with_reducible refine Below.alloc ?_ ?_ _) | (with_reducible refine Below.setCell ?_ ?_ _) | (with_reducible refine Below.drew ?_) | (with_reducible refine below_setRow ?_ ?_ _) | (refine Below.trans ?_ (Below.mono (by assumption) ?_)))); all_goals (first | omega | (simp; done) | (simp; omega))))).lvls rfl rfl hn hm hms).mono ?_
    rintro r w11 ⟨rfl, hb11⟩
    have hy11 := hb11.size
    try simp only [World.size_alloc, World.size_setCell, World.size_drew, size_setRow] at hy11
    have hD11 : Below w10.heap.size w10 w11 := by ((repeat (first | (with_reducible exact Below.refl _ _) | (with_reducible assumption) | (with_reducible refine Below.alloc ?_ ?_ _) | (with_reducible refine Below.setCell ?_ ?_ _) | (with_reducible refine Below.drew ?_) | (with_reducible refine below_setRow ?_ ?_ _) | (refine Below.trans ?_ (Below.mono (by assumption) ?_)))); all_goals (first | omega | (simp; done) | (simp; omega)))
    have hz11 := hD11.size
    have hT11 : Below w.heap.size w w11 := hT10.trans (hD11.mono hT10.size)
    have kA_ := box_next hD11 hBA kA; clear kA; have kA := kA_; clear kA_; have hBA_ := Nat.lt_of_lt_of_le hBA hz11; clear hBA; have hBA := hBA_; clear hBA_
    have kW_ := box_next hD11 hBW kW; clear kW; have kW := kW_; clear kW_; have hBW_ := Nat.lt_of_lt_of_le hBW hz11; clear hBW; have hBW := hBW_; clear hBW_
    have kX_ := box_next hD11 hBX kX; clear kX; have kX := kX_; clear kX_; have hBX_ := Nat.lt_of_lt_of_le hBX hz11; clear hBX; have hBX := hBX_; clear hBX_
    have kG_ := box_next hD11 hBG kG; clear kG; have kG := kG_; clear kG_; have hBG_ := Nat.lt_of_lt_of_le hBG hz11; clear hBG; have hBG := hBG_; clear hBG_
    have R3_ := Lib.hid (R3.out.keep hD11); clear R3; have R3 := R3_; clear R3_
    have R4_ := Lib.hid (R4.out.keep hD11); clear R4; have R4 := R4_; clear R4_
    have R5_ := Lib.hid (R5.out.keep hD11); clear R5; have R5 := R5_; clear R5_
    go_wp2_with fail
    refine (eqE_same ea5 ea3 ecap5 ecap3 _ es _ (R5.out.keep (show Below w11.heap.size w11 _ from by ((repeat (first | (with_reducible exact Below.refl _ _) | (with_reducible assumption) | (with_reducible refine Below.alloc ?_ ?_ _) | (with_reducible refine Below.setCell ?_ ?_ _) | (with_reducible refine Below.drew ?_) | (with_reducible refine below_setRow ?_ ?_ _) | (refine Below.trans ?_ (Below.mono (by assumption) ?_)))); all_goals (first | omega | (simp; done) | (simp; omega))))).evs (R3.out.keep (show Below w11.heap.size w11 _ from by ((repeat (first | (with_reducible exact Below.refl _ _) | (with_reducible assumption) | (with_reducible refine Below.alloc ?_ ?_ _) | (with_reducible refine Below.setCell ?_ ?_ _) | (with_reducible refine Below.drew ?_) | (with_reducible refine below_setRow ?_ ?_ _) | (refine Below.trans ?_ (Below.mono (by assumption) ?_)))); all_goals (first | omega | (simp; done) | (simp; omega))))).evs rfl hes).mono ?_
    rintro r w12 ⟨rfl, hb12⟩
    have hy12 := hb12.size
    try simp only [World.size_alloc, World.size_setCell, World.size_drew, size_setRow] at hy12
    have hD12 : Below w11.heap.size w11 w12 := by ((repeat (first | (with_reducible exact Below.refl _ _) | (with_reducible assumption) | (with_reducible refine Below.alloc ?_ ?_ _) | (with_reducible refine Below.setCell ?_ ?_ _) | (with_reducible refine Below.drew ?_) | (with_reducible refine below_setRow ?_ ?_ _) | (refine Below.trans ?_ (Below.mono (by assumption) ?_)))); all_goals (first | omega | (simp; done) | (simp; omega)))
    have hz12 := hD12.size
    have hT12 : Below w.heap.size w w12 := hT11.trans (hD12.mono hT11.size)
    have kA_ := box_next hD12 hBA kA; clear kA; have kA := kA_; clear kA_; have hBA_ := Nat.lt_of_lt_of_le hBA hz12; clear hBA; have hBA := hBA_; clear hBA_
    have kW_ := box_next hD12 hBW kW; clear kW; have kW := kW_; clear kW_; have hBW_ := Nat.lt_of_lt_of_le hBW hz12; clear hBW; have hBW := hBW_; clear hBW_
    have kX_ := box_next hD12 hBX kX; clear kX; have kX := kX_; clear kX_; have hBX_ := Nat.lt_of_lt_of_le hBX hz12; clear hBX; have hBX := hBX_; clear hBX_
    have kG_ := box_next hD12 hBG kG; clear kG; have kG := kG_; clear kG_; have hBG_ := Nat.lt_of_lt_of_le hBG hz12; clear hBG; have hBG := hBG_; clear hBG_
    have R3_ := Lib.hid (R3.out.keep hD12); clear R3; have R3 := R3_; clear R3_
    have R4_ := Lib.hid (R4.out.keep hD12); clear R4; have R4 := R4_; clear R4_
    have R5_ := Lib.hid (R5.out.keep hD12); clear R5; have R5 := R5_; clear R5_
    go_wp2_with (first | (refine wpList_load_mid rfl 51 (.tmp 9) rfl (w5.heap.size) 0 rfl [.slice a5 xs.length cap5, .int .i64 e.p.root, .int .i64 e.p.deep, .int .i64 e.p.most, .int .i64 e.mode, .slice sa5 ms.length scap5, .int .u64 e.bits, .int .i64 e.have_, .int .i64 e.start, .int .i64 e.at_, .int .i64 e.field.number, .int .i64 e.field.kind, .bool e.field.rep, .bool e.field.packed, .int .i64 e.field.msg, .int .i64 e.wire, .int .i64 e.want, .int .i64 e.utf.want, .int .i64 e.utf.low, .int .i64 e.utf.high, .int .i64 e.end_.kind, .int .i64 e.end_.field, .int .u64 e.end_.bits, .int .i64 e.end_.len, .string e.end_.text, .int .i64 e.end_.code, .int .i64 e.end_.at_] _ (range_of_cells kG) Tryz.underlying51 rfl size_Dec ?_))
    refine (markD_N e a5 cap5 _ rs5 xs sa5 scap5 _ _ ea5 _ _ _ _ N5 _ R5.out hn hm hms HN5.out).mono ?_
    rintro r w13 ⟨rfl, ⟨rs5', h5'⟩, hc13⟩
    have hz13 := hc13.size
    have hT13 : Below w.heap.size w w13 := hT12.trans ((hc13.below (by omega)).mono (by omega))
    have kA_ := box_chg hc13 hBA (by omega) kA; clear kA; have kA := kA_; clear kA_; have hBA_ := Nat.lt_of_lt_of_le hBA hz13; clear hBA; have hBA := hBA_; clear hBA_
    have kW_ := box_chg hc13 hBW (by omega) kW; clear kW; have kW := kW_; clear kW_; have hBW_ := Nat.lt_of_lt_of_le hBW hz13; clear hBW; have hBW := hBW_; clear hBW_
    have kX_ := box_chg hc13 hBX (by omega) kX; clear kX; have kX := kX_; clear kX_; have hBX_ := Nat.lt_of_lt_of_le hBX hz13; clear hBX; have hBX := hBX_; clear hBX_
    have kG_ := box_chg hc13 hBG (by omega) kG; clear kG; have kG := kG_; clear kG_; have hBG_ := Nat.lt_of_lt_of_le hBG hz13; clear hBG; have hBG := hBG_; clear hBG_
    have R3_ := Lib.hid (R3.out.chg hc13 (by omega)); clear R3; have R3 := R3_; clear R3_
    have R4_ := Lib.hid (R4.out.chg hc13 (by omega)); clear R4; have R4 := R4_; clear R4_
    clear R5; have R5 := Lib.hid h5'; clear h5'
    go_wp2_with fail
    refine (markE_N ea5 ecap5 _ a5 _ rs5' _ sa5 _ _ _ _ _ N5 _ R5.out hes hN5p hN5b).mono ?_
    rintro r w14 ⟨rfl, h5'', hc14⟩
    have hz14 := hc14.size
    have hT14 : Below w.heap.size w w14 := hT13.trans ((hc14.below (by omega)).mono (by omega))
    have kA_ := box_chg hc14 hBA (by omega) kA; clear kA; have kA := kA_; clear kA_; have hBA_ := Nat.lt_of_lt_of_le hBA hz14; clear hBA; have hBA := hBA_; clear hBA_
    have kW_ := box_chg hc14 hBW (by omega) kW; clear kW; have kW := kW_; clear kW_; have hBW_ := Nat.lt_of_lt_of_le hBW hz14; clear hBW; have hBW := hBW_; clear hBW_
    have kX_ := box_chg hc14 hBX (by omega) kX; clear kX; have kX := kX_; clear kX_; have hBX_ := Nat.lt_of_lt_of_le hBX hz14; clear hBX; have hBX := hBX_; clear hBX_
    have kG_ := box_chg hc14 hBG (by omega) kG; clear kG; have kG := kG_; clear kG_; have hBG_ := Nat.lt_of_lt_of_le hBG hz14; clear hBG; have hBG := hBG_; clear hBG_
    have R3_ := Lib.hid (R3.out.chg hc14 (by omega)); clear R3; have R3 := R3_; clear R3_
    have R4_ := Lib.hid (R4.out.chg hc14 (by omega)); clear R4; have R4 := R4_; clear R4_
    clear R5; have R5 := Lib.hid h5''; clear h5''
    go_wp2_with (first | (refine wpList_load_mid rfl 51 (.tmp 9) rfl (w5.heap.size) 0 rfl [.slice a5 xs.length cap5, .int .i64 e.p.root, .int .i64 e.p.deep, .int .i64 e.p.most, .int .i64 e.mode, .slice sa5 ms.length scap5, .int .u64 e.bits, .int .i64 e.have_, .int .i64 e.start, .int .i64 e.at_, .int .i64 e.field.number, .int .i64 e.field.kind, .bool e.field.rep, .bool e.field.packed, .int .i64 e.field.msg, .int .i64 e.wire, .int .i64 e.want, .int .i64 e.utf.want, .int .i64 e.utf.low, .int .i64 e.utf.high, .int .i64 e.end_.kind, .int .i64 e.end_.field, .int .u64 e.end_.bits, .int .i64 e.end_.len, .string e.end_.text, .int .i64 e.end_.code, .int .i64 e.end_.at_] _ (range_of_cells kG) Tryz.underlying51 rfl size_Dec ?_))
    refine (heldD_N e a5 cap5 _ rs5' xs sa5 scap5 _ ea5 _ _ _ _ N5 _ R5.out rfl hn hm hms HN5.out).mono ?_
    rintro r w15 ⟨rfl, hb15⟩
    have hy15 := hb15.size
    try simp only [World.size_alloc, World.size_setCell, World.size_drew, size_setRow] at hy15
    have hD15 : Below w14.heap.size w14 w15 := by ((repeat (first | (with_reducible exact Below.refl _ _) | (with_reducible assumption) | (with_reducible refine Below.alloc ?_ ?_ _) | (with_reducible refine Below.setCell ?_ ?_ _) | (with_reducible refine Below.drew ?_) | (with_reducible refine below_setRow ?_ ?_ _) | (refine Below.trans ?_ (Below.mono (by assumption) ?_)))); all_goals (first | omega | (simp; done) | (simp; omega)))
    have hz15 := hD15.size
    have hT15 : Below w.heap.size w w15 := hT14.trans (hD15.mono hT14.size)
    have kA_ := box_next hD15 hBA kA; clear kA; have kA := kA_; clear kA_; have hBA_ := Nat.lt_of_lt_of_le hBA hz15; clear hBA; have hBA := hBA_; clear hBA_
    have kW_ := box_next hD15 hBW kW; clear kW; have kW := kW_; clear kW_; have hBW_ := Nat.lt_of_lt_of_le hBW hz15; clear hBW; have hBW := hBW_; clear hBW_
    have kX_ := box_next hD15 hBX kX; clear kX; have kX := kX_; clear kX_; have hBX_ := Nat.lt_of_lt_of_le hBX hz15; clear hBX; have hBX := hBX_; clear hBX_
    have kG_ := box_next hD15 hBG kG; clear kG; have kG := kG_; clear kG_; have hBG_ := Nat.lt_of_lt_of_le hBG hz15; clear hBG; have hBG := hBG_; clear hBG_
    have R3_ := Lib.hid (R3.out.keep hD15); clear R3; have R3 := R3_; clear R3_
    have R4_ := Lib.hid (R4.out.keep hD15); clear R4; have R4 := R4_; clear R4_
    have R5_ := Lib.hid (R5.out.keep hD15); clear R5; have R5 := R5_; clear R5_
    go_wp2_with fail
    refine (heldE_N ea5 ecap5 _ a5 _ rs5' _ sa5 _ _ _ _ N5 _ R5.out hes hN5p hN5b).mono ?_
    rintro r w16 ⟨rfl, hb16⟩
    have hy16 := hb16.size
    try simp only [World.size_alloc, World.size_setCell, World.size_drew, size_setRow] at hy16
    have hD16 : Below w15.heap.size w15 w16 := by ((repeat (first | (with_reducible exact Below.refl _ _) | (with_reducible assumption) | (with_reducible refine Below.alloc ?_ ?_ _) | (with_reducible refine Below.setCell ?_ ?_ _) | (with_reducible refine Below.drew ?_) | (with_reducible refine below_setRow ?_ ?_ _) | (refine Below.trans ?_ (Below.mono (by assumption) ?_)))); all_goals (first | omega | (simp; done) | (simp; omega)))
    have hz16 := hD16.size
    have hT16 : Below w.heap.size w w16 := hT15.trans (hD16.mono hT15.size)
    have kA_ := box_next hD16 hBA kA; clear kA; have kA := kA_; clear kA_; have hBA_ := Nat.lt_of_lt_of_le hBA hz16; clear hBA; have hBA := hBA_; clear hBA_
    have kW_ := box_next hD16 hBW kW; clear kW; have kW := kW_; clear kW_; have hBW_ := Nat.lt_of_lt_of_le hBW hz16; clear hBW; have hBW := hBW_; clear hBW_
    have kX_ := box_next hD16 hBX kX; clear kX; have kX := kX_; clear kX_; have hBX_ := Nat.lt_of_lt_of_le hBX hz16; clear hBX; have hBX := hBX_; clear hBX_
    have kG_ := box_next hD16 hBG kG; clear kG; have kG := kG_; clear kG_; have hBG_ := Nat.lt_of_lt_of_le hBG hz16; clear hBG; have hBG := hBG_; clear hBG_
    have R3_ := Lib.hid (R3.out.keep hD16); clear R3; have R3 := R3_; clear R3_
    have R4_ := Lib.hid (R4.out.keep hD16); clear R4; have R4 := R4_; clear R4_
    have R5_ := Lib.hid (R5.out.keep hD16); clear R5; have R5 := R5_; clear R5_
    go_wp2_with (first | (refine wpList_load_mid rfl 38 (.tmp 2) rfl (w.heap.size) 0 rfl [.slice a xs.length cap, .int .i64 d.p.root, .int .i64 d.p.deep, .int .i64 d.p.most, .int .i64 d.mode, .slice sa ls.length scap, .int .u64 d.bits, .int .i64 d.have_, .int .i64 d.start, .int .i64 d.at_, .int .i64 d.field.number, .int .i64 d.field.kind, .bool d.field.rep, .bool d.field.packed, .int .i64 d.field.msg, .int .i64 d.wire, .int .i64 d.want, .int .i64 d.utf.want, .int .i64 d.utf.low, .int .i64 d.utf.high, .int .i64 d.end_.kind, .int .i64 d.end_.field, .int .u64 d.end_.bits, .int .i64 d.end_.len, .string d.end_.text, .int .i64 d.end_.code, .int .i64 d.end_.at_] _ (range_of_cells kA) Tryz.underlying38 rfl size_LDec ?_))
    refine (toDec_any d a cap xs sa scap ls _ (Shs.keep hsl (show Below w.heap.size w _ from by ((repeat (first | (with_reducible exact Below.refl _ _) | (with_reducible assumption) | (with_reducible refine Below.alloc ?_ ?_ _) | (with_reducible refine Below.setCell ?_ ?_ _) | (with_reducible refine Below.drew ?_) | (with_reducible refine below_setRow ?_ ?_ _) | (refine Below.trans ?_ (Below.mono (by assumption) ?_)))); all_goals (first | omega | (simp; done) | (simp; omega))))) (Sl.keep hsl2 (show Below w.heap.size w _ from by ((repeat (first | (with_reducible exact Below.refl _ _) | (with_reducible assumption) | (with_reducible refine Below.alloc ?_ ?_ _) | (with_reducible refine Below.setCell ?_ ?_ _) | (with_reducible refine Below.drew ?_) | (with_reducible refine below_setRow ?_ ?_ _) | (refine Below.trans ?_ (Below.mono (by assumption) ?_)))); all_goals (first | omega | (simp; done) | (simp; omega))))) hn hm hl).mono ?_
    rintro r w17 ⟨a17, cap17, rs17, sa17, scap17, rfl, ho17, hp17, hb17⟩
    have hy17 := hb17.size
    try simp only [World.size_alloc, World.size_setCell, World.size_drew, size_setRow] at hy17
    have hD17 : Below w16.heap.size w16 w17 := by ((repeat (first | (with_reducible exact Below.refl _ _) | (with_reducible assumption) | (with_reducible refine Below.alloc ?_ ?_ _) | (with_reducible refine Below.setCell ?_ ?_ _) | (with_reducible refine Below.drew ?_) | (with_reducible refine below_setRow ?_ ?_ _) | (refine Below.trans ?_ (Below.mono (by assumption) ?_)))); all_goals (first | omega | (simp; done) | (simp; omega)))
    have hz17 := hD17.size
    have hT17 : Below w.heap.size w w17 := hT16.trans (hD17.mono hT16.size)
    have kA_ := box_next hD17 hBA kA; clear kA; have kA := kA_; clear kA_; have hBA_ := Nat.lt_of_lt_of_le hBA hz17; clear hBA; have hBA := hBA_; clear hBA_
    have kW_ := box_next hD17 hBW kW; clear kW; have kW := kW_; clear kW_; have hBW_ := Nat.lt_of_lt_of_le hBW hz17; clear hBW; have hBW := hBW_; clear hBW_
    have kX_ := box_next hD17 hBX kX; clear kX; have kX := kX_; clear kX_; have hBX_ := Nat.lt_of_lt_of_le hBX hz17; clear hBX; have hBX := hBX_; clear hBX_
    have kG_ := box_next hD17 hBG kG; clear kG; have kG := kG_; clear kG_; have hBG_ := Nat.lt_of_lt_of_le hBG hz17; clear hBG; have hBG := hBG_; clear hBG_
    have R3_ := Lib.hid (R3.out.keep hD17); clear R3; have R3 := R3_; clear R3_
    have R4_ := Lib.hid (R4.out.keep hD17); clear R4; have R4 := R4_; clear R4_
    have R5_ := Lib.hid (R5.out.keep hD17); clear R5; have R5 := R5_; clear R5_
    have hc17S := ho17.shsC
    have ht17 : Lvls w17 sa17 ls := lvls_of_own hp17 rfl
    have hn17n : sa17 = none → scap17 = 0 := own_nilc hp17
    clear ho17 hp17
    go_wp2_with fail
    refine (shape (implTag_any d a17 cap17 xs sa17 scap17 ls u _ (ShsC.keep hc17S (show Below w17.heap.size w17 _ from by ((repeat (first | (with_reducible exact Below.refl _ _) | (with_reducible assumption) | (with_reducible refine Below.alloc ?_ ?_ _) | (with_reducible refine Below.setCell ?_ ?_ _) | (with_reducible refine Below.drew ?_) | (with_reducible refine below_setRow ?_ ?_ _) | (refine Below.trans ?_ (Below.mono (by assumption) ?_)))); all_goals (first | omega | (simp; done) | (simp; omega))))) (Sl.keep ht17 (show Below w17.heap.size w17 _ from by ((repeat (first | (with_reducible exact Below.refl _ _) | (with_reducible assumption) | (with_reducible refine Below.alloc ?_ ?_ _) | (with_reducible refine Below.setCell ?_ ?_ _) | (with_reducible refine Below.drew ?_) | (with_reducible refine below_setRow ?_ ?_ _) | (refine Below.trans ?_ (Below.mono (by assumption) ?_)))); all_goals (first | omega | (simp; done) | (simp; omega))))) hn hm hl hn17n h_u) HO.out).mono ?_
    rintro r w18 ⟨a18, cap18, rs18, sa18, scap18, ea18, ecap18, rfl, ho18, hp18, he18, hb18⟩
    have hy18 := hb18.size
    try simp only [World.size_alloc, World.size_setCell, World.size_drew, size_setRow] at hy18
    have hD18 : Below w17.heap.size w17 w18 := by ((repeat (first | (with_reducible exact Below.refl _ _) | (with_reducible assumption) | (with_reducible refine Below.alloc ?_ ?_ _) | (with_reducible refine Below.setCell ?_ ?_ _) | (with_reducible refine Below.drew ?_) | (with_reducible refine below_setRow ?_ ?_ _) | (refine Below.trans ?_ (Below.mono (by assumption) ?_)))); all_goals (first | omega | (simp; done) | (simp; omega)))
    have hz18 := hD18.size
    have hT18 : Below w.heap.size w w18 := hT17.trans (hD18.mono hT17.size)
    have kA_ := box_next hD18 hBA kA; clear kA; have kA := kA_; clear kA_; have hBA_ := Nat.lt_of_lt_of_le hBA hz18; clear hBA; have hBA := hBA_; clear hBA_
    have kW_ := box_next hD18 hBW kW; clear kW; have kW := kW_; clear kW_; have hBW_ := Nat.lt_of_lt_of_le hBW hz18; clear hBW; have hBW := hBW_; clear hBW_
    have kX_ := box_next hD18 hBX kX; clear kX; have kX := kX_; clear kX_; have hBX_ := Nat.lt_of_lt_of_le hBX hz18; clear hBX; have hBX := hBX_; clear hBX_
    have kG_ := box_next hD18 hBG kG; clear kG; have kG := kG_; clear kG_; have hBG_ := Nat.lt_of_lt_of_le hBG hz18; clear hBG; have hBG := hBG_; clear hBG_
    have R3_ := Lib.hid (R3.out.keep hD18); clear R3; have R3 := R3_; clear R3_
    have R4_ := Lib.hid (R4.out.keep hD18); clear R4; have R4 := R4_; clear R4_
    have R5_ := Lib.hid (R5.out.keep hD18); clear R5; have R5 := R5_; clear R5_
    have R18 := Lib.hid (OwnDE.of_de ho18 hp18 he18 (by first | omega | (simp; done) | (simp; omega)))
    clear ho18 hp18 he18 hc17S ht17
    go_wp2_with (first | (refine wpList_store_row rfl 51 (.tmp 14) (.tmp 92) rfl (w18.heap.size) #[.slice a18 xs.length cap18, .int .i64 e.p.root, .int .i64 e.p.deep, .int .i64 e.p.most, .int .i64 e.mode, .slice sa18 ms.length scap18, .int .u64 e.bits, .int .i64 e.have_, .int .i64 e.start, .int .i64 e.at_, .int .i64 e.field.number, .int .i64 e.field.kind, .bool e.field.rep, .bool e.field.packed, .int .i64 e.field.msg, .int .i64 e.wire, .int .i64 e.want, .int .i64 e.utf.want, .int .i64 e.utf.low, .int .i64 e.utf.high, .int .i64 e.end_.kind, .int .i64 e.end_.field, .int .u64 e.end_.bits, .int .i64 e.end_.len, .string e.end_.text, .int .i64 e.end_.code, .int .i64 e.end_.at_] rfl rfl 51 #[.slice none 0 0, .int .i64 0, .int .i64 0, .int .i64 0, .int .i64 0, .slice none 0 0, .int .u64 0, .int .i64 0, .int .i64 0, .int .i64 0, .int .i64 0, .int .i64 0, .bool false, .bool false, .int .i64 0, .int .i64 0, .int .i64 0, .int .i64 0, .int .i64 0, .int .i64 0, .int .i64 0, .int .i64 0, .int .u64 0, .int .i64 0, .string ⟨#[]⟩, .int .i64 0, .int .i64 0] (hset_new rfl) size_Dec rfl (one_Dec _ _ _ _ _ _ _) ?_) | (refine wpList_load_mid rfl 51 (.tmp 14) rfl (w18.heap.size) 0 rfl [.slice a18 xs.length cap18, .int .i64 e.p.root, .int .i64 e.p.deep, .int .i64 e.p.most, .int .i64 e.mode, .slice sa18 ms.length scap18, .int .u64 e.bits, .int .i64 e.have_, .int .i64 e.start, .int .i64 e.at_, .int .i64 e.field.number, .int .i64 e.field.kind, .bool e.field.rep, .bool e.field.packed, .int .i64 e.field.msg, .int .i64 e.wire, .int .i64 e.want, .int .i64 e.utf.want, .int .i64 e.utf.low, .int .i64 e.utf.high, .int .i64 e.end_.kind, .int .i64 e.end_.field, .int .u64 e.end_.bits, .int .i64 e.end_.len, .string e.end_.text, .int .i64 e.end_.code, .int .i64 e.end_.at_] _ (range_of_box (t := 51) (hset_row (cs := #[.slice none 0 0, .int .i64 0, .int .i64 0, .int .i64 0, .int .i64 0, .slice none 0 0, .int .u64 0, .int .i64 0, .int .i64 0, .int .i64 0, .int .i64 0, .int .i64 0, .bool false, .bool false, .int .i64 0, .int .i64 0, .int .i64 0, .int .i64 0, .int .i64 0, .int .i64 0, .int .i64 0, .int .i64 0, .int .u64 0, .int .i64 0, .string ⟨#[]⟩, .int .i64 0, .int .i64 0]) (hset_new rfl))) Tryz.underlying51 rfl size_Dec ?_) | (refine wpList_load_mid rfl 51 (.tmp 6) rfl (w3.heap.size) 0 rfl [.slice a3 xs.length cap3, .int .i64 e.p.root, .int .i64 e.p.deep, .int .i64 e.p.most, .int .i64 e.mode, .slice sa3 ms.length scap3, .int .u64 e.bits, .int .i64 e.have_, .int .i64 e.start, .int .i64 e.at_, .int .i64 e.field.number, .int .i64 e.field.kind, .bool e.field.rep, .bool e.field.packed, .int .i64 e.field.msg, .int .i64 e.wire, .int .i64 e.want, .int .i64 e.utf.want, .int .i64 e.utf.low, .int .i64 e.utf.high, .int .i64 e.end_.kind, .int .i64 e.end_.field, .int .u64 e.end_.bits, .int .i64 e.end_.len, .string e.end_.text, .int .i64 e.end_.code, .int .i64 e.end_.at_] _ (range_of_cells (box_next (w := w18) (by ((repeat (first | (with_reducible exact Below.refl _ _) | (with_reducible assumption) | (with_reducible refine Below.alloc ?_ ?_ _) | (with_reducible refine Below.setCell ?_ ?_ _) | (with_reducible refine Below.drew ?_) | (with_reducible refine below_setRow ?_ ?_ _) | (refine Below.trans ?_ (Below.mono (by assumption) ?_)))); all_goals (first | omega | (simp; done) | (simp; omega)))) hBW kW)) Tryz.underlying51 rfl size_Dec ?_))
    refine (eqDec_same e _ _ _ _ _ xs _ _ _ _ _ ms _ (R18.out.keep (show Below w18.heap.size w18 _ from by ((repeat (first | (with_reducible exact Below.refl _ _) | (with_reducible assumption) | (with_reducible refine Below.alloc ?_ ?_ _) | (with_reducible refine Below.setCell ?_ ?_ _) | (with_reducible refine Below.drew ?_) | (with_reducible refine below_setRow ?_ ?_ _) | (refine Below.trans ?_ (Below.mono (by assumption) ?_)))); all_goals (first | omega | (simp; done) | (simp; omega))))).shs (R3.out.keep (show Below w18.heap.size w18 _ from by ((repeat (first | (with_reducible exact Below.refl _ _) | (with_reducible assumption) | (with_reducible refine Below.alloc ?_ ?_ _) | (with_reducible refine Below.setCell ?_ ?_ _) | (with_reducible refine Below.drew ?_) | (with_reducible refine below_setRow ?_ ?_ _) | (refine Below.trans ?_ (Below.mono (by assumption) ?_)))); all_goals (first | omega | (simp; done) | (simp; omega))))).shs (R18.out.keep (show Below w18.heap.size w18 _ from by ((repeat (first | (with_reducible exact Below.refl _ _) | (with_reducible assumption) | (with_reducible refine Below.alloc ?_ ?_ _) | (with_reducible refine Below.setCell ?_ ?_ _) | (with_reducible refine Below.drew ?_) | (with_reducible refine below_setRow ?_ ?_ _) | (refine Below.trans ?_ (Below.mono (by assumption) ?_)))); all_goals (first | omega | (simp; done) | (simp; omega))))).lvls (R3.out.keep (show Below w18.heap.size w18 _ from by ((repeat (first | (with_reducible exact Below.refl _ _) | (with_reducible assumption) | (with_reducible refine Below.alloc ?_ ?_ _) | (with_reducible refine Below.setCell ?_ ?_ _) | (with_reducible refine Below.drew ?_) | (with_reducible refine below_setRow ?_ ?_ _) | (refine Below.trans ?_ (Below.mono (by assumption) ?_)))); all_goals (first | omega | (simp; done) | (simp; omega))))).lvls rfl rfl hn hm hms).mono ?_
    rintro r w19 ⟨rfl, hb19⟩
    have hy19 := hb19.size
    try simp only [World.size_alloc, World.size_setCell, World.size_drew, size_setRow] at hy19
    have hD19 : Below w18.heap.size w18 w19 := by ((repeat (first | (with_reducible exact Below.refl _ _) | (with_reducible assumption) | (with_reducible refine Below.alloc ?_ ?_ _) | (with_reducible refine Below.setCell ?_ ?_ _) | (with_reducible refine Below.drew ?_) | (with_reducible refine below_setRow ?_ ?_ _) | (refine Below.trans ?_ (Below.mono (by assumption) ?_)))); all_goals (first | omega | (simp; done) | (simp; omega)))
    have hz19 := hD19.size
    have hT19 : Below w.heap.size w w19 := hT18.trans (hD19.mono hT18.size)
    have kA_ := box_next hD19 hBA kA; clear kA; have kA := kA_; clear kA_; have hBA_ := Nat.lt_of_lt_of_le hBA hz19; clear hBA; have hBA := hBA_; clear hBA_
    have kW_ := box_next hD19 hBW kW; clear kW; have kW := kW_; clear kW_; have hBW_ := Nat.lt_of_lt_of_le hBW hz19; clear hBW; have hBW := hBW_; clear hBW_
    have kX_ := box_next hD19 hBX kX; clear kX; have kX := kX_; clear kX_; have hBX_ := Nat.lt_of_lt_of_le hBX hz19; clear hBX; have hBX := hBX_; clear hBX_
    have kG_ := box_next hD19 hBG kG; clear kG; have kG := kG_; clear kG_; have hBG_ := Nat.lt_of_lt_of_le hBG hz19; clear hBG; have hBG := hBG_; clear hBG_
    have R3_ := Lib.hid (R3.out.keep hD19); clear R3; have R3 := R3_; clear R3_
    have R4_ := Lib.hid (R4.out.keep hD19); clear R4; have R4 := R4_; clear R4_
    have R5_ := Lib.hid (R5.out.keep hD19); clear R5; have R5 := R5_; clear R5_
    have R18_ := Lib.hid (R18.out.keep hD19); clear R18; have R18 := R18_; clear R18_
    have hH_ : w19.heap[w18.heap.size]? = some (.cells #[.slice a18 xs.length cap18, .int .i64 e.p.root, .int .i64 e.p.deep, .int .i64 e.p.most, .int .i64 e.mode, .slice sa18 ms.length scap18, .int .u64 e.bits, .int .i64 e.have_, .int .i64 e.start, .int .i64 e.at_, .int .i64 e.field.number, .int .i64 e.field.kind, .bool e.field.rep, .bool e.field.packed, .int .i64 e.field.msg, .int .i64 e.wire, .int .i64 e.want, .int .i64 e.utf.want, .int .i64 e.utf.low, .int .i64 e.utf.high, .int .i64 e.end_.kind, .int .i64 e.end_.field, .int .u64 e.end_.bits, .int .i64 e.end_.len, .string e.end_.text, .int .i64 e.end_.code, .int .i64 e.end_.at_] 51 (0, 0)) := (hb19.block _ (by first | omega | (simp; done) | (simp; omega))).trans (hset_row (cs := #[.slice none 0 0, .int .i64 0, .int .i64 0, .int .i64 0, .int .i64 0, .slice none 0 0, .int .u64 0, .int .i64 0, .int .i64 0, .int .i64 0, .int .i64 0, .int .i64 0, .bool false, .bool false, .int .i64 0, .int .i64 0, .int .i64 0, .int .i64 0, .int .i64 0, .int .i64 0, .int .i64 0, .int .i64 0, .int .u64 0, .int .i64 0, .string ⟨#[]⟩, .int .i64 0, .int .i64 0]) (hset_new rfl))
    have kH := box_cells hH_; have hBH := box_lt hH_; clear hH_
    go_wp2_with fail
    refine (eqE_same ea18 ea3 ecap18 ecap3 _ es _ (R18.out.keep (show Below w19.heap.size w19 _ from by ((repeat (first | (with_reducible exact Below.refl _ _) | (with_reducible assumption) | (with_reducible refine Below.alloc ?_ ?_ _) | (with_reducible refine Below.setCell ?_ ?_ _) | (with_reducible refine Below.drew ?_) | (with_reducible refine below_setRow ?_ ?_ _) | (refine Below.trans ?_ (Below.mono (by assumption) ?_)))); all_goals (first | omega | (simp; done) | (simp; omega))))).evs (R3.out.keep (show Below w19.heap.size w19 _ from by ((repeat (first | (with_reducible exact Below.refl _ _) | (with_reducible assumption) | (with_reducible refine Below.alloc ?_ ?_ _) | (with_reducible refine Below.setCell ?_ ?_ _) | (with_reducible refine Below.drew ?_) | (with_reducible refine below_setRow ?_ ?_ _) | (refine Below.trans ?_ (Below.mono (by assumption) ?_)))); all_goals (first | omega | (simp; done) | (simp; omega))))).evs rfl hes).mono ?_
    rintro r w20 ⟨rfl, hb20⟩
    have hy20 := hb20.size
    try simp only [World.size_alloc, World.size_setCell, World.size_drew, size_setRow] at hy20
    have hD20 : Below w19.heap.size w19 w20 := by ((repeat (first | (with_reducible exact Below.refl _ _) | (with_reducible assumption) | (with_reducible refine Below.alloc ?_ ?_ _) | (with_reducible refine Below.setCell ?_ ?_ _) | (with_reducible refine Below.drew ?_) | (with_reducible refine below_setRow ?_ ?_ _) | (refine Below.trans ?_ (Below.mono (by assumption) ?_)))); all_goals (first | omega | (simp; done) | (simp; omega)))
    have hz20 := hD20.size
    have hT20 : Below w.heap.size w w20 := hT19.trans (hD20.mono hT19.size)
    have kA_ := box_next hD20 hBA kA; clear kA; have kA := kA_; clear kA_; have hBA_ := Nat.lt_of_lt_of_le hBA hz20; clear hBA; have hBA := hBA_; clear hBA_
    have kW_ := box_next hD20 hBW kW; clear kW; have kW := kW_; clear kW_; have hBW_ := Nat.lt_of_lt_of_le hBW hz20; clear hBW; have hBW := hBW_; clear hBW_
    have kX_ := box_next hD20 hBX kX; clear kX; have kX := kX_; clear kX_; have hBX_ := Nat.lt_of_lt_of_le hBX hz20; clear hBX; have hBX := hBX_; clear hBX_
    have kG_ := box_next hD20 hBG kG; clear kG; have kG := kG_; clear kG_; have hBG_ := Nat.lt_of_lt_of_le hBG hz20; clear hBG; have hBG := hBG_; clear hBG_
    have kH_ := box_next hD20 hBH kH; clear kH; have kH := kH_; clear kH_; have hBH_ := Nat.lt_of_lt_of_le hBH hz20; clear hBH; have hBH := hBH_; clear hBH_
    have R3_ := Lib.hid (R3.out.keep hD20); clear R3; have R3 := R3_; clear R3_
    have R4_ := Lib.hid (R4.out.keep hD20); clear R4; have R4 := R4_; clear R4_
    have R5_ := Lib.hid (R5.out.keep hD20); clear R5; have R5 := R5_; clear R5_
    have R18_ := Lib.hid (R18.out.keep hD20); clear R18; have R18 := R18_; clear R18_
    go_wp2_with (first | (refine wpList_load_mid rfl 51 (.tmp 9) rfl (w5.heap.size) 0 rfl [.slice a5 xs.length cap5, .int .i64 e.p.root, .int .i64 e.p.deep, .int .i64 e.p.most, .int .i64 e.mode, .slice sa5 ms.length scap5, .int .u64 e.bits, .int .i64 e.have_, .int .i64 e.start, .int .i64 e.at_, .int .i64 e.field.number, .int .i64 e.field.kind, .bool e.field.rep, .bool e.field.packed, .int .i64 e.field.msg, .int .i64 e.wire, .int .i64 e.want, .int .i64 e.utf.want, .int .i64 e.utf.low, .int .i64 e.utf.high, .int .i64 e.end_.kind, .int .i64 e.end_.field, .int .u64 e.end_.bits, .int .i64 e.end_.len, .string e.end_.text, .int .i64 e.end_.code, .int .i64 e.end_.at_] _ (range_of_cells kG) Tryz.underlying51 rfl size_Dec ?_))
    refine (heldD_N e a5 cap5 _ rs5' xs sa5 scap5 _ ea5 _ _ _ _ N5 _ R5.out rfl hn hm hms HN5.out).mono ?_
    rintro r w21 ⟨rfl, hb21⟩
    have hy21 := hb21.size
    try simp only [World.size_alloc, World.size_setCell, World.size_drew, size_setRow] at hy21
    have hD21 : Below w20.heap.size w20 w21 := by ((repeat (first | (with_reducible exact Below.refl _ _) | (with_reducible assumption) | (with_reducible refine Below.alloc ?_ ?_ _) | (with_reducible refine Below.setCell ?_ ?_ _) | (with_reducible refine Below.drew ?_) | (with_reducible refine below_setRow ?_ ?_ _) | (refine Below.trans ?_ (Below.mono (by assumption) ?_)))); all_goals (first | omega | (simp; done) | (simp; omega)))
    have hz21 := hD21.size
    have hT21 : Below w.heap.size w w21 := hT20.trans (hD21.mono hT20.size)
    have kA_ := box_next hD21 hBA kA; clear kA; have kA := kA_; clear kA_; have hBA_ := Nat.lt_of_lt_of_le hBA hz21; clear hBA; have hBA := hBA_; clear hBA_
    have kW_ := box_next hD21 hBW kW; clear kW; have kW := kW_; clear kW_; have hBW_ := Nat.lt_of_lt_of_le hBW hz21; clear hBW; have hBW := hBW_; clear hBW_
    have kX_ := box_next hD21 hBX kX; clear kX; have kX := kX_; clear kX_; have hBX_ := Nat.lt_of_lt_of_le hBX hz21; clear hBX; have hBX := hBX_; clear hBX_
    have kG_ := box_next hD21 hBG kG; clear kG; have kG := kG_; clear kG_; have hBG_ := Nat.lt_of_lt_of_le hBG hz21; clear hBG; have hBG := hBG_; clear hBG_
    have kH_ := box_next hD21 hBH kH; clear kH; have kH := kH_; clear kH_; have hBH_ := Nat.lt_of_lt_of_le hBH hz21; clear hBH; have hBH := hBH_; clear hBH_
    have R3_ := Lib.hid (R3.out.keep hD21); clear R3; have R3 := R3_; clear R3_
    have R4_ := Lib.hid (R4.out.keep hD21); clear R4; have R4 := R4_; clear R4_
    have R5_ := Lib.hid (R5.out.keep hD21); clear R5; have R5 := R5_; clear R5_
    have R18_ := Lib.hid (R18.out.keep hD21); clear R18; have R18 := R18_; clear R18_
    go_wp2_with fail
    refine (heldE_N ea5 ecap5 _ a5 _ rs5' _ sa5 _ _ _ _ N5 _ R5.out hes hN5p hN5b).mono ?_
    rintro r w22 ⟨rfl, hb22⟩
    have hy22 := hb22.size
    try simp only [World.size_alloc, World.size_setCell, World.size_drew, size_setRow] at hy22
    have hD22 : Below w21.heap.size w21 w22 := by ((repeat (first | (with_reducible exact Below.refl _ _) | (with_reducible assumption) | (with_reducible refine Below.alloc ?_ ?_ _) | (with_reducible refine Below.setCell ?_ ?_ _) | (with_reducible refine Below.drew ?_) | (with_reducible refine below_setRow ?_ ?_ _) | (refine Below.trans ?_ (Below.mono (by assumption) ?_)))); all_goals (first | omega | (simp; done) | (simp; omega)))
    have hz22 := hD22.size
    have hT22 : Below w.heap.size w w22 := hT21.trans (hD22.mono hT21.size)
    have kA_ := box_next hD22 hBA kA; clear kA; have kA := kA_; clear kA_; have hBA_ := Nat.lt_of_lt_of_le hBA hz22; clear hBA; have hBA := hBA_; clear hBA_
    have kW_ := box_next hD22 hBW kW; clear kW; have kW := kW_; clear kW_; have hBW_ := Nat.lt_of_lt_of_le hBW hz22; clear hBW; have hBW := hBW_; clear hBW_
    have kX_ := box_next hD22 hBX kX; clear kX; have kX := kX_; clear kX_; have hBX_ := Nat.lt_of_lt_of_le hBX hz22; clear hBX; have hBX := hBX_; clear hBX_
    have kG_ := box_next hD22 hBG kG; clear kG; have kG := kG_; clear kG_; have hBG_ := Nat.lt_of_lt_of_le hBG hz22; clear hBG; have hBG := hBG_; clear hBG_
    have kH_ := box_next hD22 hBH kH; clear kH; have kH := kH_; clear kH_; have hBH_ := Nat.lt_of_lt_of_le hBH hz22; clear hBH; have hBH := hBH_; clear hBH_
    have R3_ := Lib.hid (R3.out.keep hD22); clear R3; have R3 := R3_; clear R3_
    have R4_ := Lib.hid (R4.out.keep hD22); clear R4; have R4 := R4_; clear R4_
    have R5_ := Lib.hid (R5.out.keep hD22); clear R5; have R5 := R5_; clear R5_
    have R18_ := Lib.hid (R18.out.keep hD22); clear R18; have R18 := R18_; clear R18_
    go_wp2
    go_ret
    exact ⟨rfl, hT22⟩

set_option maxRecDepth 100000 in
theorem lifted (os : Os) (started : os.Started) (H : Type) (enc : TypeId × Value → H) :
    ReturnsInHanded {} Tryz.checked os 3 .any (Rows.fnExactTagStepSpec.pre6 enc Tryz.prog Tryz.f3 Rows.fnExactTagStepRow.domain false) (Rows.fnExactTagStepSpec.post enc Tryz.prog Tryz.f3 false true false false) := by
  refine returnsInHanded_of_change (C := Tryz.checked) own started (by kernel_rfl) Tryz.func3
    (ChangeSpec.witness6 (enc := enc) (C := Tryz.checked) false ⟨#[], #[.agg #[.slice none 0 0, .int .i64 0, .int .i64 0, .int .i64 0, .int .i64 0, .slice none 0 0, .int .u64 0, .int .i64 0, .int .i64 0, .int .i64 0, .int .i64 0, .int .i64 0, .bool false, .bool false, .int .i64 0, .int .i64 0, .int .i64 0, .int .i64 0, .int .i64 0, .int .i64 0, .int .i64 0, .int .i64 0, .int .u64 0, .int .i64 0, .string ByteArray.empty, .int .i64 0, .int .i64 0], .int .u64 0], []⟩ 8 (by kernel_rfl) (by kernel_rfl) (by kernel_rfl) (by kernel_rfl)) ?_
  intro W base args ds gs before hval0 hW hcnd _
  have hval : ∀ (j : Nat) t v, Tryz.f3.params[j]? = some t → args[j]? = some v → Value.okWide Tryz.prog W .any base t v := hval0
  have hW' := hW
  obtain ⟨p, q, hA0, hV, rfl, hfz, hnd⟩ := hW
  have hA : DataW.TrodAll enc Tryz.prog W 0 (fun _ => true) true Tryz.f3.params.toList args.toList ds p := hA0
  rw [Tryz.params3] at hA hval
  obtain ⟨v0, vs0, d0, ds0, p0, q0, hargs, rfl, rfl, h0, r0⟩ := trodAll_cons hA
  obtain ⟨v1, vs1, d1, ds1, p1, q1, rfl, rfl, rfl, h1, r1⟩ := trodAll_cons r0
  obtain ⟨rfl, rfl, rfl⟩ := trodAll_nil r1
  obtain rfl : args = #[v0, v1] := by cases args; simp_all
  obtain ⟨rfl, rfl⟩ := trodVars_none hV
  have k0 := h0
  have lt0 : ∀ x ∈ p0, x.block < W.heap.size := by obtain ⟨m, hm⟩ := k0; exact DataW.trod_lt m _ _ _ hm
  obtain ⟨x0, e0, w0⟩ := openDec (hval 0 38 v0 rfl rfl) h0
  subst e0
  have k1 := h1
  have lt1 : ∀ x ∈ p1, x.block < W.heap.size := by obtain ⟨m, hm⟩ := k1; exact DataW.trod_lt m _ _ _ hm
  obtain ⟨x1, e1, w1⟩ := openInt Tryz.underlying28 (hval 1 28 v1 rfl rfl) h1
  subst e1
  clear hA0 hval0
  refine (walk W x0 w0 x1 w1).mono fun e W' ⟨he, bel⟩ => ?_
  subst he
  exact ⟨_, rfl, _, _, _, [], _, [], hW', trodAll_mk1 (shut_bool Tryz.underlying4 _), (trodAll_cons_mk (Below.trod laidOut (by kernel_rfl) (of_decide_eq_true (by kernel_rfl)) k0 bel lt0) (trodAll_cons_mk (Below.trod laidOut (by kernel_rfl) (of_decide_eq_true (by kernel_rfl)) k1 bel lt1) trodAll_mk0)), rfl, bel.frame _, fun h => by cases h⟩

theorem over : Rows.fnExactTagStepRow.holds Tryz.pinned (OpenSpec.ofChange Rows.fnExactTagStepSpec) :=
  OpenClaim.holds_of_wide 3 Tryz.f3 rfl rfl rfl rfl rfl rfl rfl ⟨rfl, rfl, rfl, rfl, rfl⟩ rfl rfl rfl rfl rfl (by kernel_rfl) Tryz.func3 (by kernel_rfl)
    (of_decide_eq_true (by kernel_rfl)) (by unfold Func.isWrapper; first | (rw [if_pos (by decide +kernel)]; kernel_rfl) | (rw [if_neg (by decide +kernel)]; exact ⟨rfl, rfl⟩))
    (fun os started H enc _ => lifted os started H enc)

/-- The given statement. -/
theorem proved : Rows.FnExactTagStepSaid := over
end Go.Proofs.YtigmdaiecdoimaaGreat.fnExactTagStep

