/- A frame's length: the program. -/
import Derived.Test.YtigmdaiecdoimaaFrmS
import Derived.Test.YtigmdaiecdoimaaSettle
namespace Go.Proofs.Ytigmdaiecdoimaa
set_option linter.unusedSimpArgs false
set_option linter.unusedVariables false
open Go.ChangeShapes Go.WideShapes Go.ChangeAt Go.RowKit Go.BigFrame

/-- Other levels. -/
theorem MachI.lvls {base M : Nat} {w0 w w' : World} {d e : Dc} {xs : List Shp} {ls ls' : List Lvl} {es : List Ev} {a sa ea sa' : Option Addr} {cap scap ecap scap' : Nat} {rs : List ShR}
    (h : MachI base w0 w M d xs ls es a cap rs sa scap ea ecap) (hg : w.grownBy w' (some M))
    (hb : w'.heap[M]? = some (.cells #[.slice a xs.length cap, .int .i64 e.p.root, .int .i64 e.p.deep, .int .i64 e.p.most, .int .i64 e.mode, .slice sa' ls'.length scap', .int .u64 e.bits, .int .i64 e.have_, .int .i64 e.start, .int .i64 e.at_, .int .i64 e.field.number, .int .i64 e.field.kind, .bool e.field.rep, .bool e.field.packed, .int .i64 e.field.msg, .int .i64 e.wire, .int .i64 e.want, .int .i64 e.utf.want, .int .i64 e.utf.low, .int .i64 e.utf.high, .int .i64 e.end_.kind, .int .i64 e.end_.field, .int .u64 e.end_.bits, .int .i64 e.end_.len, .string e.end_.text, .int .i64 e.end_.code, .int .i64 e.end_.at_, .slice ea es.length ecap] 183 (0, 0)))
    (ho : w'.ownsRow base 131 2 (.slice sa' ls'.length scap') ls'.length (ls'.flatMap Lvl.cs)) : MachI base w0 w' M e xs ls' es a cap rs sa' scap' ea ecap where
  box := hb
  sh := h.sh.keepBy hg (other_box h.box (by decide)) (other_box h.box (by decide))
  lv := ho
  ev := owns_keep h.ev hg (other_box h.box (by decide))
  bel := h.below' hg (fun g e => by obtain rfl := Option.some.inj e; exact h.le)
  le := h.le
  bz := Nat.le_trans h.bz hg.size
set_option maxRecDepth 100000 in
set_option maxHeartbeats 2000000 in
theorem frame_any (base : Nat) (w0 w : World) (M : Nat) (d : Dc) (xs : List Shp) (ls : List Lvl) (u : Int) (hm : Mach base w0 w M d xs ls []) (hn : xs.length ≤ 1048576) (hm2 : fldSum xs ≤ 1048576) (hm' : ls.length ≤ 1048576) (hok : lvOk d xs ls = true) (hu : (Lit.int .u64 u).wf = true) :
    Calls Try.prog 123 #[.pointer (some ⟨M, 0, none⟩), .int .u64 u] w fun r w' => r = .returned (.tuple #[]) ∧ Mach base w0 w' M (frameO d xs ls u).1 xs (frameO d xs ls u).2.1 (frameO d xs ls u).2.2 := by
  obtain ⟨a, cap, rs, sa, scap, ea, ecap, hm⟩ := hm
  have HM := Lib.hid hm; clear hm
  have kM := box_cells HM.out.box; have fM := box_frozen HM.out.box; have hBM := HM.out.lt
  have hu0 := (WU64.lo hu).1
  have hmost := lvOk_most hok
  have hmw : IntKind.u64.wrap d.p.most = d.p.most := by rw [IntKind.wrap_u64]; omega
  obtain ⟨R, hR⟩ : ∃ R, frameO d xs ls u = R := ⟨_, rfl⟩
  rw [hR]
  have HR := Lib.hid hR; clear hR
  go_enter Try.func123, Try.ntmps123
  by_cases hum : d.p.most < u
  · have eR : Hid (R = failO (scan0 d) ls 7 d.start) := Lib.hid (by rw [← HR.out]; simp only [frameO, hok, if_pos hum]; rfl)
    go_wp2_with fail
    generalize hw2 : World.setCell _ (⟨M, 7, none⟩ : Addr) (.int .i64 0) = w2
    have hB2 : w2.heap[M]? = some (.cells #[.slice a xs.length cap, .int .i64 d.p.root, .int .i64 d.p.deep, .int .i64 d.p.most, .int .i64 d.mode, .slice sa ls.length scap, .int .u64 (0), .int .i64 (0), .int .i64 d.start, .int .i64 d.at_, .int .i64 d.field.number, .int .i64 d.field.kind, .bool d.field.rep, .bool d.field.packed, .int .i64 d.field.msg, .int .i64 d.wire, .int .i64 d.want, .int .i64 d.utf.want, .int .i64 d.utf.low, .int .i64 d.utf.high, .int .i64 d.end_.kind, .int .i64 d.end_.field, .int .u64 d.end_.bits, .int .i64 d.end_.len, .string d.end_.text, .int .i64 d.end_.code, .int .i64 d.end_.at_, .slice ea ([] : List Ev).length ecap] 183 (0, 0)) := by rw [← hw2]; apply hset_eq; (repeat (first | (with_reducible exact HM.out.box) | (with_reducible apply hset_set))); simp only [List.setIfInBounds_toArray, List.set_cons_zero, List.set_cons_succ]
    have hG2 : w.grownBy w2 (some M) := by rw [← hw2]; (repeat (with_reducible refine only_cell ?_ _ _)); exact only_refl _ _
    clear hw2 kM fM hBM
    have H2 : MachI base w0 w2 M (scan0 d) xs ls [] a cap rs sa scap ea ecap := HM.out.upd hG2 hB2
    refine (fails_any base w0 w2 M (scan0 d) xs ls [] 7 d.start ⟨a, cap, rs, sa, scap, ea, ecap, H2⟩ (by simp)).mono ?_
    rintro r w3 ⟨rfl, h3⟩
    have H3 := Lib.hid h3; clear h3
    go_wp2
    rw [eR.out]
    exact bodyPost_ret (v := .tuple #[]) (results_none rfl _ _ _) rfl ⟨rfl, H3.out⟩
  · have eR : Hid (R = behind [frameE u] (settle (modeD (scan0 d) 2) [⟨d.p.root, u⟩])) := Lib.hid (by rw [← HR.out]; simp only [frameO, hok, if_neg hum]; rfl)
    have huw : IntKind.i64.wrap u = u := IntWalk.i64_in _ (by omega)
    go_wp2_with fail
    generalize hw2 : World.setCell _ (⟨M, 7, none⟩ : Addr) (.int .i64 0) = w2
    have hB2 : w2.heap[M]? = some (.cells #[.slice a xs.length cap, .int .i64 d.p.root, .int .i64 d.p.deep, .int .i64 d.p.most, .int .i64 d.mode, .slice sa ls.length scap, .int .u64 (0), .int .i64 (0), .int .i64 d.start, .int .i64 d.at_, .int .i64 d.field.number, .int .i64 d.field.kind, .bool d.field.rep, .bool d.field.packed, .int .i64 d.field.msg, .int .i64 d.wire, .int .i64 d.want, .int .i64 d.utf.want, .int .i64 d.utf.low, .int .i64 d.utf.high, .int .i64 d.end_.kind, .int .i64 d.end_.field, .int .u64 d.end_.bits, .int .i64 d.end_.len, .string d.end_.text, .int .i64 d.end_.code, .int .i64 d.end_.at_, .slice ea ([] : List Ev).length ecap] 183 (0, 0)) := by rw [← hw2]; apply hset_eq; (repeat (first | (with_reducible exact HM.out.box) | (with_reducible apply hset_set))); simp only [List.setIfInBounds_toArray, List.set_cons_zero, List.set_cons_succ]
    have hG2 : w.grownBy w2 (some M) := by rw [← hw2]; (repeat (with_reducible refine only_cell ?_ _ _)); exact only_refl _ _
    clear hw2 kM fM hBM
    have H2 : MachI base w0 w2 M (scan0 d) xs ls [] a cap rs sa scap ea ecap := HM.out.upd hG2 hB2
    refine (emit_any base w0 w2 M (scan0 d) xs ls [] (frameE u) ⟨a, cap, rs, sa, scap, ea, ecap, H2⟩ (by simp)).mono ?_
    rintro r w3 ⟨rfl, a3, cap3, rs3, sa3, scap3, ea3, ecap3, h3⟩
    have H3 := Lib.hid h3; clear h3 H2 HM
    have kM := box_cells H3.out.box; have fM := box_frozen H3.out.box; have hBM := H3.out.lt
    have hbz3 := H3.out.bz
    have hle3 := H3.out.le
    go_wp2_with fail
    generalize hw4 : World.alloc _ (.cells #[.int .i64 (scan0 d).p.root, .int .i64 u] 131) = w4
    have hB4 : w4.heap[M]? = some (.cells #[.slice a3 xs.length cap3, .int .i64 d.p.root, .int .i64 d.p.deep, .int .i64 d.p.most, .int .i64 (2), .slice (some ⟨w3.heap.size, 0, none⟩) 1 1, .int .u64 (0), .int .i64 (0), .int .i64 d.start, .int .i64 d.at_, .int .i64 d.field.number, .int .i64 d.field.kind, .bool d.field.rep, .bool d.field.packed, .int .i64 d.field.msg, .int .i64 d.wire, .int .i64 d.want, .int .i64 d.utf.want, .int .i64 d.utf.low, .int .i64 d.utf.high, .int .i64 d.end_.kind, .int .i64 d.end_.field, .int .u64 d.end_.bits, .int .i64 d.end_.len, .string d.end_.text, .int .i64 d.end_.code, .int .i64 d.end_.at_, .slice ea3 ([frameE u] : List Ev).length ecap3] 183 (0, 0)) := by rw [← hw4]; apply hset_eq; (repeat (first | (with_reducible exact H3.out.box) | (with_reducible apply hset_set) | (with_reducible apply hset_alloc))); simp only [List.setIfInBounds_toArray, List.set_cons_zero, List.set_cons_succ]; rfl
    have hG4 : w3.grownBy w4 (some M) := by rw [← hw4]; (repeat (first | (with_reducible refine only_cell ?_ _ _) | (with_reducible refine only_alloc ?_ _))); with_reducible exact only_refl _ _
    have hP4 : w4.ownsRow base 131 2 (.slice (some ⟨w3.heap.size, 0, none⟩) 1 1) 1 (([⟨d.p.root, u⟩] : List Lvl).flatMap Lvl.cs) := by
      have h0 := World.ownsRow.of_lvl ((w3.setCell ⟨M, 5, none⟩ (.slice (some ⟨w3.heap.size, 0, none⟩) 1 1)).setCell ⟨M, 4, none⟩ (.int .i64 2)) (scan0 d).p.root u 131
      simp only [World.size_setCell] at h0
      rw [← hw4]
      exact owns_le h0 hbz3
    clear hw4 kM fM hBM
    have H4 : MachI base w0 w4 M (modeD (scan0 d) 2) xs [⟨d.p.root, u⟩] [frameE u] a3 cap3 rs3 (some ⟨w3.heap.size, 0, none⟩) 1 ea3 ecap3 := H3.out.lvls hG4 hB4 hP4
    refine (settle_any base w0 w4 M (modeD (scan0 d) 2) xs [⟨d.p.root, u⟩] [frameE u] ⟨_, _, _, _, _, _, _, H4⟩ (by simp) hn hm2 (by simp)).mono ?_
    rintro r w5 ⟨rfl, h5⟩
    have eS : settleO (modeD (scan0 d) 2) xs [⟨d.p.root, u⟩] = settle (modeD (scan0 d) 2) [⟨d.p.root, u⟩] := by simp only [settleO, lvOk_frame hok hu0 (Int.not_lt.2 hum)]; rfl
    rw [eS] at h5
    have H5 := Lib.hid h5; clear h5
    go_wp2
    go_end0
    rw [eR.out]
    exact ⟨rfl, H5.out⟩
set_option maxHeartbeats 1000000 in
theorem frame1_any (base : Nat) (w0 w : World) (M : Nat) (d : Dc) (xs : List Shp) (ls : List Lvl) (C : Nat) (u : Int) (hm : Mach base w0 w M d xs ls []) (hn : xs.length ≤ 1048576) (hm2 : fldSum xs ≤ 1048576) (hm' : ls.length ≤ 1048576) (hok : lvOk d xs ls = true) (hu : (Lit.int .u64 u).wf = true) (hC : w.cell? ⟨C, 0, none⟩ = some (.int .u64 u)) :
    Calls Try.prog 122 #[.pointer (some ⟨M, 0, none⟩), .pointer (some ⟨C, 0, none⟩)] w fun r w' => r = .returned (.tuple #[]) ∧ Mach base w0 w' M (frameO d xs ls u).1 xs (frameO d xs ls u).2.1 (frameO d xs ls u).2.2 := by
  go_enter Try.func122, Try.ntmps122
  go_wp2_with fail
  refine (frame_any base w0 w M d xs ls u hm hn hm2 hm' hok hu).mono ?_
  rintro r w3 ⟨rfl, h3⟩
  have H3 := Lib.hid h3; clear h3
  go_wp2
  go_end0
  exact ⟨rfl, H3.out⟩
set_option maxRecDepth 100000 in
set_option maxHeartbeats 1000000 in
theorem implFrame_any (d : Dc) (a : Option Addr) (cap : Nat) (xs : List Shp) (sa : Option Addr) (scap : Nat) (ls : List Lvl) (u : Int) (w : World) (h : ShsC w a xs) (h' : Lvls w sa ls) (hn : xs.length ≤ 1048576) (hm : fldSum xs ≤ 1048576) (hm' : ls.length ≤ 1048576) (hnil : sa = none → scap = 0) (hu : (Lit.int .u64 u).wf = true) :
    Calls Try.prog 50 #[d.val (.slice a xs.length cap) (.slice sa ls.length scap), .int .u64 u] w (FreshDE w 38 40 131 67 xs (frameO d xs ls u)) := by
  have HSs := Lib.hid h; clear h
  have HSl := Lib.hid h'; clear h'
  have hF := enter_of Try.func122 (by kernel_rfl) (by kernel_rfl)
  obtain ⟨O, hO⟩ : ∃ O, frameO d xs ls u = O := ⟨_, rfl⟩
  rw [hO]
  go_enter Try.func50, Try.ntmps50
  go_wp2_with (first | (refine wpList_load_mid rfl 69 (.tmp 2) rfl w.heap.size 0 rfl [.slice a xs.length cap, .int .i64 d.p.root, .int .i64 d.p.deep, .int .i64 d.p.most, .int .i64 d.mode, .slice sa ls.length scap, .int .u64 d.bits, .int .i64 d.have_, .int .i64 d.start, .int .i64 d.at_, .int .i64 d.field.number, .int .i64 d.field.kind, .bool d.field.rep, .bool d.field.packed, .int .i64 d.field.msg, .int .i64 d.wire, .int .i64 d.want, .int .i64 d.utf.want, .int .i64 d.utf.low, .int .i64 d.utf.high, .int .i64 d.end_.kind, .int .i64 d.end_.field, .int .u64 d.end_.bits, .int .i64 d.end_.len, .string d.end_.text, .int .i64 d.end_.code, .int .i64 d.end_.at_] _ (range_of_box (t := 69) (hset_alloc (hset_alloc (hset_new rfl)))) Try.underlying69 rfl size_Dec ?_))
  refine (on_any d a cap xs sa scap ls 122 #[.pointer (some ⟨w.heap.size + 1, 0, none⟩)] O _ (HSs.out.keep (by ((repeat (first | (with_reducible exact Below.refl _ _) | (with_reducible assumption) | (with_reducible refine Below.alloc ?_ ?_ _) | (with_reducible refine Below.setCell ?_ ?_ _) | (with_reducible refine Below.drew ?_) | (with_reducible refine below_setRow ?_ ?_ _) | (refine Below.trans ?_ (Below.mono (by assumption) ?_)))); all_goals (first | omega | (simp; done) | (simp; omega))))) (Sl.keep HSl.out (by ((repeat (first | (with_reducible exact Below.refl _ _) | (with_reducible assumption) | (with_reducible refine Below.alloc ?_ ?_ _) | (with_reducible refine Below.setCell ?_ ?_ _) | (with_reducible refine Below.drew ?_) | (with_reducible refine below_setRow ?_ ?_ _) | (refine Below.trans ?_ (Below.mono (by assumption) ?_)))); all_goals (first | omega | (simp; done) | (simp; omega))))) hn hm hm' hnil hF ?_ ?_).mono ?_
  · intro hl base w0 w1 M hb hbase hbz hmach
    obtain ⟨a1, cap1, rs1, sa1, scap1, ea1, ecap1, hI⟩ := hmach
    have hbl := hI.bel
    simp only [World.size_alloc] at hbase
    have hC : w1.cell? ⟨w.heap.size + 1, 0, none⟩ = some (.int .u64 u) := (hbl.cell (p := ⟨w.heap.size + 1, 0, none⟩) (by simp only; omega)).trans ((hb.cell (p := ⟨w.heap.size + 1, 0, none⟩) (by simp only [World.size_alloc]; omega)).trans (box_cells (hset_alloc (hset_new (by simp))) 0))
    have h0 := frame1_any base w0 w1 M d xs ls (w.heap.size + 1) u ⟨a1, cap1, rs1, sa1, scap1, ea1, ecap1, hI⟩ hn hm hm' hl hu hC
    rw [hO] at h0
    exact h0
  · intro hl
    rw [← hO]; simp only [frameO, hl]; rfl
  rintro r w2 ⟨a2, cap2, rs2, sa2, scap2, ea2, ecap2, rfl, ho2, hp2, he2, hb2⟩
  have hz2 := hb2.size
  simp only [World.size_alloc] at hz2
  obtain ⟨e, ms, es⟩ := O
  have HR := Lib.hid ((hb2.block (w.heap.size + 1 + 1) (by simp)).trans (hset_new (by simp)))
  have hbw : Below w.heap.size w w2 := by ((repeat (first | (with_reducible exact Below.refl _ _) | (with_reducible assumption) | (with_reducible refine Below.alloc ?_ ?_ _) | (with_reducible refine Below.setCell ?_ ?_ _) | (with_reducible refine Below.drew ?_) | (with_reducible refine below_setRow ?_ ?_ _) | (refine Below.trans ?_ (Below.mono (by assumption) ?_)))); all_goals (first | omega | (simp; done) | (simp; omega)))
  have hs4 : w.heap.size + 1 + 1 + 1 ≤ w2.heap.size := hz2
  have P1 := Lib.hid (OwnShs.le ho2 (show w.heap.size + 1 + 1 + 1 ≤ _ by simp)); clear ho2
  have P2 := Lib.hid (owns_le hp2 (show w.heap.size + 1 + 1 + 1 ≤ _ by simp)); clear hp2
  have P3 := Lib.hid (owns_le he2 (show w.heap.size + 1 + 1 + 1 ≤ _ by simp)); clear he2 hb2
  go_wp2_with (first | (refine wpList_store_row rfl 69 (.tmp 4) (.tmp 9) rfl (w.heap.size + 1 + 1) #[.slice a2 xs.length cap2, .int .i64 e.p.root, .int .i64 e.p.deep, .int .i64 e.p.most, .int .i64 e.mode, .slice sa2 ms.length scap2, .int .u64 e.bits, .int .i64 e.have_, .int .i64 e.start, .int .i64 e.at_, .int .i64 e.field.number, .int .i64 e.field.kind, .bool e.field.rep, .bool e.field.packed, .int .i64 e.field.msg, .int .i64 e.wire, .int .i64 e.want, .int .i64 e.utf.want, .int .i64 e.utf.low, .int .i64 e.utf.high, .int .i64 e.end_.kind, .int .i64 e.end_.field, .int .u64 e.end_.bits, .int .i64 e.end_.len, .string e.end_.text, .int .i64 e.end_.code, .int .i64 e.end_.at_] rfl rfl 69 #[.slice none 0 0, .int .i64 0, .int .i64 0, .int .i64 0, .int .i64 0, .slice none 0 0, .int .u64 0, .int .i64 0, .int .i64 0, .int .i64 0, .int .i64 0, .int .i64 0, .bool false, .bool false, .int .i64 0, .int .i64 0, .int .i64 0, .int .i64 0, .int .i64 0, .int .i64 0, .int .i64 0, .int .i64 0, .int .u64 0, .int .i64 0, .string ⟨#[]⟩, .int .i64 0, .int .i64 0] HR.out size_Dec rfl (one_Dec _ _ _ _ _ _ _) ?_))
  refine finDE (w := w) (R := w.heap.size + 1 + 1) (base := w.heap.size + 1 + 1 + 1) (e := e) (ms := ms) (es := es) (rs := rs2) (a := a2) (cap := cap2) (sa := sa2) (scap := scap2) (ea := ea2) (ecap := ecap2) Try.results50 rfl rfl ?_ ?_ ?_ ?_ ?_ (by omega)
  · exact hset_row (cs := #[.slice none 0 0, .int .i64 0, .int .i64 0, .int .i64 0, .int .i64 0, .slice none 0 0, .int .u64 0, .int .i64 0, .int .i64 0, .int .i64 0, .int .i64 0, .int .i64 0, .bool false, .bool false, .int .i64 0, .int .i64 0, .int .i64 0, .int .i64 0, .int .i64 0, .int .i64 0, .int .i64 0, .int .i64 0, .int .u64 0, .int .i64 0, .string ⟨#[]⟩, .int .i64 0, .int .i64 0]) HR.out
  · refine OwnShs.setRow P1.out ?_ _; omega
  · refine owns_setRow P2.out ?_ _; omega
  · refine owns_setRow P3.out ?_ _; omega
  · ((repeat (first | (with_reducible exact Below.refl _ _) | (with_reducible assumption) | (with_reducible refine Below.alloc ?_ ?_ _) | (with_reducible refine Below.setCell ?_ ?_ _) | (with_reducible refine Below.drew ?_) | (with_reducible refine below_setRow ?_ ?_ _) | (refine Below.trans ?_ (Below.mono (by assumption) ?_)))); all_goals (first | omega | (simp; done) | (simp; omega)))
end Go.Proofs.Ytigmdaiecdoimaa
