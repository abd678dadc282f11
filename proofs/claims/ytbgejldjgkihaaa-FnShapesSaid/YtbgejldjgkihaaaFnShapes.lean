/- FnShapes: each shape and each field of a valid schema that is drawn is found by its id, its number, for every code. No condition. -/
import Derived.Test.YtbgejldjgkihaaaL8B
import Derived.Test.YtbgejldjgkihaaaSchP
namespace Go.Proofs.Ytbgejldjgkihaaa.fnShapes
set_option linter.unusedSimpArgs false
set_option linter.unusedVariables false
open Go.ChangeShapes Go.WideShapes Go.ChangeAt Go.RowKit Go.BigFrame

theorem cells_setRow {l : List (Addr × Value)} {w : World} {F : Nat} (h : Cells l w) (hne : ∀ q ∈ l, F ≠ q.1.block) (cs : Array Value) : Cells l (w.setRow F cs) := fun q hq => by
  rw [World.cell?_of_block (a := q.1) (setRow_other w F q.1.block cs (fun e => hne q hq e.symm))]; exact h q hq
/-- A schema that is drawn. -/
def DrawnSF (w : World) (r : Ending) (w' : World) : Prop :=
  ∃ a n cap rs xs, r = .returned (.agg #[.slice a n cap]) ∧ OwnShs w' w.heap.size 43 47 (.slice a n cap) n rs xs ∧ SchB xs ∧ Below w.heap.size w w'
set_option maxHeartbeats 2000000 in
theorem drawSchemaOk_any (a : Option Addr) (cap n : Nat) (w : World) (h : Code w a n) (hn : n ≤ 1048576) :
    Calls Try.prog 18 #[.slice a n cap] w (DrawnSF w) := by
  go_enter Try.func18, Try.ntmps18
  go_wp2_with fail
  refine (l1New_any a cap n _ (h.keep (by ((repeat (first | (with_reducible exact Below.refl _ _) | (with_reducible assumption) | (with_reducible refine Below.alloc ?_ ?_ _) | (with_reducible refine Below.setCell ?_ ?_ _) | (with_reducible refine Below.drew ?_) | (with_reducible refine below_setRow ?_ ?_ _) | (refine Below.trans ?_ (Below.mono (by assumption) ?_)))); all_goals (first | omega | (simp; done) | (simp; omega))))) hn).mono ?_
  rintro r w1 ⟨B, rfl, hB, hc, hb1⟩
  simp only [World.size_alloc] at hB
  go_wp2_with fail
  refine (l8Bent_any B w1 hc).mono ?_
  rintro r w2 ⟨a2, m, cap2, rs, xs, rfl, ho, hg, hu⟩
  have hb2 : Below (w.heap.size + 1) w1 w2 := hu.oth.below hB hc.lt
  have hbw : Below w.heap.size w w2 := ((Below.refl _ _).alloc (Nat.le_refl _) _).trans ((hb1.mono (by simp)).trans (hb2.mono (by omega)))
  have hz1 := hb1.size
  simp only [World.size_alloc] at hz1
  have hR2 := (hb2.block w.heap.size (by omega)).trans ((hb1.block w.heap.size (by simp)).trans (hset_new (o := .cells #[.slice none 0 0] 30) rfl))
  have kR := box_cells hR2 0; have fR := box_frozen hR2; have hlR := box_lt hR2
  simp only [List.getElem?_toArray, List.getElem?_cons_zero] at kR
  have HR2 := Lib.hid hR2; have HO := Lib.hid ho; clear hR2 ho
  go_wp2_with fail
  refine bodyPost_ret (results_cell Try.results18 rfl (run_loadVar_mid _ w.heap.size 0 30 [.slice a2 m cap2] _ (range_of_box (t := 30) ?_) Try.underlying30 rfl (by kernel_rfl))) rfl ⟨_, _, _, _, _, rfl, (HO.out.set (by simp; omega) _).le (by omega), hg, hbw.setCell (by simp) _⟩
  apply hset_eq (hset_set HR2.out); simp only [List.setIfInBounds_toArray, List.set_cons_zero]
set_option maxRecDepth 100000 in
set_option maxHeartbeats 4000000 in
theorem walk (w : World) (x : SlArg Int) (hx : x.ok 1 byCs ByOk w) :
    Calls Try.prog 4 #[.slice x.a x.xs.length x.cap] w fun r w' => r = .returned (.bool true) ∧ Below w.heap.size w w' := by
  have hcode := code_of hx
  obtain ⟨a, cap, bs⟩ := x
  obtain ⟨_, _, hle, hcap⟩ := hx
  simp only at hcode hle hcap ⊢
  by_cases hbig : (1048576 : Int) < (bs.length : Int)
  · go_enter Try.func4, Try.ntmps4
    go_wp2_with (first | (go_at_call 8; refine (big_any _ _ _ _).mono ?_; rintro r w1 ⟨rfl, rfl⟩))
    go_ret
    exact ⟨rfl, by ((repeat (first | (with_reducible exact Below.refl _ _) | (with_reducible assumption) | (with_reducible refine Below.alloc ?_ ?_ _) | (with_reducible refine Below.setCell ?_ ?_ _) | (with_reducible refine Below.drew ?_) | (with_reducible refine below_setRow ?_ ?_ _) | (refine Below.trans ?_ (Below.mono (by assumption) ?_)))); all_goals (first | omega | (simp; done) | (simp; omega)))⟩
  · go_enter Try.func4, Try.ntmps4
    go_wp2_with (first | (go_at_call 8; refine (big_any _ _ _ _).mono ?_; rintro r w1 ⟨rfl, rfl⟩))
    refine (drawSchemaOk_any a cap bs.length w hcode (by omega)).mono ?_
    rintro r w1 ⟨a1, n, cap1, rs, xs, rfl, ho, hg, hb1⟩
    have hxl := ho.lenx
    have hn7 : n ≤ 7 := by have := hg.n; omega
    have hms := hg.sum
    have HS := Lib.hid (ho.shs); have HX := Lib.hid hxl; clear ho hxl
    have hz1 := hb1.size
    obtain ⟨S, hS⟩ : ∃ S, w1.heap.size = S := ⟨_, rfl⟩
    go_wp2_with fail
    (refine wp_region_ext (by kernel_rfl) (by kernel_rfl) ?_; (repeat (go_big_quiet_step (first | (go_at_call 12; refine Calls.ext_of (implSchemaOk_any _ _ _ xs _ ((HS.out.keep (by ((repeat (first | (with_reducible exact Below.refl _ _) | (with_reducible assumption) | (with_reducible refine Below.alloc ?_ ?_ _) | (with_reducible refine Below.setCell ?_ ?_ _) | (with_reducible refine Below.drew ?_) | (with_reducible refine below_setRow ?_ ?_ _) | (refine Below.trans ?_ (Below.mono (by assumption) ?_)))); all_goals (first | omega | (simp; done) | (simp; omega))))).keep (World.ext_below _ _)) HX.out (by omega) hms)) | (go_at_call 13; refine Calls.ext_of (specSchemaOk_any _ _ _ xs _ ((HS.out.keep (by ((repeat (first | (with_reducible exact Below.refl _ _) | (with_reducible assumption) | (with_reducible refine Below.alloc ?_ ?_ _) | (with_reducible refine Below.setCell ?_ ?_ _) | (with_reducible refine Below.drew ?_) | (with_reducible refine below_setRow ?_ ?_ _) | (refine Below.trans ?_ (Below.mono (by assumption) ?_)))); all_goals (first | omega | (simp; done) | (simp; omega))))).keep (World.ext_below _ _)) HX.out (by omega) hms))))); refine wpQuiet_nil ?_; intro w2 hb2; obtain ⟨hc2, hf2⟩ := bcell hb2; have hz2 := hb2.size; (try simp only [World.size_alloc, World.size_setCell, World.size_drew] at hz2))
    have hS2 := (hb2.block S (by simp; omega)).trans (hset_new (o := .cells #[.slice a1 n cap1] 30) hS.symm)
    have hbw2 : Below w.heap.size w w2 := (hb1.alloc hz1 _).trans (hb2.mono (by simp; omega))
    have HS2 := Lib.hid ((HS.out.keep (show Below w1.heap.size w1 (w1.alloc (.cells #[.slice a1 n cap1] 30)) by ((repeat (first | (with_reducible exact Below.refl _ _) | (with_reducible assumption) | (with_reducible refine Below.alloc ?_ ?_ _) | (with_reducible refine Below.setCell ?_ ?_ _) | (with_reducible refine Below.drew ?_) | (with_reducible refine below_setRow ?_ ?_ _) | (refine Below.trans ?_ (Below.mono (by assumption) ?_)))); all_goals (first | omega | (simp; done) | (simp; omega))))).keep hb2)
    have HB2 := Lib.hid hS2; clear hS2 hb2 hc2 hf2 hS HS
    go_wp2_with fail
    go_loopw [4] (fun i wr => ∃ k : Nat, k ≤ n ∧ i = .int .i64 k ∧ Below w2.heap.size w2 wr) (fun i _ => n - (intOf i).toNat)
    case atStart => exact ⟨0, Nat.zero_le _, rfl, Below.refl _ _⟩
    case round =>
      obtain ⟨k, hk, rfl, hbr⟩ := hrel
      obtain ⟨wq, hwq⟩ : ∃ wq : World, wq = wr := ⟨_, rfl⟩
      subst hwq
      have hbq : Below w.heap.size w wq := hbw2.trans (hbr.mono hbw2.size)
      have hBq := (hbr.block S (box_lt HB2.out)).trans HB2.out
      have hSq := HS2.out.keep hbr
      have kS := box_cells hBq 0; have hlS := box_lt hBq
      simp only [List.getElem?_toArray, List.getElem?_cons_zero] at kS
      have HBq := Lib.hid hBq; have HSq := Lib.hid hSq; clear hBq hSq
      by_cases hlt : k < n
      · obtain ⟨x, hx, hxm⟩ := at_lt (xs := xs) (k := k) (by rw [HX.out]; exact hlt)
        obtain ⟨b, off, a', cap', rfl, hbl, c0, c1, hfs⟩ := Shs.at HSq.out hx
        have HF := Lib.hid hfs; have HXk := Lib.hid hx; clear hfs hx
        have hfl := hg.len x hxm
        cases hso : schOk xs
        · go_wp2_with fail
          refine (specSchemaOk_any _ _ _ xs _ HSq.out HX.out (by omega) hms).mono ?_
          rintro r w3 ⟨rfl, hb3⟩
          rw [hso]
          have hz3 := hb3.size
          go_wp2
          go_ret
          exact ⟨rfl, hbq.trans (hb3.mono hbq.size)⟩
        · have hsa := schOk_shAt hso HXk.out
          have hcall : ∀ W : World, Shs W (some ⟨b, off, none⟩) xs → Calls Try.prog 14 #[.agg #[.slice (some ⟨b, off, none⟩) n cap1], .int .i64 x.id] W fun r w' => r = .returned (.int .i64 (k : Nat)) ∧ Below W.heap.size W w' := by
            intro W hW
            have := implShapeAt_any (some ⟨b, off, none⟩) cap1 n xs x.id W hW HX.out (by omega)
            rw [hsa] at this; exact this
          have HSO := Lib.hid hso
          clear hsa
          go_wp2_with fail
          refine (specSchemaOk_any _ _ _ xs _ HSq.out HX.out (by omega) hms).mono ?_
          rintro r w3 ⟨rfl, hb3⟩
          rw [HSO.out]
          have hz3 := hb3.size
          have kS3 := (hb3.cell (p := ⟨S, 0, none⟩) hlS).trans kS
          have c03 := (hb3.cell (p := ⟨b, off + k * 2, none⟩) hbl).trans c0
          have c13 := (hb3.cell (p := ⟨b, off + k * 2 + 1, none⟩) hbl).trans c1
          have hlS3 := Nat.lt_of_lt_of_le hlS hz3; have hbl3 := Nat.lt_of_lt_of_le hbl hz3
          have HS3 := Lib.hid (HSq.out.keep hb3)
          have HF3 := Lib.hid (Sl.keep HF.out hb3)
          have HB3 := Lib.hid ((hb3.block S hlS).trans HBq.out)
          have hb3w : Below w2.heap.size w2 w3 := hbr.trans (hb3.mono hbr.size)
          clear hb3 kS c0 c1 hlS hbl HSq HF HBq hso
          go_wp2_with fail
          (refine wp_region_ext (by kernel_rfl) (by kernel_rfl) ?_; (repeat (go_big_quiet_step (first | (go_at_call 14; refine Calls.ext_of (hcall _ (HS3.out.keep (World.ext_below _ _))))))); refine wpQuiet_nil ?_; intro w4 hb4; obtain ⟨hc4, hf4⟩ := bcell hb4; have hz4 := hb4.size; (try simp only [World.size_alloc, World.size_setCell, World.size_drew] at hz4))
          have kS4 := (hb4.cell (p := ⟨S, 0, none⟩) hlS3).trans kS3
          have c14 := (hb4.cell (p := ⟨b, off + k * 2 + 1, none⟩) hbl3).trans c13
          have hlS4 := Nat.lt_of_lt_of_le hlS3 hz4; have hbl4 := Nat.lt_of_lt_of_le hbl3 hz4
          have HS4 := Lib.hid (HS3.out.keep hb4)
          have HF4 := Lib.hid (Sl.keep HF3.out hb4)
          have HB4 := Lib.hid ((hb4.block S hlS3).trans HB3.out)
          have hb4w : Below w2.heap.size w2 w4 := hb3w.trans (hb4.mono hb3w.size)
          clear hb4 hc4 hf4 kS3 c03 c13 hlS3 hbl3 HS3 HF3 HB3 hcall
          go_wp2_with fail
          go_loopw [5] (fun j wi => ∃ q : Nat, q ≤ x.flds.length ∧ j = .int .i64 q ∧ Below w4.heap.size w4 wi) (fun j _ => x.flds.length - (intOf j).toNat)
          case atStart => exact ⟨0, Nat.zero_le _, rfl, Below.refl _ _⟩
          case round =>
            obtain ⟨q, hq, rfl, hbi⟩ := hrel
            obtain ⟨wi, hwi⟩ : ∃ wi : World, wi = wr := ⟨_, rfl⟩
            subst hwi
            have kS := (hbi.cell (p := ⟨S, 0, none⟩) hlS4).trans kS4
            have c1 := (hbi.cell (p := ⟨b, off + k * 2 + 1, none⟩) hbl4).trans c14
            have hlS := Nat.lt_of_lt_of_le hlS4 hbi.size; have hbl := Nat.lt_of_lt_of_le hbl4 hbi.size
            have HSi := Lib.hid (HS4.out.keep hbi)
            have HFi := Lib.hid (Sl.keep HF4.out hbi)
            by_cases hlq : q < x.flds.length
            · obtain ⟨f, hf, _⟩ := at_lt (xs := x.flds) (k := q) hlq
              obtain ⟨b2, off2, rfl, hbl2, d0, d1, d2, d3, d4⟩ := Flds.at HFi.out hf
              have hfa := schOk_fieldAt HSO.out HXk.out hf
              have hcall : ∀ W : World, Shs W (some ⟨b, off, none⟩) xs → Calls Try.prog 16 #[.agg #[.slice (some ⟨b, off, none⟩) n cap1], .int .i64 k, .int .i64 f.number] W fun r w' => r = .returned (.tuple #[f.val, .bool true]) ∧ Below W.heap.size W w' := by
                intro W hW
                have := implFieldAt_any (some ⟨b, off, none⟩) cap1 n xs k f.number W hW HX.out (by omega) hms
                rw [hfa] at this; exact this
              clear hfa hf
              have hqn : (q : Int) < (x.flds.length : Int) := by omega
              have hkn : (k : Int) < (n : Int) := by omega
              go_upto_region 14 with fail
              go_cut [6, 7] from 38 to 91 (fun p u wx => ∃ F, p = .pointer (some ⟨F, 0, none⟩) ∧ u = .bool true ∧ wx.heap[F]? = some (.cells #[.int .i64 f.number, .int .i64 f.kind, .bool f.rep, .bool f.packed, .int .i64 f.msg] 47 (0, 0)) ∧ Below wi.heap.size wi wx)
              case first =>
                refine wp_region_till (Cells [(⟨S, 0, none⟩, .slice (some ⟨b, off, none⟩) n cap1), (⟨b, off + k * 2 + 1, none⟩, .slice (some ⟨b2, off2, none⟩) x.flds.length cap'), (⟨b2, off2 + q * 5, none⟩, .int .i64 f.number)]) (fun _ => false) (by kernel_rfl) ?_
                have hS : Cells [(⟨S, 0, none⟩, .slice (some ⟨b, off, none⟩) n cap1), (⟨b, off + k * 2 + 1, none⟩, .slice (some ⟨b2, off2, none⟩) x.flds.length cap'), (⟨b2, off2 + q * 5, none⟩, .int .i64 f.number)] wi.drew := cells_mk kS (cells_mk c1 (cells_mk d0 (cells_no _)))
                refine wpTill_take (i := 0) (v := ?v0_1) rfl (by kernel_rfl) (by kernel_rfl) (by kernel_rfl) (by kernel_rfl) (fun _ _ _ h => h) (Or.inl ⟨by rfl, ?y0_1⟩) hS ?r0_1
                case y0_1 => (intro wq hq; (try simp only [cells_cons, cells_nil, and_true] at hq); first | (go_simp; done) | (go_simp; with_reducible rfl) | (obtain ⟨hq1, hq2⟩ := hq; go_simp; with_reducible rfl))
                try simp only [List.getElem_toArray, List.getElem_cons_succ, List.getElem_cons_zero, Act.put, List.setIfInBounds_toArray, List.set_cons_zero, List.set_cons_succ]
                refine wpTill_take (i := 1) (v := ?v1_2) rfl (by kernel_rfl) (by kernel_rfl) (by kernel_rfl) (by kernel_rfl) (fun _ _ _ h => h) (Or.inl ⟨by rfl, ?y1_2⟩) hS ?r1_2
                case y1_2 => (intro wq hq; (try simp only [cells_cons, cells_nil, and_true] at hq); first | (go_simp; done) | (go_simp; with_reducible rfl) | (obtain ⟨hq1, hq2⟩ := hq; go_simp; with_reducible rfl))
                try simp only [List.getElem_toArray, List.getElem_cons_succ, List.getElem_cons_zero, Act.put, List.setIfInBounds_toArray, List.set_cons_zero, List.set_cons_succ]
                refine wpTill_take (i := 2) (v := ?v2_3) rfl (by kernel_rfl) (by kernel_rfl) (by kernel_rfl) (by kernel_rfl) (fun _ _ _ h => h) (Or.inl ⟨by rfl, ?y2_3⟩) hS ?r2_3
                case y2_3 => (intro wq hq; (try simp only [cells_cons, cells_nil, and_true] at hq); first | (go_simp; done) | (go_simp; with_reducible rfl) | (obtain ⟨hq1, hq2⟩ := hq; go_simp; with_reducible rfl))
                try simp only [List.getElem_toArray, List.getElem_cons_succ, List.getElem_cons_zero, Act.put, List.setIfInBounds_toArray, List.set_cons_zero, List.set_cons_succ]
                refine wpTill_take (i := 3) (v := ?v3_4) rfl (by kernel_rfl) (by kernel_rfl) (by kernel_rfl) (by kernel_rfl) (fun _ _ _ h => h) (Or.inl ⟨by rfl, ?y3_4⟩) hS ?r3_4
                case y3_4 => (intro wq hq; (try simp only [cells_cons, cells_nil, and_true] at hq); first | (go_simp; done) | (go_simp; with_reducible rfl) | (obtain ⟨hq1, hq2⟩ := hq; go_simp; with_reducible rfl))
                try simp only [List.getElem_toArray, List.getElem_cons_succ, List.getElem_cons_zero, Act.put, List.setIfInBounds_toArray, List.set_cons_zero, List.set_cons_succ]
                refine wpTill_take (i := 4) (v := ?v4_5) rfl (by kernel_rfl) (by kernel_rfl) (by kernel_rfl) (by kernel_rfl) (fun _ _ _ h => h) (Or.inl ⟨by rfl, ?y4_5⟩) hS ?r4_5
                case y4_5 => (intro wq hq; (try simp only [cells_cons, cells_nil, and_true] at hq); first | (go_simp; done) | (go_simp; with_reducible rfl) | (obtain ⟨hq1, hq2⟩ := hq; go_simp; with_reducible rfl))
                try simp only [List.getElem_toArray, List.getElem_cons_succ, List.getElem_cons_zero, Act.put, List.setIfInBounds_toArray, List.set_cons_zero, List.set_cons_succ]
                refine wpTill_take (i := 5) (v := ?v5_6) rfl (by kernel_rfl) (by kernel_rfl) (by kernel_rfl) (by kernel_rfl) (fun _ _ _ h => h) (Or.inl ⟨by rfl, ?y5_6⟩) hS ?r5_6
                case y5_6 => (intro wq hq; (try simp only [cells_cons, cells_nil, and_true] at hq); first | (go_simp; done) | (go_simp; with_reducible rfl) | (obtain ⟨hq1, hq2⟩ := hq; go_simp; with_reducible rfl))
                try simp only [List.getElem_toArray, List.getElem_cons_succ, List.getElem_cons_zero, Act.put, List.setIfInBounds_toArray, List.set_cons_zero, List.set_cons_succ]
                refine wpTill_take (i := 6) (v := ?v6_7) rfl (by kernel_rfl) (by kernel_rfl) (by kernel_rfl) (by kernel_rfl) (fun _ _ _ h => h) (Or.inl ⟨by rfl, ?y6_7⟩) hS ?r6_7
                case y6_7 => (intro wq hq; (try simp only [cells_cons, cells_nil, and_true] at hq); first | (go_simp; done) | (go_simp; with_reducible rfl) | (obtain ⟨hq1, hq2⟩ := hq; go_simp; with_reducible rfl))
                try simp only [List.getElem_toArray, List.getElem_cons_succ, List.getElem_cons_zero, Act.put, List.setIfInBounds_toArray, List.set_cons_zero, List.set_cons_succ]
                refine wpTill_take (i := 7) (v := ?v7_8) rfl (by kernel_rfl) (by kernel_rfl) (by kernel_rfl) (by kernel_rfl) (fun _ _ _ h => h) (Or.inl ⟨by rfl, ?y7_8⟩) hS ?r7_8
                case y7_8 => (intro wq hq; (try simp only [cells_cons, cells_nil, and_true] at hq); first | (go_simp; done) | (go_simp; with_reducible rfl) | (obtain ⟨hq1, hq2⟩ := hq; go_simp; with_reducible rfl))
                try simp only [List.getElem_toArray, List.getElem_cons_succ, List.getElem_cons_zero, Act.put, List.setIfInBounds_toArray, List.set_cons_zero, List.set_cons_succ]
                refine wpTill_take (i := 8) (v := ?v8_9) rfl (by kernel_rfl) (by kernel_rfl) (by kernel_rfl) (by kernel_rfl) (fun _ _ _ h => h) (Or.inl ⟨by rfl, ?y8_9⟩) hS ?r8_9
                case y8_9 => (intro wq hq; (try simp only [cells_cons, cells_nil, and_true] at hq); first | (go_simp; done) | (go_simp; with_reducible rfl) | (obtain ⟨hq1, hq2⟩ := hq; go_simp; with_reducible rfl))
                try simp only [List.getElem_toArray, List.getElem_cons_succ, List.getElem_cons_zero, Act.put, List.setIfInBounds_toArray, List.set_cons_zero, List.set_cons_succ]
                refine wpTill_take (i := 9) (v := ?v9_10) rfl (by kernel_rfl) (by kernel_rfl) (by kernel_rfl) (by kernel_rfl) (fun _ _ _ h => h) (Or.inl ⟨by rfl, ?y9_10⟩) hS ?r9_10
                case y9_10 => (intro wq hq; (try simp only [cells_cons, cells_nil, and_true] at hq); first | (go_simp; done) | (go_simp; with_reducible rfl) | (obtain ⟨hq1, hq2⟩ := hq; go_simp; with_reducible rfl))
                try simp only [List.getElem_toArray, List.getElem_cons_succ, List.getElem_cons_zero, Act.put, List.setIfInBounds_toArray, List.set_cons_zero, List.set_cons_succ]
                refine wpTill_take (i := 10) (v := ?v10_11) rfl (by kernel_rfl) (by kernel_rfl) (by kernel_rfl) (by kernel_rfl) (fun _ _ _ h => h) (Or.inl ⟨by rfl, ?y10_11⟩) hS ?r10_11
                case y10_11 => (intro wq hq; (try simp only [cells_cons, cells_nil, and_true] at hq); first | (go_simp; done) | (go_simp; with_reducible rfl) | (obtain ⟨hq1, hq2⟩ := hq; go_simp; with_reducible rfl))
                try simp only [List.getElem_toArray, List.getElem_cons_succ, List.getElem_cons_zero, Act.put, List.setIfInBounds_toArray, List.set_cons_zero, List.set_cons_succ]
                refine wpTill_take (i := 11) (v := ?v11_12) rfl (by kernel_rfl) (by kernel_rfl) (by kernel_rfl) (by kernel_rfl) (fun _ _ _ h => h) (Or.inl ⟨by rfl, ?y11_12⟩) hS ?r11_12
                case y11_12 => (intro wq hq; (try simp only [cells_cons, cells_nil, and_true] at hq); first | (go_simp; done) | (go_simp; with_reducible rfl) | (obtain ⟨hq1, hq2⟩ := hq; go_simp; with_reducible rfl))
                try simp only [List.getElem_toArray, List.getElem_cons_succ, List.getElem_cons_zero, Act.put, List.setIfInBounds_toArray, List.set_cons_zero, List.set_cons_succ]
                have hbd : Below wi.heap.size wi wi.drew := (Below.refl _ _).drew
                refine wpTill_two (i := 12) (j := 16) (by kernel_rfl) rfl rfl (fun K hK => ?_) (fun K hK => ?_)
                · go_simp
                  refine (hcall _ (HSi.out.keep hbd)).mono ?_
                  rintro r v1 ⟨rfl, hv1⟩
                  have hv : Below wi.heap.size wi v1 := hbd.trans hv1
                  have hS1 := hS.below hv1; clear hS; have hS := hS1; clear hS1
                  refine hK.out _ _ (fun _ => hS) ?_
                  clear hK K
                  try simp only [List.getElem_toArray, List.getElem_cons_succ, List.getElem_cons_zero, Act.put, List.setIfInBounds_toArray, List.set_cons_zero, List.set_cons_succ]
                  refine wpTill_take (i := 13) (v := ?v13_13) rfl (by kernel_rfl) (by kernel_rfl) (by kernel_rfl) (by kernel_rfl) (fun _ _ _ h => h) (Or.inl ⟨by rfl, ?y13_13⟩) hS ?r13_13
                  case y13_13 => (intro wq hq; (try simp only [cells_cons, cells_nil, and_true] at hq); first | (go_simp; done) | (go_simp; with_reducible rfl) | (obtain ⟨hq1, hq2⟩ := hq; go_simp; with_reducible rfl))
                  try simp only [List.getElem_toArray, List.getElem_cons_succ, List.getElem_cons_zero, Act.put, List.setIfInBounds_toArray, List.set_cons_zero, List.set_cons_succ]
                  refine wpTill_take (i := 14) (v := ?v14_14) rfl (by kernel_rfl) (by kernel_rfl) (by kernel_rfl) (by kernel_rfl) (fun _ _ _ h => h) (Or.inl ⟨by rfl, ?y14_14⟩) hS ?r14_14
                  case y14_14 => (intro wq hq; (try simp only [cells_cons, cells_nil, and_true] at hq); first | (go_simp; done) | (go_simp; with_reducible rfl) | (obtain ⟨hq1, hq2⟩ := hq; go_simp; with_reducible rfl))
                  try simp only [List.getElem_toArray, List.getElem_cons_succ, List.getElem_cons_zero, Act.put, List.setIfInBounds_toArray, List.set_cons_zero, List.set_cons_succ]
                  refine wpTill_take (i := 15) (v := ?v15_15) rfl (by kernel_rfl) (by kernel_rfl) (by kernel_rfl) (by kernel_rfl) (fun _ _ _ h => h) (Or.inl ⟨by rfl, ?y15_15⟩) hS ?r15_15
                  case y15_15 => (intro wq hq; (try simp only [cells_cons, cells_nil, and_true] at hq); first | (go_simp; done) | (go_simp; with_reducible rfl) | (obtain ⟨hq1, hq2⟩ := hq; go_simp; with_reducible rfl))
                  try simp only [List.getElem_toArray, List.getElem_cons_succ, List.getElem_cons_zero, Act.put, List.setIfInBounds_toArray, List.set_cons_zero, List.set_cons_succ]
                  refine wpTill_op (i := 16) (by kernel_rfl) rfl (fun K hK => ?_)
                  go_simp
                  refine hK.out _ _ (fun _ => hS.alloc _) ?_
                  clear hK K
                  try simp only [List.getElem_toArray, List.getElem_cons_succ, List.getElem_cons_zero, Act.put, List.setIfInBounds_toArray, List.set_cons_zero, List.set_cons_succ]
                  refine wpTill_op (i := 17) (by kernel_rfl) rfl (fun K hK => ?_)
                  go_simp
                  refine hK.out _ _ (fun _ => hS.alloc _) ?_
                  clear hK K
                  try simp only [List.getElem_toArray, List.getElem_cons_succ, List.getElem_cons_zero, Act.put, List.setIfInBounds_toArray, List.set_cons_zero, List.set_cons_succ]
                  refine wpTill_op (i := 18) (by kernel_rfl) rfl (fun K hK => ?_)
                  go_simp
                  refine hK.out _ _ (fun _ => hS.alloc _) ?_
                  clear hK K
                  refine wpTill_done (by kernel_rfl) ?_ _
                  go_wp2_with fail
                  go_meet
                  case rel => exact ⟨_, rfl, rfl, hset_new rfl, hv.alloc hv.size _⟩
                · go_simp
                  refine hK.out _ _ (fun _ => (hS.alloc _).drew) ?_
                  clear hK K
                  try simp only [List.getElem_toArray, List.getElem_cons_succ, List.getElem_cons_zero, Act.put, List.setIfInBounds_toArray, List.set_cons_zero, List.set_cons_succ]
                  have hbo : Below wi.heap.size wi (wi.alloc (.cells #[.int .i64 0, .int .i64 0, .bool false, .bool false, .int .i64 0] 47)).drew := ((Below.refl _ _).alloc (Nat.le_refl _) _).drew
                  refine wpTill_op (i := 12) (by kernel_rfl) rfl (fun K hK => ?_)
                  go_simp
                  refine (hcall _ (HSi.out.keep hbo)).mono ?_
                  rintro r v1 ⟨rfl, hv1⟩
                  have hv : Below wi.heap.size wi v1 := hbo.trans (hv1.mono (by simp))
                  have hS0 : Cells [((⟨S, 0, none⟩ : Addr), Value.slice (some ⟨b, off, none⟩) n cap1), (⟨b, off + k * 2 + 1, none⟩, .slice (some ⟨b2, off2, none⟩) x.flds.length cap'), (⟨b2, off2 + q * 5, none⟩, .int .i64 f.number)] (wi.alloc (.cells #[.int .i64 0, .int .i64 0, .bool false, .bool false, .int .i64 0] 47)).drew := (hS.alloc _).drew
                  have hS1 := hS0.below hv1; clear hS hS0; have hS := hS1; clear hS1
                  refine hK.out _ _ (fun _ => hS) ?_
                  clear hK K
                  try simp only [List.getElem_toArray, List.getElem_cons_succ, List.getElem_cons_zero, Act.put, List.setIfInBounds_toArray, List.set_cons_zero, List.set_cons_succ]
                  refine wpTill_take (i := 13) (v := ?v13_16) rfl (by kernel_rfl) (by kernel_rfl) (by kernel_rfl) (by kernel_rfl) (fun _ _ _ h => h) (Or.inl ⟨by rfl, ?y13_16⟩) hS ?r13_16
                  case y13_16 => (intro wq hq; (try simp only [cells_cons, cells_nil, and_true] at hq); first | (go_simp; done) | (go_simp; with_reducible rfl) | (obtain ⟨hq1, hq2⟩ := hq; go_simp; with_reducible rfl))
                  try simp only [List.getElem_toArray, List.getElem_cons_succ, List.getElem_cons_zero, Act.put, List.setIfInBounds_toArray, List.set_cons_zero, List.set_cons_succ]
                  refine wpTill_take (i := 14) (v := ?v14_17) rfl (by kernel_rfl) (by kernel_rfl) (by kernel_rfl) (by kernel_rfl) (fun _ _ _ h => h) (Or.inl ⟨by rfl, ?y14_17⟩) hS ?r14_17
                  case y14_17 => (intro wq hq; (try simp only [cells_cons, cells_nil, and_true] at hq); first | (go_simp; done) | (go_simp; with_reducible rfl) | (obtain ⟨hq1, hq2⟩ := hq; go_simp; with_reducible rfl))
                  try simp only [List.getElem_toArray, List.getElem_cons_succ, List.getElem_cons_zero, Act.put, List.setIfInBounds_toArray, List.set_cons_zero, List.set_cons_succ]
                  refine wpTill_take (i := 15) (v := ?v15_18) rfl (by kernel_rfl) (by kernel_rfl) (by kernel_rfl) (by kernel_rfl) (fun _ _ _ h => h) (Or.inl ⟨by rfl, ?y15_18⟩) hS ?r15_18
                  case y15_18 => (intro wq hq; (try simp only [cells_cons, cells_nil, and_true] at hq); first | (go_simp; done) | (go_simp; with_reducible rfl) | (obtain ⟨hq1, hq2⟩ := hq; go_simp; with_reducible rfl))
                  try simp only [List.getElem_toArray, List.getElem_cons_succ, List.getElem_cons_zero, Act.put, List.setIfInBounds_toArray, List.set_cons_zero, List.set_cons_succ]
                  have hF1 : v1.heap[wi.heap.size]? = some (.cells #[.int .i64 0, .int .i64 0, .bool false, .bool false, .int .i64 0] 47 (0, 0)) := (hv1.block wi.heap.size (by simp)).trans (hset_drew (hset_new rfl))
                  have hne : ∀ q' ∈ [((⟨S, 0, none⟩ : Addr), Value.slice (some ⟨b, off, none⟩) n cap1), (⟨b, off + k * 2 + 1, none⟩, .slice (some ⟨b2, off2, none⟩) x.flds.length cap'), (⟨b2, off2 + q * 5, none⟩, .int .i64 f.number)], wi.heap.size ≠ q'.1.block := by
                    intro q' hq'; simp only [List.mem_cons, List.not_mem_nil, or_false] at hq'
                    rcases hq' with rfl | rfl | rfl <;> (simp only; omega)
                  refine wpTill_op (i := 17) (by kernel_rfl) rfl (fun K hK => ?_)
                  refine step_store_row rfl _ _ _ rfl wi.heap.size #[.int .i64 f.number, .int .i64 f.kind, .bool f.rep, .bool f.packed, .int .i64 f.msg] rfl rfl 47 _ hF1 (by kernel_rfl) rfl (by simp [Value.oneCell']) ?_
                  refine hK.out _ _ (fun _ => cells_setRow hS hne _) ?_
                  clear hK K
                  try simp only [List.getElem_toArray, List.getElem_cons_succ, List.getElem_cons_zero, Act.put, List.setIfInBounds_toArray, List.set_cons_zero, List.set_cons_succ]
                  refine wpTill_op (i := 18) (by kernel_rfl) rfl (fun K hK => ?_)
                  go_simp
                  refine hK.out _ _ (fun _ => cells_setRow hS hne _) ?_
                  clear hK K
                  refine wpTill_done (by kernel_rfl) ?_ _
                  go_wp2_with fail
                  go_meet
                  case rel => exact ⟨_, rfl, rfl, hset_row hF1, below_setRow hv (Nat.le_refl _) _⟩
              case rest =>
                obtain ⟨F, rfl, rfl, hF, hbx⟩ := hcut
                have kF := box_cells hF; have hlF := box_lt hF
                have kF0 := kF 0; have kF1 := kF 1; have kF2 := kF 2; have kF3 := kF 3; have kF4 := kF 4
                simp only [List.getElem?_toArray, List.getElem?_cons_zero, List.getElem?_cons_succ] at kF0 kF1 kF2 kF3 kF4
                have kS5 := (hbx.cell (p := ⟨S, 0, none⟩) hlS).trans kS
                have c15 := (hbx.cell (p := ⟨b, off + k * 2 + 1, none⟩) hbl).trans c1
                have e0 := (hbx.cell (p := ⟨b2, off2 + q * 5, none⟩) hbl2).trans d0
                have e1 := (hbx.cell (p := ⟨b2, off2 + q * 5 + 1, none⟩) hbl2).trans d1
                have e2 := (hbx.cell (p := ⟨b2, off2 + q * 5 + 2, none⟩) hbl2).trans d2
                have e3 := (hbx.cell (p := ⟨b2, off2 + q * 5 + 3, none⟩) hbl2).trans d3
                have e4 := (hbx.cell (p := ⟨b2, off2 + q * 5 + 4, none⟩) hbl2).trans d4
                have hlS5 := Nat.lt_of_lt_of_le hlS hbx.size; have hbl5 := Nat.lt_of_lt_of_le hbl hbx.size; have hbl25 := Nat.lt_of_lt_of_le hbl2 hbx.size
                have hbF : Below w4.heap.size w4 wc := hbi.trans (hbx.mono hbi.size)
                clear hF kF kS c1 d0 d1 d2 d3 d4 hlS hbl hbl2 hbx hbi hcall HSi HFi
                obtain ⟨fn, fk, fr, fp, fm⟩ := f
                simp only at kF0 kF1 kF2 kF3 kF4 e0 e1 e2 e3 e4
                cases fr
                · go_wp2_with fail
                  (refine wp_region_ext (by kernel_rfl) (by kernel_rfl) ?_; (repeat (go_big_quiet_step (first | (go_at_call 19; refine Calls.ext_of (implRuns_any ⟨fn, fk, false, fp, fm⟩ _)) | (go_at_call 20; refine Calls.ext_of_same (specNumeric_any fk _))))); refine wpQuiet_nil ?_; intro w6 hb6; obtain ⟨hc6, hf6⟩ := bcell hb6; have hz6 := hb6.size; (try simp only [World.size_alloc, World.size_setCell, World.size_drew] at hz6))
                  have hb6w : Below w4.heap.size w4 w6 := hbF.trans (hb6.mono hbF.size)
                  clear hb6 hc6 hf6
                  go_wp2_with fail
                  go_roundw
                  case rel => exact ⟨q + 1, by omega, by go_num, hb6w⟩
                  case measure => simp [intOf]; omega
                · cases hnk : inB fk 1 5
                  · have hr : runsF ⟨fn, fk, true, fp, fm⟩ = false := by simp [runsF, hnk]
                    go_wp2_with fail
                    (refine wp_region_ext (by kernel_rfl) (by kernel_rfl) ?_; (repeat (go_big_quiet_step (first | (go_at_call 19; refine Calls.ext_of ((hr ▸ implRuns_any ⟨fn, fk, true, fp, fm⟩ _))) | (go_at_call 20; refine Calls.ext_of_same ((hnk ▸ specNumeric_any fk _)))))); refine wpQuiet_nil ?_; intro w6 hb6; obtain ⟨hc6, hf6⟩ := bcell hb6; have hz6 := hb6.size; (try simp only [World.size_alloc, World.size_setCell, World.size_drew] at hz6))
                    have hb6w : Below w4.heap.size w4 w6 := hbF.trans (hb6.mono hbF.size)
                    clear hb6 hc6 hf6
                    go_wp2_with fail
                    go_roundw
                    case rel => exact ⟨q + 1, by omega, by go_num, hb6w⟩
                    case measure => simp [intOf]; omega
                  · have hr : runsF ⟨fn, fk, true, fp, fm⟩ = true := by simp [runsF, hnk]
                    go_wp2_with fail
                    (refine wp_region_ext (by kernel_rfl) (by kernel_rfl) ?_; (repeat (go_big_quiet_step (first | (go_at_call 19; refine Calls.ext_of ((hr ▸ implRuns_any ⟨fn, fk, true, fp, fm⟩ _))) | (go_at_call 20; refine Calls.ext_of_same ((hnk ▸ specNumeric_any fk _)))))); refine wpQuiet_nil ?_; intro w6 hb6; obtain ⟨hc6, hf6⟩ := bcell hb6; have hz6 := hb6.size; (try simp only [World.size_alloc, World.size_setCell, World.size_drew] at hz6))
                    have hb6w : Below w4.heap.size w4 w6 := hbF.trans (hb6.mono hbF.size)
                    clear hb6 hc6 hf6
                    go_wp2_with fail
                    go_roundw
                    case rel => exact ⟨q + 1, by omega, by go_num, hb6w⟩
                    case measure => simp [intOf]; omega
            · go_wp2_with fail
              go_roundw
              case rel => exact ⟨k + 1, by omega, by go_num, hb4w.trans (hbi.mono hb4w.size)⟩
              case measure => simp [intOf]; omega
      · go_wp2_with fail
        go_ret
        exact ⟨rfl, hbq⟩
set_option maxRecDepth 100000 in
theorem lifted (os : Os) (started : os.Started) (H : Type) (enc : TypeId × Value → H) :
    ReturnsInHanded {} Try.checked os 4 .any (Rows.fnShapesSpec.pre6 enc Try.prog Try.f4 Rows.fnShapesRow.domain false) (Rows.fnShapesSpec.post enc Try.prog Try.f4 false true false false) := by
  refine returnsInHanded_of_change (C := Try.checked) own started (by kernel_rfl) Try.func4
    (ChangeSpec.witness6 (enc := enc) (C := Try.checked) false ⟨#[], #[.slice none 0 0], []⟩ 8 (by kernel_rfl) (by kernel_rfl) (by kernel_rfl) (by kernel_rfl)) ?_
  intro W base args ds gs before hval0 hW hcnd _
  have hval : ∀ (j : Nat) t v, Try.f4.params[j]? = some t → args[j]? = some v → Value.okWide Try.prog W .any base t v := hval0
  have hW' := hW
  obtain ⟨p, q, hA0, hV, rfl, hfz, hnd⟩ := hW
  have hA : DataW.TrodAll enc Try.prog W 0 (fun _ => true) true Try.f4.params.toList args.toList ds p := hA0
  rw [Try.params4] at hA hval
  obtain ⟨v0, vs0, d0, ds0, p0, q0, hargs, rfl, rfl, h0, r0⟩ := trodAll_cons hA
  obtain ⟨rfl, rfl, rfl⟩ := trodAll_nil r0
  obtain rfl : args = #[v0] := by cases args; simp_all
  obtain ⟨rfl, rfl⟩ := trodVars_none hV
  have k0 := h0
  have lt0 : ∀ x ∈ p0, x.block < W.heap.size := by obtain ⟨m, hm⟩ := k0; exact DataW.trod_lt m _ _ _ hm
  obtain ⟨x0, e0, w0⟩ := openBytes (hval 0 22 v0 rfl rfl) h0
  subst e0
  clear hA0 hval0
  refine (walk W x0 w0).mono fun e W' ⟨he, bel⟩ => ?_
  subst he
  exact ⟨_, rfl, _, _, _, [], _, [], hW', trodAll_mk1 (shut_bool Try.underlying4 _), (trodAll_cons_mk (Below.trod laidOut (by kernel_rfl) (of_decide_eq_true (by kernel_rfl)) k0 bel lt0) trodAll_mk0), rfl, bel.frame _, fun h => by cases h⟩

theorem over : Rows.fnShapesRow.holds Try.pinned (OpenSpec.ofChange Rows.fnShapesSpec) :=
  OpenClaim.holds_of_wide 4 Try.f4 rfl rfl rfl rfl rfl rfl rfl ⟨rfl, rfl, rfl, rfl, rfl⟩ rfl rfl rfl rfl rfl (by kernel_rfl) Try.func4 (by kernel_rfl)
    (of_decide_eq_true (by kernel_rfl)) (by unfold Func.isWrapper; first | (rw [if_pos (by decide +kernel)]; kernel_rfl) | (rw [if_neg (by decide +kernel)]; exact ⟨rfl, rfl⟩))
    (fun os started H enc _ => lifted os started H enc)

/-- The given statement. -/
theorem proved : Rows.FnShapesSaid := over
end Go.Proofs.Ytbgejldjgkihaaa.fnShapes
