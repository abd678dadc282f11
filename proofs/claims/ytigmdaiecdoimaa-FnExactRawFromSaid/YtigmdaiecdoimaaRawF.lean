/- RawFrom: both functions compute one plain function. (Printed by wip/tools/rawfgen.py.) -/
import Derived.Test.YtigmdaiecdoimaaRawP
import Derived.Test.YtigmdaiecdoimaaSchW
import Derived.Test.YtigmdaiecdoimaaCpyS
import Derived.Test.YtigmdaiecdoimaaMach
namespace Go.Proofs.Ytigmdaiecdoimaa
set_option linter.unusedSimpArgs false
set_option linter.unusedVariables false
open Go.ChangeShapes Go.WideShapes Go.ChangeAt Go.RowKit Go.BigFrame

theorem info_RawF : (Try.prog.info? 115).map (fun i => (i.zero, i.size, i.bytes)) = some (some (.agg #[.int .i64 0, .int .i64 0, .bool false, .bool false, .int .i64 0]), 5, 32) := by kernel_rfl
theorem info_RawM : (Try.prog.info? 113).map (fun i => (i.zero, i.size, i.bytes)) = some (some (.agg #[.int .i64 0, .slice none 0 0]), 2, 32) := by kernel_rfl
def rawRef (xs : List Shp) (f : Fld) : Int := if f.kind = 8 then ((xs[f.msg.toNat]?).map Shp.id).getD 0 else 0
def rawFld (xs : List Shp) (f : Fld) : Fld := ⟨f.number, f.kind, f.rep, f.packed, rawRef xs f⟩
def rawMsg (xs : List Shp) (x : Shp) : Shp := ⟨x.id, x.flds.map (rawFld xs)⟩
def rawFrom (xs : List Shp) : List Shp := if schOk xs = true then xs.map (rawMsg xs) else []
theorem rawFrom_len (xs : List Shp) : (rawFrom xs).length ≤ xs.length := by unfold rawFrom; split <;> simp
theorem rawFrom_sum (xs : List Shp) : fldSum (rawFrom xs) ≤ fldSum xs := by
  unfold rawFrom
  split
  · simp [fldSum, List.map_map, Function.comp_def, rawMsg]
  · simp [fldSum]
theorem fldsOk_fld {m : Int} : ∀ (fs : List Fld) (b : Int), fldsOk m b fs = true → ∀ f ∈ fs, fldOk m f = true
  | [], _, _, f, hf => by simp at hf
  | g :: fs, b, h, f, hf => by
    simp only [fldsOk, Bool.and_eq_true] at h
    rcases List.mem_cons.1 hf with rfl | hf
    · exact h.1.1
    · exact fldsOk_fld fs _ h.2 f hf
theorem shpsOk_fld {m : Int} : ∀ (xs : List Shp) (b : Int), shpsOk m b xs = true → ∀ x ∈ xs, fldsOk m 0 x.flds = true
  | [], _, _, x, hx => by simp at hx
  | y :: xs, b, h, x, hx => by
    simp only [shpsOk, Bool.and_eq_true] at h
    rcases List.mem_cons.1 hx with rfl | hx
    · exact h.2.1
    · exact shpsOk_fld xs _ h.2.2 x hx
theorem schOk_msg {xs : List Shp} (h : schOk xs = true) {k j : Nat} {x : Shp} {f : Fld} (hx : xs[k]? = some x) (hf : x.flds[j]? = some f) (h8 : f.kind = 8) : ∃ (p : Nat) (y : Shp), f.msg = p ∧ p < xs.length ∧ xs[p]? = some y ∧ rawRef xs f = y.id := by
  simp only [schOk, Bool.and_eq_true] at h
  have h1 := fldsOk_fld _ _ (shpsOk_fld _ _ h.2 x (List.mem_of_getElem? hx)) f (List.mem_of_getElem? hf)
  simp only [fldOk, msgOk, Bool.and_eq_true, h8, if_true, inB, decide_eq_true_eq] at h1
  obtain ⟨p, hp⟩ := Int.eq_ofNat_of_zero_le h1.2.2.2.1
  have hlt : p < xs.length := by omega
  refine ⟨p, xs[p], hp, hlt, List.getElem?_eq_getElem hlt, ?_⟩
  rw [rawRef, if_pos h8, hp, Int.toNat_natCast, List.getElem?_eq_getElem hlt]; rfl
theorem rawMsg_take {xs : List Shp} {k : Nat} {x : Shp} (hx : xs[k]? = some x) : (xs.map (rawMsg xs)).take (k + 1) = (xs.map (rawMsg xs)).take k ++ [rawMsg xs x] := by
  rw [List.take_add_one, List.getElem?_map, hx]; rfl
theorem rawFld_take {xs : List Shp} {fs : List Fld} {k : Nat} {f : Fld} (hf : fs[k]? = some f) : ((fs.take (k + 1)).map (rawFld xs)).flatMap Fld.cs = ((fs.take k).map (rawFld xs)).flatMap Fld.cs ++ (rawFld xs f).cs := by
  rw [List.take_add_one, hf]; simp
set_option maxRecDepth 100000 in
set_option maxHeartbeats 4000000 in
theorem specRawFrom_any (a : Option Addr) (cap n : Nat) (xs : List Shp) (w : World) (h : Shs w a xs) (hx : xs.length = n) (hn : n ≤ 1048576) (hm : fldSum xs ≤ 1048576) :
    Calls Try.prog 23 #[.agg #[.slice a n cap]] w (FreshSch w 113 115 (rawFrom xs).length (rawFrom xs)) := by
  have HX := Lib.hid hx; clear hx
  have HSs := Lib.hid h; clear h
  obtain ⟨i0, hi, hz0, hz1, hz2⟩ := info_parts info_RawF
  obtain ⟨i1, hj, hj0, hj1, hj2⟩ := info_parts info_RawM
  go_enter Try.func23, Try.ntmps23
  go_wp2_with fail
  refine (specSchemaOk_any a cap n xs _ (HSs.out.keep (by ((repeat (first | (with_reducible exact Below.refl _ _) | (with_reducible assumption) | (with_reducible refine Below.alloc ?_ ?_ _) | (with_reducible refine Below.setCell ?_ ?_ _) | (with_reducible refine Below.drew ?_) | (with_reducible refine below_setRow ?_ ?_ _) | (refine Below.trans ?_ (Below.mono (by assumption) ?_)))); all_goals (first | omega | (simp; done) | (simp; omega))))) HX.out hn hm).mono ?_
  rintro r w1 ⟨rfl, hb1⟩
  have hA_ : w1.heap[w.heap.size]? = some (.cells #[.slice a n cap] 32 (0, 0)) := (hb1.block _ (by simp; omega)).trans (hset_alloc (hset_alloc (hset_new rfl)))
  have hR_ : w1.heap[w.heap.size + 1]? = some (.cells #[.slice none 0 0] 51 (0, 0)) := (hb1.block _ (by simp)).trans (hset_alloc (hset_new (by simp)))
  have hO_ : w1.heap[w.heap.size + 1 + 1]? = some (.cells #[.slice none 0 0] 51 (0, 0)) := (hb1.block _ (by simp)).trans (hset_new (by simp))
  have hbw : Below w.heap.size w w1 := by ((repeat (first | (with_reducible exact Below.refl _ _) | (with_reducible assumption) | (with_reducible refine Below.alloc ?_ ?_ _) | (with_reducible refine Below.setCell ?_ ?_ _) | (with_reducible refine Below.drew ?_) | (with_reducible refine below_setRow ?_ ?_ _) | (refine Below.trans ?_ (Below.mono (by assumption) ?_)))); all_goals (first | omega | (simp; done) | (simp; omega)))
  have hz1' := hb1.size
  simp only [World.size_alloc, World.size_setCell] at hz1'
  clear hb1
  cases hok : schOk xs
  · have hY : rawFrom xs = [] := by simp only [rawFrom, hok]; rfl
    have kO := box_cells hO_ 0; have fO := box_frozen hO_ 0; have kR := box_cells hR_ 0; have fR := box_frozen hR_ 0
    simp only [List.getElem?_toArray, List.getElem?_cons_zero] at kO kR
    go_wp2
    rw [hY]
    refine bodyPost_ret (v := .agg #[.slice none 0 0]) (by have hRs := World.cell?_setCell_same w1 ⟨w.heap.size + 1, 0, none⟩ (.slice none 0 0) kR; simp [results, Try.results23, go_sem, hRs]) rfl ⟨none, 0, [], rfl, OwnShs.nil _ _ _ _, by ((repeat (first | (with_reducible exact Below.refl _ _) | (with_reducible assumption) | (with_reducible refine Below.alloc ?_ ?_ _) | (with_reducible refine Below.setCell ?_ ?_ _) | (with_reducible refine Below.drew ?_) | (with_reducible refine below_setRow ?_ ?_ _) | (refine Below.trans ?_ (Below.mono (by assumption) ?_)))); all_goals (first | omega | (simp; done) | (simp; omega)))⟩
  · obtain ⟨ys, hys⟩ : ∃ ys, ys = xs.map (rawMsg xs) := ⟨_, rfl⟩
    have hY : rawFrom xs = ys := by rw [hys]; simp only [rawFrom, hok]; rfl
    have hyl : ys.length = n := by rw [hys, List.length_map, HX.out]
    have HYY := Lib.hid hY
    have HYS := Lib.hid hys; clear hys hY
    have HYL := Lib.hid hyl; clear hyl
    have HOK := Lib.hid hok; clear hok
    have kA := box_cells hA_ 0
    simp only [List.getElem?_toArray, List.getElem?_cons_zero] at kA
    go_wp2
    go_loopw [4] (fun i wr => ∃ k : Nat, k ≤ n ∧ i = .int .i64 k ∧ (∃ v rs, OwnShs wr (w.heap.size + 1 + 1 + 1) 113 115 v k rs (ys.take k) ∧ wr.heap[w.heap.size + 1 + 1]? = some (.cells #[v] 51 (0, 0))) ∧ wr.heap[w.heap.size + 1]? = some (.cells #[.slice none 0 0] 51 (0, 0)) ∧ wr.heap[w.heap.size]? = some (.cells #[.slice a n cap] 32 (0, 0)) ∧ Below w.heap.size w wr) (fun i _ => n - (intOf i).toNat)
    case atStart => exact ⟨0, Nat.zero_le _, rfl, ⟨.slice none 0 0, [], OwnShs.nil _ _ _ _, hO_⟩, hR_, hA_, hbw⟩
    case round =>
      clear hA_ hR_ hO_ hbw kA
      obtain ⟨k, hk, rfl, ⟨v, rs, ho, hO⟩, hR, hA, hb⟩ := hrel
      have hz := hb.size
      have HO := Lib.hid ho; clear ho
      have hOl := box_lt hO
      have kO := box_cells hO 0; have fO := box_frozen hO 0; have kR := box_cells hR 0; have fR := box_frozen hR 0; have kA := box_cells hA 0; have hAl := box_lt hA
      simp only [List.getElem?_toArray, List.getElem?_cons_zero] at kO kR kA
      have HOx := Lib.hid hO; clear hO
      have HRx := Lib.hid hR; clear hR
      have HAx := Lib.hid hA; clear hA
      by_cases hlt : k < n
      · obtain ⟨x, hx, _⟩ := at_lt (xs := xs) (k := k) (by rw [HX.out]; exact hlt)
        have hfl : x.flds.length ≤ 1048576 := by have := fldSum_ge hx; omega
        obtain ⟨b, off, a', cap', rfl, hbl, c0, c1, hfs⟩ := HSs.out.below hb (Nat.le_refl _) k x hx
        have HE := Lib.hid hx; clear hx
        have HF := Lib.hid hfs; clear hfs
        go_wp2
        have HO0 := HO
        obtain ⟨wo, hwo⟩ : ∃ wo : World, wo = wr := ⟨_, rfl⟩
        rw [← hwo] at HO HO0 HOx HRx HAx hb hz hOl hAl kO fO kR fR kA hbl c0 c1 HF ⊢
        clear hwo
        go_loopw [6] (fun j wi => ∃ q : Nat, q ≤ x.flds.length ∧ j = .int .i64 q ∧ (∃ v' : Value, wi.heap[wo.heap.size]? = some (.cells #[.int .i64 x.id, v'] 113 (0, 0)) ∧ wi.ownsRow (wo.heap.size + 1) 115 5 v' q (((x.flds.take q).map (rawFld xs)).flatMap Fld.cs)) ∧ Below wo.heap.size wo wi ∧ wo.heap.size < wi.heap.size) (fun j _ => x.flds.length - (intOf j).toNat)
        case atStart => exact ⟨0, Nat.zero_le _, rfl, ⟨.slice none 0 0, by (apply hset_eq; (repeat (first | (with_reducible exact (hset_new (by simp))) | (with_reducible apply hset_row) | (with_reducible apply hset_set) | (with_reducible exact heap_alloc_new _ _) | (with_reducible exact heap_snd _ _ _) | (with_reducible apply hset_alloc) | (with_reducible apply hset_drew) | (with_reducible apply hset_other; case hk => first | omega | (simp; omega)) | (with_reducible apply hset_row_other; case hk => first | omega | (simp; omega)))); all_goals rfl), World.ownsRow_nil _ _ _ _⟩, by ((repeat (first | (with_reducible exact Below.refl _ _) | (with_reducible assumption) | (with_reducible refine Below.alloc ?_ ?_ _) | (with_reducible refine Below.setCell ?_ ?_ _) | (with_reducible refine Below.drew ?_) | (with_reducible refine below_setRow ?_ ?_ _) | (refine Below.trans ?_ (Below.mono (by assumption) ?_)))); all_goals (first | omega | (simp; done) | (simp; omega))), by simp⟩
        case round =>
          obtain ⟨q, hq, rfl, ⟨v', hM, ho'⟩, hbi, hMl⟩ := hrel
          obtain ⟨wi, hwi⟩ : ∃ wi : World, wi = wr := ⟨_, rfl⟩
          rw [← hwi] at hM ho' hbi hMl ⊢
          clear hwi
          have kM := box_cells hM; have fM := box_frozen hM; have HM := Lib.hid hM; clear hM
          have HV := Lib.hid ho'; clear ho'
          have hzi := hbi.size
          have kAi := (hbi.cell (p := ⟨w.heap.size, 0, none⟩) hAl).trans kA
          have c0i := (hbi.cell (p := ⟨b, off + k * 2, none⟩) hbl).trans c0
          have c1i := (hbi.cell (p := ⟨b, off + k * 2 + 1, none⟩) hbl).trans c1
          clear kA c0 c1 kO kR fO fR
          by_cases hlq : q < x.flds.length
          · obtain ⟨f, hf, _⟩ := at_lt (xs := x.flds) (k := q) hlq
            obtain ⟨b2, off2, rfl, hbl2, d0, d1, d2, d3, d4⟩ := Flds.at (Sl.keep HF.out hbi) hf
            have HFe := Lib.hid hf; clear hf
            have hbl1 : b < wi.heap.size := by omega
            have hAi : w.heap.size < wi.heap.size := by omega
            have hMl1 : wo.heap.size < wi.heap.size := by omega
            have hMl2 : wo.heap.size < wi.heap.size + 1 := by omega
            by_cases h8 : f.kind = 8
            · skip
              obtain ⟨t, y, hpt, hpl, hy, href⟩ := schOk_msg HOK.out HE.out HFe.out h8
              obtain ⟨b3, off3, a3, cap3, hb3e, hbl3, e0, -⟩ := HSs.out.below (hb.trans (hbi.mono hz)) (Nat.le_refl _) t y hy
              simp only [Option.some.injEq, Addr.mk.injEq, and_true] at hb3e
              obtain ⟨rfl, rfl⟩ := hb3e
              rw [HX.out] at hpl
              rw [hpt] at d4
              have g8 : (f.kind == 8) = true := by simp; omega
              have hRF : rawFld xs f = ⟨f.number, f.kind, f.rep, f.packed, y.id⟩ := by rw [rawFld, href]
              have ht0 : (t : Int) < (n : Int) := by omega
              have HRF := Lib.hid hRF; clear hRF
              clear hpt hy href h8
              go_wp2_with (first | (at_builtin; refine wpList_append_own _ rfl _ _ 111 rfl (wo.heap.size + 1) 115 i0 _ 5 32 Try.underlying111 hi hz0 hz1 hz2 rfl (by decide) v' q (((x.flds.take q).map (rawFld xs)).flatMap Fld.cs) rfl (owns_below HV.out (show Below wi.heap.size wi _ from by ((repeat (first | (with_reducible exact Below.refl _ _) | (with_reducible assumption) | (with_reducible refine Below.alloc ?_ ?_ _) | (with_reducible refine Below.setCell ?_ ?_ _) | (with_reducible refine Below.drew ?_) | (with_reducible refine below_setRow ?_ ?_ _) | (refine Below.trans ?_ (Below.mono (by assumption) ?_)))); all_goals (first | omega | (simp; done) | (simp; omega)))) (Nat.le_refl _)) ⟨wi.heap.size + 1 + 1, 0, none⟩ 1 1 [.int .i64 f.number, .int .i64 f.kind, .bool f.rep, .bool f.packed, .int .i64 y.id] rfl rfl (World.news_of_block (cs := #[.int .i64 f.number, .int .i64 f.kind, .bool f.rep, .bool f.packed, .int .i64 y.id]) (t := 115) (fr := (0, 0)) (hset_new (by simp))) (by simp [Value.oneCell']) (by unfold maxLen; omega) (by omega) (by simp; omega) ?_; intro v2 w2 hown2 hgr2 _; obtain ⟨a5, cap5, rfl, _⟩ := own_sh hown2; have hbg : Below wi.heap.size wi _ := (by ((repeat (first | (with_reducible exact Below.refl _ _) | (with_reducible assumption) | (with_reducible refine Below.alloc ?_ ?_ _) | (with_reducible refine Below.setCell ?_ ?_ _) | (with_reducible refine Below.drew ?_) | (with_reducible refine below_setRow ?_ ?_ _) | (refine Below.trans ?_ (Below.mono (by assumption) ?_)))); all_goals (first | omega | (simp; done) | (simp; omega)))); have hsz2 := hgr2.size; simp only [World.size_alloc, World.size_setCell] at hsz2; have hM2 := (hgr2.block wo.heap.size (by simp; omega) (fun e => by have := (HV.out.lt _ e.symm).1; omega)).trans (hset_alloc (hset_alloc (hset_alloc HM.out))); have kM2 := box_cells hM2; have fM2 := box_frozen hM2; have hMl3 := box_lt hM2; have HM2 := Lib.hid hM2; clear hM2 kM fM; have hb2 : Below wo.heap.size wo w2 := below_grown (hbi.trans ((show Below wi.heap.size wi _ from by ((repeat (first | (with_reducible exact Below.refl _ _) | (with_reducible assumption) | (with_reducible refine Below.alloc ?_ ?_ _) | (with_reducible refine Below.setCell ?_ ?_ _) | (with_reducible refine Below.drew ?_) | (with_reducible refine below_setRow ?_ ?_ _) | (refine Below.trans ?_ (Below.mono (by assumption) ?_)))); all_goals (first | omega | (simp; done) | (simp; omega)))).mono hzi)) hgr2 (fun g e => by have := (HV.out.lt g e).1; omega) (by simp; omega); clear hbg))
              have HW2 := Lib.hid hown2; clear hown2 hgr2 kM2 fM2
              go_roundw
              case rel =>
                refine ⟨q + 1, by omega, by go_num, ⟨.slice a5 (q + 1) cap5, ?_, ?_⟩, ?_, by simpa using hMl3⟩
                · apply hset_eq (hset_set HM2.out); simp only [List.setIfInBounds_toArray, List.set_cons_zero, List.set_cons_succ]
                · rw [rawFld_take HFe.out, HRF.out]; exact owns_keep HW2.out (only_set _ _ _ _) (other_box HM2.out (by decide))
                · exact hb2.setCell (by first | omega | (simp; done) | (simp; omega)) _
              case measure => simp [intOf]; omega
            · skip
              have g8 : (f.kind == 8) = false := by simp; omega
              have hRF : rawFld xs f = ⟨f.number, f.kind, f.rep, f.packed, 0⟩ := by simp [rawFld, rawRef, h8]
              have HRF := Lib.hid hRF; clear hRF
              clear h8
              go_wp2_with (first | (at_builtin; refine wpList_append_own _ rfl _ _ 111 rfl (wo.heap.size + 1) 115 i0 _ 5 32 Try.underlying111 hi hz0 hz1 hz2 rfl (by decide) v' q (((x.flds.take q).map (rawFld xs)).flatMap Fld.cs) rfl (owns_below HV.out (show Below wi.heap.size wi _ from by ((repeat (first | (with_reducible exact Below.refl _ _) | (with_reducible assumption) | (with_reducible refine Below.alloc ?_ ?_ _) | (with_reducible refine Below.setCell ?_ ?_ _) | (with_reducible refine Below.drew ?_) | (with_reducible refine below_setRow ?_ ?_ _) | (refine Below.trans ?_ (Below.mono (by assumption) ?_)))); all_goals (first | omega | (simp; done) | (simp; omega)))) (Nat.le_refl _)) ⟨wi.heap.size + 1 + 1, 0, none⟩ 1 1 [.int .i64 f.number, .int .i64 f.kind, .bool f.rep, .bool f.packed, .int .i64 0] rfl rfl (World.news_of_block (cs := #[.int .i64 f.number, .int .i64 f.kind, .bool f.rep, .bool f.packed, .int .i64 0]) (t := 115) (fr := (0, 0)) (hset_new (by simp))) (by simp [Value.oneCell']) (by unfold maxLen; omega) (by omega) (by simp; omega) ?_; intro v2 w2 hown2 hgr2 _; obtain ⟨a5, cap5, rfl, _⟩ := own_sh hown2; have hbg : Below wi.heap.size wi _ := (by ((repeat (first | (with_reducible exact Below.refl _ _) | (with_reducible assumption) | (with_reducible refine Below.alloc ?_ ?_ _) | (with_reducible refine Below.setCell ?_ ?_ _) | (with_reducible refine Below.drew ?_) | (with_reducible refine below_setRow ?_ ?_ _) | (refine Below.trans ?_ (Below.mono (by assumption) ?_)))); all_goals (first | omega | (simp; done) | (simp; omega)))); have hsz2 := hgr2.size; simp only [World.size_alloc, World.size_setCell] at hsz2; have hM2 := (hgr2.block wo.heap.size (by simp; omega) (fun e => by have := (HV.out.lt _ e.symm).1; omega)).trans (hset_alloc (hset_alloc (hset_alloc HM.out))); have kM2 := box_cells hM2; have fM2 := box_frozen hM2; have hMl3 := box_lt hM2; have HM2 := Lib.hid hM2; clear hM2 kM fM; have hb2 : Below wo.heap.size wo w2 := below_grown (hbi.trans ((show Below wi.heap.size wi _ from by ((repeat (first | (with_reducible exact Below.refl _ _) | (with_reducible assumption) | (with_reducible refine Below.alloc ?_ ?_ _) | (with_reducible refine Below.setCell ?_ ?_ _) | (with_reducible refine Below.drew ?_) | (with_reducible refine below_setRow ?_ ?_ _) | (refine Below.trans ?_ (Below.mono (by assumption) ?_)))); all_goals (first | omega | (simp; done) | (simp; omega)))).mono hzi)) hgr2 (fun g e => by have := (HV.out.lt g e).1; omega) (by simp; omega); clear hbg))
              have HW2 := Lib.hid hown2; clear hown2 hgr2 kM2 fM2
              go_roundw
              case rel =>
                refine ⟨q + 1, by omega, by go_num, ⟨.slice a5 (q + 1) cap5, ?_, ?_⟩, ?_, by simpa using hMl3⟩
                · apply hset_eq (hset_set HM2.out); simp only [List.setIfInBounds_toArray, List.set_cons_zero, List.set_cons_succ]
                · rw [rawFld_take HFe.out, HRF.out]; exact owns_keep HW2.out (only_set _ _ _ _) (other_box HM2.out (by decide))
                · exact hb2.setCell (by first | omega | (simp; done) | (simp; omega)) _
              case measure => simp [intOf]; omega
          · obtain rfl : q = x.flds.length := by omega
            obtain ⟨a4, cap4, rfl, _⟩ := own_sh HV.out
            have HOi := Lib.hid (OwnShs.below HO.out hbi (Nat.le_refl _)); clear HO
            have hOi := (hbi.block _ hOl).trans HOx.out; have hRi := (hbi.block _ (by omega)).trans HRx.out; have hAxi := (hbi.block _ hAl).trans HAx.out
            have kO := box_cells hOi 0; have fO := box_frozen hOi 0; have hOli := box_lt hOi
            simp only [List.getElem?_toArray, List.getElem?_cons_zero] at kO
            have HOb := Lib.hid hOi; have HRb := Lib.hid hRi; have HAb := Lib.hid hAxi; clear hOi hRi hAxi HOx HRx HAx
            have hRow : RowIs wi (w.heap.size + 1 + 1 + 1) 115 ⟨x.id, a4, x.flds.length, cap4⟩ (rawMsg xs x) := ⟨rfl, by simp [rawMsg], by have h0 := HV.out; rw [List.take_of_length_le (Nat.le_refl _)] at h0; exact owns_le h0 (by omega)⟩
            have hap := fresh_apart (r := ⟨x.id, a4, x.flds.length, cap4⟩) HO0.out (by omega) HV.out
            have HRow := Lib.hid hRow; have HAP := Lib.hid hap; clear hRow hap
            have hol := HOi.out.outer.lt
            go_wp2_with (first | (at_builtin; refine wpList_append_own _ rfl _ _ 49 rfl (w.heap.size + 1 + 1 + 1) 113 i1 _ 2 32 Try.underlying49 hj hj0 hj1 hj2 rfl (by decide) v k (rs.flatMap ShR.cs) rfl (HOi.out.alloc _).outer ⟨wi.heap.size, 0, none⟩ 1 1 [.int .i64 x.id, .slice a4 x.flds.length cap4] rfl rfl (World.news_of_block (cs := #[.int .i64 x.id, .slice a4 x.flds.length cap4]) (t := 113) (fr := (0, 0)) (hset_new rfl)) (by simp [Value.oneCell']) (by unfold maxLen; omega) (by omega) (by simp; omega) ?_; intro v2 w2 hown2 hgr2 _; obtain ⟨a5, cap5, rfl, _⟩ := own_sh hown2; have hsz2 := hgr2.size; simp only [World.size_alloc, World.size_setCell] at hsz2; have HP := Lib.hid ((HOi.out.alloc _).push (w' := w2) (by decide) (HRow.out.alloc _) HAP.out hown2 hgr2); have hb2 : Below (w.heap.size + 1 + 1 + 1) wo w2 := below_grown ((hbi.mono (by omega)).alloc (by omega) _) hgr2 (fun g e => (hol g e).1) (by simp; omega); have hO2 := (hb2.block _ (by omega)).trans ((hbi.block _ hOl).symm.trans HOb.out); have kO2 := box_cells hO2 0; have fO2 := box_frozen hO2 0; have hOl2 := box_lt hO2; simp only [List.getElem?_toArray, List.getElem?_cons_zero] at kO2; have HO2 := Lib.hid hO2; clear hO2 hown2 hgr2 kO fO))
            have hR2 := (hb2.block (w.heap.size + 1) (by omega)).trans ((hbi.block (w.heap.size + 1) (by omega)).symm.trans HRb.out)
            have hA2 := (hb2.block (w.heap.size) (by omega)).trans ((hbi.block (w.heap.size) (by omega)).symm.trans HAb.out)
            go_roundw
            case rel =>
              refine ⟨k + 1, by omega, by go_num, ⟨.slice a5 (k + 1) cap5, rs ++ [⟨x.id, a4, x.flds.length, cap4⟩], ?_, ?_⟩, ?_, ?_, ?_⟩
              · have hT : ys.take (k + 1) = ys.take k ++ [rawMsg xs x] := by rw [HYS.out]; exact rawMsg_take HE.out
                rw [hT]; exact HP.out.set (by simp) _
              · exact hset_same HO2.out rfl
              · exact hset_other hR2 (by simp)
              · exact hset_other hA2 (by simp; omega)
              · exact (hb.trans (hb2.mono (by omega))).setCell (by simp; omega) _
            case measure => simp [intOf]; omega
      · obtain rfl : k = n := by omega
        obtain ⟨a2, cap2, rfl, ho2⟩ := own_sh HO.out.outer
        have HF2 := Lib.hid (show OwnShs wr (w.heap.size + 1 + 1 + 1) 113 115 (.slice a2 k cap2) k rs ys by have := HO.out; rw [List.take_of_length_le (by rw [HYL.out]; omega)] at this; exact this)
        clear HO ho2
        go_wp2
        rw [HYY.out, HYL.out]
        refine bodyPost_ret (v := .agg #[.slice a2 k cap2]) (by have hRs := World.cell?_setCell_same wr ⟨w.heap.size + 1, 0, none⟩ (.slice a2 k cap2) kR; simp [results, Try.results23, go_sem, hRs]) rfl ⟨a2, cap2, rs, rfl, OwnShs.le (HF2.out.set (p := ⟨w.heap.size + 1, 0, none⟩) (by simp only; omega) _) (by omega), by ((repeat (first | (with_reducible exact Below.refl _ _) | (with_reducible assumption) | (with_reducible refine Below.alloc ?_ ?_ _) | (with_reducible refine Below.setCell ?_ ?_ _) | (with_reducible refine Below.drew ?_) | (with_reducible refine below_setRow ?_ ?_ _) | (refine Below.trans ?_ (Below.mono (by assumption) ?_)))); all_goals (first | omega | (simp; done) | (simp; omega)))⟩
set_option maxRecDepth 100000 in
set_option maxHeartbeats 4000000 in
theorem implRawFrom_any (a : Option Addr) (cap n : Nat) (xs : List Shp) (w : World) (h : Shs w a xs) (hx : xs.length = n) (hn : n ≤ 1048576) (hm : fldSum xs ≤ 1048576) :
    Calls Try.prog 25 #[.agg #[.slice a n cap]] w (FreshSch w 113 115 (rawFrom xs).length (rawFrom xs)) := by
  have HX := Lib.hid hx; clear hx
  have HSs := Lib.hid h; clear h
  obtain ⟨i0, hi, hz0, hz1, hz2⟩ := info_parts info_RawF
  obtain ⟨i1, hj, hj0, hj1, hj2⟩ := info_parts info_RawM
  go_enter Try.func25, Try.ntmps25
  go_wp2_with fail
  refine (implSchemaOk_any a cap n xs _ (HSs.out.keep (by ((repeat (first | (with_reducible exact Below.refl _ _) | (with_reducible assumption) | (with_reducible refine Below.alloc ?_ ?_ _) | (with_reducible refine Below.setCell ?_ ?_ _) | (with_reducible refine Below.drew ?_) | (with_reducible refine below_setRow ?_ ?_ _) | (refine Below.trans ?_ (Below.mono (by assumption) ?_)))); all_goals (first | omega | (simp; done) | (simp; omega))))) HX.out hn hm).mono ?_
  rintro r w1 ⟨rfl, hb1⟩
  have hA_ : w1.heap[w.heap.size]? = some (.cells #[.slice a n cap] 32 (0, 0)) := (hb1.block _ (by simp; omega)).trans (hset_alloc (hset_alloc (hset_new rfl)))
  have hR_ : w1.heap[w.heap.size + 1]? = some (.cells #[.slice none 0 0] 51 (0, 0)) := (hb1.block _ (by simp)).trans (hset_alloc (hset_new (by simp)))
  have hO_ : w1.heap[w.heap.size + 1 + 1]? = some (.cells #[.slice none 0 0] 51 (0, 0)) := (hb1.block _ (by simp)).trans (hset_new (by simp))
  have hbw : Below w.heap.size w w1 := by ((repeat (first | (with_reducible exact Below.refl _ _) | (with_reducible assumption) | (with_reducible refine Below.alloc ?_ ?_ _) | (with_reducible refine Below.setCell ?_ ?_ _) | (with_reducible refine Below.drew ?_) | (with_reducible refine below_setRow ?_ ?_ _) | (refine Below.trans ?_ (Below.mono (by assumption) ?_)))); all_goals (first | omega | (simp; done) | (simp; omega)))
  have hz1' := hb1.size
  simp only [World.size_alloc, World.size_setCell] at hz1'
  clear hb1
  cases hok : schOk xs
  · have hY : rawFrom xs = [] := by simp only [rawFrom, hok]; rfl
    have kO := box_cells hO_ 0; have fO := box_frozen hO_ 0; have kR := box_cells hR_ 0; have fR := box_frozen hR_ 0
    simp only [List.getElem?_toArray, List.getElem?_cons_zero] at kO kR
    go_wp2
    rw [hY]
    refine bodyPost_ret (v := .agg #[.slice none 0 0]) (by have hRs := World.cell?_setCell_same w1 ⟨w.heap.size + 1, 0, none⟩ (.slice none 0 0) kR; simp [results, Try.results25, go_sem, hRs]) rfl ⟨none, 0, [], rfl, OwnShs.nil _ _ _ _, by ((repeat (first | (with_reducible exact Below.refl _ _) | (with_reducible assumption) | (with_reducible refine Below.alloc ?_ ?_ _) | (with_reducible refine Below.setCell ?_ ?_ _) | (with_reducible refine Below.drew ?_) | (with_reducible refine below_setRow ?_ ?_ _) | (refine Below.trans ?_ (Below.mono (by assumption) ?_)))); all_goals (first | omega | (simp; done) | (simp; omega)))⟩
  · obtain ⟨ys, hys⟩ : ∃ ys, ys = xs.map (rawMsg xs) := ⟨_, rfl⟩
    have hY : rawFrom xs = ys := by rw [hys]; simp only [rawFrom, hok]; rfl
    have hyl : ys.length = n := by rw [hys, List.length_map, HX.out]
    have HYY := Lib.hid hY
    have HYS := Lib.hid hys; clear hys hY
    have HYL := Lib.hid hyl; clear hyl
    have HOK := Lib.hid hok; clear hok
    have kA := box_cells hA_ 0
    simp only [List.getElem?_toArray, List.getElem?_cons_zero] at kA
    go_wp2
    go_loopw [18] (fun i wr => ∃ k : Nat, k ≤ n ∧ i = .int .i64 k ∧ (∃ v rs, OwnShs wr (w.heap.size + 1 + 1 + 1) 113 115 v k rs (ys.take k) ∧ wr.heap[w.heap.size + 1 + 1]? = some (.cells #[v] 51 (0, 0))) ∧ wr.heap[w.heap.size + 1]? = some (.cells #[.slice none 0 0] 51 (0, 0)) ∧ wr.heap[w.heap.size]? = some (.cells #[.slice a n cap] 32 (0, 0)) ∧ Below w.heap.size w wr) (fun i _ => n - (intOf i).toNat)
    case atStart => exact ⟨0, Nat.zero_le _, rfl, ⟨.slice none 0 0, [], OwnShs.nil _ _ _ _, hO_⟩, hR_, hA_, hbw⟩
    case round =>
      clear hA_ hR_ hO_ hbw kA
      obtain ⟨k, hk, rfl, ⟨v, rs, ho, hO⟩, hR, hA, hb⟩ := hrel
      have hz := hb.size
      have HO := Lib.hid ho; clear ho
      have hOl := box_lt hO
      have kO := box_cells hO 0; have fO := box_frozen hO 0; have kR := box_cells hR 0; have fR := box_frozen hR 0; have kA := box_cells hA 0; have hAl := box_lt hA
      simp only [List.getElem?_toArray, List.getElem?_cons_zero] at kO kR kA
      have HOx := Lib.hid hO; clear hO
      have HRx := Lib.hid hR; clear hR
      have HAx := Lib.hid hA; clear hA
      by_cases hlt : k < n
      · obtain ⟨x, hx, _⟩ := at_lt (xs := xs) (k := k) (by rw [HX.out]; exact hlt)
        have hfl : x.flds.length ≤ 1048576 := by have := fldSum_ge hx; omega
        obtain ⟨b, off, a', cap', rfl, hbl, c0, c1, hfs⟩ := HSs.out.below hb (Nat.le_refl _) k x hx
        have HE := Lib.hid hx; clear hx
        have HF := Lib.hid hfs; clear hfs
        go_wp2
        have HO0 := HO
        obtain ⟨wo, hwo⟩ : ∃ wo : World, wo = wr := ⟨_, rfl⟩
        rw [← hwo] at HO HO0 HOx HRx HAx hb hz hOl hAl kO fO kR fR kA hbl c0 c1 HF ⊢
        clear hwo
        go_loopw [28] (fun j wi => ∃ q : Nat, q ≤ x.flds.length ∧ j = .int .i64 q ∧ (∃ v' : Value, wi.heap[(wo.heap.size + 1)]? = some (.cells #[.int .i64 x.id, v'] 113 (0, 0)) ∧ wi.ownsRow ((wo.heap.size + 1) + 1) 115 5 v' q (((x.flds.take q).map (rawFld xs)).flatMap Fld.cs)) ∧ Below wo.heap.size wo wi ∧ (wo.heap.size + 1) < wi.heap.size) (fun j _ => x.flds.length - (intOf j).toNat)
        case atStart => exact ⟨0, Nat.zero_le _, rfl, ⟨.slice none 0 0, by (apply hset_eq; (repeat (first | (with_reducible exact (hset_new (by simp))) | (with_reducible apply hset_row) | (with_reducible apply hset_set) | (with_reducible exact heap_alloc_new _ _) | (with_reducible exact heap_snd _ _ _) | (with_reducible apply hset_alloc) | (with_reducible apply hset_drew) | (with_reducible apply hset_other; case hk => first | omega | (simp; omega)) | (with_reducible apply hset_row_other; case hk => first | omega | (simp; omega)))); all_goals rfl), World.ownsRow_nil _ _ _ _⟩, by ((repeat (first | (with_reducible exact Below.refl _ _) | (with_reducible assumption) | (with_reducible refine Below.alloc ?_ ?_ _) | (with_reducible refine Below.setCell ?_ ?_ _) | (with_reducible refine Below.drew ?_) | (with_reducible refine below_setRow ?_ ?_ _) | (refine Below.trans ?_ (Below.mono (by assumption) ?_)))); all_goals (first | omega | (simp; done) | (simp; omega))), by simp⟩
        case round =>
          obtain ⟨q, hq, rfl, ⟨v', hM, ho'⟩, hbi, hMl⟩ := hrel
          obtain ⟨wi, hwi⟩ : ∃ wi : World, wi = wr := ⟨_, rfl⟩
          rw [← hwi] at hM ho' hbi hMl ⊢
          clear hwi
          have kM := box_cells hM; have fM := box_frozen hM; have HM := Lib.hid hM; clear hM
          have HV := Lib.hid ho'; clear ho'
          have hzi := hbi.size
          have kAi := (hbi.cell (p := ⟨w.heap.size, 0, none⟩) hAl).trans kA
          have c0i := (hbi.cell (p := ⟨b, off + k * 2, none⟩) hbl).trans c0
          have c1i := (hbi.cell (p := ⟨b, off + k * 2 + 1, none⟩) hbl).trans c1
          clear kA c0 c1 kO kR fO fR
          by_cases hlq : q < x.flds.length
          · obtain ⟨f, hf, _⟩ := at_lt (xs := x.flds) (k := q) hlq
            obtain ⟨b2, off2, rfl, hbl2, d0, d1, d2, d3, d4⟩ := Flds.at (Sl.keep HF.out hbi) hf
            have HFe := Lib.hid hf; clear hf
            have hbl1 : b < wi.heap.size := by omega
            have hAi : w.heap.size < wi.heap.size := by omega
            have hMl1 : wo.heap.size < wi.heap.size := by omega
            have hMl2 : wo.heap.size < wi.heap.size + 1 := by omega
            by_cases h8 : f.kind = 8
            · skip
              obtain ⟨t, y, hpt, hpl, hy, href⟩ := schOk_msg HOK.out HE.out HFe.out h8
              obtain ⟨b3, off3, a3, cap3, hb3e, hbl3, e0, -⟩ := HSs.out.below (hb.trans (hbi.mono hz)) (Nat.le_refl _) t y hy
              simp only [Option.some.injEq, Addr.mk.injEq, and_true] at hb3e
              obtain ⟨rfl, rfl⟩ := hb3e
              rw [HX.out] at hpl
              rw [hpt] at d4
              have g8 : (f.kind == 8) = true := by simp; omega
              have hRF : rawFld xs f = ⟨f.number, f.kind, f.rep, f.packed, y.id⟩ := by rw [rawFld, href]
              have ht0 : (t : Int) < (n : Int) := by omega
              have HRF := Lib.hid hRF; clear hRF
              clear hpt hy href h8
              go_wp2_with (first | (at_builtin; refine wpList_append_own _ rfl _ _ 111 rfl ((wo.heap.size + 1) + 1) 115 i0 _ 5 32 Try.underlying111 hi hz0 hz1 hz2 rfl (by decide) v' q (((x.flds.take q).map (rawFld xs)).flatMap Fld.cs) rfl (owns_below HV.out (show Below wi.heap.size wi _ from by ((repeat (first | (with_reducible exact Below.refl _ _) | (with_reducible assumption) | (with_reducible refine Below.alloc ?_ ?_ _) | (with_reducible refine Below.setCell ?_ ?_ _) | (with_reducible refine Below.drew ?_) | (with_reducible refine below_setRow ?_ ?_ _) | (refine Below.trans ?_ (Below.mono (by assumption) ?_)))); all_goals (first | omega | (simp; done) | (simp; omega)))) (Nat.le_refl _)) ⟨wi.heap.size + 1 + 1, 0, none⟩ 1 1 [.int .i64 f.number, .int .i64 f.kind, .bool f.rep, .bool f.packed, .int .i64 y.id] rfl rfl (World.news_of_block (cs := #[.int .i64 f.number, .int .i64 f.kind, .bool f.rep, .bool f.packed, .int .i64 y.id]) (t := 115) (fr := (0, 0)) (hset_new (by simp))) (by simp [Value.oneCell']) (by unfold maxLen; omega) (by omega) (by simp; omega) ?_; intro v2 w2 hown2 hgr2 _; obtain ⟨a5, cap5, rfl, _⟩ := own_sh hown2; have hbg : Below wi.heap.size wi _ := (by ((repeat (first | (with_reducible exact Below.refl _ _) | (with_reducible assumption) | (with_reducible refine Below.alloc ?_ ?_ _) | (with_reducible refine Below.setCell ?_ ?_ _) | (with_reducible refine Below.drew ?_) | (with_reducible refine below_setRow ?_ ?_ _) | (refine Below.trans ?_ (Below.mono (by assumption) ?_)))); all_goals (first | omega | (simp; done) | (simp; omega)))); have hsz2 := hgr2.size; simp only [World.size_alloc, World.size_setCell] at hsz2; have hM2 := (hgr2.block (wo.heap.size + 1) (by simp; omega) (fun e => by have := (HV.out.lt _ e.symm).1; omega)).trans (hset_alloc (hset_alloc (hset_alloc HM.out))); have kM2 := box_cells hM2; have fM2 := box_frozen hM2; have hMl3 := box_lt hM2; have HM2 := Lib.hid hM2; clear hM2 kM fM; have hb2 : Below wo.heap.size wo w2 := below_grown (hbi.trans ((show Below wi.heap.size wi _ from by ((repeat (first | (with_reducible exact Below.refl _ _) | (with_reducible assumption) | (with_reducible refine Below.alloc ?_ ?_ _) | (with_reducible refine Below.setCell ?_ ?_ _) | (with_reducible refine Below.drew ?_) | (with_reducible refine below_setRow ?_ ?_ _) | (refine Below.trans ?_ (Below.mono (by assumption) ?_)))); all_goals (first | omega | (simp; done) | (simp; omega)))).mono hzi)) hgr2 (fun g e => by have := (HV.out.lt g e).1; omega) (by simp; omega); clear hbg))
              have HW2 := Lib.hid hown2; clear hown2 hgr2 kM2 fM2
              go_roundw
              case rel =>
                refine ⟨q + 1, by omega, by go_num, ⟨.slice a5 (q + 1) cap5, ?_, ?_⟩, ?_, by simpa using hMl3⟩
                · apply hset_eq (hset_set HM2.out); simp only [List.setIfInBounds_toArray, List.set_cons_zero, List.set_cons_succ]
                · rw [rawFld_take HFe.out, HRF.out]; exact owns_keep HW2.out (only_set _ _ _ _) (other_box HM2.out (by decide))
                · exact hb2.setCell (by first | omega | (simp; done) | (simp; omega)) _
              case measure => simp [intOf]; omega
            · skip
              have g8 : (f.kind == 8) = false := by simp; omega
              have hRF : rawFld xs f = ⟨f.number, f.kind, f.rep, f.packed, 0⟩ := by simp [rawFld, rawRef, h8]
              have HRF := Lib.hid hRF; clear hRF
              clear h8
              go_wp2_with (first | (at_builtin; refine wpList_append_own _ rfl _ _ 111 rfl ((wo.heap.size + 1) + 1) 115 i0 _ 5 32 Try.underlying111 hi hz0 hz1 hz2 rfl (by decide) v' q (((x.flds.take q).map (rawFld xs)).flatMap Fld.cs) rfl (owns_below HV.out (show Below wi.heap.size wi _ from by ((repeat (first | (with_reducible exact Below.refl _ _) | (with_reducible assumption) | (with_reducible refine Below.alloc ?_ ?_ _) | (with_reducible refine Below.setCell ?_ ?_ _) | (with_reducible refine Below.drew ?_) | (with_reducible refine below_setRow ?_ ?_ _) | (refine Below.trans ?_ (Below.mono (by assumption) ?_)))); all_goals (first | omega | (simp; done) | (simp; omega)))) (Nat.le_refl _)) ⟨wi.heap.size + 1 + 1, 0, none⟩ 1 1 [.int .i64 f.number, .int .i64 f.kind, .bool f.rep, .bool f.packed, .int .i64 0] rfl rfl (World.news_of_block (cs := #[.int .i64 f.number, .int .i64 f.kind, .bool f.rep, .bool f.packed, .int .i64 0]) (t := 115) (fr := (0, 0)) (hset_new (by simp))) (by simp [Value.oneCell']) (by unfold maxLen; omega) (by omega) (by simp; omega) ?_; intro v2 w2 hown2 hgr2 _; obtain ⟨a5, cap5, rfl, _⟩ := own_sh hown2; have hbg : Below wi.heap.size wi _ := (by ((repeat (first | (with_reducible exact Below.refl _ _) | (with_reducible assumption) | (with_reducible refine Below.alloc ?_ ?_ _) | (with_reducible refine Below.setCell ?_ ?_ _) | (with_reducible refine Below.drew ?_) | (with_reducible refine below_setRow ?_ ?_ _) | (refine Below.trans ?_ (Below.mono (by assumption) ?_)))); all_goals (first | omega | (simp; done) | (simp; omega)))); have hsz2 := hgr2.size; simp only [World.size_alloc, World.size_setCell] at hsz2; have hM2 := (hgr2.block (wo.heap.size + 1) (by simp; omega) (fun e => by have := (HV.out.lt _ e.symm).1; omega)).trans (hset_alloc (hset_alloc (hset_alloc HM.out))); have kM2 := box_cells hM2; have fM2 := box_frozen hM2; have hMl3 := box_lt hM2; have HM2 := Lib.hid hM2; clear hM2 kM fM; have hb2 : Below wo.heap.size wo w2 := below_grown (hbi.trans ((show Below wi.heap.size wi _ from by ((repeat (first | (with_reducible exact Below.refl _ _) | (with_reducible assumption) | (with_reducible refine Below.alloc ?_ ?_ _) | (with_reducible refine Below.setCell ?_ ?_ _) | (with_reducible refine Below.drew ?_) | (with_reducible refine below_setRow ?_ ?_ _) | (refine Below.trans ?_ (Below.mono (by assumption) ?_)))); all_goals (first | omega | (simp; done) | (simp; omega)))).mono hzi)) hgr2 (fun g e => by have := (HV.out.lt g e).1; omega) (by simp; omega); clear hbg))
              have HW2 := Lib.hid hown2; clear hown2 hgr2 kM2 fM2
              go_roundw
              case rel =>
                refine ⟨q + 1, by omega, by go_num, ⟨.slice a5 (q + 1) cap5, ?_, ?_⟩, ?_, by simpa using hMl3⟩
                · apply hset_eq (hset_set HM2.out); simp only [List.setIfInBounds_toArray, List.set_cons_zero, List.set_cons_succ]
                · rw [rawFld_take HFe.out, HRF.out]; exact owns_keep HW2.out (only_set _ _ _ _) (other_box HM2.out (by decide))
                · exact hb2.setCell (by first | omega | (simp; done) | (simp; omega)) _
              case measure => simp [intOf]; omega
          · obtain rfl : q = x.flds.length := by omega
            obtain ⟨a4, cap4, rfl, _⟩ := own_sh HV.out
            have HOi := Lib.hid (OwnShs.below HO.out hbi (Nat.le_refl _)); clear HO
            have hOi := (hbi.block _ hOl).trans HOx.out; have hRi := (hbi.block _ (by omega)).trans HRx.out; have hAxi := (hbi.block _ hAl).trans HAx.out
            have kO := box_cells hOi 0; have fO := box_frozen hOi 0; have hOli := box_lt hOi
            simp only [List.getElem?_toArray, List.getElem?_cons_zero] at kO
            have HOb := Lib.hid hOi; have HRb := Lib.hid hRi; have HAb := Lib.hid hAxi; clear hOi hRi hAxi HOx HRx HAx
            have hRow : RowIs wi (w.heap.size + 1 + 1 + 1) 115 ⟨x.id, a4, x.flds.length, cap4⟩ (rawMsg xs x) := ⟨rfl, by simp [rawMsg], by have h0 := HV.out; rw [List.take_of_length_le (Nat.le_refl _)] at h0; exact owns_le h0 (by omega)⟩
            have hap := fresh_apart (r := ⟨x.id, a4, x.flds.length, cap4⟩) HO0.out (by omega) HV.out
            have HRow := Lib.hid hRow; have HAP := Lib.hid hap; clear hRow hap
            have hol := HOi.out.outer.lt
            go_wp2_with (first | (at_builtin; refine wpList_append_own _ rfl _ _ 49 rfl (w.heap.size + 1 + 1 + 1) 113 i1 _ 2 32 Try.underlying49 hj hj0 hj1 hj2 rfl (by decide) v k (rs.flatMap ShR.cs) rfl (HOi.out.alloc _).outer ⟨wi.heap.size, 0, none⟩ 1 1 [.int .i64 x.id, .slice a4 x.flds.length cap4] rfl rfl (World.news_of_block (cs := #[.int .i64 x.id, .slice a4 x.flds.length cap4]) (t := 113) (fr := (0, 0)) (hset_new rfl)) (by simp [Value.oneCell']) (by unfold maxLen; omega) (by omega) (by simp; omega) ?_; intro v2 w2 hown2 hgr2 _; obtain ⟨a5, cap5, rfl, _⟩ := own_sh hown2; have hsz2 := hgr2.size; simp only [World.size_alloc, World.size_setCell] at hsz2; have HP := Lib.hid ((HOi.out.alloc _).push (w' := w2) (by decide) (HRow.out.alloc _) HAP.out hown2 hgr2); have hb2 : Below (w.heap.size + 1 + 1 + 1) wo w2 := below_grown ((hbi.mono (by omega)).alloc (by omega) _) hgr2 (fun g e => (hol g e).1) (by simp; omega); have hO2 := (hb2.block _ (by omega)).trans ((hbi.block _ hOl).symm.trans HOb.out); have kO2 := box_cells hO2 0; have fO2 := box_frozen hO2 0; have hOl2 := box_lt hO2; simp only [List.getElem?_toArray, List.getElem?_cons_zero] at kO2; have HO2 := Lib.hid hO2; clear hO2 hown2 hgr2 kO fO))
            have hR2 := (hb2.block (w.heap.size + 1) (by omega)).trans ((hbi.block (w.heap.size + 1) (by omega)).symm.trans HRb.out)
            have hA2 := (hb2.block (w.heap.size) (by omega)).trans ((hbi.block (w.heap.size) (by omega)).symm.trans HAb.out)
            go_roundw
            case rel =>
              refine ⟨k + 1, by omega, by go_num, ⟨.slice a5 (k + 1) cap5, rs ++ [⟨x.id, a4, x.flds.length, cap4⟩], ?_, ?_⟩, ?_, ?_, ?_⟩
              · have hT : ys.take (k + 1) = ys.take k ++ [rawMsg xs x] := by rw [HYS.out]; exact rawMsg_take HE.out
                rw [hT]; exact HP.out.set (by simp) _
              · exact hset_same HO2.out rfl
              · exact hset_other hR2 (by simp)
              · exact hset_other hA2 (by simp; omega)
              · exact (hb.trans (hb2.mono (by omega))).setCell (by simp; omega) _
            case measure => simp [intOf]; omega
      · obtain rfl : k = n := by omega
        obtain ⟨a2, cap2, rfl, ho2⟩ := own_sh HO.out.outer
        have HF2 := Lib.hid (show OwnShs wr (w.heap.size + 1 + 1 + 1) 113 115 (.slice a2 k cap2) k rs ys by have := HO.out; rw [List.take_of_length_le (by rw [HYL.out]; omega)] at this; exact this)
        clear HO ho2
        go_wp2
        rw [HYY.out, HYL.out]
        refine bodyPost_ret (v := .agg #[.slice a2 k cap2]) (by have hRs := World.cell?_setCell_same wr ⟨w.heap.size + 1, 0, none⟩ (.slice a2 k cap2) kR; simp [results, Try.results25, go_sem, hRs]) rfl ⟨a2, cap2, rs, rfl, OwnShs.le (HF2.out.set (p := ⟨w.heap.size + 1, 0, none⟩) (by simp only; omega) _) (by omega), by ((repeat (first | (with_reducible exact Below.refl _ _) | (with_reducible assumption) | (with_reducible refine Below.alloc ?_ ?_ _) | (with_reducible refine Below.setCell ?_ ?_ _) | (with_reducible refine Below.drew ?_) | (with_reducible refine below_setRow ?_ ?_ _) | (refine Below.trans ?_ (Below.mono (by assumption) ?_)))); all_goals (first | omega | (simp; done) | (simp; omega)))⟩
end Go.Proofs.Ytigmdaiecdoimaa
