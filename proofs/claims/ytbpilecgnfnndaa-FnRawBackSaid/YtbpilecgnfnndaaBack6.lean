/- Texts that FnRawBack leans on, part 6. (Put together by wip/tools/bundle.py.) -/
import Derived.Sort.OwnSortedInts
import Derived.Shelf.GgSortFunc.InsertionK
import Derived.Sort.LotA
import Derived.Shelf.SlSortCmp.Insertion
import Derived.Lib.Small
import Derived.Test.YtbpilecgnfnndaaShelf
import Derived.Test.YtbpilecgnfnndaaBack1
import Derived.Test.YtbpilecgnfnndaaBack2
import Derived.Test.YtbpilecgnfnndaaBack3
import Derived.Test.YtbpilecgnfnndaaBack5
namespace Go.Proofs.Ytbpilecgnfnndaa
set_option linter.unusedSimpArgs false
set_option linter.unusedVariables false
open Go.ChangeShapes Go.WideShapes Go.ChangeAt Go.RowKit Go.BigFrame
theorem typed_ne {w : World} {b : Nat} {cur cur' : Array Value} {t t' : TypeId} (h : w.heap[b]? = some (.cells cur t (0, 0))) (h' : w.heap[b]? = some (.cells cur' t' (0, 0))) : t = t' := by
  rw [h] at h'
  simp only [Option.some.injEq, Obj.cells.injEq] at h'
  exact h'.2.1
theorem own_blk {w : World} {base n size : Nat} {t : TypeId} {v : Value} {L : List Value} (h : w.ownsRow base t size v n L) {g : Nat} (hg : v.ownBlock = some g) : ∃ cur, w.heap[g]? = some (.cells cur t (0, 0)) := by
  rcases h.2 with ⟨rfl, _⟩ | ⟨g', cap, cur, rfl, _, hh, _⟩
  · simp [Value.ownBlock] at hg
  · simp only [Value.ownBlock, Option.some.injEq] at hg; subst hg; exact ⟨cur, hh⟩
def Other (w : World) (row : Option Nat) (t : TypeId) : Prop := ∀ g, row = some g → ∃ cur tt, w.heap[g]? = some (.cells cur tt (0, 0)) ∧ tt ≠ t
theorem owns_keep {w w' : World} {base n size : Nat} {t : TypeId} {v : Value} {L : List Value} {row : Option Nat} (h : w.ownsRow base t size v n L) (hg : w.grownBy w' row) (ho : Other w row t) : w'.ownsRow base t size v n L := by
  refine h.kept hg ?_
  cases hb : v.ownBlock with
  | none => exact .inl rfl
  | some g =>
    refine .inr (fun e => ?_)
    obtain ⟨cur, hc⟩ := own_blk h hb
    obtain ⟨cur', tt, hc', hne⟩ := ho g e.symm
    exact hne (typed_ne hc' hc)
theorem other_box {w : World} {M : Nat} {cs : Array Value} {tt t : TypeId} (h : w.heap[M]? = some (.cells cs tt (0, 0))) (hne : tt ≠ t) : Other w (some M) t := fun g e => by
  obtain rfl := Option.some.inj e; exact ⟨cs, tt, h, hne⟩
theorem only_set (w : World) (M o : Nat) (v : Value) : w.grownBy (w.setCell ⟨M, o, none⟩ v) (some M) :=
  ⟨rfl, rfl, rfl, by simp [World.setCell], fun k _ hk => Below.heap_setCell w ⟨M, o, none⟩ v k (by simp only; intro e; exact hk (by rw [e]))⟩
theorem info_RawF : (Try.prog.info? 45).map (fun i => (i.zero, i.size, i.bytes)) = some (some (.agg #[.int .i64 0, .int .i64 0, .bool false, .bool false, .int .i64 0]), 5, 32) := by kernel_rfl
theorem info_RawM : (Try.prog.info? 40).map (fun i => (i.zero, i.size, i.bytes)) = some (some (.agg #[.int .i64 0, .slice none 0 0]), 2, 32) := by kernel_rfl
def rawRef (xs : List Shp) (f : Fld) : Int := if f.kind = 8 then ((xs[f.msg.toNat]?).map Shp.id).getD 0 else 0
def rawFld (xs : List Shp) (f : Fld) : Fld := ⟨f.number, f.kind, f.rep, f.packed, rawRef xs f⟩
def rawMsg (xs : List Shp) (x : Shp) : Shp := ⟨x.id, x.flds.map (rawFld xs)⟩
def rawFrom (xs : List Shp) : List Shp := if schOk xs = true then xs.map (rawMsg xs) else []
theorem rawFrom_len (xs : List Shp) : (rawFrom xs).length ≤ xs.length := by unfold rawFrom; split <;> simp
theorem rawFrom_sum (xs : List Shp) : fldSum (rawFrom xs) ≤ fldSum xs := by
  unfold rawFrom
  split
  · simp [fldSum, List.map_map, Function.comp_def, rawMsg]
  · simp [fldSum]
theorem fldsOk_fld {m : Int} : ∀ (fs : List Fld) (b : Int), fldsOk m b fs = true → ∀ f ∈ fs, fldOk m f = true
  | [], _, _, f, hf => by simp at hf
  | g :: fs, b, h, f, hf => by
    simp only [fldsOk, Bool.and_eq_true] at h
    rcases List.mem_cons.1 hf with rfl | hf
    · exact h.1.1
    · exact fldsOk_fld fs _ h.2 f hf
theorem shpsOk_fld {m : Int} : ∀ (xs : List Shp) (b : Int), shpsOk m b xs = true → ∀ x ∈ xs, fldsOk m 0 x.flds = true
  | [], _, _, x, hx => by simp at hx
  | y :: xs, b, h, x, hx => by
    simp only [shpsOk, Bool.and_eq_true] at h
    rcases List.mem_cons.1 hx with rfl | hx
    · exact h.2.1
    · exact shpsOk_fld xs _ h.2.2 x hx
theorem schOk_msg {xs : List Shp} (h : schOk xs = true) {k j : Nat} {x : Shp} {f : Fld} (hx : xs[k]? = some x) (hf : x.flds[j]? = some f) (h8 : f.kind = 8) : ∃ (p : Nat) (y : Shp), f.msg = p ∧ p < xs.length ∧ xs[p]? = some y ∧ rawRef xs f = y.id := by
  simp only [schOk, Bool.and_eq_true] at h
  have h1 := fldsOk_fld _ _ (shpsOk_fld _ _ h.2 x (List.mem_of_getElem? hx)) f (List.mem_of_getElem? hf)
  simp only [fldOk, msgOk, Bool.and_eq_true, h8, if_true, inB, decide_eq_true_eq] at h1
  obtain ⟨p, hp⟩ := Int.eq_ofNat_of_zero_le h1.2.2.2.1
  have hlt : p < xs.length := by omega
  refine ⟨p, xs[p], hp, hlt, List.getElem?_eq_getElem hlt, ?_⟩
  rw [rawRef, if_pos h8, hp, Int.toNat_natCast, List.getElem?_eq_getElem hlt]; rfl
theorem rawMsg_take {xs : List Shp} {k : Nat} {x : Shp} (hx : xs[k]? = some x) : (xs.map (rawMsg xs)).take (k + 1) = (xs.map (rawMsg xs)).take k ++ [rawMsg xs x] := by
  rw [List.take_add_one, List.getElem?_map, hx]; rfl
theorem rawFld_take {xs : List Shp} {fs : List Fld} {k : Nat} {f : Fld} (hf : fs[k]? = some f) : ((fs.take (k + 1)).map (rawFld xs)).flatMap Fld.cs = ((fs.take k).map (rawFld xs)).flatMap Fld.cs ++ (rawFld xs f).cs := by
  rw [List.take_add_one, hf]; simp
set_option maxRecDepth 100000 in
set_option maxHeartbeats 4000000 in
theorem implRawFrom_any (a : Option Addr) (cap n : Nat) (xs : List Shp) (w : World) (h : Shs w a xs) (hx : xs.length = n) (hn : n ≤ 1048576) (hm : fldSum xs ≤ 1048576) :
    Calls Try.prog 17 #[.agg #[.slice a n cap]] w (FreshSch w 40 45 (rawFrom xs).length (rawFrom xs)) := by
  have HX := Lib.hid hx; clear hx
  have HSs := Lib.hid h; clear h
  obtain ⟨i0, hi, hz0, hz1, hz2⟩ := info_parts info_RawF
  obtain ⟨i1, hj, hj0, hj1, hj2⟩ := info_parts info_RawM
  go_enter Try.func17, Try.ntmps17
  go_wp2_with fail
  refine (implSchemaOk_any a cap n xs _ (HSs.out.keep (by ((repeat (first | (with_reducible exact Below.refl _ _) | (with_reducible assumption) | (with_reducible refine Below.alloc ?_ ?_ _) | (with_reducible refine Below.setCell ?_ ?_ _) | (with_reducible refine Below.drew ?_) | (with_reducible refine below_setRow ?_ ?_ _) | (refine Below.trans ?_ (Below.mono (by assumption) ?_)))); all_goals (first | omega | (simp; done) | (simp; omega))))) HX.out hn hm).mono ?_
  rintro r w1 ⟨rfl, hb1⟩
  have hA_ : w1.heap[w.heap.size]? = some (.cells #[.slice a n cap] 30 (0, 0)) := (hb1.block _ (by simp; omega)).trans (hset_alloc (hset_alloc (hset_new rfl)))
  have hR_ : w1.heap[w.heap.size + 1]? = some (.cells #[.slice none 0 0] 26 (0, 0)) := (hb1.block _ (by simp)).trans (hset_alloc (hset_new (by simp)))
  have hO_ : w1.heap[w.heap.size + 1 + 1]? = some (.cells #[.slice none 0 0] 26 (0, 0)) := (hb1.block _ (by simp)).trans (hset_new (by simp))
  have hbw : Below w.heap.size w w1 := by ((repeat (first | (with_reducible exact Below.refl _ _) | (with_reducible assumption) | (with_reducible refine Below.alloc ?_ ?_ _) | (with_reducible refine Below.setCell ?_ ?_ _) | (with_reducible refine Below.drew ?_) | (with_reducible refine below_setRow ?_ ?_ _) | (refine Below.trans ?_ (Below.mono (by assumption) ?_)))); all_goals (first | omega | (simp; done) | (simp; omega)))
  have hz1' := hb1.size
  simp only [World.size_alloc, World.size_setCell] at hz1'
  clear hb1
  cases hok : schOk xs
  · have hY : rawFrom xs = [] := by simp only [rawFrom, hok]; rfl
    have kO := box_cells hO_ 0; have fO := box_frozen hO_ 0; have kR := box_cells hR_ 0; have fR := box_frozen hR_ 0
    simp only [List.getElem?_toArray, List.getElem?_cons_zero] at kO kR
    go_wp2
    rw [hY]
    refine bodyPost_ret (v := .agg #[.slice none 0 0]) (by have hRs := World.cell?_setCell_same w1 ⟨w.heap.size + 1, 0, none⟩ (.slice none 0 0) kR; simp [results, Try.results17, go_sem, hRs]) rfl ⟨none, 0, [], rfl, OwnShs.nil _ _ _ _, by ((repeat (first | (with_reducible exact Below.refl _ _) | (with_reducible assumption) | (with_reducible refine Below.alloc ?_ ?_ _) | (with_reducible refine Below.setCell ?_ ?_ _) | (with_reducible refine Below.drew ?_) | (with_reducible refine below_setRow ?_ ?_ _) | (refine Below.trans ?_ (Below.mono (by assumption) ?_)))); all_goals (first | omega | (simp; done) | (simp; omega)))⟩
  · obtain ⟨ys, hys⟩ : ∃ ys, ys = xs.map (rawMsg xs) := ⟨_, rfl⟩
    have hY : rawFrom xs = ys := by rw [hys]; simp only [rawFrom, hok]; rfl
    have hyl : ys.length = n := by rw [hys, List.length_map, HX.out]
    have HYY := Lib.hid hY
    have HYS := Lib.hid hys; clear hys hY
    have HYL := Lib.hid hyl; clear hyl
    have HOK := Lib.hid hok; clear hok
    have kA := box_cells hA_ 0
    simp only [List.getElem?_toArray, List.getElem?_cons_zero] at kA
    go_wp2
    go_loopw [18] (fun i wr => ∃ k : Nat, k ≤ n ∧ i = .int .i64 k ∧ (∃ v rs, OwnShs wr (w.heap.size + 1 + 1 + 1) 40 45 v k rs (ys.take k) ∧ wr.heap[w.heap.size + 1 + 1]? = some (.cells #[v] 26 (0, 0))) ∧ wr.heap[w.heap.size + 1]? = some (.cells #[.slice none 0 0] 26 (0, 0)) ∧ wr.heap[w.heap.size]? = some (.cells #[.slice a n cap] 30 (0, 0)) ∧ Below w.heap.size w wr) (fun i _ => n - (intOf i).toNat)
    case atStart => exact ⟨0, Nat.zero_le _, rfl, ⟨.slice none 0 0, [], OwnShs.nil _ _ _ _, hO_⟩, hR_, hA_, hbw⟩
    case round =>
      clear hA_ hR_ hO_ hbw kA
      obtain ⟨k, hk, rfl, ⟨v, rs, ho, hO⟩, hR, hA, hb⟩ := hrel
      have hz := hb.size
      have HO := Lib.hid ho; clear ho
      have hOl := box_lt hO
      have kO := box_cells hO 0; have fO := box_frozen hO 0; have kR := box_cells hR 0; have fR := box_frozen hR 0; have kA := box_cells hA 0; have hAl := box_lt hA
      simp only [List.getElem?_toArray, List.getElem?_cons_zero] at kO kR kA
      have HOx := Lib.hid hO; clear hO
      have HRx := Lib.hid hR; clear hR
      have HAx := Lib.hid hA; clear hA
      by_cases hlt : k < n
      · obtain ⟨x, hx, _⟩ := at_lt (xs := xs) (k := k) (by rw [HX.out]; exact hlt)
        have hfl : x.flds.length ≤ 1048576 := by have := fldSum_ge hx; omega
        obtain ⟨b, off, a', cap', rfl, hbl, c0, c1, hfs⟩ := HSs.out.below hb (Nat.le_refl _) k x hx
        have HE := Lib.hid hx; clear hx
        have HF := Lib.hid hfs; clear hfs
        go_wp2
        have HO0 := HO
        obtain ⟨wo, hwo⟩ : ∃ wo : World, wo = wr := ⟨_, rfl⟩
        rw [← hwo] at HO HO0 HOx HRx HAx hb hz hOl hAl kO fO kR fR kA hbl c0 c1 HF ⊢
        clear hwo
        go_loopw [28] (fun j wi => ∃ q : Nat, q ≤ x.flds.length ∧ j = .int .i64 q ∧ (∃ v' : Value, wi.heap[(wo.heap.size + 1)]? = some (.cells #[.int .i64 x.id, v'] 40 (0, 0)) ∧ wi.ownsRow ((wo.heap.size + 1) + 1) 45 5 v' q (((x.flds.take q).map (rawFld xs)).flatMap Fld.cs)) ∧ Below wo.heap.size wo wi ∧ (wo.heap.size + 1) < wi.heap.size) (fun j _ => x.flds.length - (intOf j).toNat)
        case atStart => exact ⟨0, Nat.zero_le _, rfl, ⟨.slice none 0 0, by (apply hset_eq; (repeat (first | (with_reducible exact (hset_new (by simp))) | (with_reducible apply hset_row) | (with_reducible apply hset_set) | (with_reducible exact heap_alloc_new _ _) | (with_reducible exact heap_snd _ _ _) | (with_reducible apply hset_alloc) | (with_reducible apply hset_drew) | (with_reducible apply hset_other; case hk => first | omega | (simp; omega)) | (with_reducible apply hset_row_other; case hk => first | omega | (simp; omega)))); all_goals rfl), World.ownsRow_nil _ _ _ _⟩, by ((repeat (first | (with_reducible exact Below.refl _ _) | (with_reducible assumption) | (with_reducible refine Below.alloc ?_ ?_ _) | (with_reducible refine Below.setCell ?_ ?_ _) | (with_reducible refine Below.drew ?_) | (with_reducible refine below_setRow ?_ ?_ _) | (refine Below.trans ?_ (Below.mono (by assumption) ?_)))); all_goals (first | omega | (simp; done) | (simp; omega))), by simp⟩
        case round =>
          obtain ⟨q, hq, rfl, ⟨v', hM, ho'⟩, hbi, hMl⟩ := hrel
          obtain ⟨wi, hwi⟩ : ∃ wi : World, wi = wr := ⟨_, rfl⟩
          rw [← hwi] at hM ho' hbi hMl ⊢
          clear hwi
          have kM := box_cells hM; have fM := box_frozen hM; have HM := Lib.hid hM; clear hM
          have HV := Lib.hid ho'; clear ho'
          have hzi := hbi.size
          have kAi := (hbi.cell (p := ⟨w.heap.size, 0, none⟩) hAl).trans kA
          have c0i := (hbi.cell (p := ⟨b, off + k * 2, none⟩) hbl).trans c0
          have c1i := (hbi.cell (p := ⟨b, off + k * 2 + 1, none⟩) hbl).trans c1
          clear kA c0 c1 kO kR fO fR
          by_cases hlq : q < x.flds.length
          · obtain ⟨f, hf, _⟩ := at_lt (xs := x.flds) (k := q) hlq
            obtain ⟨b2, off2, rfl, hbl2, d0, d1, d2, d3, d4⟩ := Flds.at (Sl.keep HF.out hbi) hf
            have HFe := Lib.hid hf; clear hf
            have hbl1 : b < wi.heap.size := by omega
            have hAi : w.heap.size < wi.heap.size := by omega
            have hMl1 : wo.heap.size < wi.heap.size := by omega
            have hMl2 : wo.heap.size < wi.heap.size + 1 := by omega
            by_cases h8 : f.kind = 8
            · skip
              obtain ⟨t, y, hpt, hpl, hy, href⟩ := schOk_msg HOK.out HE.out HFe.out h8
              obtain ⟨b3, off3, a3, cap3, hb3e, hbl3, e0, -⟩ := HSs.out.below (hb.trans (hbi.mono hz)) (Nat.le_refl _) t y hy
              simp only [Option.some.injEq, Addr.mk.injEq, and_true] at hb3e
              obtain ⟨rfl, rfl⟩ := hb3e
              rw [HX.out] at hpl
              rw [hpt] at d4
              have g8 : (f.kind == 8) = true := by simp; omega
              have hRF : rawFld xs f = ⟨f.number, f.kind, f.rep, f.packed, y.id⟩ := by rw [rawFld, href]
              have ht0 : (t : Int) < (n : Int) := by omega
              have HRF := Lib.hid hRF; clear hRF
              clear hpt hy href h8
              go_wp2_with (first | (at_builtin; refine wpList_append_own _ rfl _ _ 38 rfl ((wo.heap.size + 1) + 1) 45 i0 _ 5 32 Try.underlying38 hi hz0 hz1 hz2 rfl (by decide) v' q (((x.flds.take q).map (rawFld xs)).flatMap Fld.cs) rfl (owns_below HV.out (show Below wi.heap.size wi _ from by ((repeat (first | (with_reducible exact Below.refl _ _) | (with_reducible assumption) | (with_reducible refine Below.alloc ?_ ?_ _) | (with_reducible refine Below.setCell ?_ ?_ _) | (with_reducible refine Below.drew ?_) | (with_reducible refine below_setRow ?_ ?_ _) | (refine Below.trans ?_ (Below.mono (by assumption) ?_)))); all_goals (first | omega | (simp; done) | (simp; omega)))) (Nat.le_refl _)) ⟨wi.heap.size + 1 + 1, 0, none⟩ 1 1 [.int .i64 f.number, .int .i64 f.kind, .bool f.rep, .bool f.packed, .int .i64 y.id] rfl rfl (World.news_of_block (cs := #[.int .i64 f.number, .int .i64 f.kind, .bool f.rep, .bool f.packed, .int .i64 y.id]) (t := 45) (fr := (0, 0)) (hset_new (by simp))) (by simp [Value.oneCell']) (by unfold maxLen; omega) (by omega) (by simp; omega) ?_; intro v2 w2 hown2 hgr2 _; obtain ⟨a5, cap5, rfl, _⟩ := own_sh hown2; have hbg : Below wi.heap.size wi _ := (by ((repeat (first | (with_reducible exact Below.refl _ _) | (with_reducible assumption) | (with_reducible refine Below.alloc ?_ ?_ _) | (with_reducible refine Below.setCell ?_ ?_ _) | (with_reducible refine Below.drew ?_) | (with_reducible refine below_setRow ?_ ?_ _) | (refine Below.trans ?_ (Below.mono (by assumption) ?_)))); all_goals (first | omega | (simp; done) | (simp; omega)))); have hsz2 := hgr2.size; simp only [World.size_alloc, World.size_setCell] at hsz2; have hM2 := (hgr2.block (wo.heap.size + 1) (by simp; omega) (fun e => by have := (HV.out.lt _ e.symm).1; omega)).trans (hset_alloc (hset_alloc (hset_alloc HM.out))); have kM2 := box_cells hM2; have fM2 := box_frozen hM2; have hMl3 := box_lt hM2; have HM2 := Lib.hid hM2; clear hM2 kM fM; have hb2 : Below wo.heap.size wo w2 := below_grown (hbi.trans ((show Below wi.heap.size wi _ from by ((repeat (first | (with_reducible exact Below.refl _ _) | (with_reducible assumption) | (with_reducible refine Below.alloc ?_ ?_ _) | (with_reducible refine Below.setCell ?_ ?_ _) | (with_reducible refine Below.drew ?_) | (with_reducible refine below_setRow ?_ ?_ _) | (refine Below.trans ?_ (Below.mono (by assumption) ?_)))); all_goals (first | omega | (simp; done) | (simp; omega)))).mono hzi)) hgr2 (fun g e => by have := (HV.out.lt g e).1; omega) (by simp; omega); clear hbg))
              have HW2 := Lib.hid hown2; clear hown2 hgr2 kM2 fM2
              go_roundw
              case rel =>
                refine ⟨q + 1, by omega, by go_num, ⟨.slice a5 (q + 1) cap5, ?_, ?_⟩, ?_, by simpa using hMl3⟩
                · apply hset_eq (hset_set HM2.out); simp only [List.setIfInBounds_toArray, List.set_cons_zero, List.set_cons_succ]
                · rw [rawFld_take HFe.out, HRF.out]; exact owns_keep HW2.out (only_set _ _ _ _) (other_box HM2.out (by decide))
                · exact hb2.setCell (by first | omega | (simp; done) | (simp; omega)) _
              case measure => simp [intOf]; omega
            · skip
              have g8 : (f.kind == 8) = false := by simp; omega
              have hRF : rawFld xs f = ⟨f.number, f.kind, f.rep, f.packed, 0⟩ := by simp [rawFld, rawRef, h8]
              have HRF := Lib.hid hRF; clear hRF
              clear h8
              go_wp2_with (first | (at_builtin; refine wpList_append_own _ rfl _ _ 38 rfl ((wo.heap.size + 1) + 1) 45 i0 _ 5 32 Try.underlying38 hi hz0 hz1 hz2 rfl (by decide) v' q (((x.flds.take q).map (rawFld xs)).flatMap Fld.cs) rfl (owns_below HV.out (show Below wi.heap.size wi _ from by ((repeat (first | (with_reducible exact Below.refl _ _) | (with_reducible assumption) | (with_reducible refine Below.alloc ?_ ?_ _) | (with_reducible refine Below.setCell ?_ ?_ _) | (with_reducible refine Below.drew ?_) | (with_reducible refine below_setRow ?_ ?_ _) | (refine Below.trans ?_ (Below.mono (by assumption) ?_)))); all_goals (first | omega | (simp; done) | (simp; omega)))) (Nat.le_refl _)) ⟨wi.heap.size + 1 + 1, 0, none⟩ 1 1 [.int .i64 f.number, .int .i64 f.kind, .bool f.rep, .bool f.packed, .int .i64 0] rfl rfl (World.news_of_block (cs := #[.int .i64 f.number, .int .i64 f.kind, .bool f.rep, .bool f.packed, .int .i64 0]) (t := 45) (fr := (0, 0)) (hset_new (by simp))) (by simp [Value.oneCell']) (by unfold maxLen; omega) (by omega) (by simp; omega) ?_; intro v2 w2 hown2 hgr2 _; obtain ⟨a5, cap5, rfl, _⟩ := own_sh hown2; have hbg : Below wi.heap.size wi _ := (by ((repeat (first | (with_reducible exact Below.refl _ _) | (with_reducible assumption) | (with_reducible refine Below.alloc ?_ ?_ _) | (with_reducible refine Below.setCell ?_ ?_ _) | (with_reducible refine Below.drew ?_) | (with_reducible refine below_setRow ?_ ?_ _) | (refine Below.trans ?_ (Below.mono (by assumption) ?_)))); all_goals (first | omega | (simp; done) | (simp; omega)))); have hsz2 := hgr2.size; simp only [World.size_alloc, World.size_setCell] at hsz2; have hM2 := (hgr2.block (wo.heap.size + 1) (by simp; omega) (fun e => by have := (HV.out.lt _ e.symm).1; omega)).trans (hset_alloc (hset_alloc (hset_alloc HM.out))); have kM2 := box_cells hM2; have fM2 := box_frozen hM2; have hMl3 := box_lt hM2; have HM2 := Lib.hid hM2; clear hM2 kM fM; have hb2 : Below wo.heap.size wo w2 := below_grown (hbi.trans ((show Below wi.heap.size wi _ from by ((repeat (first | (with_reducible exact Below.refl _ _) | (with_reducible assumption) | (with_reducible refine Below.alloc ?_ ?_ _) | (with_reducible refine Below.setCell ?_ ?_ _) | (with_reducible refine Below.drew ?_) | (with_reducible refine below_setRow ?_ ?_ _) | (refine Below.trans ?_ (Below.mono (by assumption) ?_)))); all_goals (first | omega | (simp; done) | (simp; omega)))).mono hzi)) hgr2 (fun g e => by have := (HV.out.lt g e).1; omega) (by simp; omega); clear hbg))
              have HW2 := Lib.hid hown2; clear hown2 hgr2 kM2 fM2
              go_roundw
              case rel =>
                refine ⟨q + 1, by omega, by go_num, ⟨.slice a5 (q + 1) cap5, ?_, ?_⟩, ?_, by simpa using hMl3⟩
                · apply hset_eq (hset_set HM2.out); simp only [List.setIfInBounds_toArray, List.set_cons_zero, List.set_cons_succ]
                · rw [rawFld_take HFe.out, HRF.out]; exact owns_keep HW2.out (only_set _ _ _ _) (other_box HM2.out (by decide))
                · exact hb2.setCell (by first | omega | (simp; done) | (simp; omega)) _
              case measure => simp [intOf]; omega
          · obtain rfl : q = x.flds.length := by omega
            obtain ⟨a4, cap4, rfl, _⟩ := own_sh HV.out
            have HOi := Lib.hid (OwnShs.below HO.out hbi (Nat.le_refl _)); clear HO
            have hOi := (hbi.block _ hOl).trans HOx.out; have hRi := (hbi.block _ (by omega)).trans HRx.out; have hAxi := (hbi.block _ hAl).trans HAx.out
            have kO := box_cells hOi 0; have fO := box_frozen hOi 0; have hOli := box_lt hOi
            simp only [List.getElem?_toArray, List.getElem?_cons_zero] at kO
            have HOb := Lib.hid hOi; have HRb := Lib.hid hRi; have HAb := Lib.hid hAxi; clear hOi hRi hAxi HOx HRx HAx
            have hRow : RowIs wi (w.heap.size + 1 + 1 + 1) 45 ⟨x.id, a4, x.flds.length, cap4⟩ (rawMsg xs x) := ⟨rfl, by simp [rawMsg], by have h0 := HV.out; rw [List.take_of_length_le (Nat.le_refl _)] at h0; exact owns_le h0 (by omega)⟩
            have hap := fresh_apart (r := ⟨x.id, a4, x.flds.length, cap4⟩) HO0.out (by omega) HV.out
            have HRow := Lib.hid hRow; have HAP := Lib.hid hap; clear hRow hap
            have hol := HOi.out.outer.lt
            go_wp2_with (first | (at_builtin; refine wpList_append_own _ rfl _ _ 24 rfl (w.heap.size + 1 + 1 + 1) 40 i1 _ 2 32 Try.underlying24 hj hj0 hj1 hj2 rfl (by decide) v k (rs.flatMap ShR.cs) rfl (HOi.out.alloc _).outer ⟨wi.heap.size, 0, none⟩ 1 1 [.int .i64 x.id, .slice a4 x.flds.length cap4] rfl rfl (World.news_of_block (cs := #[.int .i64 x.id, .slice a4 x.flds.length cap4]) (t := 40) (fr := (0, 0)) (hset_new rfl)) (by simp [Value.oneCell']) (by unfold maxLen; omega) (by omega) (by simp; omega) ?_; intro v2 w2 hown2 hgr2 _; obtain ⟨a5, cap5, rfl, _⟩ := own_sh hown2; have hsz2 := hgr2.size; simp only [World.size_alloc, World.size_setCell] at hsz2; have HP := Lib.hid ((HOi.out.alloc _).push (w' := w2) (by decide) (HRow.out.alloc _) HAP.out hown2 hgr2); have hb2 : Below (w.heap.size + 1 + 1 + 1) wo w2 := below_grown ((hbi.mono (by omega)).alloc (by omega) _) hgr2 (fun g e => (hol g e).1) (by simp; omega); have hO2 := (hb2.block _ (by omega)).trans ((hbi.block _ hOl).symm.trans HOb.out); have kO2 := box_cells hO2 0; have fO2 := box_frozen hO2 0; have hOl2 := box_lt hO2; simp only [List.getElem?_toArray, List.getElem?_cons_zero] at kO2; have HO2 := Lib.hid hO2; clear hO2 hown2 hgr2 kO fO))
            have hR2 := (hb2.block (w.heap.size + 1) (by omega)).trans ((hbi.block (w.heap.size + 1) (by omega)).symm.trans HRb.out)
            have hA2 := (hb2.block (w.heap.size) (by omega)).trans ((hbi.block (w.heap.size) (by omega)).symm.trans HAb.out)
            go_roundw
            case rel =>
              refine ⟨k + 1, by omega, by go_num, ⟨.slice a5 (k + 1) cap5, rs ++ [⟨x.id, a4, x.flds.length, cap4⟩], ?_, ?_⟩, ?_, ?_, ?_⟩
              · have hT : ys.take (k + 1) = ys.take k ++ [rawMsg xs x] := by rw [HYS.out]; exact rawMsg_take HE.out
                rw [hT]; exact HP.out.set (by simp) _
              · exact hset_same HO2.out rfl
              · exact hset_other hR2 (by simp)
              · exact hset_other hA2 (by simp; omega)
              · exact (hb.trans (hb2.mono (by omega))).setCell (by simp; omega) _
            case measure => simp [intOf]; omega
      · obtain rfl : k = n := by omega
        obtain ⟨a2, cap2, rfl, ho2⟩ := own_sh HO.out.outer
        have HF2 := Lib.hid (show OwnShs wr (w.heap.size + 1 + 1 + 1) 40 45 (.slice a2 k cap2) k rs ys by have := HO.out; rw [List.take_of_length_le (by rw [HYL.out]; omega)] at this; exact this)
        clear HO ho2
        go_wp2
        rw [HYY.out, HYL.out]
        refine bodyPost_ret (v := .agg #[.slice a2 k cap2]) (by have hRs := World.cell?_setCell_same wr ⟨w.heap.size + 1, 0, none⟩ (.slice a2 k cap2) kR; simp [results, Try.results17, go_sem, hRs]) rfl ⟨a2, cap2, rs, rfl, OwnShs.le (HF2.out.set (p := ⟨w.heap.size + 1, 0, none⟩) (by simp only; omega) _) (by omega), by ((repeat (first | (with_reducible exact Below.refl _ _) | (with_reducible assumption) | (with_reducible refine Below.alloc ?_ ?_ _) | (with_reducible refine Below.setCell ?_ ?_ _) | (with_reducible refine Below.drew ?_) | (with_reducible refine below_setRow ?_ ?_ _) | (refine Below.trans ?_ (Below.mono (by assumption) ?_)))); all_goals (first | omega | (simp; done) | (simp; omega)))⟩
theorem sortI_self {zs : List Int} (h : zs.Pairwise (· < ·)) : sortI zs = zs := by
  have hn : zs.Nodup := List.nodup_iff_pairwise_ne.2 (h.imp (by intro a b h; omega))
  exact List.Perm.eq_of_pairwise (le := fun a b : Int => a < b) (by intro a b _ _ h1 h2; omega) (sortI_lt hn) h (sortI_perm zs)
theorem shpsOk_head {m : Int} : ∀ (xs : List Shp) (b : Int), shpsOk m b xs = true → ∀ x ∈ xs, b < x.id ∧ x.id ≤ 99 ∧ x.flds.length ≤ 8
  | [], _, _, x, hx => by simp at hx
  | y :: xs, b, h, x, hx => by
    simp only [shpsOk, shpHead, Bool.and_eq_true, decide_eq_true_eq] at h
    rcases List.mem_cons.1 hx with rfl | hx
    · exact ⟨h.1.1, h.1.2.1, h.1.2.2⟩
    · have := shpsOk_head xs _ h.2.2 x hx
      exact ⟨by omega, this.2⟩
theorem shpsOk_ids {m : Int} : ∀ (xs : List Shp) (b : Int), shpsOk m b xs = true → (xs.map Shp.id).Pairwise (· < ·)
  | [], _, _ => .nil
  | y :: xs, b, h => by
    simp only [shpsOk, Bool.and_eq_true] at h
    rw [List.map_cons, List.pairwise_cons]
    refine ⟨fun z hz => ?_, shpsOk_ids xs _ h.2.2⟩
    obtain ⟨x, hx, rfl⟩ := List.mem_map.1 hz
    exact (shpsOk_head xs _ h.2.2 x hx).1
theorem fldsOk_nums {m : Int} : ∀ (fs : List Fld) (b : Int), fldsOk m b fs = true → (∀ f ∈ fs, b < f.number) ∧ fs.Pairwise (fun f g => f.number < g.number)
  | [], _, _ => ⟨by simp, .nil⟩
  | f :: fs, b, h => by
    simp only [fldsOk, Bool.and_eq_true, decide_eq_true_eq] at h
    obtain ⟨h1, h2⟩ := fldsOk_nums fs _ h.2
    refine ⟨fun g hg => ?_, List.pairwise_cons.2 ⟨h1, h2⟩⟩
    rcases List.mem_cons.1 hg with rfl | hg
    · exact h.1.2
    · have := h1 g hg; omega
theorem schOk_ids {xs : List Shp} (h : schOk xs = true) : (xs.map Shp.id).Pairwise (· < ·) := by
  simp only [schOk, Bool.and_eq_true] at h
  exact shpsOk_ids _ _ h.2
theorem schOk_shp {xs : List Shp} (h : schOk xs = true) {x : Shp} (hx : x ∈ xs) : 0 < x.id ∧ x.id ≤ 99 ∧ x.flds.length ≤ 8 ∧ x.flds.Pairwise (fun f g => f.number < g.number) ∧ ∀ f ∈ x.flds, fldOk xs.length f = true := by
  simp only [schOk, Bool.and_eq_true] at h
  have h1 := shpsOk_head _ _ h.2 x hx
  have h2 := shpsOk_fld _ _ h.2 x hx
  exact ⟨h1.1, h1.2.1, h1.2.2, (fldsOk_nums _ _ h2).2, fldsOk_fld _ _ h2⟩
theorem raw_ids (xs : List Shp) : (xs.map (rawMsg xs)).map Shp.id = xs.map Shp.id := by
  rw [List.map_map]; rfl
theorem back_ok {xs : List Shp} (h : schOk xs = true) : rawFrom xs = xs.map (rawMsg xs) := if_pos h
theorem back_first {xs : List Shp} (h : schOk xs = true) : firstV (rawFrom xs) = (0, 0, 0) := by
  have h6 : xs.length ≤ 6 := by have h' := h; simp only [schOk, Bool.and_eq_true, decide_eq_true_eq] at h'; exact h'.1
  rw [back_ok h, firstV, if_neg (by rw [List.length_map]; omega)]
  have hids := schOk_ids h
  have := firstM_zero (xs := xs.map (rawMsg xs)) (fun i x hx => ?_) 0
  · simpa using this
  · rw [List.getElem?_map, Option.map_eq_some_iff] at hx
    obtain ⟨z, hz, rfl⟩ := hx
    have hzm := List.mem_of_getElem? hz
    obtain ⟨h0, h99, h8, hnum, hok⟩ := schOk_shp h hzm
    refine ⟨?_, fun k f hf => ?_⟩
    · have e1 : inB (rawMsg xs z).id 1 99 = true := by show inB z.id 1 99 = true; simp [inB]; omega
      have e2 : hasId ((xs.map (rawMsg xs)).take i) (rawMsg xs z).id = false := by
        rw [hasId, List.any_eq_false]
        intro y hy
        obtain ⟨j, hj⟩ := List.getElem?_of_mem hy
        rw [List.getElem?_take] at hj
        split at hj
        · rename_i hji
          rw [List.getElem?_map, Option.map_eq_some_iff] at hj
          obtain ⟨u, hu, rfl⟩ := hj
          obtain ⟨hjl, hje⟩ := List.getElem?_eq_some_iff.1 hu
          obtain ⟨hil, hie⟩ := List.getElem?_eq_some_iff.1 hz
          have := List.pairwise_iff_getElem.1 hids j i (by simpa using hjl) (by simpa using hil) hji
          simp only [List.getElem_map, hje, hie] at this
          simp only [rawMsg, beq_iff_eq]
          omega
        · simp at hj
      rw [msgC, if_neg (by simp [e1]), if_neg (by simp [e2]), if_neg (show ¬ 8 < (rawMsg xs z).flds.length by show ¬ 8 < (z.flds.map (rawFld xs)).length; rw [List.length_map]; omega)]
    · simp only [rawMsg] at hf
      rw [List.getElem?_map, Option.map_eq_some_iff] at hf
      obtain ⟨g, hg, rfl⟩ := hf
      have hfo := hok g (List.mem_of_getElem? hg)
      have hmsg := schOk_msg h hz hg
      simp only [fldOk, Bool.and_eq_true] at hfo
      have e1 : numOk (rawFld xs g).number = true := hfo.1
      have e2 : hasNum ((rawMsg xs z).flds.take k) (rawFld xs g).number = false := by
        rw [hasNum, List.any_eq_false]
        intro y hy
        obtain ⟨j, hj⟩ := List.getElem?_of_mem hy
        rw [List.getElem?_take] at hj
        split at hj
        · rename_i hjk
          simp only [rawMsg] at hj
          rw [List.getElem?_map, Option.map_eq_some_iff] at hj
          obtain ⟨u, hu, rfl⟩ := hj
          obtain ⟨hjl, hje⟩ := List.getElem?_eq_some_iff.1 hu
          obtain ⟨hil, hie⟩ := List.getElem?_eq_some_iff.1 hg
          have := List.pairwise_iff_getElem.1 hnum j k hjl hil hjk
          rw [hje, hie] at this
          simp only [rawFld, beq_iff_eq]
          omega
        · simp at hj
      have e3 : inB (rawFld xs g).kind 1 8 = true := hfo.2.1
      have e4 : packOk (rawFld xs g) = true := hfo.2.2.1
      have e5 : refBad (xs.map (rawMsg xs)) (rawFld xs g) = false := by
        rw [refBad]
        by_cases hk8 : g.kind = 8
        · obtain ⟨p, y, _, _, hy, he⟩ := hmsg hk8
          rw [if_pos (show (rawFld xs g).kind = 8 from hk8)]
          simp only [Bool.not_eq_false', hasId, List.any_eq_true]
          exact ⟨rawMsg xs y, List.mem_map_of_mem (List.mem_of_getElem? hy), by simp [rawMsg, rawFld, he]⟩
        · rw [if_neg (show ¬ (rawFld xs g).kind = 8 from hk8)]
          simp [rawFld, rawRef, hk8]
      rw [fldC, if_neg (by simp [e1]), if_neg (by simp [e2]), if_neg (by simp [e3]), if_neg (by simp [e4]), if_neg (by simp [e5])]
theorem back_comp {xs : List Shp} (h : schOk xs = true) : compS (rawFrom xs) = xs := by
  have hids := schOk_ids h
  have hn : (xs.map Shp.id).Nodup := List.nodup_iff_pairwise_ne.2 (hids.imp (by intro a b h; omega))
  have hval : RawVal (rawFrom xs) := val_of (by rw [back_first h])
  rw [back_ok h] at hval ⊢
  have hl : (compS (xs.map (rawMsg xs))).length = xs.length := by rw [compS_len, List.length_map]
  have hso : sortI ((xs.map (rawMsg xs)).map Shp.id) = xs.map Shp.id := by rw [raw_ids]; exact sortI_self hids
  apply List.ext_getElem?
  intro k
  by_cases hk : k < xs.length
  · have hz : xs[k]? = some xs[k] := List.getElem?_eq_getElem hk
    have hzi : (xs.map Shp.id)[k]? = some xs[k].id := by rw [List.getElem?_map, hz]; rfl
    obtain ⟨x, hx, hxi, hc⟩ := compS_at hval (k := k) (z := xs[k].id) (by rw [hso]; exact hzi)
    obtain ⟨z', hz', rfl⟩ := List.mem_map.1 hx
    have hzz : z' = xs[k] := by
      obtain ⟨j, hj⟩ := List.getElem?_of_mem hz'
      obtain ⟨hjl, hje⟩ := List.getElem?_eq_some_iff.1 hj
      have e : z'.id = xs[k].id := hxi
      rcases Nat.lt_trichotomy j k with hlt | rfl | hlt
      · have := List.pairwise_iff_getElem.1 hids j k (by simpa using hjl) (by simpa using hk) hlt
        simp only [List.getElem_map, hje] at this; omega
      · exact hje.symm
      · have := List.pairwise_iff_getElem.1 hids k j (by simpa using hk) (by simpa using hjl) hlt
        simp only [List.getElem_map, hje] at this; omega
    subst hzz
    obtain ⟨_, _, _, hnum, hok⟩ := schOk_shp h (List.mem_of_getElem? hz)
    have hfl : xs[k].flds = cflds (xs.map (rawMsg xs)) [] (rawMsg xs xs[k]).flds := by
      refine sorted_fields hval hx (d := xs[k].flds) ?_ (hnum.imp fun h => Int.le_of_lt h)
      rw [hso]
      have : (rawMsg xs xs[k]).flds.map (ifld (xs.map Shp.id)) = xs[k].flds := by
        simp only [rawMsg, List.map_map]
        conv => rhs; rw [← List.map_id xs[k].flds]
        refine List.map_congr_left fun f hf => ?_
        obtain ⟨j, hj⟩ := List.getElem?_of_mem hf
        have hfo := hok f hf
        simp only [fldOk, Bool.and_eq_true] at hfo
        have hm := hfo.2.2.2
        obtain ⟨a, b, c, d, e⟩ := f
        show ifld (xs.map Shp.id) ⟨a, b, c, d, rawRef xs ⟨a, b, c, d, e⟩⟩ = ⟨a, b, c, d, e⟩
        unfold ifld
        by_cases hk8 : b = 8
        · obtain ⟨p, y, hp, _, hy, he⟩ := schOk_msg h hz hj hk8
          simp only at hp
          rw [if_pos (show (Fld.mk a b c d (rawRef xs ⟨a, b, c, d, e⟩)).kind = 8 from hk8), he]
          have := idx_at (zs := xs.map Shp.id) hn (k := p) (z := y.id) (by rw [sortI_self hids, List.getElem?_map, hy]; rfl)
          rw [sortI_self hids] at this
          simp only [this, hp]
        · rw [if_neg (show ¬ (Fld.mk a b c d (rawRef xs ⟨a, b, c, d, e⟩)).kind = 8 from hk8)]
          rw [msgOk, if_neg (show ¬ (Fld.mk a b c d e).kind = 8 from hk8)] at hm
          simp only [beq_iff_eq] at hm
          rw [hm]
      rw [this]
    rw [hc, ← hfl, hz]
  · rw [List.getElem?_eq_none (by omega), List.getElem?_eq_none (by omega)]
end Go.Proofs.Ytbpilecgnfnndaa
namespace Go.Proofs.Ytbpilecgnfnndaa
set_option linter.unusedSimpArgs false
set_option linter.unusedVariables false
open Go.ChangeShapes Go.WideShapes Go.ChangeAt Go.RowKit Go.BigFrame Go.Sort
theorem holdsV {w : World} {g : Nat} {cur L : Array Value} {e : TypeId} (hb : w.heap[g]? = some (.cells cur e (0, 0))) (ht : cur.toList.take L.size = L.toList) : Holds id w g 0 L := by
  intro j hj
  refine ⟨?_, by simp [World.frozen?, hb]⟩
  have h1 : (cur.toList.take L.size)[j]? = L.toList[j]? := by rw [ht]
  rw [List.getElem?_take_of_lt hj, Array.getElem?_toList, Array.getElem?_toList] at h1
  rw [Array.getElem?_eq_getElem hj] at h1
  simp [World.cell?, hb, h1, getElem!_pos L j hj]
theorem heapV {α : Type} [Inhabited α] (enc : α → Value) {w : World} {g n : Nat} {os : Array Obj} {cur : Array Value} {e : TypeId} {fr : Nat × Nat} (d : Array α) (hb : w.heap[g]? = some (.cells cur e fr)) :
    (grow (putRow enc (Sort.ahead w n) g 0 d) os).heap[g]? = some (.cells (putCells enc 0 d cur) e fr) := by
  have hg : g < w.heap.size := (Array.getElem?_eq_some_iff.1 hb).1
  rw [heap_grow_old _ _ (by simpa using hg)]
  simp [putRow, mapBlock, Sort.ahead, Array.getElem?_modify, hb, onCells]
theorem grownV {α : Type} [Inhabited α] (enc : α → Value) {w : World} {g n : Nat} {os : Array Obj} (d : Array α) : w.grownBy (grow (putRow enc (Sort.ahead w n) g 0 d) os) (some g) := by
  refine ⟨rfl, rfl, rfl, by simp, fun k hk hne => ?_⟩
  rw [heap_grow_old _ _ (by simpa using hk)]
  have : g ≠ k := fun e => hne (by rw [e])
  simp [putRow, mapBlock, Sort.ahead, Array.getElem?_modify, this]
theorem takeV (cur L : Array Value) (h : L.size ≤ cur.size) : (putCells id 0 L cur).toList.take L.size = L.toList := by
  apply List.ext_getElem?
  intro j
  by_cases hj : j < L.size
  · rw [List.getElem?_take_of_lt hj, Array.getElem?_toList, Array.getElem?_toList]
    simp only [putCells, Array.getElem?_mapIdx]
    rw [Array.getElem?_eq_getElem (show j < cur.size by omega), Array.getElem?_eq_getElem hj]
    simp [hj]
  · rw [List.getElem?_eq_none (by simp; omega), List.getElem?_eq_none (by simp; omega)]
theorem ownV {w : World} {base g cap n k sz : Nat} {e : TypeId} {os : Array Obj} {cur L : Array Value} (hl : L.size = n * sz) (hbase : base ≤ g) (hb : w.heap[g]? = some (.cells cur e (0, 0)))
    (h1 : n ≤ cap) (h2 : cap ≤ maxLen) (h3 : cur.size = cap * sz) :
    (grow (putRow id (Sort.ahead w k) g 0 L) os).ownsRow base e sz (.slice (some ⟨g, 0, none⟩) n cap) n L.toList :=
  ⟨by simpa using hl, .inr ⟨g, cap, _, rfl, hbase, heapV _ _ hb, h1, h2, by simp [putCells, h3], by rw [← hl]; exact takeV cur L (by rw [hl, h3]; exact Nat.mul_le_mul_right _ h1)⟩⟩
instance : Inhabited Fld := ⟨zeroF⟩
theorem flat_flds (fs : List Fld) : (flatK Fld.cs 5 fs.toArray).toList = fs.flatMap Fld.cs := by
  apply List.ext_getElem?
  intro t
  by_cases ht : t < fs.length * 5
  · have h5 : t / 5 < fs.length := by omega
    rw [Array.getElem?_toList]
    have hs : t < (flatK Fld.cs 5 fs.toArray).size := by simpa using ht
    rw [Array.getElem?_eq_getElem hs, ← getElem!_pos _ t hs, get_flatK _ _ _ _ (by simpa using ht)]
    have he : fs.toArray[t / 5]! = fs[t / 5] := by rw [getElem!_pos _ _ (by simpa using h5)]; simp
    rw [he]
    have hm : t % 5 < (fs[t / 5]).cs.length := by rw [fld_len]; omega
    have := flatMap_at fld_len fs (t / 5) (t % 5) fs[t / 5] (List.getElem?_eq_getElem h5) (by omega)
    rw [show t / 5 * 5 + t % 5 = t by omega] at this
    rw [this, getElem!_pos (fs[t / 5]).cs (t % 5) hm, List.getElem?_eq_getElem hm]
  · have h1 : (fs.flatMap Fld.cs).length = fs.length * 5 := by
      clear ht
      induction fs with
      | nil => rfl
      | cons f fs ih => rw [List.flatMap_cons, List.length_append, ih, fld_len, List.length_cons]; omega
    rw [List.getElem?_eq_none (by simp; omega), List.getElem?_eq_none (by omega)]
def numC (f g : Fld) : Int := Lib.compareInt f.number g.number
theorem perm_list {fs : List Fld} {d' : Array Fld} (h : PermIn 0 fs.toArray.size fs.toArray d') : d'.toList.Perm fs := by
  have := h.2.2
  rw [← h.1] at this
  rw [Array.extract_size] at this
  rw [h.1, Array.extract_size] at this
  exact this
theorem numC_lt (f g : Fld) : ltOf numC f g = decide (f.number < g.number) := by
  unfold ltOf numC Lib.compareInt
  by_cases h1 : f.number < g.number
  · simp [h1]
  · by_cases h2 : f.number > g.number
    · simp [h1, h2]
    · simp [h1, h2]
theorem numC_swo : SWO (ltOf numC) where
  irrefl x := by simp [numC_lt]
  trans x y z h1 h2 := by simp only [numC_lt, decide_eq_true_eq] at *; omega
  ntrans x y z h1 h2 := by simp only [numC_lt, decide_eq_false_iff_not] at *; omega
theorem sorted_list {d' : Array Fld} (h : SortedIn (ltOf numC) 0 d'.size d') : d'.toList.Pairwise NumLe := by
  rw [List.pairwise_iff_getElem]
  intro i j hi hj hij
  have hi' : i < d'.size := by simpa using hi
  have hj' : j < d'.size := by simpa using hj
  have := h i j (Nat.zero_le _) hij hj'
  rw [numC_lt, getElem!_pos d' j hj', getElem!_pos d' i hi'] at this
  simp only [decide_eq_false_iff_not] at this
  simp only [Array.getElem_toList, NumLe]
  omega
end Go.Proofs.Ytbpilecgnfnndaa
namespace Go.Proofs.Ytbpilecgnfnndaa
set_option linter.unusedSimpArgs false
set_option linter.unusedVariables false
open Go.ChangeShapes Go.WideShapes Go.ChangeAt Go.RowKit Go.BigFrame
def fdAt (n : Int) : Nat → List Fld → Int
  | _, [] => -1
  | k, f :: fs => if f.number = n then k else fdAt n (k + 1) fs
theorem fdAt_yes {n : Int} {k : Nat} {xs : List Fld} {e : Fld} {R : Int} (h : fdAt n k (xs.drop k) = R) (he : xs[k]? = some e) (hi : e.number = n) : (k : Int) = R := by
  rw [drop_cons he, fdAt, if_pos hi] at h; exact h
theorem fdAt_no {n : Int} {k : Nat} {xs : List Fld} {e : Fld} {R : Int} (h : fdAt n k (xs.drop k) = R) (he : xs[k]? = some e) (hi : ¬ e.number = n) : fdAt n (k + 1) (xs.drop (k + 1)) = R := by
  rw [drop_cons he, fdAt, if_neg hi] at h; exact h
theorem fdAt_end {n : Int} {k : Nat} {xs : List Fld} {R : Int} (h : fdAt n k (xs.drop k) = R) (hk : xs.length ≤ k) : (-1 : Int) = R := by
  rw [List.drop_of_length_le hk] at h; exact h
theorem fdAt_has (n : Int) : ∀ (k : Nat) (xs : List Fld), decide ((0 : Int) ≤ fdAt n k xs) = hasNum xs n
  | k, [] => by simp [fdAt, hasNum]
  | k, f :: fs => by
    by_cases h : f.number = n
    · simp [fdAt, hasNum, h]
    · have := fdAt_has n (k + 1) fs
      simp only [hasNum] at this
      rw [fdAt, if_neg h, this]
      simp [hasNum, h]
theorem shAt_has (i : Int) : ∀ (k : Nat) (xs : List Shp), decide ((0 : Int) ≤ shAt i k xs) = hasId xs i
  | k, [] => by simp [shAt, hasId]
  | k, x :: xs => by
    by_cases h : x.id = i
    · simp [shAt, hasId, h]
    · have := shAt_has i (k + 1) xs
      simp only [hasId] at this
      rw [shAt, if_neg h, this]
      simp [hasId, h]
theorem shs_take {w : World} {a : Option Addr} {xs : List Shp} (h : Shs w a xs) (k : Nat) : Shs w a (xs.take k) := fun j x hx => h j x (by
  rw [List.getElem?_take] at hx
  split at hx
  · exact hx
  · simp at hx)
theorem pred_MsgCode (x : Int) (a : Option Addr) (m cap : Nat) (id : Int) (B : Nat) (w : World) (hB : B < w.heap.size) (hc : w.cell? ⟨B, 0, none⟩ = some (.int .i64 id)) :
    Calls Try.prog 90 #[.agg #[.int .i64 x, .slice a m cap], .pointer (some ⟨B, 0, none⟩)] w fun r w' => r = .returned (.bool (x == id)) ∧ Below w.heap.size w w' := by
  go_enter Try.func90, Try.ntmps90
  go_wp2
  go_ret
  exact ⟨rfl, by ((repeat (first | (with_reducible exact Below.refl _ _) | (with_reducible assumption) | (with_reducible refine Below.alloc ?_ ?_ _) | (with_reducible refine Below.setCell ?_ ?_ _) | (with_reducible refine Below.drew ?_) | (with_reducible refine below_setRow ?_ ?_ _) | (refine Below.trans ?_ (Below.mono (by assumption) ?_)))); all_goals (first | omega | (simp; done) | (simp; omega)))⟩
set_option maxHeartbeats 2000000 in
theorem index_MsgCode (a : Option Addr) (cap n : Nat) (xs : List Shp) (id : Int) (B : Nat) (w : World) (h : Shs w a xs) (hx : xs.length = n) (hn : n ≤ 1048576) (hB : B < w.heap.size) (hc : w.cell? ⟨B, 0, none⟩ = some (.int .i64 id)) :
    Calls Try.prog 34 #[.slice a n cap, .func (.func 90) #[] #[.pointer (some ⟨B, 0, none⟩)]] w fun r w' => r = .returned (.int .i64 (shAt id 0 xs)) ∧ Below w.heap.size w w' := by
  have HX := Lib.hid hx; clear hx
  obtain ⟨R, hR⟩ : ∃ R, shAt id 0 xs = R := ⟨_, rfl⟩
  rw [hR]
  have HR := Lib.hid hR; clear hR
  have HC := Lib.hid hc; clear hc
  go_enter Try.func34, Try.ntmps34
  go_wp2
  go_loopw [4, 8] (fun t i wr => ∃ k : Nat, k ≤ n ∧ i = .int .i64 k ∧ Hid (shAt id k (xs.drop k) = R) ∧ Below w.heap.size w wr) (fun _ i _ => n - (intOf i).toNat)
  case atStart => exact ⟨0, Nat.zero_le _, rfl, HR, Below.refl _ _⟩
  case round =>
    obtain ⟨k, hk, rfl, HV, hb⟩ := hrel
    have hz := hb.size
    have HC1 := Lib.hid ((hb.cell (p := ⟨B, 0, none⟩) hB).trans HC.out)
    by_cases hlt : k < n
    · obtain ⟨e, he, _⟩ := at_lt (xs := xs) (k := k) (by rw [HX.out]; exact hlt)
      have HE := Lib.hid he
      obtain ⟨b, off, a1, cap1, rfl, hlb, c0, c1, -⟩ := h.below hb (Nat.le_refl _) k e he
      clear he
      by_cases hi : e.id = id
      · have H := Lib.hid (shAt_yes HV.out HE.out hi)
        have hi' : (e.id == id) = true := by simp [hi]
        clear hi
        go_wp2_with (first | (go_at_call 90; refine (pred_MsgCode _ _ _ _ id B _ (by omega) HC1.out).mono ?_; rintro r w2 ⟨rfl, hb2⟩; obtain ⟨hc2, hf2⟩ := bcell hb2; have hz2 := hb2.size; (try simp only [World.size_alloc, World.size_setCell, World.size_drew] at hz2)))
        go_ret
        exact ⟨ret_int H.out, by ((repeat (first | (with_reducible exact Below.refl _ _) | (with_reducible assumption) | (with_reducible refine Below.alloc ?_ ?_ _) | (with_reducible refine Below.setCell ?_ ?_ _) | (with_reducible refine Below.drew ?_) | (with_reducible refine below_setRow ?_ ?_ _) | (refine Below.trans ?_ (Below.mono (by assumption) ?_)))); all_goals (first | omega | (simp; done) | (simp; omega)))⟩
      · have hi' : (e.id == id) = false := by simp [hi]
        have H := Lib.hid (shAt_no HV.out HE.out hi)
        clear hi
        go_wp2_with (first | (go_at_call 90; refine (pred_MsgCode _ _ _ _ id B _ (by omega) HC1.out).mono ?_; rintro r w2 ⟨rfl, hb2⟩; obtain ⟨hc2, hf2⟩ := bcell hb2; have hz2 := hb2.size; (try simp only [World.size_alloc, World.size_setCell, World.size_drew] at hz2)))
        go_roundw
        case rel => exact ⟨k + 1, by omega, by go_num, H, by ((repeat (first | (with_reducible exact Below.refl _ _) | (with_reducible assumption) | (with_reducible refine Below.alloc ?_ ?_ _) | (with_reducible refine Below.setCell ?_ ?_ _) | (with_reducible refine Below.drew ?_) | (with_reducible refine below_setRow ?_ ?_ _) | (refine Below.trans ?_ (Below.mono (by assumption) ?_)))); all_goals (first | omega | (simp; done) | (simp; omega)))⟩
        case measure => simp [intOf]; omega
    · have H := Lib.hid (shAt_end HV.out (by rw [HX.out]; omega))
      go_wp2
      go_ret
      exact ⟨ret_int H.out, hb⟩
theorem hasM_MsgCode (a : Option Addr) (cap n : Nat) (xs : List Shp) (id : Int) (B : Nat) (w : World) (h : Shs w a xs) (hx : xs.length = n) (hn : n ≤ 1048576) (hB : B < w.heap.size) (hc : w.cell? ⟨B, 0, none⟩ = some (.int .i64 id)) :
    Calls Try.prog 89 #[.slice a n cap, .func (.func 90) #[] #[.pointer (some ⟨B, 0, none⟩)]] w fun r w' => r = .returned (.bool (hasId xs id)) ∧ Below w.heap.size w w' := by
  rw [← shAt_has id 0 xs]
  go_enter Try.func89, Try.ntmps89
  go_wp2_with (first | (go_at_call 34; refine (index_MsgCode _ _ _ xs id B _ h hx hn hB hc).mono ?_; rintro r w1 ⟨rfl, hb1⟩; obtain ⟨hc1, hf1⟩ := bcell hb1; have hz1 := hb1.size; (try simp only [World.size_alloc, World.size_setCell, World.size_drew] at hz1)))
  go_ret
  exact ⟨rfl, by ((repeat (first | (with_reducible exact Below.refl _ _) | (with_reducible assumption) | (with_reducible refine Below.alloc ?_ ?_ _) | (with_reducible refine Below.setCell ?_ ?_ _) | (with_reducible refine Below.drew ?_) | (with_reducible refine below_setRow ?_ ?_ _) | (refine Below.trans ?_ (Below.mono (by assumption) ?_)))); all_goals (first | omega | (simp; done) | (simp; omega)))⟩
theorem pred_hasMsg (x : Int) (a : Option Addr) (m cap : Nat) (id : Int) (B : Nat) (w : World) (hB : B < w.heap.size) (hc : w.cell? ⟨B, 0, none⟩ = some (.int .i64 id)) :
    Calls Try.prog 118 #[.agg #[.int .i64 x, .slice a m cap], .pointer (some ⟨B, 0, none⟩)] w fun r w' => r = .returned (.bool (x == id)) ∧ Below w.heap.size w w' := by
  go_enter Try.func118, Try.ntmps118
  go_wp2
  go_ret
  exact ⟨rfl, by ((repeat (first | (with_reducible exact Below.refl _ _) | (with_reducible assumption) | (with_reducible refine Below.alloc ?_ ?_ _) | (with_reducible refine Below.setCell ?_ ?_ _) | (with_reducible refine Below.drew ?_) | (with_reducible refine below_setRow ?_ ?_ _) | (refine Below.trans ?_ (Below.mono (by assumption) ?_)))); all_goals (first | omega | (simp; done) | (simp; omega)))⟩
set_option maxHeartbeats 2000000 in
theorem index_hasMsg (a : Option Addr) (cap n : Nat) (xs : List Shp) (id : Int) (B : Nat) (w : World) (h : Shs w a xs) (hx : xs.length = n) (hn : n ≤ 1048576) (hB : B < w.heap.size) (hc : w.cell? ⟨B, 0, none⟩ = some (.int .i64 id)) :
    Calls Try.prog 34 #[.slice a n cap, .func (.func 118) #[] #[.pointer (some ⟨B, 0, none⟩)]] w fun r w' => r = .returned (.int .i64 (shAt id 0 xs)) ∧ Below w.heap.size w w' := by
  have HX := Lib.hid hx; clear hx
  obtain ⟨R, hR⟩ : ∃ R, shAt id 0 xs = R := ⟨_, rfl⟩
  rw [hR]
  have HR := Lib.hid hR; clear hR
  have HC := Lib.hid hc; clear hc
  go_enter Try.func34, Try.ntmps34
  go_wp2
  go_loopw [4, 8] (fun t i wr => ∃ k : Nat, k ≤ n ∧ i = .int .i64 k ∧ Hid (shAt id k (xs.drop k) = R) ∧ Below w.heap.size w wr) (fun _ i _ => n - (intOf i).toNat)
  case atStart => exact ⟨0, Nat.zero_le _, rfl, HR, Below.refl _ _⟩
  case round =>
    obtain ⟨k, hk, rfl, HV, hb⟩ := hrel
    have hz := hb.size
    have HC1 := Lib.hid ((hb.cell (p := ⟨B, 0, none⟩) hB).trans HC.out)
    by_cases hlt : k < n
    · obtain ⟨e, he, _⟩ := at_lt (xs := xs) (k := k) (by rw [HX.out]; exact hlt)
      have HE := Lib.hid he
      obtain ⟨b, off, a1, cap1, rfl, hlb, c0, c1, -⟩ := h.below hb (Nat.le_refl _) k e he
      clear he
      by_cases hi : e.id = id
      · have H := Lib.hid (shAt_yes HV.out HE.out hi)
        have hi' : (e.id == id) = true := by simp [hi]
        clear hi
        go_wp2_with (first | (go_at_call 118; refine (pred_hasMsg _ _ _ _ id B _ (by omega) HC1.out).mono ?_; rintro r w2 ⟨rfl, hb2⟩; obtain ⟨hc2, hf2⟩ := bcell hb2; have hz2 := hb2.size; (try simp only [World.size_alloc, World.size_setCell, World.size_drew] at hz2)))
        go_ret
        exact ⟨ret_int H.out, by ((repeat (first | (with_reducible exact Below.refl _ _) | (with_reducible assumption) | (with_reducible refine Below.alloc ?_ ?_ _) | (with_reducible refine Below.setCell ?_ ?_ _) | (with_reducible refine Below.drew ?_) | (with_reducible refine below_setRow ?_ ?_ _) | (refine Below.trans ?_ (Below.mono (by assumption) ?_)))); all_goals (first | omega | (simp; done) | (simp; omega)))⟩
      · have hi' : (e.id == id) = false := by simp [hi]
        have H := Lib.hid (shAt_no HV.out HE.out hi)
        clear hi
        go_wp2_with (first | (go_at_call 118; refine (pred_hasMsg _ _ _ _ id B _ (by omega) HC1.out).mono ?_; rintro r w2 ⟨rfl, hb2⟩; obtain ⟨hc2, hf2⟩ := bcell hb2; have hz2 := hb2.size; (try simp only [World.size_alloc, World.size_setCell, World.size_drew] at hz2)))
        go_roundw
        case rel => exact ⟨k + 1, by omega, by go_num, H, by ((repeat (first | (with_reducible exact Below.refl _ _) | (with_reducible assumption) | (with_reducible refine Below.alloc ?_ ?_ _) | (with_reducible refine Below.setCell ?_ ?_ _) | (with_reducible refine Below.drew ?_) | (with_reducible refine below_setRow ?_ ?_ _) | (refine Below.trans ?_ (Below.mono (by assumption) ?_)))); all_goals (first | omega | (simp; done) | (simp; omega)))⟩
        case measure => simp [intOf]; omega
    · have H := Lib.hid (shAt_end HV.out (by rw [HX.out]; omega))
      go_wp2
      go_ret
      exact ⟨ret_int H.out, hb⟩
theorem hasM_hasMsg (a : Option Addr) (cap n : Nat) (xs : List Shp) (id : Int) (B : Nat) (w : World) (h : Shs w a xs) (hx : xs.length = n) (hn : n ≤ 1048576) (hB : B < w.heap.size) (hc : w.cell? ⟨B, 0, none⟩ = some (.int .i64 id)) :
    Calls Try.prog 89 #[.slice a n cap, .func (.func 118) #[] #[.pointer (some ⟨B, 0, none⟩)]] w fun r w' => r = .returned (.bool (hasId xs id)) ∧ Below w.heap.size w w' := by
  rw [← shAt_has id 0 xs]
  go_enter Try.func89, Try.ntmps89
  go_wp2_with (first | (go_at_call 34; refine (index_hasMsg _ _ _ xs id B _ h hx hn hB hc).mono ?_; rintro r w1 ⟨rfl, hb1⟩; obtain ⟨hc1, hf1⟩ := bcell hb1; have hz1 := hb1.size; (try simp only [World.size_alloc, World.size_setCell, World.size_drew] at hz1)))
  go_ret
  exact ⟨rfl, by ((repeat (first | (with_reducible exact Below.refl _ _) | (with_reducible assumption) | (with_reducible refine Below.alloc ?_ ?_ _) | (with_reducible refine Below.setCell ?_ ?_ _) | (with_reducible refine Below.drew ?_) | (with_reducible refine below_setRow ?_ ?_ _) | (refine Below.trans ?_ (Below.mono (by assumption) ?_)))); all_goals (first | omega | (simp; done) | (simp; omega)))⟩
theorem pred_Compile (x : Int) (a : Option Addr) (m cap : Nat) (id : Int) (B : Nat) (w : World) (hB : B < w.heap.size) (hc : w.cell? ⟨B, 0, none⟩ = some (.int .i64 id)) :
    Calls Try.prog 35 #[.agg #[.int .i64 x, .slice a m cap], .pointer (some ⟨B, 0, none⟩)] w fun r w' => r = .returned (.bool (x == id)) ∧ Below w.heap.size w w' := by
  go_enter Try.func35, Try.ntmps35
  go_wp2
  go_ret
  exact ⟨rfl, by ((repeat (first | (with_reducible exact Below.refl _ _) | (with_reducible assumption) | (with_reducible refine Below.alloc ?_ ?_ _) | (with_reducible refine Below.setCell ?_ ?_ _) | (with_reducible refine Below.drew ?_) | (with_reducible refine below_setRow ?_ ?_ _) | (refine Below.trans ?_ (Below.mono (by assumption) ?_)))); all_goals (first | omega | (simp; done) | (simp; omega)))⟩
set_option maxHeartbeats 2000000 in
theorem index_Compile (a : Option Addr) (cap n : Nat) (xs : List Shp) (id : Int) (B : Nat) (w : World) (h : Shs w a xs) (hx : xs.length = n) (hn : n ≤ 1048576) (hB : B < w.heap.size) (hc : w.cell? ⟨B, 0, none⟩ = some (.int .i64 id)) :
    Calls Try.prog 34 #[.slice a n cap, .func (.func 35) #[] #[.pointer (some ⟨B, 0, none⟩)]] w fun r w' => r = .returned (.int .i64 (shAt id 0 xs)) ∧ Below w.heap.size w w' := by
  have HX := Lib.hid hx; clear hx
  obtain ⟨R, hR⟩ : ∃ R, shAt id 0 xs = R := ⟨_, rfl⟩
  rw [hR]
  have HR := Lib.hid hR; clear hR
  have HC := Lib.hid hc; clear hc
  go_enter Try.func34, Try.ntmps34
  go_wp2
  go_loopw [4, 8] (fun t i wr => ∃ k : Nat, k ≤ n ∧ i = .int .i64 k ∧ Hid (shAt id k (xs.drop k) = R) ∧ Below w.heap.size w wr) (fun _ i _ => n - (intOf i).toNat)
  case atStart => exact ⟨0, Nat.zero_le _, rfl, HR, Below.refl _ _⟩
  case round =>
    obtain ⟨k, hk, rfl, HV, hb⟩ := hrel
    have hz := hb.size
    have HC1 := Lib.hid ((hb.cell (p := ⟨B, 0, none⟩) hB).trans HC.out)
    by_cases hlt : k < n
    · obtain ⟨e, he, _⟩ := at_lt (xs := xs) (k := k) (by rw [HX.out]; exact hlt)
      have HE := Lib.hid he
      obtain ⟨b, off, a1, cap1, rfl, hlb, c0, c1, -⟩ := h.below hb (Nat.le_refl _) k e he
      clear he
      by_cases hi : e.id = id
      · have H := Lib.hid (shAt_yes HV.out HE.out hi)
        have hi' : (e.id == id) = true := by simp [hi]
        clear hi
        go_wp2_with (first | (go_at_call 35; refine (pred_Compile _ _ _ _ id B _ (by omega) HC1.out).mono ?_; rintro r w2 ⟨rfl, hb2⟩; obtain ⟨hc2, hf2⟩ := bcell hb2; have hz2 := hb2.size; (try simp only [World.size_alloc, World.size_setCell, World.size_drew] at hz2)))
        go_ret
        exact ⟨ret_int H.out, by ((repeat (first | (with_reducible exact Below.refl _ _) | (with_reducible assumption) | (with_reducible refine Below.alloc ?_ ?_ _) | (with_reducible refine Below.setCell ?_ ?_ _) | (with_reducible refine Below.drew ?_) | (with_reducible refine below_setRow ?_ ?_ _) | (refine Below.trans ?_ (Below.mono (by assumption) ?_)))); all_goals (first | omega | (simp; done) | (simp; omega)))⟩
      · have hi' : (e.id == id) = false := by simp [hi]
        have H := Lib.hid (shAt_no HV.out HE.out hi)
        clear hi
        go_wp2_with (first | (go_at_call 35; refine (pred_Compile _ _ _ _ id B _ (by omega) HC1.out).mono ?_; rintro r w2 ⟨rfl, hb2⟩; obtain ⟨hc2, hf2⟩ := bcell hb2; have hz2 := hb2.size; (try simp only [World.size_alloc, World.size_setCell, World.size_drew] at hz2)))
        go_roundw
        case rel => exact ⟨k + 1, by omega, by go_num, H, by ((repeat (first | (with_reducible exact Below.refl _ _) | (with_reducible assumption) | (with_reducible refine Below.alloc ?_ ?_ _) | (with_reducible refine Below.setCell ?_ ?_ _) | (with_reducible refine Below.drew ?_) | (with_reducible refine below_setRow ?_ ?_ _) | (refine Below.trans ?_ (Below.mono (by assumption) ?_)))); all_goals (first | omega | (simp; done) | (simp; omega)))⟩
        case measure => simp [intOf]; omega
    · have H := Lib.hid (shAt_end HV.out (by rw [HX.out]; omega))
      go_wp2
      go_ret
      exact ⟨ret_int H.out, hb⟩
theorem pred_FieldCode (e : Fld) (id : Int) (B : Nat) (w : World) (hB : B < w.heap.size) (hc : w.cell? ⟨B, 0, none⟩ = some (.int .i64 id)) :
    Calls Try.prog 92 #[e.val, .pointer (some ⟨B, 0, none⟩)] w fun r w' => r = .returned (.bool (e.number == id)) ∧ Below w.heap.size w w' := by
  go_enter Try.func92, Try.ntmps92
  go_wp2
  go_ret
  exact ⟨rfl, by ((repeat (first | (with_reducible exact Below.refl _ _) | (with_reducible assumption) | (with_reducible refine Below.alloc ?_ ?_ _) | (with_reducible refine Below.setCell ?_ ?_ _) | (with_reducible refine Below.drew ?_) | (with_reducible refine below_setRow ?_ ?_ _) | (refine Below.trans ?_ (Below.mono (by assumption) ?_)))); all_goals (first | omega | (simp; done) | (simp; omega)))⟩
set_option maxHeartbeats 2000000 in
theorem index_FieldCode (a : Option Addr) (cap n : Nat) (xs : List Fld) (id : Int) (B : Nat) (w : World) (h : Flds w a xs) (hx : xs.length = n) (hn : n ≤ 1048576) (hB : B < w.heap.size) (hc : w.cell? ⟨B, 0, none⟩ = some (.int .i64 id)) :
    Calls Try.prog 117 #[.slice a n cap, .func (.func 92) #[] #[.pointer (some ⟨B, 0, none⟩)]] w fun r w' => r = .returned (.int .i64 (fdAt id 0 xs)) ∧ Below w.heap.size w w' := by
  have HX := Lib.hid hx; clear hx
  obtain ⟨R, hR⟩ : ∃ R, fdAt id 0 xs = R := ⟨_, rfl⟩
  rw [hR]
  have HR := Lib.hid hR; clear hR
  have HC := Lib.hid hc; clear hc
  go_enter Try.func117, Try.ntmps117
  go_wp2
  go_loopw [4, 8] (fun t i wr => ∃ k : Nat, k ≤ n ∧ i = .int .i64 k ∧ Hid (fdAt id k (xs.drop k) = R) ∧ Below w.heap.size w wr) (fun _ i _ => n - (intOf i).toNat)
  case atStart => exact ⟨0, Nat.zero_le _, rfl, HR, Below.refl _ _⟩
  case round =>
    obtain ⟨k, hk, rfl, HV, hb⟩ := hrel
    have hz := hb.size
    have HC1 := Lib.hid ((hb.cell (p := ⟨B, 0, none⟩) hB).trans HC.out)
    by_cases hlt : k < n
    · obtain ⟨e, he, _⟩ := at_lt (xs := xs) (k := k) (by rw [HX.out]; exact hlt)
      have HE := Lib.hid he
      obtain ⟨b, off, rfl, hlb, c0, c1, c2, c3, c4⟩ := Flds.at (Sl.keep h hb) he
      clear he
      by_cases hi : e.number = id
      · have H := Lib.hid (fdAt_yes HV.out HE.out hi)
        have hi' : (e.number == id) = true := by simp [hi]
        clear hi
        go_wp2_with (first | (go_at_call 92; refine (pred_FieldCode ⟨e.number, e.kind, e.rep, e.packed, e.msg⟩ id B _ (by omega) HC1.out).mono ?_; rintro r w2 ⟨rfl, hb2⟩; obtain ⟨hc2, hf2⟩ := bcell hb2; have hz2 := hb2.size; (try simp only [World.size_alloc, World.size_setCell, World.size_drew] at hz2)))
        go_ret
        exact ⟨ret_int H.out, by ((repeat (first | (with_reducible exact Below.refl _ _) | (with_reducible assumption) | (with_reducible refine Below.alloc ?_ ?_ _) | (with_reducible refine Below.setCell ?_ ?_ _) | (with_reducible refine Below.drew ?_) | (with_reducible refine below_setRow ?_ ?_ _) | (refine Below.trans ?_ (Below.mono (by assumption) ?_)))); all_goals (first | omega | (simp; done) | (simp; omega)))⟩
      · have hi' : (e.number == id) = false := by simp [hi]
        have H := Lib.hid (fdAt_no HV.out HE.out hi)
        clear hi
        go_wp2_with (first | (go_at_call 92; refine (pred_FieldCode ⟨e.number, e.kind, e.rep, e.packed, e.msg⟩ id B _ (by omega) HC1.out).mono ?_; rintro r w2 ⟨rfl, hb2⟩; obtain ⟨hc2, hf2⟩ := bcell hb2; have hz2 := hb2.size; (try simp only [World.size_alloc, World.size_setCell, World.size_drew] at hz2)))
        go_roundw
        case rel => exact ⟨k + 1, by omega, by go_num, H, by ((repeat (first | (with_reducible exact Below.refl _ _) | (with_reducible assumption) | (with_reducible refine Below.alloc ?_ ?_ _) | (with_reducible refine Below.setCell ?_ ?_ _) | (with_reducible refine Below.drew ?_) | (with_reducible refine below_setRow ?_ ?_ _) | (refine Below.trans ?_ (Below.mono (by assumption) ?_)))); all_goals (first | omega | (simp; done) | (simp; omega)))⟩
        case measure => simp [intOf]; omega
    · have H := Lib.hid (fdAt_end HV.out (by rw [HX.out]; omega))
      go_wp2
      go_ret
      exact ⟨ret_int H.out, hb⟩
theorem hasF_FieldCode (a : Option Addr) (cap n : Nat) (xs : List Fld) (id : Int) (B : Nat) (w : World) (h : Flds w a xs) (hx : xs.length = n) (hn : n ≤ 1048576) (hB : B < w.heap.size) (hc : w.cell? ⟨B, 0, none⟩ = some (.int .i64 id)) :
    Calls Try.prog 91 #[.slice a n cap, .func (.func 92) #[] #[.pointer (some ⟨B, 0, none⟩)]] w fun r w' => r = .returned (.bool (hasNum xs id)) ∧ Below w.heap.size w w' := by
  rw [← fdAt_has id 0 xs]
  go_enter Try.func91, Try.ntmps91
  go_wp2_with (first | (go_at_call 117; refine (index_FieldCode _ _ _ xs id B _ h hx hn hB hc).mono ?_; rintro r w1 ⟨rfl, hb1⟩; obtain ⟨hc1, hf1⟩ := bcell hb1; have hz1 := hb1.size; (try simp only [World.size_alloc, World.size_setCell, World.size_drew] at hz1)))
  go_ret
  exact ⟨rfl, by ((repeat (first | (with_reducible exact Below.refl _ _) | (with_reducible assumption) | (with_reducible refine Below.alloc ?_ ?_ _) | (with_reducible refine Below.setCell ?_ ?_ _) | (with_reducible refine Below.drew ?_) | (with_reducible refine below_setRow ?_ ?_ _) | (refine Below.trans ?_ (Below.mono (by assumption) ?_)))); all_goals (first | omega | (simp; done) | (simp; omega)))⟩
set_option maxHeartbeats 4000000 in
theorem implMsgCode_any (a : Option Addr) (cap n i : Nat) (xs : List Shp) (x : Shp) (w : World) (h : ShsL w a xs) (hl : xs.length = n) (hn : n ≤ 1048576) (hcap : n ≤ cap) (hx : xs[i]? = some x) (hi : i < n) (hf : x.flds.length ≤ 1048576) :
    Calls Try.prog 66 #[.agg #[.slice a n cap], .int .i64 i] w fun r w' => r = .returned (.int .i64 (msgC xs i x)) ∧ Below w.heap.size w w' := by
  have HL := Lib.hid hl; clear hl
  obtain ⟨R, hR⟩ : ∃ R, msgC xs i x = R := ⟨_, rfl⟩
  rw [hR]
  have HR := Lib.hid hR; clear hR
  obtain ⟨b, off, a', cap', rfl, hbl, c0, c1, -, -⟩ := h i x hx
  have HX := Lib.hid hx; clear hx
  have hb1 : inB (i : Int) 0 ((n : Int) - 1) = true := by simp only [inB, decide_eq_true_eq]; omega
  have hii : (i : Int) < (n : Int) := by omega
  have hi0 : (0 : Int) ≤ (i : Int) := by omega
  have hic : (i : Int) ≤ (cap : Int) := by omega
  have HTl := Lib.hid (show (xs.take i).length = i by rw [List.length_take, HL.out]; omega)
  have HH := Lib.hid (shs_take h.shs i); clear h
  go_enter Try.func66, Try.ntmps66
  cases h1 : inB x.id 1 99
  · have HB := Lib.hid (show (2 : Int) = R by rw [← HR.out, msgC, if_pos h1])
    go_wp2_with (first | (go_at_call 47; refine (within_any _ _ _ _).mono ?_; rintro r w1 ⟨rfl, rfl⟩))
    go_ret
    exact ⟨ret_int HB.out, by ((repeat (first | (with_reducible exact Below.refl _ _) | (with_reducible assumption) | (with_reducible refine Below.alloc ?_ ?_ _) | (with_reducible refine Below.setCell ?_ ?_ _) | (with_reducible refine Below.drew ?_) | (with_reducible refine below_setRow ?_ ?_ _) | (refine Below.trans ?_ (Below.mono (by assumption) ?_)))); all_goals (first | omega | (simp; done) | (simp; omega)))⟩
  · go_wp2_with (first | (go_at_call 47; refine (within_any _ _ _ _).mono ?_; rintro r w1 ⟨rfl, rfl⟩))
    refine (hasM_MsgCode (some ⟨b, off, none⟩) cap i (xs.take i) x.id _ _ (HH.out.keep (by ((repeat (first | (with_reducible exact Below.refl _ _) | (with_reducible assumption) | (with_reducible refine Below.alloc ?_ ?_ _) | (with_reducible refine Below.setCell ?_ ?_ _) | (with_reducible refine Below.drew ?_) | (with_reducible refine below_setRow ?_ ?_ _) | (refine Below.trans ?_ (Below.mono (by assumption) ?_)))); all_goals (first | omega | (simp; done) | (simp; omega))))) HTl.out (by omega) (by simp) (by simp [go_sem])).mono ?_
    rintro r w2 ⟨rfl, hb2⟩
    have hM := (hb2.block (w.heap.size + 1) (by simp)).trans (hset_new (o := .cells #[.int .i64 x.id, .slice a' x.flds.length cap'] 40) (by simp))
    have kM := box_cells hM
    have hbw : Below w.heap.size w w2 := by ((repeat (first | (with_reducible exact Below.refl _ _) | (with_reducible assumption) | (with_reducible refine Below.alloc ?_ ?_ _) | (with_reducible refine Below.setCell ?_ ?_ _) | (with_reducible refine Below.drew ?_) | (with_reducible refine below_setRow ?_ ?_ _) | (refine Below.trans ?_ (Below.mono (by assumption) ?_)))); all_goals (first | omega | (simp; done) | (simp; omega)))
    clear hb2 hM
    cases h2 : hasId (xs.take i) x.id
    · by_cases h8 : 8 < x.flds.length
      · have HB := Lib.hid (show (4 : Int) = R by rw [← HR.out, msgC, if_neg (by rw [h1]; simp), if_neg (by rw [h2]; simp), if_pos h8])
        have h8' : (8 : Int) < (x.flds.length : Int) := by omega
        go_wp2
        go_ret
        exact ⟨ret_int HB.out, by ((repeat (first | (with_reducible exact Below.refl _ _) | (with_reducible assumption) | (with_reducible refine Below.alloc ?_ ?_ _) | (with_reducible refine Below.setCell ?_ ?_ _) | (with_reducible refine Below.drew ?_) | (with_reducible refine below_setRow ?_ ?_ _) | (refine Below.trans ?_ (Below.mono (by assumption) ?_)))); all_goals (first | omega | (simp; done) | (simp; omega)))⟩
      · have HB := Lib.hid (show (0 : Int) = R by rw [← HR.out, msgC, if_neg (by rw [h1]; simp), if_neg (by rw [h2]; simp), if_neg h8])
        have h8' : decide ((8 : Int) < (x.flds.length : Int)) = false := decide_eq_false (by omega)
        go_wp2
        go_ret
        exact ⟨ret_int HB.out, by ((repeat (first | (with_reducible exact Below.refl _ _) | (with_reducible assumption) | (with_reducible refine Below.alloc ?_ ?_ _) | (with_reducible refine Below.setCell ?_ ?_ _) | (with_reducible refine Below.drew ?_) | (with_reducible refine below_setRow ?_ ?_ _) | (refine Below.trans ?_ (Below.mono (by assumption) ?_)))); all_goals (first | omega | (simp; done) | (simp; omega)))⟩
    · have HB := Lib.hid (show (3 : Int) = R by rw [← HR.out, msgC, if_neg (by rw [h1]; simp), if_pos h2])
      go_wp2
      go_ret
      exact ⟨ret_int HB.out, by ((repeat (first | (with_reducible exact Below.refl _ _) | (with_reducible assumption) | (with_reducible refine Below.alloc ?_ ?_ _) | (with_reducible refine Below.setCell ?_ ?_ _) | (with_reducible refine Below.drew ?_) | (with_reducible refine below_setRow ?_ ?_ _) | (refine Below.trans ?_ (Below.mono (by assumption) ?_)))); all_goals (first | omega | (simp; done) | (simp; omega)))⟩
theorem implHasMsg_any (a : Option Addr) (cap n : Nat) (xs : List Shp) (id : Int) (w : World) (h : Shs w a xs) (hx : xs.length = n) (hn : n ≤ 1048576) :
    Calls Try.prog 93 #[.agg #[.slice a n cap], .int .i64 id] w fun r w' => r = .returned (.bool (hasId xs id)) ∧ Below w.heap.size w w' := by
  have HX := Lib.hid hx; clear hx
  have HS := Lib.hid h; clear h
  go_enter Try.func93, Try.ntmps93
  go_wp2_with (first | (go_at_call 89; refine (hasM_hasMsg _ _ _ xs id _ _ (HS.out.keep (by ((repeat (first | (with_reducible exact Below.refl _ _) | (with_reducible assumption) | (with_reducible refine Below.alloc ?_ ?_ _) | (with_reducible refine Below.setCell ?_ ?_ _) | (with_reducible refine Below.drew ?_) | (with_reducible refine below_setRow ?_ ?_ _) | (refine Below.trans ?_ (Below.mono (by assumption) ?_)))); all_goals (first | omega | (simp; done) | (simp; omega))))) HX.out hn (by simp) (by simp [go_sem])).mono ?_; rintro r w1 ⟨rfl, hb1⟩; obtain ⟨hc1, hf1⟩ := bcell hb1; have hz1 := hb1.size; (try simp only [World.size_alloc, World.size_setCell, World.size_drew] at hz1)))
  go_ret
  exact ⟨rfl, by ((repeat (first | (with_reducible exact Below.refl _ _) | (with_reducible assumption) | (with_reducible refine Below.alloc ?_ ?_ _) | (with_reducible refine Below.setCell ?_ ?_ _) | (with_reducible refine Below.drew ?_) | (with_reducible refine below_setRow ?_ ?_ _) | (refine Below.trans ?_ (Below.mono (by assumption) ?_)))); all_goals (first | omega | (simp; done) | (simp; omega)))⟩
set_option maxRecDepth 100000 in
set_option maxHeartbeats 4000000 in
theorem implFieldCode_any (a : Option Addr) (cap n i k : Nat) (xs : List Shp) (x : Shp) (f : Fld) (w : World) (h : ShsL w a xs) (hl : xs.length = n) (hn : n ≤ 1048576) (hx : xs[i]? = some x) (hi : i < n) (hfl : x.flds.length ≤ 1048576) (hf : x.flds[k]? = some f) (hk : k < x.flds.length) :
    Calls Try.prog 67 #[.agg #[.slice a n cap], .int .i64 i, .int .i64 k] w fun r w' => r = .returned (.int .i64 (fldC xs x.flds k f)) ∧ Below w.heap.size w w' := by
  have HL := Lib.hid hl; clear hl
  obtain ⟨R, hR⟩ : ∃ R, fldC xs x.flds k f = R := ⟨_, rfl⟩
  rw [hR]
  have HR := Lib.hid hR; clear hR
  obtain ⟨b, off, a', cap', rfl, hbl, c0, c1, hfs, hcp⟩ := h i x hx
  obtain ⟨b2, off2, rfl, hbl2, d0, d1, d2, d3, d4⟩ := Flds.at hfs hf
  have HX := Lib.hid hx; clear hx
  have HF := Lib.hid hf; clear hf
  have HFS := Lib.hid hfs; clear hfs
  have hb1 : inB (i : Int) 0 ((n : Int) - 1) = true := by simp only [inB, decide_eq_true_eq]; omega
  have hb2' : inB (k : Int) 0 ((x.flds.length : Int) - 1) = true := by simp only [inB, decide_eq_true_eq]; omega
  have hii : (i : Int) < (n : Int) := by omega
  have hki : (k : Int) < (x.flds.length : Int) := by omega
  have hkc : (k : Int) ≤ (cap' : Int) := by omega
  have hk0 : (0 : Int) ≤ (k : Int) := by omega
  have HH := Lib.hid h.shs; clear h
  go_enter Try.func67, Try.ntmps67
  cases h1 : numOk f.number
  · have HB := Lib.hid (show (5 : Int) = R by rw [← HR.out, fldC, if_pos h1])
    go_wp2_with (first | (go_at_call 47; refine (within_any _ _ _ _).mono ?_; rintro r w1 ⟨rfl, rfl⟩) | (go_at_call 77; refine (implNumberOk_any _ _).mono ?_; rintro r w1 ⟨rfl, rfl⟩))
    go_ret
    exact ⟨ret_int HB.out, by ((repeat (first | (with_reducible exact Below.refl _ _) | (with_reducible assumption) | (with_reducible refine Below.alloc ?_ ?_ _) | (with_reducible refine Below.setCell ?_ ?_ _) | (with_reducible refine Below.drew ?_) | (with_reducible refine below_setRow ?_ ?_ _) | (refine Below.trans ?_ (Below.mono (by assumption) ?_)))); all_goals (first | omega | (simp; done) | (simp; omega)))⟩
  · go_wp2_with (first | (go_at_call 47; refine (within_any _ _ _ _).mono ?_; rintro r w1 ⟨rfl, rfl⟩) | (go_at_call 77; refine (implNumberOk_any _ _).mono ?_; rintro r w1 ⟨rfl, rfl⟩))
    have HKl := Lib.hid (show (x.flds.take k).length = k by rw [List.length_take]; omega)
    refine (hasF_FieldCode (some ⟨b2, off2, none⟩) cap' k (x.flds.take k) f.number _ _ (Sl.keep (flds_take HFS.out k) (by ((repeat (first | (with_reducible exact Below.refl _ _) | (with_reducible assumption) | (with_reducible refine Below.alloc ?_ ?_ _) | (with_reducible refine Below.setCell ?_ ?_ _) | (with_reducible refine Below.drew ?_) | (with_reducible refine below_setRow ?_ ?_ _) | (refine Below.trans ?_ (Below.mono (by assumption) ?_)))); all_goals (first | omega | (simp; done) | (simp; omega))))) HKl.out (by omega) (by simp) (by simp [go_sem])).mono ?_
    rintro r w2 ⟨rfl, hb2⟩
    have hA_ := (hb2.block w.heap.size (by simp; omega)).trans (hset_alloc (hset_new (o := .cells #[.slice (some ⟨b, off, none⟩) n cap] 26) rfl))
    have hG_ := (hb2.block (w.heap.size + 1) (by simp)).trans (hset_new (o := .cells #[.int .i64 f.number, .int .i64 f.kind, .bool f.rep, .bool f.packed, .int .i64 f.msg] 45) (by simp))
    have kA := box_cells hA_; have kG := box_cells hG_; have hlG := box_lt hG_; have hlA := box_lt hA_; have HGx := Lib.hid hG_
    have hbw : Below w.heap.size w w2 := by ((repeat (first | (with_reducible exact Below.refl _ _) | (with_reducible assumption) | (with_reducible refine Below.alloc ?_ ?_ _) | (with_reducible refine Below.setCell ?_ ?_ _) | (with_reducible refine Below.drew ?_) | (with_reducible refine below_setRow ?_ ?_ _) | (refine Below.trans ?_ (Below.mono (by assumption) ?_)))); all_goals (first | omega | (simp; done) | (simp; omega)))
    clear hb2 hA_ hG_
    cases h2 : hasNum (x.flds.take k) f.number
    · cases h3 : inB f.kind 1 8
      · have HB := Lib.hid (show (7 : Int) = R by rw [← HR.out, fldC, if_neg (by rw [h1]; simp), if_neg (by rw [h2]; simp), if_pos h3])
        go_wp2_with (first | (go_at_call 78; refine (isKind_any _ _).mono ?_; rintro r w1 ⟨rfl, rfl⟩))
        go_ret
        exact ⟨ret_int HB.out, by ((repeat (first | (with_reducible exact Below.refl _ _) | (with_reducible assumption) | (with_reducible refine Below.alloc ?_ ?_ _) | (with_reducible refine Below.setCell ?_ ?_ _) | (with_reducible refine Below.drew ?_) | (with_reducible refine below_setRow ?_ ?_ _) | (refine Below.trans ?_ (Below.mono (by assumption) ?_)))); all_goals (first | omega | (simp; done) | (simp; omega)))⟩
      · cases h4 : packOk f
        · have HB := Lib.hid (show (8 : Int) = R by rw [← HR.out, fldC, if_neg (by rw [h1]; simp), if_neg (by rw [h2]; simp), if_neg (by rw [h3]; simp), if_pos h4])
          simp only [packOk, Bool.not_eq_false', Bool.and_eq_true, Bool.or_eq_true, Bool.not_eq_true'] at h4
          obtain ⟨h5, h6⟩ := h4
          rw [h5] at kG d3
          cases h7 : f.rep
          · rw [h7] at kG d2
            go_wp2_with (first | (go_at_call 78; refine (isKind_any _ _).mono ?_; rintro r w1 ⟨rfl, rfl⟩))
            go_ret
            exact ⟨ret_int HB.out, by ((repeat (first | (with_reducible exact Below.refl _ _) | (with_reducible assumption) | (with_reducible refine Below.alloc ?_ ?_ _) | (with_reducible refine Below.setCell ?_ ?_ _) | (with_reducible refine Below.drew ?_) | (with_reducible refine below_setRow ?_ ?_ _) | (refine Below.trans ?_ (Below.mono (by assumption) ?_)))); all_goals (first | omega | (simp; done) | (simp; omega)))⟩
          · have h8 : inB f.kind 1 5 = false := by rcases h6 with h6 | h6; (rw [h7] at h6; simp at h6); exact h6
            rw [h7] at kG d2
            go_wp2_with (first | (go_at_call 78; refine (isKind_any _ _).mono ?_; rintro r w1 ⟨rfl, rfl⟩) | (go_at_call 79; refine (implNumeric_any _ _).mono ?_; rintro r w1 ⟨rfl, rfl⟩))
            go_ret
            exact ⟨ret_int HB.out, by ((repeat (first | (with_reducible exact Below.refl _ _) | (with_reducible assumption) | (with_reducible refine Below.alloc ?_ ?_ _) | (with_reducible refine Below.setCell ?_ ?_ _) | (with_reducible refine Below.drew ?_) | (with_reducible refine below_setRow ?_ ?_ _) | (refine Below.trans ?_ (Below.mono (by assumption) ?_)))); all_goals (first | omega | (simp; done) | (simp; omega)))⟩
        · have HP : f.packed = false ∨ f.packed = true ∧ f.rep = true ∧ inB f.kind 1 5 = true := by
            simp only [packOk] at h4
            cases h5 : f.packed <;> cases h6 : f.rep <;> cases h7 : inB f.kind 1 5 <;> simp [h5, h6, h7] at h4 ⊢
          have HE : ∀ v : Int, (if refBad xs f = true then (9 : Int) else 0) = v → v = R := fun v hv => by rw [← HR.out, fldC, if_neg (by rw [h1]; simp), if_neg (by rw [h2]; simp), if_neg (by rw [h3]; simp), if_neg (by rw [h4]; simp), hv]
          have HE2 := Lib.hid HE; clear HE h4
          by_cases h8 : f.kind = 8
          · have g8 : (f.kind == 8) = true := by simp; omega
            have g8n : (f.kind != 8) = false := by simp; omega
            have HRB := Lib.hid (show refBad xs f = !hasId xs f.msg by rw [refBad, if_pos h8])
            clear h8
            rcases HP with h5 | ⟨h5, h6, h7⟩
            · rw [h5] at kG d3
              go_wp2_with (first | (go_at_call 78; refine (isKind_any _ _).mono ?_; rintro r w1 ⟨rfl, rfl⟩))
              refine (implHasMsg_any (some ⟨b, off, none⟩) cap n xs f.msg _ (HH.out.keep hbw) HL.out hn).mono ?_
              rintro r w3 ⟨rfl, hb3⟩
              have hG3 := (hb3.block _ hlG).trans HGx.out
              have kG3 := box_cells hG3; clear hG3 kG kA
              cases h9 : hasId xs f.msg
              · have HB := Lib.hid (HE2.out 9 (by rw [HRB.out, h9]; rfl))
                go_wp2
                go_ret
                exact ⟨ret_int HB.out, by ((repeat (first | (with_reducible exact Below.refl _ _) | (with_reducible assumption) | (with_reducible refine Below.alloc ?_ ?_ _) | (with_reducible refine Below.setCell ?_ ?_ _) | (with_reducible refine Below.drew ?_) | (with_reducible refine below_setRow ?_ ?_ _) | (refine Below.trans ?_ (Below.mono (by assumption) ?_)))); all_goals (first | omega | (simp; done) | (simp; omega)))⟩
              · have HB := Lib.hid (HE2.out 0 (by rw [HRB.out, h9]; rfl))
                go_wp2
                go_ret
                exact ⟨ret_int HB.out, by ((repeat (first | (with_reducible exact Below.refl _ _) | (with_reducible assumption) | (with_reducible refine Below.alloc ?_ ?_ _) | (with_reducible refine Below.setCell ?_ ?_ _) | (with_reducible refine Below.drew ?_) | (with_reducible refine below_setRow ?_ ?_ _) | (refine Below.trans ?_ (Below.mono (by assumption) ?_)))); all_goals (first | omega | (simp; done) | (simp; omega)))⟩
            · rw [h5] at kG d3
              rw [h6] at kG d2
              go_wp2_with (first | (go_at_call 78; refine (isKind_any _ _).mono ?_; rintro r w1 ⟨rfl, rfl⟩) | (go_at_call 79; refine (implNumeric_any _ _).mono ?_; rintro r w1 ⟨rfl, rfl⟩))
              refine (implHasMsg_any (some ⟨b, off, none⟩) cap n xs f.msg _ (HH.out.keep hbw) HL.out hn).mono ?_
              rintro r w3 ⟨rfl, hb3⟩
              have hG3 := (hb3.block _ hlG).trans HGx.out
              have kG3 := box_cells hG3; clear hG3 kG kA
              cases h9 : hasId xs f.msg
              · have HB := Lib.hid (HE2.out 9 (by rw [HRB.out, h9]; rfl))
                go_wp2
                go_ret
                exact ⟨ret_int HB.out, by ((repeat (first | (with_reducible exact Below.refl _ _) | (with_reducible assumption) | (with_reducible refine Below.alloc ?_ ?_ _) | (with_reducible refine Below.setCell ?_ ?_ _) | (with_reducible refine Below.drew ?_) | (with_reducible refine below_setRow ?_ ?_ _) | (refine Below.trans ?_ (Below.mono (by assumption) ?_)))); all_goals (first | omega | (simp; done) | (simp; omega)))⟩
              · have HB := Lib.hid (HE2.out 0 (by rw [HRB.out, h9]; rfl))
                go_wp2
                go_ret
                exact ⟨ret_int HB.out, by ((repeat (first | (with_reducible exact Below.refl _ _) | (with_reducible assumption) | (with_reducible refine Below.alloc ?_ ?_ _) | (with_reducible refine Below.setCell ?_ ?_ _) | (with_reducible refine Below.drew ?_) | (with_reducible refine below_setRow ?_ ?_ _) | (refine Below.trans ?_ (Below.mono (by assumption) ?_)))); all_goals (first | omega | (simp; done) | (simp; omega)))⟩
          · have g8 : (f.kind == 8) = false := by simp; omega
            have g8n : (f.kind != 8) = true := by simp; omega
            have HRB := Lib.hid (show refBad xs f = !(f.msg == 0) by rw [refBad, if_neg h8])
            clear h8
            rcases HP with h5 | ⟨h5, h6, h7⟩
            · rw [h5] at kG d3
              by_cases h9 : f.msg = 0
              · have g9 : (f.msg == 0) = true := by simp; omega
                have g9n : (f.msg != 0) = false := by simp; omega
                have HB := Lib.hid (HE2.out 0 (by rw [HRB.out, g9]; rfl))
                clear h9
                go_wp2_with (first | (go_at_call 78; refine (isKind_any _ _).mono ?_; rintro r w1 ⟨rfl, rfl⟩))
                go_ret
                exact ⟨ret_int HB.out, by ((repeat (first | (with_reducible exact Below.refl _ _) | (with_reducible assumption) | (with_reducible refine Below.alloc ?_ ?_ _) | (with_reducible refine Below.setCell ?_ ?_ _) | (with_reducible refine Below.drew ?_) | (with_reducible refine below_setRow ?_ ?_ _) | (refine Below.trans ?_ (Below.mono (by assumption) ?_)))); all_goals (first | omega | (simp; done) | (simp; omega)))⟩
              · have g9 : (f.msg == 0) = false := by simp; omega
                have g9n : (f.msg != 0) = true := by simp; omega
                have HB := Lib.hid (HE2.out 9 (by rw [HRB.out, g9]; rfl))
                clear h9
                go_wp2_with (first | (go_at_call 78; refine (isKind_any _ _).mono ?_; rintro r w1 ⟨rfl, rfl⟩))
                go_ret
                exact ⟨ret_int HB.out, by ((repeat (first | (with_reducible exact Below.refl _ _) | (with_reducible assumption) | (with_reducible refine Below.alloc ?_ ?_ _) | (with_reducible refine Below.setCell ?_ ?_ _) | (with_reducible refine Below.drew ?_) | (with_reducible refine below_setRow ?_ ?_ _) | (refine Below.trans ?_ (Below.mono (by assumption) ?_)))); all_goals (first | omega | (simp; done) | (simp; omega)))⟩
            · rw [h5] at kG d3
              rw [h6] at kG d2
              by_cases h9 : f.msg = 0
              · have g9 : (f.msg == 0) = true := by simp; omega
                have g9n : (f.msg != 0) = false := by simp; omega
                have HB := Lib.hid (HE2.out 0 (by rw [HRB.out, g9]; rfl))
                clear h9
                go_wp2_with (first | (go_at_call 78; refine (isKind_any _ _).mono ?_; rintro r w1 ⟨rfl, rfl⟩) | (go_at_call 79; refine (implNumeric_any _ _).mono ?_; rintro r w1 ⟨rfl, rfl⟩))
                go_ret
                exact ⟨ret_int HB.out, by ((repeat (first | (with_reducible exact Below.refl _ _) | (with_reducible assumption) | (with_reducible refine Below.alloc ?_ ?_ _) | (with_reducible refine Below.setCell ?_ ?_ _) | (with_reducible refine Below.drew ?_) | (with_reducible refine below_setRow ?_ ?_ _) | (refine Below.trans ?_ (Below.mono (by assumption) ?_)))); all_goals (first | omega | (simp; done) | (simp; omega)))⟩
              · have g9 : (f.msg == 0) = false := by simp; omega
                have g9n : (f.msg != 0) = true := by simp; omega
                have HB := Lib.hid (HE2.out 9 (by rw [HRB.out, g9]; rfl))
                clear h9
                go_wp2_with (first | (go_at_call 78; refine (isKind_any _ _).mono ?_; rintro r w1 ⟨rfl, rfl⟩) | (go_at_call 79; refine (implNumeric_any _ _).mono ?_; rintro r w1 ⟨rfl, rfl⟩))
                go_ret
                exact ⟨ret_int HB.out, by ((repeat (first | (with_reducible exact Below.refl _ _) | (with_reducible assumption) | (with_reducible refine Below.alloc ?_ ?_ _) | (with_reducible refine Below.setCell ?_ ?_ _) | (with_reducible refine Below.drew ?_) | (with_reducible refine below_setRow ?_ ?_ _) | (refine Below.trans ?_ (Below.mono (by assumption) ?_)))); all_goals (first | omega | (simp; done) | (simp; omega)))⟩
    · have HB := Lib.hid (show (6 : Int) = R by rw [← HR.out, fldC, if_neg (by rw [h1]; simp), if_pos h2])
      go_wp2
      go_ret
      exact ⟨ret_int HB.out, by ((repeat (first | (with_reducible exact Below.refl _ _) | (with_reducible assumption) | (with_reducible refine Below.alloc ?_ ?_ _) | (with_reducible refine Below.setCell ?_ ?_ _) | (with_reducible refine Below.drew ?_) | (with_reducible refine below_setRow ?_ ?_ _) | (refine Below.trans ?_ (Below.mono (by assumption) ?_)))); all_goals (first | omega | (simp; done) | (simp; omega)))⟩
set_option maxRecDepth 100000 in
set_option maxHeartbeats 4000000 in
theorem implFirst_any (a : Option Addr) (cap n : Nat) (xs : List Shp) (w : World) (h : ShsL w a xs) (hl : xs.length = n) (hn : n ≤ 1048576) (hcap : n ≤ cap) (hm : fldSum xs ≤ 1048576) :
    Calls Try.prog 32 #[.agg #[.slice a n cap]] w fun r w' => r = .returned (vioV (firstV xs)) ∧ Below w.heap.size w w' := by
  have HL := Lib.hid hl; clear hl
  have HH := Lib.hid h; clear h
  obtain ⟨R, hR⟩ : ∃ R, firstV xs = R := ⟨_, rfl⟩
  rw [hR]
  go_enter Try.func32, Try.ntmps32
  by_cases h6 : 6 < n
  · have hR1 : R = (1, 6, -1) := by rw [← hR, firstV, if_pos (by rw [HL.out]; exact h6)]
    subst hR1
    have h6' : (6 : Int) < (n : Int) := by omega
    go_wp2
    refine bodyPost_ret (vio_res (B := w.heap.size + 1) (x := 1) (y := 6) (z := -1) Try.results32 rfl ?_) rfl ⟨rfl, by ((repeat (first | (with_reducible exact Below.refl _ _) | (with_reducible assumption) | (with_reducible refine Below.alloc ?_ ?_ _) | (with_reducible refine Below.setCell ?_ ?_ _) | (with_reducible refine Below.drew ?_) | (with_reducible refine below_setRow ?_ ?_ _) | (refine Below.trans ?_ (Below.mono (by assumption) ?_)))); all_goals (first | omega | (simp; done) | (simp; omega)))⟩
    exact hset_new (by simp)
  · have HR := Lib.hid (show firstM xs 0 (xs.drop 0) = R by rw [← hR, firstV, if_neg (by rw [HL.out]; exact h6)]; rfl)
    have h6' : decide ((6 : Int) < (n : Int)) = false := decide_eq_false (by omega)
    clear hR
    go_wp2
    go_loopw [16] (fun i wr => ∃ k : Nat, k ≤ n ∧ i = .int .i64 k ∧ Hid (firstM xs k (xs.drop k) = R) ∧ wr.heap[w.heap.size]? = some (.cells #[.slice a n cap] 26 (0, 0)) ∧ wr.heap[w.heap.size + 1]? = some (.cells #[.int .i64 0, .int .i64 0, .int .i64 0] 32 (0, 0)) ∧ Below w.heap.size w wr) (fun i _ => n - (intOf i).toNat)
    case atStart => exact ⟨0, Nat.zero_le _, rfl, HR, hset_alloc (hset_new rfl), hset_new (by simp), by ((repeat (first | (with_reducible exact Below.refl _ _) | (with_reducible assumption) | (with_reducible refine Below.alloc ?_ ?_ _) | (with_reducible refine Below.setCell ?_ ?_ _) | (with_reducible refine Below.drew ?_) | (with_reducible refine below_setRow ?_ ?_ _) | (refine Below.trans ?_ (Below.mono (by assumption) ?_)))); all_goals (first | omega | (simp; done) | (simp; omega)))⟩
    case round =>
      obtain ⟨k, hk, rfl, HK, hA, hV, hb⟩ := hrel
      have kA := box_cells hA 0; have kV := box_cells hV; have fV := box_frozen hV; have hlA := box_lt hA; have hlV := box_lt hV
      simp only [List.getElem?_toArray, List.getElem?_cons_zero] at kA
      have HA := Lib.hid hA; have HV := Lib.hid hV; clear hA hV
      by_cases hlt : k < n
      · obtain ⟨x, hx, _⟩ := at_lt (xs := xs) (k := k) (by rw [HL.out]; exact hlt)
        have hfl : x.flds.length ≤ 1048576 := by have := fldSum_ge hx; omega
        have hsl := HH.out.keep hb
        obtain ⟨b, off, a', cap', rfl, hbl, c0, c1, hfs, hcp⟩ := hsl k x hx
        have HX := Lib.hid hx; clear hx
        have HS := Lib.hid hsl; clear hsl hfs
        go_wp2_with fail
        refine (implMsgCode_any (some ⟨b, off, none⟩) cap n k xs x _ (HS.out.keep (by ((repeat (first | (with_reducible exact Below.refl _ _) | (with_reducible assumption) | (with_reducible refine Below.alloc ?_ ?_ _) | (with_reducible refine Below.setCell ?_ ?_ _) | (with_reducible refine Below.drew ?_) | (with_reducible refine below_setRow ?_ ?_ _) | (refine Below.trans ?_ (Below.mono (by assumption) ?_)))); all_goals (first | omega | (simp; done) | (simp; omega))))) HL.out hn hcap HX.out hlt hfl).mono ?_
        rintro r w1 ⟨rfl, hb1⟩
        have hA1 := (hb1.block _ (by simp; omega)).trans (hset_alloc HA.out)
        have hV1 := (hb1.block _ (by simp; omega)).trans (hset_alloc HV.out)
        have hM1 := (hb1.block wr.heap.size (by simp)).trans (hset_new (o := .cells #[.int .i64 x.id, .slice a' x.flds.length cap'] 40) (by simp))
        have hz1 := hb1.size
        simp only [World.size_alloc] at hz1
        have hbq : Below wr.heap.size wr w1 := by ((repeat (first | (with_reducible exact Below.refl _ _) | (with_reducible assumption) | (with_reducible refine Below.alloc ?_ ?_ _) | (with_reducible refine Below.setCell ?_ ?_ _) | (with_reducible refine Below.drew ?_) | (with_reducible refine below_setRow ?_ ?_ _) | (refine Below.trans ?_ (Below.mono (by assumption) ?_)))); all_goals (first | omega | (simp; done) | (simp; omega)))
        have hbw1 : Below w.heap.size w w1 := hb.trans (hbq.mono hb.size)
        have HS1 := Lib.hid (HS.out.keep hbq)
        have kM := box_cells hM1
        clear kA kV fV hlA hlV c0 c1 hb hb1 hbq HS HA HV hbl hM1
        have kA := box_cells hA1 0; have kV := box_cells hV1; have fV := box_frozen hV1; have hlA := box_lt hA1; have hlV := box_lt hV1
        simp only [List.getElem?_toArray, List.getElem?_cons_zero] at kA
        have HA := Lib.hid hA1; have HV := Lib.hid hV1; clear hA1 hV1
        by_cases hz : msgC xs k x = 0
        · obtain ⟨O, hO⟩ : ∃ O, firstF xs k x.flds 0 x.flds = O := ⟨_, rfl⟩
          have HM := fM_ok HK.out HX.out hz
          rw [hO] at HM
          have HMx := Lib.hid HM; clear HM
          have HO := Lib.hid (show firstF xs k x.flds 0 (x.flds.drop 0) = O from hO); clear hO
          have hz' : (msgC xs k x != 0) = false := by simp [hz]
          rw [hz]
          clear hz hz'
          go_wp2
          obtain ⟨wo, hwo⟩ : ∃ wo : World, wo = w1 := ⟨_, rfl⟩
          rw [← hwo] at HA HV hbw1 HS1 kA kV fV hlA hlV ⊢
          clear kM hz1
          clear hwo
          go_loopw [32] (fun j wi => ∃ q : Nat, q ≤ x.flds.length ∧ j = .int .i64 q ∧ Hid (firstF xs k x.flds q (x.flds.drop q) = O) ∧ Below wo.heap.size wo wi) (fun j _ => x.flds.length - (intOf j).toNat)
          case atStart => exact ⟨0, Nat.zero_le _, rfl, HO, Below.refl _ _⟩
          case round =>
            obtain ⟨q, hq, rfl, HQ, hbi⟩ := hrel
            obtain ⟨wi, hwi⟩ : ∃ wi : World, wi = wr := ⟨_, rfl⟩
            rw [← hwi] at hbi ⊢
            clear hwi
            have hAi := (hbi.block _ hlA).trans HA.out
            have hVi := (hbi.block _ hlV).trans HV.out
            have hbwi : Below w.heap.size w wi := hbw1.trans (hbi.mono hbw1.size)
            have HSi := Lib.hid (HS1.out.keep hbi)
            clear kA kV fV
            have kA := box_cells hAi 0; have kV := box_cells hVi; have fV := box_frozen hVi; have hlAi := box_lt hAi; have hlVi := box_lt hVi
            simp only [List.getElem?_toArray, List.getElem?_cons_zero] at kA
            have HVi := Lib.hid hVi; clear hVi hAi
            by_cases hlq : q < x.flds.length
            · obtain ⟨f, hf, _⟩ := at_lt (xs := x.flds) (k := q) hlq
              have HF := Lib.hid hf; clear hf
              go_wp2_with fail
              refine (implFieldCode_any (some ⟨b, off, none⟩) cap n k q xs x f wi HSi.out HL.out hn HX.out hlt hfl HF.out hlq).mono ?_
              rintro r w3 ⟨rfl, hb3⟩
              have hV3 := (hb3.block _ hlVi).trans HVi.out
              have hbw3 : Below w.heap.size w w3 := hbwi.trans (hb3.mono hbwi.size)
              have kV3 := box_cells hV3; have fV3 := box_frozen hV3; have hlV3 := box_lt hV3
              have HV3 := Lib.hid hV3; clear hV3 kV fV
              by_cases hz : fldC xs x.flds q f = 0
              · rw [hz]
                have HQ2 := Lib.hid (fF_ok HQ.out HF.out hz)
                clear hz
                go_wp2
                go_roundw
                case rel => exact ⟨q + 1, by omega, by go_num, HQ2, hbi.trans (hb3.mono hbi.size)⟩
                case measure => simp [intOf]; omega
              · have hO2 := fF_bad HQ.out HF.out hz
                have hR2 : (fldC xs x.flds q f, (k : Int), (q : Int)) = R := by have := HMx.out; rw [← hO2] at this; exact this
                have HR2 := Lib.hid hR2; clear hR2 hO2
                have gz : (fldC xs x.flds q f == 0) = false := by simp [hz]
                have gzn : (fldC xs x.flds q f != 0) = true := by simp [hz]
                clear hz
                go_wp2
                refine bodyPost_ret (vio_res (B := w.heap.size + 1) (x := fldC xs x.flds q f) (y := k) (z := q) Try.results32 rfl ?_) rfl ⟨?_, by ((repeat (first | (with_reducible exact Below.refl _ _) | (with_reducible assumption) | (with_reducible refine Below.alloc ?_ ?_ _) | (with_reducible refine Below.setCell ?_ ?_ _) | (with_reducible refine Below.drew ?_) | (with_reducible refine below_setRow ?_ ?_ _) | (refine Below.trans ?_ (Below.mono (by assumption) ?_)))); all_goals (first | omega | (simp; done) | (simp; omega)))⟩
                · apply hset_eq (hset_set (hset_set (hset_set HV3.out))); simp only [List.setIfInBounds_toArray, List.set_cons_zero, List.set_cons_succ]
                · rw [← HR2.out]; rfl
            · have hO2 := fF_end HQ.out (by omega)
              have HK2 := Lib.hid (show firstM xs (k + 1) (xs.drop (k + 1)) = R by have := HMx.out; rw [← hO2] at this; exact this)
              clear hO2
              go_wp2
              go_roundw
              case rel => exact ⟨k + 1, by omega, by go_num, HK2, (hbi.block _ hlA).trans HA.out, HVi.out, hbwi⟩
              case measure => simp [intOf]; omega
        · have hR2 := fM_bad HK.out HX.out hz
          have HR2 := Lib.hid hR2; clear hR2
          have gz : (msgC xs k x == 0) = false := by simp [hz]
          have gzn : (msgC xs k x != 0) = true := by simp [hz]
          clear hz
          go_wp2
          refine bodyPost_ret (vio_res (B := w.heap.size + 1) (x := msgC xs k x) (y := k) (z := -1) Try.results32 rfl ?_) rfl ⟨?_, by ((repeat (first | (with_reducible exact Below.refl _ _) | (with_reducible assumption) | (with_reducible refine Below.alloc ?_ ?_ _) | (with_reducible refine Below.setCell ?_ ?_ _) | (with_reducible refine Below.drew ?_) | (with_reducible refine below_setRow ?_ ?_ _) | (refine Below.trans ?_ (Below.mono (by assumption) ?_)))); all_goals (first | omega | (simp; done) | (simp; omega)))⟩
          · apply hset_eq (hset_set (hset_set (hset_set HV.out))); simp only [List.setIfInBounds_toArray, List.set_cons_zero, List.set_cons_succ]
          · rw [← HR2.out]; rfl
      · obtain rfl : k = n := by omega
        have hR2 := fM_end HK.out (by rw [HL.out]; omega)
        have HR2 := Lib.hid hR2; clear hR2
        go_wp2
        refine bodyPost_ret (vio_res (B := w.heap.size + 1) (x := 0) (y := 0) (z := 0) Try.results32 rfl ?_) rfl ⟨?_, by ((repeat (first | (with_reducible exact Below.refl _ _) | (with_reducible assumption) | (with_reducible refine Below.alloc ?_ ?_ _) | (with_reducible refine Below.setCell ?_ ?_ _) | (with_reducible refine Below.drew ?_) | (with_reducible refine below_setRow ?_ ?_ _) | (refine Below.trans ?_ (Below.mono (by assumption) ?_)))); all_goals (first | omega | (simp; done) | (simp; omega)))⟩
        · apply hset_eq (hset_set (hset_set (hset_set HV.out))); simp only [List.setIfInBounds_toArray, List.set_cons_zero, List.set_cons_succ]
        · rw [← HR2.out]; rfl
end Go.Proofs.Ytbpilecgnfnndaa
namespace Go.Proofs.Ytbpilecgnfnndaa
set_option linter.unusedSimpArgs false
set_option linter.unusedVariables false
open Go.ChangeShapes Go.WideShapes Go.ChangeAt Go.RowKit Go.BigFrame Go.Sort
theorem sortInts_own (B g cap n : Nat) (zs : List Int) (w : World) (h : w.ownsRow B 3 1 (.slice (some ⟨g, 0, none⟩) n cap) n (zs.map (Value.int .i64))) (hl : zs.length = n) (hn : n ≤ 1000) :
    Calls Try.prog 33 #[.slice (some ⟨g, 0, none⟩) n cap] w fun r w' => r = .returned (.tuple #[]) ∧ w'.ownsRow B 3 1 (.slice (some ⟨g, 0, none⟩) n cap) n ((sortI zs).map (Value.int .i64)) ∧ w.grownBy w' (some g) := by
  subst hl
  rcases h.2 with ⟨h0, _⟩ | ⟨g', cap', cur, hv, hg, hb, hn1, hcap, hsz, ht⟩
  · cases h0
  · simp only [Value.slice.injEq, Option.some.injEq, Addr.mk.injEq, and_true] at hv
    obtain ⟨rfl, _, rfl⟩ := hv
    have hH := holds_of_blockI hb (by simpa using ht)
    refine (Try.slices_Sort_int g 0 cap zs w hH (block_lt hb) (by omega)).mono ?_
    rintro e w' ⟨rfl, n, os, rfl⟩
    exact ⟨rfl, ownsRow_sortedI (by simp [sortI_len]) hg hb hn1 hcap hsz, grownBy_sortedI _⟩
theorem index_own (B g cap n : Nat) (zs : List Int) (x : Int) (w : World) (h : w.ownsRow B 3 1 (.slice (some ⟨g, 0, none⟩) n cap) n (zs.map (Value.int .i64))) (hl : zs.length = n) (hn : n ≤ 1000) :
    Calls Try.prog 36 #[.slice (some ⟨g, 0, none⟩) n cap, .int .i64 x] w fun r w' => r = .returned (.int .i64 (Lib.idxOf zs x)) ∧ w = w' := by
  have hc : ∀ j, j < zs.length → w.cell? ⟨g, 0 + j, none⟩ = some (.int .i64 (zs.getD j 0)) := fun j hj => by
    rw [Nat.zero_add]
    exact own_at h (by rw [List.getElem?_map, List.getD_eq_getElem?_getD, List.getElem?_eq_getElem hj]; rfl)
  refine (Try.slices_Index_int g 0 n cap zs x w (by omega) (by omega) hc).mono ?_
  rintro e w' ⟨rfl, rfl⟩
  exact ⟨by rw [List.take_of_length_le (by omega)], rfl⟩
theorem RawVal.id_inj {xs : List Shp} (h : RawVal xs) {x y : Shp} (hx : x ∈ xs) (hy : y ∈ xs) (e : x.id = y.id) : x = y := by
  obtain ⟨p, hp⟩ := List.getElem?_of_mem hx
  obtain ⟨q, hq⟩ := List.getElem?_of_mem hy
  have hn := h.nodup
  rw [List.nodup_iff_pairwise_ne, List.pairwise_iff_getElem] at hn
  obtain ⟨hpl, hpe⟩ := List.getElem?_eq_some_iff.1 hp
  obtain ⟨hql, hqe⟩ := List.getElem?_eq_some_iff.1 hq
  rcases Nat.lt_trichotomy p q with hlt | rfl | hlt
  · exact (hn p q (by simpa using hpl) (by simpa using hql) hlt (by simp only [List.getElem_map, hpe, hqe, e])).elim
  · rw [hp] at hq; exact Option.some.inj hq
  · exact (hn q p (by simpa using hql) (by simpa using hpl) hlt (by simp only [List.getElem_map, hpe, hqe, e])).elim
theorem shAt_first {id : Int} : ∀ {rest : List Shp} {k : Nat} {x : Shp}, x ∈ rest → x.id = id → ∃ (j : Nat) (y : Shp), rest[j]? = some y ∧ y.id = id ∧ shAt id k rest = ((k + j : Nat) : Int)
  | z :: rest, k, x, hx, e => by
    by_cases hz : z.id = id
    · exact ⟨0, z, rfl, hz, by rw [shAt, if_pos hz]; simp⟩
    · have hr : x ∈ rest := by
        rcases List.mem_cons.1 hx with rfl | hr
        · exact absurd e hz
        · exact hr
      obtain ⟨j, y, h1, h2, h3⟩ := shAt_first (k := k + 1) hr e
      exact ⟨j + 1, y, by simpa using h1, h2, by rw [shAt, if_neg hz, h3]; omega⟩
theorem RawVal.shAt_val {xs : List Shp} (h : RawVal xs) {x : Shp} (hx : x ∈ xs) : ∃ j : Nat, xs[j]? = some x ∧ shAt x.id 0 xs = j := by
  obtain ⟨j, y, h1, h2, h3⟩ := shAt_first (k := 0) hx rfl
  have := h.id_inj (List.mem_of_getElem? h1) hx h2
  subst this
  exact ⟨j, h1, by simpa using h3⟩
theorem own_some {w : World} {base n size : Nat} {t : TypeId} {v : Value} {L : List Value} (h : w.ownsRow base t size v n L) (hn : 0 < n) : ∃ g cap, v = .slice (some ⟨g, 0, none⟩) n cap ∧ base ≤ g := by
  rcases h.2 with ⟨_, h0⟩ | ⟨g, c, cur, e, hb, _⟩
  · omega
  · exact ⟨g, c, e, hb⟩
theorem ids_snoc {xs : List Shp} {k : Nat} {x : Shp} (hx : xs[k]? = some x) : ((xs.take (k + 1)).map Shp.id).map (Value.int .i64) = ((xs.take k).map Shp.id).map (Value.int .i64) ++ [.int .i64 x.id] := by
  rw [List.take_add_one, hx]; simp
theorem info_Int : (Try.prog.info? 3).map (fun i => (i.zero, i.size, i.bytes)) = some (some (.int .i64 0), 1, 8) := by kernel_rfl
end Go.Proofs.Ytbpilecgnfnndaa
