/- Texts that FnRawText leans on, part 4. (Put together by wip/tools/bundle.py.) -/
import Derived.Lib.Join
import Derived.Deep.AppendLies
import Derived.Test.YtbjbgneiglopmaaGreatDoorFnRT1
import Derived.Test.YtbjbgneiglopmaaGreatDoorFnRT2
import Derived.Test.YtbjbgneiglopmaaGreatDoorFnRT3
namespace Go.Proofs.YtbjbgneiglopmaaGreatDoor
set_option linter.unusedSimpArgs false
set_option linter.unusedVariables false
open Go.ChangeShapes Go.WideShapes Go.ChangeAt Go.RowKit Go.BigFrame
def msgL (x : Shp) : List UInt8 := Lib.itoa x.id ++ [58] ++ Lib.join (x.flds.map fieldL) [44]
def txtL (xs : List Shp) : List UInt8 := Lib.join (xs.map msgL) [59]
theorem join_snoc (l : List (List UInt8)) (y sep : List UInt8) : Lib.join (l ++ [y]) sep = Lib.join l sep ++ ((if l = [] then [] else sep) ++ y) := by
  cases l with
  | nil => simp [Lib.join_one, Lib.join_nil]
  | cons x r => rw [List.cons_append, Lib.join_cons, Lib.join_cons, if_neg (by simp)]; simp [Lib.joinTail]
theorem join_len (sep : List UInt8) (m : Nat) : ∀ (l : List (List UInt8)), (∀ x ∈ l, x.length ≤ m) → (Lib.join l sep).length ≤ (m + sep.length) * l.length
  | [], _ => by simp [Lib.join_nil]
  | x :: r, h => by
    rw [Lib.join_cons]
    have hx := h x (List.mem_cons_self ..)
    have ht : (Lib.joinTail sep r).length ≤ (m + sep.length) * r.length := by
      have hr : ∀ y ∈ r, y.length ≤ m := fun y hy => h y (List.mem_cons_of_mem _ hy)
      clear h hx
      induction r with
      | nil => simp [Lib.joinTail]
      | cons y r ih =>
        have := ih fun z hz => hr z (List.mem_cons_of_mem _ hz)
        have hy := hr y (List.mem_cons_self ..)
        simp only [Lib.joinTail, List.map_cons, List.flatten_cons, List.length_append, List.length_cons, Nat.mul_succ] at this ⊢
        omega
    simp only [List.length_append, List.length_cons, Nat.mul_succ]
    omega
theorem fieldL_len (f : Fld) : (fieldL f).length ≤ 70 := by
  cases h : fieldOkT f
  · rw [fieldL_bad h]; simp
  · rw [fieldL_ok h]
    have h' := h
    simp only [fieldOkT, Bool.and_eq_true] at h'
    have hA := itoa_len h'.1
    have hK := kindL_len f.kind
    by_cases h8 : f.kind = 8
    · have hm := h'.2.2
      rw [if_pos h8] at hm
      have hm' : 1 ≤ f.msg ∧ f.msg ≤ 99 := by simpa [inB] using hm
      have hM := Lib.itoa_length_le f.msg (by omega) (by omega)
      rw [if_pos h8]
      simp only [List.length_append]
      split <;> split <;> simp <;> omega
    · rw [if_neg h8]
      simp only [List.length_append]
      split <;> split <;> simp <;> omega
structure TxB (xs : List Shp) : Prop where
  n : xs.length ≤ 7
  len : ∀ x ∈ xs, x.flds.length ≤ 14
  id : ∀ x ∈ xs, -9223372036854775808 ≤ x.id ∧ x.id ≤ 9223372036854775807
theorem flds_len {fs : List Fld} (h : fs.length ≤ 14) : (Lib.join (fs.map fieldL) [44]).length ≤ 1000 := by
  have := join_len [44] 70 (fs.map fieldL) (by intro x hx; obtain ⟨f, _, rfl⟩ := List.mem_map.1 hx; exact fieldL_len f)
  simp only [List.length_map, List.length_cons, List.length_nil] at this
  omega
theorem TxB.msg {xs : List Shp} (h : TxB xs) {x : Shp} (hx : x ∈ xs) : (msgL x).length ≤ 1100 := by
  have h1 := flds_len (h.len x hx)
  obtain ⟨h2, h3⟩ := h.id x hx
  have h4 := Lib.itoa_length_le x.id h2 h3
  simp only [msgL, List.length_append, List.length_cons, List.length_nil]
  omega
theorem TxB.txt {xs : List Shp} (h : TxB xs) (k : Nat) : (txtL (xs.take k)).length ≤ 8000 := by
  have := join_len [59] 1100 ((xs.take k).map msgL) (by intro y hy; obtain ⟨x, hx, rfl⟩ := List.mem_map.1 hy; exact h.msg (List.mem_of_mem_take hx))
  simp only [List.length_map, List.length_cons, List.length_nil, List.length_take] at this
  have hn := h.n
  have : min k xs.length ≤ 7 := by omega
  simp only [txtL]
  omega
theorem txt_snoc {xs : List Shp} {k : Nat} {x : Shp} (hx : xs[k]? = some x) : txtL (xs.take (k + 1)) = txtL (xs.take k) ++ ((if k = 0 then [] else [59]) ++ msgL x) := by
  rw [txtL, List.take_add_one, hx, Option.toList_some, List.map_append, List.map_cons, List.map_nil, join_snoc]
  have hk := (List.getElem?_eq_some_iff.1 hx).1
  congr 2
  by_cases h0 : k = 0
  · subst h0; simp
  · rw [if_neg h0, if_neg]
    intro e
    have := congrArg List.length e
    simp only [List.length_map, List.length_take, List.length_nil] at this
    omega
theorem fld_snoc {fs : List Fld} {k : Nat} {f : Fld} (hf : fs[k]? = some f) : Lib.join ((fs.take (k + 1)).map fieldL) [44] = Lib.join ((fs.take k).map fieldL) [44] ++ ((if k = 0 then [] else [44]) ++ fieldL f) := by
  rw [List.take_add_one, hf, Option.toList_some, List.map_append, List.map_cons, List.map_nil, join_snoc]
  have hk := (List.getElem?_eq_some_iff.1 hf).1
  congr 2
  by_cases h0 : k = 0
  · subst h0; simp
  · rw [if_neg h0, if_neg]
    intro e
    have := congrArg List.length e
    simp only [List.length_map, List.length_take, List.length_nil] at this
    omega
theorem fld_take_len {fs : List Fld} (h : fs.length ≤ 14) (k : Nat) : (Lib.join ((fs.take k).map fieldL) [44]).length ≤ 1000 := flds_len (by rw [List.length_take]; omega)
def sepK (k : Nat) : List UInt8 := if k = 0 then [] else [59]
def sepF (k : Nat) : List UInt8 := if k = 0 then [] else [44]
theorem shs_lookT {w : World} {b off k : Nat} {x : Shp} {xs : List Shp} (h : Shs w (some ⟨b, off, none⟩) xs) (hx : xs[k]? = some x) : ∃ a' cap', b < w.heap.size ∧ w.cell? ⟨b, off + k * 2, none⟩ = some (.int .i64 x.id) ∧ w.cell? ⟨b, off + k * 2 + 1, none⟩ = some (.slice a' x.flds.length cap') ∧ Flds w a' x.flds := by
  obtain ⟨b', off', a', cap', e, hl, c0, c1, hf⟩ := Shs.at h hx
  simp only [Option.some.injEq, Addr.mk.injEq, and_true] at e
  obtain ⟨rfl, rfl⟩ := e
  exact ⟨a', cap', hl, c0, c1, hf⟩
set_option maxRecDepth 100000 in
set_option maxHeartbeats 8000000 in
theorem l9Text_any (a : Option Addr) (cap n : Nat) (xs : List Shp) (w : World) (h : Shs w a xs) (hx : xs.length = n) (hB : TxB xs) :
    Calls Tryz.prog 35 #[.agg #[.slice a n cap]] w fun r w' => r = .returned (.string (sB (txtL xs))) ∧ Below w.heap.size w w' := by
  have HX := Lib.hid hx; clear hx
  have HSs := Lib.hid h; clear h
  have hn7 : n ≤ 7 := by have := hB.n; have := HX.out; omega
  have HBb := Lib.hid hB; clear hB
  go_enter Tryz.func35, Tryz.ntmps35
  go_wp2_with fail
  go_loopw [3, 4] (fun sv i wr => ∃ k : Nat, k ≤ n ∧ i = .int .i64 k ∧ (∃ l, sv = .string ⟨l.toArray⟩ ∧ Hid (l = txtL (xs.take k))) ∧ wr.cell? ⟨w.heap.size, 0, none⟩ = some (.slice a n cap) ∧ w.heap.size < wr.heap.size ∧ Below w.heap.size w wr) (fun _ i _ => n - (intOf i).toNat)
  case atStart => exact ⟨0, Nat.zero_le _, rfl, ⟨[], rfl, Lib.hid (by simp [txtL, Lib.join_nil])⟩, box_cells (hset_new rfl) 0, by simp, by ((repeat (first | (with_reducible exact Below.refl _ _) | (with_reducible assumption) | (with_reducible refine Below.alloc ?_ ?_ _) | (with_reducible refine Below.setCell ?_ ?_ _) | (with_reducible refine Below.drew ?_) | (with_reducible refine below_setRow ?_ ?_ _) | (refine Below.trans ?_ (Below.mono (by assumption) ?_)))); all_goals (first | omega | (simp; done) | (simp; omega)))⟩
  case round =>
    obtain ⟨k, hk, rfl, ⟨l, rfl, HL⟩, kB, hBl, hb⟩ := hrel
    by_cases hlt : k < n
    · obtain ⟨x, hx, hxm⟩ := at_lt (xs := xs) (k := k) (by rw [HX.out]; exact hlt)
      have hl8 : l.length ≤ 8000 := by rw [HL.out]; exact HBb.out.txt k
      have hx14 := HBb.out.len x hxm
      obtain ⟨hi0, hi1⟩ := HBb.out.id x hxm
      have HXk := Lib.hid hx; clear hx
      have hSs := HSs.out.below hb (Nat.le_refl _)
      obtain ⟨b, off, a', cap', rfl, hbl, c0, c1, hfs⟩ := Shs.at hSs HXk.out
      have HFs := Lib.hid hfs; clear hfs hSs
      have hD := Lib.itoa_length_le x.id hi0 hi1
      obtain ⟨D, hDe⟩ : ∃ D, Lib.itoa x.id = D := ⟨_, rfl⟩
      have hdig : ∀ W : World, Calls Tryz.prog 61 #[.int .i64 x.id] W fun r w' => r = .returned (.string ⟨D.toArray⟩) ∧ Below W.heap.size W w' := fun W => by
        have := specDigits_any x.id W hi0 hi1
        rw [numB, hDe] at this; exact this
      rw [hDe] at hD
      have HDE := Lib.hid hDe; clear hDe
      have ee : ¬ 9223372036854775807 < l.length + 1 := by omega
      have hcat0 := bytes_cat l [59]
      obtain ⟨l', hl', HL', hcase⟩ : ∃ l', l'.length ≤ 8001 ∧ Hid (l' = txtL (xs.take k) ++ sepK k) ∧ ((k = 0 ∧ l' = l) ∨ (0 < k ∧ l' = l ++ [59])) := by
        by_cases h0 : k = 0
        · exact ⟨l, by omega, Lib.hid (by rw [HL.out, sepK, if_pos h0]; simp), .inl ⟨h0, rfl⟩⟩
        · exact ⟨l ++ [59], by simp; omega, Lib.hid (by rw [HL.out, sepK, if_neg h0]), .inr ⟨by omega, rfl⟩⟩
      have e1 : ¬ 9223372036854775807 < l'.length + D.length := by omega
      have e2 : ¬ 9223372036854775807 < l'.length + D.length + 1 := by omega
      have hcat : ((⟨l'.toArray⟩ : ByteArray) ++ ⟨D.toArray⟩) ++ ⟨[58].toArray⟩ = ⟨(l' ++ D ++ [58]).toArray⟩ := by rw [bytes_cat, bytes_cat]
      rcases hcase with ⟨h0, hll⟩ | ⟨h0, hll⟩
      · subst hll
        have hk0 : ¬ 0 < k := by omega
        clear h0
        go_wp2_with fail
        refine (hdig _).mono ?_
        rintro r w1 ⟨rfl, hb1⟩
        have kB1 := (hb1.cell (p := ⟨w.heap.size, 0, none⟩) hBl).trans kB
        have hBl1 := Nat.lt_of_lt_of_le hBl hb1.size
        have hT1 : Below w.heap.size w w1 := hb.trans (hb1.mono hb.size)
        obtain ⟨P, hP⟩ : ∃ P, l' ++ D ++ [58] = P := ⟨_, rfl⟩
        have hPl : P.length ≤ 8100 := by rw [← hP]; simp; omega
        have HP := Lib.hid (show P = txtL (xs.take k) ++ sepK k ++ Lib.itoa x.id ++ [58] by rw [← hP, HL'.out, HDE.out])
        rw [hP] at hcat
        clear hP HL' HDE hdig hb1 hD hl8
        go_wp2_with fail
        go_loopw [3, 5] (fun sv j wi => ∃ q : Nat, q ≤ x.flds.length ∧ j = .int .i64 q ∧ (∃ l, sv = .string ⟨l.toArray⟩ ∧ Hid (l = P ++ Lib.join ((x.flds.take q).map fieldL) [44])) ∧ wi.cell? ⟨w.heap.size, 0, none⟩ = some (.slice (some ⟨b, off, none⟩) n cap) ∧ w.heap.size < wi.heap.size ∧ Below w.heap.size w wi) (fun _ j _ => x.flds.length - (intOf j).toNat)
        case atStart => exact ⟨0, Nat.zero_le _, rfl, ⟨P, rfl, Lib.hid (by simp [Lib.join_nil])⟩, kB1, hBl1, hT1⟩
        case round =>
          clear kB hBl c0 c1 hbl HFs e1 e2 ee hcat0 hcat hb kB1 hBl1 hT1
          obtain ⟨q, hq, rfl, ⟨m, rfl, HM⟩, kB, hBl, hbi⟩ := hrel
          have hSs := HSs.out.below hbi (Nat.le_refl _)
          obtain ⟨a2, cap2, hbl, c0, c1, hfs⟩ := shs_lookT hSs HXk.out
          have hml : m.length ≤ 9100 := by rw [HM.out]; have := fld_take_len hx14 q; simp only [List.length_append]; omega
          by_cases hlq : q < x.flds.length
          · obtain ⟨f, hf, hfm⟩ := at_lt (xs := x.flds) (k := q) hlq
            obtain ⟨b3, off3, rfl, hl3, d0, d1, d2, d3, d4⟩ := Flds.at hfs hf
            have HFk := Lib.hid hf
            have hGl := fieldL_len f
            obtain ⟨G, hG⟩ : ∃ G, fieldL f = G := ⟨_, rfl⟩
            have hft : ∀ W : World, Calls Tryz.prog 38 #[.agg #[.int .i64 f.number, .int .i64 f.kind, .bool f.rep, .bool f.packed, .int .i64 f.msg]] W fun r w' => r = .returned (.string ⟨G.toArray⟩) ∧ Below W.heap.size W w' := fun W => by
              have := specFieldText_any f W
              rw [sB, hG] at this; exact this
            rw [hG] at hGl
            have HG := Lib.hid hG; clear hG hf hfm hfs hSs
            have ee : ¬ 9223372036854775807 < m.length + 1 := by omega
            have hcat0 := bytes_cat m [44]
            obtain ⟨m', hm', HM', hcase⟩ : ∃ m', m'.length ≤ 9101 ∧ Hid (m' = P ++ Lib.join ((x.flds.take q).map fieldL) [44] ++ sepF q) ∧ ((q = 0 ∧ m' = m) ∨ (0 < q ∧ m' = m ++ [44])) := by
              by_cases h0 : q = 0
              · exact ⟨m, by omega, Lib.hid (by rw [HM.out, sepF, if_pos h0]; simp), .inl ⟨h0, rfl⟩⟩
              · exact ⟨m ++ [44], by simp; omega, Lib.hid (by rw [HM.out, sepF, if_neg h0]), .inr ⟨by omega, rfl⟩⟩
            have e1 : ¬ 9223372036854775807 < m'.length + G.length := by omega
            have hqn : (q : Int) < (x.flds.length : Int) := by omega
            rcases hcase with ⟨h0, hmm⟩ | ⟨h0, hmm⟩
            · subst hmm
              have hq0 : ¬ 0 < q := by omega
              clear h0
              go_wp2_with fail
              refine (hft _).mono ?_
              rintro r w2 ⟨rfl, hb2⟩
              have kB2 := (hb2.cell (p := ⟨w.heap.size, 0, none⟩) hBl).trans kB
              have hBl2 := Nat.lt_of_lt_of_le hBl hb2.size
              have hT2 : Below w.heap.size w w2 := hbi.trans (hb2.mono hbi.size)
              have hcat3 := bytes_cat m' G
              obtain ⟨M2, hM2⟩ : ∃ M2, m' ++ G = M2 := ⟨_, rfl⟩
              rw [hM2] at hcat3
              have HM2 := Lib.hid (show M2 = P ++ Lib.join ((x.flds.take (q + 1)).map fieldL) [44] by rw [← hM2, HM'.out, fld_snoc HFk.out, ← HG.out, sepF]; simp [List.append_assoc])
              clear hM2
              go_wp2_with fail
              go_roundw
              case rel => exact ⟨q + 1, by omega, by go_num, ⟨M2, rfl, HM2⟩, kB2, hBl2, hT2⟩
              case measure => simp [intOf]; omega
            · rw [← hmm] at hcat0
              clear hmm
              go_wp2_with fail
              refine (hft _).mono ?_
              rintro r w2 ⟨rfl, hb2⟩
              have kB2 := (hb2.cell (p := ⟨w.heap.size, 0, none⟩) hBl).trans kB
              have hBl2 := Nat.lt_of_lt_of_le hBl hb2.size
              have hT2 : Below w.heap.size w w2 := hbi.trans (hb2.mono hbi.size)
              have hcat3 := bytes_cat m' G
              obtain ⟨M2, hM2⟩ : ∃ M2, m' ++ G = M2 := ⟨_, rfl⟩
              rw [hM2] at hcat3
              have HM2 := Lib.hid (show M2 = P ++ Lib.join ((x.flds.take (q + 1)).map fieldL) [44] by rw [← hM2, HM'.out, fld_snoc HFk.out, ← HG.out, sepF]; simp [List.append_assoc])
              clear hM2
              go_wp2_with fail
              go_roundw
              case rel => exact ⟨q + 1, by omega, by go_num, ⟨M2, rfl, HM2⟩, kB2, hBl2, hT2⟩
              case measure => simp [intOf]; omega
          · have HN := Lib.hid (show m = txtL (xs.take (k + 1)) by rw [HM.out, List.take_of_length_le (by omega), HP.out, txt_snoc HXk.out, msgL, sepK]; simp [List.append_assoc])
            clear hfs hSs
            go_wp2_with fail
            go_roundw
            case rel => exact ⟨k + 1, by omega, by go_num, ⟨m, rfl, HN⟩, kB, hBl, hbi⟩
            case measure => simp [intOf]; omega
      · rw [← hll] at hcat0
        clear hll
        go_wp2_with fail
        refine (hdig _).mono ?_
        rintro r w1 ⟨rfl, hb1⟩
        have kB1 := (hb1.cell (p := ⟨w.heap.size, 0, none⟩) hBl).trans kB
        have hBl1 := Nat.lt_of_lt_of_le hBl hb1.size
        have hT1 : Below w.heap.size w w1 := hb.trans (hb1.mono hb.size)
        obtain ⟨P, hP⟩ : ∃ P, l' ++ D ++ [58] = P := ⟨_, rfl⟩
        have hPl : P.length ≤ 8100 := by rw [← hP]; simp; omega
        have HP := Lib.hid (show P = txtL (xs.take k) ++ sepK k ++ Lib.itoa x.id ++ [58] by rw [← hP, HL'.out, HDE.out])
        rw [hP] at hcat
        clear hP HL' HDE hdig hb1 hD hl8
        go_wp2_with fail
        go_loopw [3, 5] (fun sv j wi => ∃ q : Nat, q ≤ x.flds.length ∧ j = .int .i64 q ∧ (∃ l, sv = .string ⟨l.toArray⟩ ∧ Hid (l = P ++ Lib.join ((x.flds.take q).map fieldL) [44])) ∧ wi.cell? ⟨w.heap.size, 0, none⟩ = some (.slice (some ⟨b, off, none⟩) n cap) ∧ w.heap.size < wi.heap.size ∧ Below w.heap.size w wi) (fun _ j _ => x.flds.length - (intOf j).toNat)
        case atStart => exact ⟨0, Nat.zero_le _, rfl, ⟨P, rfl, Lib.hid (by simp [Lib.join_nil])⟩, kB1, hBl1, hT1⟩
        case round =>
          clear kB hBl c0 c1 hbl HFs e1 e2 ee hcat0 hcat hb kB1 hBl1 hT1
          obtain ⟨q, hq, rfl, ⟨m, rfl, HM⟩, kB, hBl, hbi⟩ := hrel
          have hSs := HSs.out.below hbi (Nat.le_refl _)
          obtain ⟨a2, cap2, hbl, c0, c1, hfs⟩ := shs_lookT hSs HXk.out
          have hml : m.length ≤ 9100 := by rw [HM.out]; have := fld_take_len hx14 q; simp only [List.length_append]; omega
          by_cases hlq : q < x.flds.length
          · obtain ⟨f, hf, hfm⟩ := at_lt (xs := x.flds) (k := q) hlq
            obtain ⟨b3, off3, rfl, hl3, d0, d1, d2, d3, d4⟩ := Flds.at hfs hf
            have HFk := Lib.hid hf
            have hGl := fieldL_len f
            obtain ⟨G, hG⟩ : ∃ G, fieldL f = G := ⟨_, rfl⟩
            have hft : ∀ W : World, Calls Tryz.prog 38 #[.agg #[.int .i64 f.number, .int .i64 f.kind, .bool f.rep, .bool f.packed, .int .i64 f.msg]] W fun r w' => r = .returned (.string ⟨G.toArray⟩) ∧ Below W.heap.size W w' := fun W => by
              have := specFieldText_any f W
              rw [sB, hG] at this; exact this
            rw [hG] at hGl
            have HG := Lib.hid hG; clear hG hf hfm hfs hSs
            have ee : ¬ 9223372036854775807 < m.length + 1 := by omega
            have hcat0 := bytes_cat m [44]
            obtain ⟨m', hm', HM', hcase⟩ : ∃ m', m'.length ≤ 9101 ∧ Hid (m' = P ++ Lib.join ((x.flds.take q).map fieldL) [44] ++ sepF q) ∧ ((q = 0 ∧ m' = m) ∨ (0 < q ∧ m' = m ++ [44])) := by
              by_cases h0 : q = 0
              · exact ⟨m, by omega, Lib.hid (by rw [HM.out, sepF, if_pos h0]; simp), .inl ⟨h0, rfl⟩⟩
              · exact ⟨m ++ [44], by simp; omega, Lib.hid (by rw [HM.out, sepF, if_neg h0]), .inr ⟨by omega, rfl⟩⟩
            have e1 : ¬ 9223372036854775807 < m'.length + G.length := by omega
            have hqn : (q : Int) < (x.flds.length : Int) := by omega
            rcases hcase with ⟨h0, hmm⟩ | ⟨h0, hmm⟩
            · subst hmm
              have hq0 : ¬ 0 < q := by omega
              clear h0
              go_wp2_with fail
              refine (hft _).mono ?_
              rintro r w2 ⟨rfl, hb2⟩
              have kB2 := (hb2.cell (p := ⟨w.heap.size, 0, none⟩) hBl).trans kB
              have hBl2 := Nat.lt_of_lt_of_le hBl hb2.size
              have hT2 : Below w.heap.size w w2 := hbi.trans (hb2.mono hbi.size)
              have hcat3 := bytes_cat m' G
              obtain ⟨M2, hM2⟩ : ∃ M2, m' ++ G = M2 := ⟨_, rfl⟩
              rw [hM2] at hcat3
              have HM2 := Lib.hid (show M2 = P ++ Lib.join ((x.flds.take (q + 1)).map fieldL) [44] by rw [← hM2, HM'.out, fld_snoc HFk.out, ← HG.out, sepF]; simp [List.append_assoc])
              clear hM2
              go_wp2_with fail
              go_roundw
              case rel => exact ⟨q + 1, by omega, by go_num, ⟨M2, rfl, HM2⟩, kB2, hBl2, hT2⟩
              case measure => simp [intOf]; omega
            · rw [← hmm] at hcat0
              clear hmm
              go_wp2_with fail
              refine (hft _).mono ?_
              rintro r w2 ⟨rfl, hb2⟩
              have kB2 := (hb2.cell (p := ⟨w.heap.size, 0, none⟩) hBl).trans kB
              have hBl2 := Nat.lt_of_lt_of_le hBl hb2.size
              have hT2 : Below w.heap.size w w2 := hbi.trans (hb2.mono hbi.size)
              have hcat3 := bytes_cat m' G
              obtain ⟨M2, hM2⟩ : ∃ M2, m' ++ G = M2 := ⟨_, rfl⟩
              rw [hM2] at hcat3
              have HM2 := Lib.hid (show M2 = P ++ Lib.join ((x.flds.take (q + 1)).map fieldL) [44] by rw [← hM2, HM'.out, fld_snoc HFk.out, ← HG.out, sepF]; simp [List.append_assoc])
              clear hM2
              go_wp2_with fail
              go_roundw
              case rel => exact ⟨q + 1, by omega, by go_num, ⟨M2, rfl, HM2⟩, kB2, hBl2, hT2⟩
              case measure => simp [intOf]; omega
          · have HN := Lib.hid (show m = txtL (xs.take (k + 1)) by rw [HM.out, List.take_of_length_le (by omega), HP.out, txt_snoc HXk.out, msgL, sepK]; simp [List.append_assoc])
            clear hfs hSs
            go_wp2_with fail
            go_roundw
            case rel => exact ⟨k + 1, by omega, by go_num, ⟨m, rfl, HN⟩, kB, hBl, hbi⟩
            case measure => simp [intOf]; omega
    · have hl : l = txtL xs := by rw [HL.out, List.take_of_length_le (by rw [HX.out]; omega)]
      subst hl
      go_wp2_with fail
      go_ret
      exact ⟨rfl, hb⟩
def fdAt (n : Int) : Nat → List Fld → Int
  | _, [] => -1
  | k, f :: fs => if f.number = n then k else fdAt n (k + 1) fs
theorem fdAt_yes {n : Int} {k : Nat} {xs : List Fld} {e : Fld} {R : Int} (h : fdAt n k (xs.drop k) = R) (he : xs[k]? = some e) (hi : e.number = n) : (k : Int) = R := by
  rw [drop_cons he, fdAt, if_pos hi] at h; exact h
theorem fdAt_no {n : Int} {k : Nat} {xs : List Fld} {e : Fld} {R : Int} (h : fdAt n k (xs.drop k) = R) (he : xs[k]? = some e) (hi : ¬ e.number = n) : fdAt n (k + 1) (xs.drop (k + 1)) = R := by
  rw [drop_cons he, fdAt, if_neg hi] at h; exact h
theorem fdAt_end {n : Int} {k : Nat} {xs : List Fld} {R : Int} (h : fdAt n k (xs.drop k) = R) (hk : xs.length ≤ k) : (-1 : Int) = R := by
  rw [List.drop_of_length_le hk] at h; exact h
theorem fdAt_has (n : Int) : ∀ (k : Nat) (xs : List Fld), decide ((0 : Int) ≤ fdAt n k xs) = hasNum xs n
  | k, [] => by simp [fdAt, hasNum]
  | k, f :: fs => by
    by_cases h : f.number = n
    · simp [fdAt, hasNum, h]
    · have := fdAt_has n (k + 1) fs
      simp only [hasNum] at this
      rw [fdAt, if_neg h, this]
      simp [hasNum, h]
theorem shAt_has (i : Int) : ∀ (k : Nat) (xs : List Shp), decide ((0 : Int) ≤ shAt i k xs) = hasId xs i
  | k, [] => by simp [shAt, hasId]
  | k, x :: xs => by
    by_cases h : x.id = i
    · simp [shAt, hasId, h]
    · have := shAt_has i (k + 1) xs
      simp only [hasId] at this
      rw [shAt, if_neg h, this]
      simp [hasId, h]
theorem shs_take {w : World} {a : Option Addr} {xs : List Shp} (h : Shs w a xs) (k : Nat) : Shs w a (xs.take k) := fun j x hx => h j x (by
  rw [List.getElem?_take] at hx
  split at hx
  · exact hx
  · simp at hx)
theorem pred_MsgCode (x : Int) (a : Option Addr) (m cap : Nat) (id : Int) (B : Nat) (w : World) (hB : B < w.heap.size) (hc : w.cell? ⟨B, 0, none⟩ = some (.int .i64 id)) :
    Calls Tryz.prog 96 #[.agg #[.int .i64 x, .slice a m cap], .pointer (some ⟨B, 0, none⟩)] w fun r w' => r = .returned (.bool (x == id)) ∧ Below w.heap.size w w' := by
  go_enter Tryz.func96, Tryz.ntmps96
  go_wp2
  go_ret
  exact ⟨rfl, by ((repeat (first | (with_reducible exact Below.refl _ _) | (with_reducible assumption) | (with_reducible refine Below.alloc ?_ ?_ _) | (with_reducible refine Below.setCell ?_ ?_ _) | (with_reducible refine Below.drew ?_) | (with_reducible refine below_setRow ?_ ?_ _) | (refine Below.trans ?_ (Below.mono (by assumption) ?_)))); all_goals (first | omega | (simp; done) | (simp; omega)))⟩
set_option maxHeartbeats 2000000 in
theorem index_MsgCode (a : Option Addr) (cap n : Nat) (xs : List Shp) (id : Int) (B : Nat) (w : World) (h : Shs w a xs) (hx : xs.length = n) (hn : n ≤ 1048576) (hB : B < w.heap.size) (hc : w.cell? ⟨B, 0, none⟩ = some (.int .i64 id)) :
    Calls Tryz.prog 111 #[.slice a n cap, .func (.func 96) #[] #[.pointer (some ⟨B, 0, none⟩)]] w fun r w' => r = .returned (.int .i64 (shAt id 0 xs)) ∧ Below w.heap.size w w' := by
  have HX := Lib.hid hx; clear hx
  obtain ⟨R, hR⟩ : ∃ R, shAt id 0 xs = R := ⟨_, rfl⟩
  rw [hR]
  have HR := Lib.hid hR; clear hR
  have HC := Lib.hid hc; clear hc
  go_enter Tryz.func111, Tryz.ntmps111
  go_wp2
  go_loopw [4, 8] (fun t i wr => ∃ k : Nat, k ≤ n ∧ i = .int .i64 k ∧ Hid (shAt id k (xs.drop k) = R) ∧ Below w.heap.size w wr) (fun _ i _ => n - (intOf i).toNat)
  case atStart => exact ⟨0, Nat.zero_le _, rfl, HR, Below.refl _ _⟩
  case round =>
    obtain ⟨k, hk, rfl, HV, hb⟩ := hrel
    have hz := hb.size
    have HC1 := Lib.hid ((hb.cell (p := ⟨B, 0, none⟩) hB).trans HC.out)
    by_cases hlt : k < n
    · obtain ⟨e, he, _⟩ := at_lt (xs := xs) (k := k) (by rw [HX.out]; exact hlt)
      have HE := Lib.hid he
      obtain ⟨b, off, a1, cap1, rfl, hlb, c0, c1, -⟩ := h.below hb (Nat.le_refl _) k e he
      clear he
      by_cases hi : e.id = id
      · have H := Lib.hid (shAt_yes HV.out HE.out hi)
        have hi' : (e.id == id) = true := by simp [hi]
        clear hi
        go_wp2_with (first | (go_at_call 96; refine (pred_MsgCode _ _ _ _ id B _ (by omega) HC1.out).mono ?_; rintro r w2 ⟨rfl, hb2⟩; obtain ⟨hc2, hf2⟩ := bcell hb2; have hz2 := hb2.size; (try simp only [World.size_alloc, World.size_setCell, World.size_drew] at hz2)))
        go_ret
        exact ⟨ret_int H.out, by ((repeat (first | (with_reducible exact Below.refl _ _) | (with_reducible assumption) | (with_reducible refine Below.alloc ?_ ?_ _) | (with_reducible refine Below.setCell ?_ ?_ _) | (with_reducible refine Below.drew ?_) | (with_reducible refine below_setRow ?_ ?_ _) | (refine Below.trans ?_ (Below.mono (by assumption) ?_)))); all_goals (first | omega | (simp; done) | (simp; omega)))⟩
      · have hi' : (e.id == id) = false := by simp [hi]
        have H := Lib.hid (shAt_no HV.out HE.out hi)
        clear hi
        go_wp2_with (first | (go_at_call 96; refine (pred_MsgCode _ _ _ _ id B _ (by omega) HC1.out).mono ?_; rintro r w2 ⟨rfl, hb2⟩; obtain ⟨hc2, hf2⟩ := bcell hb2; have hz2 := hb2.size; (try simp only [World.size_alloc, World.size_setCell, World.size_drew] at hz2)))
        go_roundw
        case rel => exact ⟨k + 1, by omega, by go_num, H, by ((repeat (first | (with_reducible exact Below.refl _ _) | (with_reducible assumption) | (with_reducible refine Below.alloc ?_ ?_ _) | (with_reducible refine Below.setCell ?_ ?_ _) | (with_reducible refine Below.drew ?_) | (with_reducible refine below_setRow ?_ ?_ _) | (refine Below.trans ?_ (Below.mono (by assumption) ?_)))); all_goals (first | omega | (simp; done) | (simp; omega)))⟩
        case measure => simp [intOf]; omega
    · have H := Lib.hid (shAt_end HV.out (by rw [HX.out]; omega))
      go_wp2
      go_ret
      exact ⟨ret_int H.out, hb⟩
theorem hasM_MsgCode (a : Option Addr) (cap n : Nat) (xs : List Shp) (id : Int) (B : Nat) (w : World) (h : Shs w a xs) (hx : xs.length = n) (hn : n ≤ 1048576) (hB : B < w.heap.size) (hc : w.cell? ⟨B, 0, none⟩ = some (.int .i64 id)) :
    Calls Tryz.prog 95 #[.slice a n cap, .func (.func 96) #[] #[.pointer (some ⟨B, 0, none⟩)]] w fun r w' => r = .returned (.bool (hasId xs id)) ∧ Below w.heap.size w w' := by
  rw [← shAt_has id 0 xs]
  go_enter Tryz.func95, Tryz.ntmps95
  go_wp2_with (first | (go_at_call 111; refine (index_MsgCode _ _ _ xs id B _ h hx hn hB hc).mono ?_; rintro r w1 ⟨rfl, hb1⟩; obtain ⟨hc1, hf1⟩ := bcell hb1; have hz1 := hb1.size; (try simp only [World.size_alloc, World.size_setCell, World.size_drew] at hz1)))
  go_ret
  exact ⟨rfl, by ((repeat (first | (with_reducible exact Below.refl _ _) | (with_reducible assumption) | (with_reducible refine Below.alloc ?_ ?_ _) | (with_reducible refine Below.setCell ?_ ?_ _) | (with_reducible refine Below.drew ?_) | (with_reducible refine below_setRow ?_ ?_ _) | (refine Below.trans ?_ (Below.mono (by assumption) ?_)))); all_goals (first | omega | (simp; done) | (simp; omega)))⟩
theorem pred_hasMsg (x : Int) (a : Option Addr) (m cap : Nat) (id : Int) (B : Nat) (w : World) (hB : B < w.heap.size) (hc : w.cell? ⟨B, 0, none⟩ = some (.int .i64 id)) :
    Calls Tryz.prog 113 #[.agg #[.int .i64 x, .slice a m cap], .pointer (some ⟨B, 0, none⟩)] w fun r w' => r = .returned (.bool (x == id)) ∧ Below w.heap.size w w' := by
  go_enter Tryz.func113, Tryz.ntmps113
  go_wp2
  go_ret
  exact ⟨rfl, by ((repeat (first | (with_reducible exact Below.refl _ _) | (with_reducible assumption) | (with_reducible refine Below.alloc ?_ ?_ _) | (with_reducible refine Below.setCell ?_ ?_ _) | (with_reducible refine Below.drew ?_) | (with_reducible refine below_setRow ?_ ?_ _) | (refine Below.trans ?_ (Below.mono (by assumption) ?_)))); all_goals (first | omega | (simp; done) | (simp; omega)))⟩
set_option maxHeartbeats 2000000 in
theorem index_hasMsg (a : Option Addr) (cap n : Nat) (xs : List Shp) (id : Int) (B : Nat) (w : World) (h : Shs w a xs) (hx : xs.length = n) (hn : n ≤ 1048576) (hB : B < w.heap.size) (hc : w.cell? ⟨B, 0, none⟩ = some (.int .i64 id)) :
    Calls Tryz.prog 111 #[.slice a n cap, .func (.func 113) #[] #[.pointer (some ⟨B, 0, none⟩)]] w fun r w' => r = .returned (.int .i64 (shAt id 0 xs)) ∧ Below w.heap.size w w' := by
  have HX := Lib.hid hx; clear hx
  obtain ⟨R, hR⟩ : ∃ R, shAt id 0 xs = R := ⟨_, rfl⟩
  rw [hR]
  have HR := Lib.hid hR; clear hR
  have HC := Lib.hid hc; clear hc
  go_enter Tryz.func111, Tryz.ntmps111
  go_wp2
  go_loopw [4, 8] (fun t i wr => ∃ k : Nat, k ≤ n ∧ i = .int .i64 k ∧ Hid (shAt id k (xs.drop k) = R) ∧ Below w.heap.size w wr) (fun _ i _ => n - (intOf i).toNat)
  case atStart => exact ⟨0, Nat.zero_le _, rfl, HR, Below.refl _ _⟩
  case round =>
    obtain ⟨k, hk, rfl, HV, hb⟩ := hrel
    have hz := hb.size
    have HC1 := Lib.hid ((hb.cell (p := ⟨B, 0, none⟩) hB).trans HC.out)
    by_cases hlt : k < n
    · obtain ⟨e, he, _⟩ := at_lt (xs := xs) (k := k) (by rw [HX.out]; exact hlt)
      have HE := Lib.hid he
      obtain ⟨b, off, a1, cap1, rfl, hlb, c0, c1, -⟩ := h.below hb (Nat.le_refl _) k e he
      clear he
      by_cases hi : e.id = id
      · have H := Lib.hid (shAt_yes HV.out HE.out hi)
        have hi' : (e.id == id) = true := by simp [hi]
        clear hi
        go_wp2_with (first | (go_at_call 113; refine (pred_hasMsg _ _ _ _ id B _ (by omega) HC1.out).mono ?_; rintro r w2 ⟨rfl, hb2⟩; obtain ⟨hc2, hf2⟩ := bcell hb2; have hz2 := hb2.size; (try simp only [World.size_alloc, World.size_setCell, World.size_drew] at hz2)))
        go_ret
        exact ⟨ret_int H.out, by ((repeat (first | (with_reducible exact Below.refl _ _) | (with_reducible assumption) | (with_reducible refine Below.alloc ?_ ?_ _) | (with_reducible refine Below.setCell ?_ ?_ _) | (with_reducible refine Below.drew ?_) | (with_reducible refine below_setRow ?_ ?_ _) | (refine Below.trans ?_ (Below.mono (by assumption) ?_)))); all_goals (first | omega | (simp; done) | (simp; omega)))⟩
      · have hi' : (e.id == id) = false := by simp [hi]
        have H := Lib.hid (shAt_no HV.out HE.out hi)
        clear hi
        go_wp2_with (first | (go_at_call 113; refine (pred_hasMsg _ _ _ _ id B _ (by omega) HC1.out).mono ?_; rintro r w2 ⟨rfl, hb2⟩; obtain ⟨hc2, hf2⟩ := bcell hb2; have hz2 := hb2.size; (try simp only [World.size_alloc, World.size_setCell, World.size_drew] at hz2)))
        go_roundw
        case rel => exact ⟨k + 1, by omega, by go_num, H, by ((repeat (first | (with_reducible exact Below.refl _ _) | (with_reducible assumption) | (with_reducible refine Below.alloc ?_ ?_ _) | (with_reducible refine Below.setCell ?_ ?_ _) | (with_reducible refine Below.drew ?_) | (with_reducible refine below_setRow ?_ ?_ _) | (refine Below.trans ?_ (Below.mono (by assumption) ?_)))); all_goals (first | omega | (simp; done) | (simp; omega)))⟩
        case measure => simp [intOf]; omega
    · have H := Lib.hid (shAt_end HV.out (by rw [HX.out]; omega))
      go_wp2
      go_ret
      exact ⟨ret_int H.out, hb⟩
theorem hasM_hasMsg (a : Option Addr) (cap n : Nat) (xs : List Shp) (id : Int) (B : Nat) (w : World) (h : Shs w a xs) (hx : xs.length = n) (hn : n ≤ 1048576) (hB : B < w.heap.size) (hc : w.cell? ⟨B, 0, none⟩ = some (.int .i64 id)) :
    Calls Tryz.prog 95 #[.slice a n cap, .func (.func 113) #[] #[.pointer (some ⟨B, 0, none⟩)]] w fun r w' => r = .returned (.bool (hasId xs id)) ∧ Below w.heap.size w w' := by
  rw [← shAt_has id 0 xs]
  go_enter Tryz.func95, Tryz.ntmps95
  go_wp2_with (first | (go_at_call 111; refine (index_hasMsg _ _ _ xs id B _ h hx hn hB hc).mono ?_; rintro r w1 ⟨rfl, hb1⟩; obtain ⟨hc1, hf1⟩ := bcell hb1; have hz1 := hb1.size; (try simp only [World.size_alloc, World.size_setCell, World.size_drew] at hz1)))
  go_ret
  exact ⟨rfl, by ((repeat (first | (with_reducible exact Below.refl _ _) | (with_reducible assumption) | (with_reducible refine Below.alloc ?_ ?_ _) | (with_reducible refine Below.setCell ?_ ?_ _) | (with_reducible refine Below.drew ?_) | (with_reducible refine below_setRow ?_ ?_ _) | (refine Below.trans ?_ (Below.mono (by assumption) ?_)))); all_goals (first | omega | (simp; done) | (simp; omega)))⟩
theorem pred_FieldCode (e : Fld) (id : Int) (B : Nat) (w : World) (hB : B < w.heap.size) (hc : w.cell? ⟨B, 0, none⟩ = some (.int .i64 id)) :
    Calls Tryz.prog 99 #[e.val, .pointer (some ⟨B, 0, none⟩)] w fun r w' => r = .returned (.bool (e.number == id)) ∧ Below w.heap.size w w' := by
  go_enter Tryz.func99, Tryz.ntmps99
  go_wp2
  go_ret
  exact ⟨rfl, by ((repeat (first | (with_reducible exact Below.refl _ _) | (with_reducible assumption) | (with_reducible refine Below.alloc ?_ ?_ _) | (with_reducible refine Below.setCell ?_ ?_ _) | (with_reducible refine Below.drew ?_) | (with_reducible refine below_setRow ?_ ?_ _) | (refine Below.trans ?_ (Below.mono (by assumption) ?_)))); all_goals (first | omega | (simp; done) | (simp; omega)))⟩
set_option maxHeartbeats 2000000 in
theorem index_FieldCode (a : Option Addr) (cap n : Nat) (xs : List Fld) (id : Int) (B : Nat) (w : World) (h : Flds w a xs) (hx : xs.length = n) (hn : n ≤ 1048576) (hB : B < w.heap.size) (hc : w.cell? ⟨B, 0, none⟩ = some (.int .i64 id)) :
    Calls Tryz.prog 112 #[.slice a n cap, .func (.func 99) #[] #[.pointer (some ⟨B, 0, none⟩)]] w fun r w' => r = .returned (.int .i64 (fdAt id 0 xs)) ∧ Below w.heap.size w w' := by
  have HX := Lib.hid hx; clear hx
  obtain ⟨R, hR⟩ : ∃ R, fdAt id 0 xs = R := ⟨_, rfl⟩
  rw [hR]
  have HR := Lib.hid hR; clear hR
  have HC := Lib.hid hc; clear hc
  go_enter Tryz.func112, Tryz.ntmps112
  go_wp2
  go_loopw [4, 8] (fun t i wr => ∃ k : Nat, k ≤ n ∧ i = .int .i64 k ∧ Hid (fdAt id k (xs.drop k) = R) ∧ Below w.heap.size w wr) (fun _ i _ => n - (intOf i).toNat)
  case atStart => exact ⟨0, Nat.zero_le _, rfl, HR, Below.refl _ _⟩
  case round =>
    obtain ⟨k, hk, rfl, HV, hb⟩ := hrel
    have hz := hb.size
    have HC1 := Lib.hid ((hb.cell (p := ⟨B, 0, none⟩) hB).trans HC.out)
    by_cases hlt : k < n
    · obtain ⟨e, he, _⟩ := at_lt (xs := xs) (k := k) (by rw [HX.out]; exact hlt)
      have HE := Lib.hid he
      obtain ⟨b, off, rfl, hlb, c0, c1, c2, c3, c4⟩ := Flds.at (Sl.keep h hb) he
      clear he
      by_cases hi : e.number = id
      · have H := Lib.hid (fdAt_yes HV.out HE.out hi)
        have hi' : (e.number == id) = true := by simp [hi]
        clear hi
        go_wp2_with (first | (go_at_call 99; refine (pred_FieldCode ⟨e.number, e.kind, e.rep, e.packed, e.msg⟩ id B _ (by omega) HC1.out).mono ?_; rintro r w2 ⟨rfl, hb2⟩; obtain ⟨hc2, hf2⟩ := bcell hb2; have hz2 := hb2.size; (try simp only [World.size_alloc, World.size_setCell, World.size_drew] at hz2)))
        go_ret
        exact ⟨ret_int H.out, by ((repeat (first | (with_reducible exact Below.refl _ _) | (with_reducible assumption) | (with_reducible refine Below.alloc ?_ ?_ _) | (with_reducible refine Below.setCell ?_ ?_ _) | (with_reducible refine Below.drew ?_) | (with_reducible refine below_setRow ?_ ?_ _) | (refine Below.trans ?_ (Below.mono (by assumption) ?_)))); all_goals (first | omega | (simp; done) | (simp; omega)))⟩
      · have hi' : (e.number == id) = false := by simp [hi]
        have H := Lib.hid (fdAt_no HV.out HE.out hi)
        clear hi
        go_wp2_with (first | (go_at_call 99; refine (pred_FieldCode ⟨e.number, e.kind, e.rep, e.packed, e.msg⟩ id B _ (by omega) HC1.out).mono ?_; rintro r w2 ⟨rfl, hb2⟩; obtain ⟨hc2, hf2⟩ := bcell hb2; have hz2 := hb2.size; (try simp only [World.size_alloc, World.size_setCell, World.size_drew] at hz2)))
        go_roundw
        case rel => exact ⟨k + 1, by omega, by go_num, H, by ((repeat (first | (with_reducible exact Below.refl _ _) | (with_reducible assumption) | (with_reducible refine Below.alloc ?_ ?_ _) | (with_reducible refine Below.setCell ?_ ?_ _) | (with_reducible refine Below.drew ?_) | (with_reducible refine below_setRow ?_ ?_ _) | (refine Below.trans ?_ (Below.mono (by assumption) ?_)))); all_goals (first | omega | (simp; done) | (simp; omega)))⟩
        case measure => simp [intOf]; omega
    · have H := Lib.hid (fdAt_end HV.out (by rw [HX.out]; omega))
      go_wp2
      go_ret
      exact ⟨ret_int H.out, hb⟩
theorem hasF_FieldCode (a : Option Addr) (cap n : Nat) (xs : List Fld) (id : Int) (B : Nat) (w : World) (h : Flds w a xs) (hx : xs.length = n) (hn : n ≤ 1048576) (hB : B < w.heap.size) (hc : w.cell? ⟨B, 0, none⟩ = some (.int .i64 id)) :
    Calls Tryz.prog 98 #[.slice a n cap, .func (.func 99) #[] #[.pointer (some ⟨B, 0, none⟩)]] w fun r w' => r = .returned (.bool (hasNum xs id)) ∧ Below w.heap.size w w' := by
  rw [← fdAt_has id 0 xs]
  go_enter Tryz.func98, Tryz.ntmps98
  go_wp2_with (first | (go_at_call 112; refine (index_FieldCode _ _ _ xs id B _ h hx hn hB hc).mono ?_; rintro r w1 ⟨rfl, hb1⟩; obtain ⟨hc1, hf1⟩ := bcell hb1; have hz1 := hb1.size; (try simp only [World.size_alloc, World.size_setCell, World.size_drew] at hz1)))
  go_ret
  exact ⟨rfl, by ((repeat (first | (with_reducible exact Below.refl _ _) | (with_reducible assumption) | (with_reducible refine Below.alloc ?_ ?_ _) | (with_reducible refine Below.setCell ?_ ?_ _) | (with_reducible refine Below.drew ?_) | (with_reducible refine below_setRow ?_ ?_ _) | (refine Below.trans ?_ (Below.mono (by assumption) ?_)))); all_goals (first | omega | (simp; done) | (simp; omega)))⟩
set_option maxHeartbeats 4000000 in
theorem implMsgCode_any (a : Option Addr) (cap n i : Nat) (xs : List Shp) (x : Shp) (w : World) (h : ShsL w a xs) (hl : xs.length = n) (hn : n ≤ 1048576) (hcap : n ≤ cap) (hx : xs[i]? = some x) (hi : i < n) (hf : x.flds.length ≤ 1048576) :
    Calls Tryz.prog 75 #[.agg #[.slice a n cap], .int .i64 i] w fun r w' => r = .returned (.int .i64 (msgC xs i x)) ∧ Below w.heap.size w w' := by
  have HL := Lib.hid hl; clear hl
  obtain ⟨R, hR⟩ : ∃ R, msgC xs i x = R := ⟨_, rfl⟩
  rw [hR]
  have HR := Lib.hid hR; clear hR
  obtain ⟨b, off, a', cap', rfl, hbl, c0, c1, -, -⟩ := h i x hx
  have HX := Lib.hid hx; clear hx
  have hb1 : inB (i : Int) 0 ((n : Int) - 1) = true := by simp only [inB, decide_eq_true_eq]; omega
  have hii : (i : Int) < (n : Int) := by omega
  have hi0 : (0 : Int) ≤ (i : Int) := by omega
  have hic : (i : Int) ≤ (cap : Int) := by omega
  have HTl := Lib.hid (show (xs.take i).length = i by rw [List.length_take, HL.out]; omega)
  have HH := Lib.hid (shs_take h.shs i); clear h
  go_enter Tryz.func75, Tryz.ntmps75
  cases h1 : inB x.id 1 99
  · have HB := Lib.hid (show (2 : Int) = R by rw [← HR.out, msgC, if_pos h1])
    go_wp2_with (first | (go_at_call 42; refine (within_any _ _ _ _).mono ?_; rintro r w1 ⟨rfl, rfl⟩))
    go_ret
    exact ⟨ret_int HB.out, by ((repeat (first | (with_reducible exact Below.refl _ _) | (with_reducible assumption) | (with_reducible refine Below.alloc ?_ ?_ _) | (with_reducible refine Below.setCell ?_ ?_ _) | (with_reducible refine Below.drew ?_) | (with_reducible refine below_setRow ?_ ?_ _) | (refine Below.trans ?_ (Below.mono (by assumption) ?_)))); all_goals (first | omega | (simp; done) | (simp; omega)))⟩
  · go_wp2_with (first | (go_at_call 42; refine (within_any _ _ _ _).mono ?_; rintro r w1 ⟨rfl, rfl⟩))
    refine (hasM_MsgCode (some ⟨b, off, none⟩) cap i (xs.take i) x.id _ _ (HH.out.keep (by ((repeat (first | (with_reducible exact Below.refl _ _) | (with_reducible assumption) | (with_reducible refine Below.alloc ?_ ?_ _) | (with_reducible refine Below.setCell ?_ ?_ _) | (with_reducible refine Below.drew ?_) | (with_reducible refine below_setRow ?_ ?_ _) | (refine Below.trans ?_ (Below.mono (by assumption) ?_)))); all_goals (first | omega | (simp; done) | (simp; omega))))) HTl.out (by omega) (by simp) (by simp [go_sem])).mono ?_
    rintro r w2 ⟨rfl, hb2⟩
    have hM := (hb2.block (w.heap.size + 1) (by simp)).trans (hset_new (o := .cells #[.int .i64 x.id, .slice a' x.flds.length cap'] 40) (by simp))
    have kM := box_cells hM
    have hbw : Below w.heap.size w w2 := by ((repeat (first | (with_reducible exact Below.refl _ _) | (with_reducible assumption) | (with_reducible refine Below.alloc ?_ ?_ _) | (with_reducible refine Below.setCell ?_ ?_ _) | (with_reducible refine Below.drew ?_) | (with_reducible refine below_setRow ?_ ?_ _) | (refine Below.trans ?_ (Below.mono (by assumption) ?_)))); all_goals (first | omega | (simp; done) | (simp; omega)))
    clear hb2 hM
    cases h2 : hasId (xs.take i) x.id
    · by_cases h8 : 8 < x.flds.length
      · have HB := Lib.hid (show (4 : Int) = R by rw [← HR.out, msgC, if_neg (by rw [h1]; simp), if_neg (by rw [h2]; simp), if_pos h8])
        have h8' : (8 : Int) < (x.flds.length : Int) := by omega
        go_wp2
        go_ret
        exact ⟨ret_int HB.out, by ((repeat (first | (with_reducible exact Below.refl _ _) | (with_reducible assumption) | (with_reducible refine Below.alloc ?_ ?_ _) | (with_reducible refine Below.setCell ?_ ?_ _) | (with_reducible refine Below.drew ?_) | (with_reducible refine below_setRow ?_ ?_ _) | (refine Below.trans ?_ (Below.mono (by assumption) ?_)))); all_goals (first | omega | (simp; done) | (simp; omega)))⟩
      · have HB := Lib.hid (show (0 : Int) = R by rw [← HR.out, msgC, if_neg (by rw [h1]; simp), if_neg (by rw [h2]; simp), if_neg h8])
        have h8' : decide ((8 : Int) < (x.flds.length : Int)) = false := decide_eq_false (by omega)
        go_wp2
        go_ret
        exact ⟨ret_int HB.out, by ((repeat (first | (with_reducible exact Below.refl _ _) | (with_reducible assumption) | (with_reducible refine Below.alloc ?_ ?_ _) | (with_reducible refine Below.setCell ?_ ?_ _) | (with_reducible refine Below.drew ?_) | (with_reducible refine below_setRow ?_ ?_ _) | (refine Below.trans ?_ (Below.mono (by assumption) ?_)))); all_goals (first | omega | (simp; done) | (simp; omega)))⟩
    · have HB := Lib.hid (show (3 : Int) = R by rw [← HR.out, msgC, if_neg (by rw [h1]; simp), if_pos h2])
      go_wp2
      go_ret
      exact ⟨ret_int HB.out, by ((repeat (first | (with_reducible exact Below.refl _ _) | (with_reducible assumption) | (with_reducible refine Below.alloc ?_ ?_ _) | (with_reducible refine Below.setCell ?_ ?_ _) | (with_reducible refine Below.drew ?_) | (with_reducible refine below_setRow ?_ ?_ _) | (refine Below.trans ?_ (Below.mono (by assumption) ?_)))); all_goals (first | omega | (simp; done) | (simp; omega)))⟩
theorem implHasMsg_any (a : Option Addr) (cap n : Nat) (xs : List Shp) (id : Int) (w : World) (h : Shs w a xs) (hx : xs.length = n) (hn : n ≤ 1048576) :
    Calls Tryz.prog 101 #[.agg #[.slice a n cap], .int .i64 id] w fun r w' => r = .returned (.bool (hasId xs id)) ∧ Below w.heap.size w w' := by
  have HX := Lib.hid hx; clear hx
  have HS := Lib.hid h; clear h
  go_enter Tryz.func101, Tryz.ntmps101
  go_wp2_with (first | (go_at_call 95; refine (hasM_hasMsg _ _ _ xs id _ _ (HS.out.keep (by ((repeat (first | (with_reducible exact Below.refl _ _) | (with_reducible assumption) | (with_reducible refine Below.alloc ?_ ?_ _) | (with_reducible refine Below.setCell ?_ ?_ _) | (with_reducible refine Below.drew ?_) | (with_reducible refine below_setRow ?_ ?_ _) | (refine Below.trans ?_ (Below.mono (by assumption) ?_)))); all_goals (first | omega | (simp; done) | (simp; omega))))) HX.out hn (by simp) (by simp [go_sem])).mono ?_; rintro r w1 ⟨rfl, hb1⟩; obtain ⟨hc1, hf1⟩ := bcell hb1; have hz1 := hb1.size; (try simp only [World.size_alloc, World.size_setCell, World.size_drew] at hz1)))
  go_ret
  exact ⟨rfl, by ((repeat (first | (with_reducible exact Below.refl _ _) | (with_reducible assumption) | (with_reducible refine Below.alloc ?_ ?_ _) | (with_reducible refine Below.setCell ?_ ?_ _) | (with_reducible refine Below.drew ?_) | (with_reducible refine below_setRow ?_ ?_ _) | (refine Below.trans ?_ (Below.mono (by assumption) ?_)))); all_goals (first | omega | (simp; done) | (simp; omega)))⟩
set_option maxRecDepth 100000 in
set_option maxHeartbeats 4000000 in
theorem implFieldCode_any (a : Option Addr) (cap n i k : Nat) (xs : List Shp) (x : Shp) (f : Fld) (w : World) (h : ShsL w a xs) (hl : xs.length = n) (hn : n ≤ 1048576) (hx : xs[i]? = some x) (hi : i < n) (hfl : x.flds.length ≤ 1048576) (hf : x.flds[k]? = some f) (hk : k < x.flds.length) :
    Calls Tryz.prog 76 #[.agg #[.slice a n cap], .int .i64 i, .int .i64 k] w fun r w' => r = .returned (.int .i64 (fldC xs x.flds k f)) ∧ Below w.heap.size w w' := by
  have HL := Lib.hid hl; clear hl
  obtain ⟨R, hR⟩ : ∃ R, fldC xs x.flds k f = R := ⟨_, rfl⟩
  rw [hR]
  have HR := Lib.hid hR; clear hR
  obtain ⟨b, off, a', cap', rfl, hbl, c0, c1, hfs, hcp⟩ := h i x hx
  obtain ⟨b2, off2, rfl, hbl2, d0, d1, d2, d3, d4⟩ := Flds.at hfs hf
  have HX := Lib.hid hx; clear hx
  have HF := Lib.hid hf; clear hf
  have HFS := Lib.hid hfs; clear hfs
  have hb1 : inB (i : Int) 0 ((n : Int) - 1) = true := by simp only [inB, decide_eq_true_eq]; omega
  have hb2' : inB (k : Int) 0 ((x.flds.length : Int) - 1) = true := by simp only [inB, decide_eq_true_eq]; omega
  have hii : (i : Int) < (n : Int) := by omega
  have hki : (k : Int) < (x.flds.length : Int) := by omega
  have hkc : (k : Int) ≤ (cap' : Int) := by omega
  have hk0 : (0 : Int) ≤ (k : Int) := by omega
  have HH := Lib.hid h.shs; clear h
  go_enter Tryz.func76, Tryz.ntmps76
  cases h1 : numOk f.number
  · have HB := Lib.hid (show (5 : Int) = R by rw [← HR.out, fldC, if_pos h1])
    go_wp2_with (first | (go_at_call 42; refine (within_any _ _ _ _).mono ?_; rintro r w1 ⟨rfl, rfl⟩) | (go_at_call 97; refine (implNumberOk_any _ _).mono ?_; rintro r w1 ⟨rfl, rfl⟩))
    go_ret
    exact ⟨ret_int HB.out, by ((repeat (first | (with_reducible exact Below.refl _ _) | (with_reducible assumption) | (with_reducible refine Below.alloc ?_ ?_ _) | (with_reducible refine Below.setCell ?_ ?_ _) | (with_reducible refine Below.drew ?_) | (with_reducible refine below_setRow ?_ ?_ _) | (refine Below.trans ?_ (Below.mono (by assumption) ?_)))); all_goals (first | omega | (simp; done) | (simp; omega)))⟩
  · go_wp2_with (first | (go_at_call 42; refine (within_any _ _ _ _).mono ?_; rintro r w1 ⟨rfl, rfl⟩) | (go_at_call 97; refine (implNumberOk_any _ _).mono ?_; rintro r w1 ⟨rfl, rfl⟩))
    have HKl := Lib.hid (show (x.flds.take k).length = k by rw [List.length_take]; omega)
    refine (hasF_FieldCode (some ⟨b2, off2, none⟩) cap' k (x.flds.take k) f.number _ _ (Sl.keep (flds_take HFS.out k) (by ((repeat (first | (with_reducible exact Below.refl _ _) | (with_reducible assumption) | (with_reducible refine Below.alloc ?_ ?_ _) | (with_reducible refine Below.setCell ?_ ?_ _) | (with_reducible refine Below.drew ?_) | (with_reducible refine below_setRow ?_ ?_ _) | (refine Below.trans ?_ (Below.mono (by assumption) ?_)))); all_goals (first | omega | (simp; done) | (simp; omega))))) HKl.out (by omega) (by simp) (by simp [go_sem])).mono ?_
    rintro r w2 ⟨rfl, hb2⟩
    have hA_ := (hb2.block w.heap.size (by simp; omega)).trans (hset_alloc (hset_new (o := .cells #[.slice (some ⟨b, off, none⟩) n cap] 24) rfl))
    have hG_ := (hb2.block (w.heap.size + 1) (by simp)).trans (hset_new (o := .cells #[.int .i64 f.number, .int .i64 f.kind, .bool f.rep, .bool f.packed, .int .i64 f.msg] 44) (by simp))
    have kA := box_cells hA_; have kG := box_cells hG_; have hlG := box_lt hG_; have hlA := box_lt hA_; have HGx := Lib.hid hG_
    have hbw : Below w.heap.size w w2 := by ((repeat (first | (with_reducible exact Below.refl _ _) | (with_reducible assumption) | (with_reducible refine Below.alloc ?_ ?_ _) | (with_reducible refine Below.setCell ?_ ?_ _) | (with_reducible refine Below.drew ?_) | (with_reducible refine below_setRow ?_ ?_ _) | (refine Below.trans ?_ (Below.mono (by assumption) ?_)))); all_goals (first | omega | (simp; done) | (simp; omega)))
    clear hb2 hA_ hG_
    cases h2 : hasNum (x.flds.take k) f.number
    · cases h3 : inB f.kind 1 8
      · have HB := Lib.hid (show (7 : Int) = R by rw [← HR.out, fldC, if_neg (by rw [h1]; simp), if_neg (by rw [h2]; simp), if_pos h3])
        go_wp2_with (first | (go_at_call 53; refine (isKind_any _ _).mono ?_; rintro r w1 ⟨rfl, rfl⟩))
        go_ret
        exact ⟨ret_int HB.out, by ((repeat (first | (with_reducible exact Below.refl _ _) | (with_reducible assumption) | (with_reducible refine Below.alloc ?_ ?_ _) | (with_reducible refine Below.setCell ?_ ?_ _) | (with_reducible refine Below.drew ?_) | (with_reducible refine below_setRow ?_ ?_ _) | (refine Below.trans ?_ (Below.mono (by assumption) ?_)))); all_goals (first | omega | (simp; done) | (simp; omega)))⟩
      · cases h4 : packOk f
        · have HB := Lib.hid (show (8 : Int) = R by rw [← HR.out, fldC, if_neg (by rw [h1]; simp), if_neg (by rw [h2]; simp), if_neg (by rw [h3]; simp), if_pos h4])
          simp only [packOk, Bool.not_eq_false', Bool.and_eq_true, Bool.or_eq_true, Bool.not_eq_true'] at h4
          obtain ⟨h5, h6⟩ := h4
          rw [h5] at kG d3
          cases h7 : f.rep
          · rw [h7] at kG d2
            go_wp2_with (first | (go_at_call 53; refine (isKind_any _ _).mono ?_; rintro r w1 ⟨rfl, rfl⟩))
            go_ret
            exact ⟨ret_int HB.out, by ((repeat (first | (with_reducible exact Below.refl _ _) | (with_reducible assumption) | (with_reducible refine Below.alloc ?_ ?_ _) | (with_reducible refine Below.setCell ?_ ?_ _) | (with_reducible refine Below.drew ?_) | (with_reducible refine below_setRow ?_ ?_ _) | (refine Below.trans ?_ (Below.mono (by assumption) ?_)))); all_goals (first | omega | (simp; done) | (simp; omega)))⟩
          · have h8 : inB f.kind 1 5 = false := by rcases h6 with h6 | h6; (rw [h7] at h6; simp at h6); exact h6
            rw [h7] at kG d2
            go_wp2_with (first | (go_at_call 53; refine (isKind_any _ _).mono ?_; rintro r w1 ⟨rfl, rfl⟩) | (go_at_call 100; refine (implNumeric_any _ _).mono ?_; rintro r w1 ⟨rfl, rfl⟩))
            go_ret
            exact ⟨ret_int HB.out, by ((repeat (first | (with_reducible exact Below.refl _ _) | (with_reducible assumption) | (with_reducible refine Below.alloc ?_ ?_ _) | (with_reducible refine Below.setCell ?_ ?_ _) | (with_reducible refine Below.drew ?_) | (with_reducible refine below_setRow ?_ ?_ _) | (refine Below.trans ?_ (Below.mono (by assumption) ?_)))); all_goals (first | omega | (simp; done) | (simp; omega)))⟩
        · have HP : f.packed = false ∨ f.packed = true ∧ f.rep = true ∧ inB f.kind 1 5 = true := by
            simp only [packOk] at h4
            cases h5 : f.packed <;> cases h6 : f.rep <;> cases h7 : inB f.kind 1 5 <;> simp [h5, h6, h7] at h4 ⊢
          have HE : ∀ v : Int, (if refBad xs f = true then (9 : Int) else 0) = v → v = R := fun v hv => by rw [← HR.out, fldC, if_neg (by rw [h1]; simp), if_neg (by rw [h2]; simp), if_neg (by rw [h3]; simp), if_neg (by rw [h4]; simp), hv]
          have HE2 := Lib.hid HE; clear HE h4
          by_cases h8 : f.kind = 8
          · have g8 : (f.kind == 8) = true := by simp; omega
            have g8n : (f.kind != 8) = false := by simp; omega
            have HRB := Lib.hid (show refBad xs f = !hasId xs f.msg by rw [refBad, if_pos h8])
            clear h8
            rcases HP with h5 | ⟨h5, h6, h7⟩
            · rw [h5] at kG d3
              go_wp2_with (first | (go_at_call 53; refine (isKind_any _ _).mono ?_; rintro r w1 ⟨rfl, rfl⟩))
              refine (implHasMsg_any (some ⟨b, off, none⟩) cap n xs f.msg _ (HH.out.keep hbw) HL.out hn).mono ?_
              rintro r w3 ⟨rfl, hb3⟩
              have hG3 := (hb3.block _ hlG).trans HGx.out
              have kG3 := box_cells hG3; clear hG3 kG kA
              cases h9 : hasId xs f.msg
              · have HB := Lib.hid (HE2.out 9 (by rw [HRB.out, h9]; rfl))
                go_wp2
                go_ret
                exact ⟨ret_int HB.out, by ((repeat (first | (with_reducible exact Below.refl _ _) | (with_reducible assumption) | (with_reducible refine Below.alloc ?_ ?_ _) | (with_reducible refine Below.setCell ?_ ?_ _) | (with_reducible refine Below.drew ?_) | (with_reducible refine below_setRow ?_ ?_ _) | (refine Below.trans ?_ (Below.mono (by assumption) ?_)))); all_goals (first | omega | (simp; done) | (simp; omega)))⟩
              · have HB := Lib.hid (HE2.out 0 (by rw [HRB.out, h9]; rfl))
                go_wp2
                go_ret
                exact ⟨ret_int HB.out, by ((repeat (first | (with_reducible exact Below.refl _ _) | (with_reducible assumption) | (with_reducible refine Below.alloc ?_ ?_ _) | (with_reducible refine Below.setCell ?_ ?_ _) | (with_reducible refine Below.drew ?_) | (with_reducible refine below_setRow ?_ ?_ _) | (refine Below.trans ?_ (Below.mono (by assumption) ?_)))); all_goals (first | omega | (simp; done) | (simp; omega)))⟩
            · rw [h5] at kG d3
              rw [h6] at kG d2
              go_wp2_with (first | (go_at_call 53; refine (isKind_any _ _).mono ?_; rintro r w1 ⟨rfl, rfl⟩) | (go_at_call 100; refine (implNumeric_any _ _).mono ?_; rintro r w1 ⟨rfl, rfl⟩))
              refine (implHasMsg_any (some ⟨b, off, none⟩) cap n xs f.msg _ (HH.out.keep hbw) HL.out hn).mono ?_
              rintro r w3 ⟨rfl, hb3⟩
              have hG3 := (hb3.block _ hlG).trans HGx.out
              have kG3 := box_cells hG3; clear hG3 kG kA
              cases h9 : hasId xs f.msg
              · have HB := Lib.hid (HE2.out 9 (by rw [HRB.out, h9]; rfl))
                go_wp2
                go_ret
                exact ⟨ret_int HB.out, by ((repeat (first | (with_reducible exact Below.refl _ _) | (with_reducible assumption) | (with_reducible refine Below.alloc ?_ ?_ _) | (with_reducible refine Below.setCell ?_ ?_ _) | (with_reducible refine Below.drew ?_) | (with_reducible refine below_setRow ?_ ?_ _) | (refine Below.trans ?_ (Below.mono (by assumption) ?_)))); all_goals (first | omega | (simp; done) | (simp; omega)))⟩
              · have HB := Lib.hid (HE2.out 0 (by rw [HRB.out, h9]; rfl))
                go_wp2
                go_ret
                exact ⟨ret_int HB.out, by ((repeat (first | (with_reducible exact Below.refl _ _) | (with_reducible assumption) | (with_reducible refine Below.alloc ?_ ?_ _) | (with_reducible refine Below.setCell ?_ ?_ _) | (with_reducible refine Below.drew ?_) | (with_reducible refine below_setRow ?_ ?_ _) | (refine Below.trans ?_ (Below.mono (by assumption) ?_)))); all_goals (first | omega | (simp; done) | (simp; omega)))⟩
          · have g8 : (f.kind == 8) = false := by simp; omega
            have g8n : (f.kind != 8) = true := by simp; omega
            have HRB := Lib.hid (show refBad xs f = !(f.msg == 0) by rw [refBad, if_neg h8])
            clear h8
            rcases HP with h5 | ⟨h5, h6, h7⟩
            · rw [h5] at kG d3
              by_cases h9 : f.msg = 0
              · have g9 : (f.msg == 0) = true := by simp; omega
                have g9n : (f.msg != 0) = false := by simp; omega
                have HB := Lib.hid (HE2.out 0 (by rw [HRB.out, g9]; rfl))
                clear h9
                go_wp2_with (first | (go_at_call 53; refine (isKind_any _ _).mono ?_; rintro r w1 ⟨rfl, rfl⟩))
                go_ret
                exact ⟨ret_int HB.out, by ((repeat (first | (with_reducible exact Below.refl _ _) | (with_reducible assumption) | (with_reducible refine Below.alloc ?_ ?_ _) | (with_reducible refine Below.setCell ?_ ?_ _) | (with_reducible refine Below.drew ?_) | (with_reducible refine below_setRow ?_ ?_ _) | (refine Below.trans ?_ (Below.mono (by assumption) ?_)))); all_goals (first | omega | (simp; done) | (simp; omega)))⟩
              · have g9 : (f.msg == 0) = false := by simp; omega
                have g9n : (f.msg != 0) = true := by simp; omega
                have HB := Lib.hid (HE2.out 9 (by rw [HRB.out, g9]; rfl))
                clear h9
                go_wp2_with (first | (go_at_call 53; refine (isKind_any _ _).mono ?_; rintro r w1 ⟨rfl, rfl⟩))
                go_ret
                exact ⟨ret_int HB.out, by ((repeat (first | (with_reducible exact Below.refl _ _) | (with_reducible assumption) | (with_reducible refine Below.alloc ?_ ?_ _) | (with_reducible refine Below.setCell ?_ ?_ _) | (with_reducible refine Below.drew ?_) | (with_reducible refine below_setRow ?_ ?_ _) | (refine Below.trans ?_ (Below.mono (by assumption) ?_)))); all_goals (first | omega | (simp; done) | (simp; omega)))⟩
            · rw [h5] at kG d3
              rw [h6] at kG d2
              by_cases h9 : f.msg = 0
              · have g9 : (f.msg == 0) = true := by simp; omega
                have g9n : (f.msg != 0) = false := by simp; omega
                have HB := Lib.hid (HE2.out 0 (by rw [HRB.out, g9]; rfl))
                clear h9
                go_wp2_with (first | (go_at_call 53; refine (isKind_any _ _).mono ?_; rintro r w1 ⟨rfl, rfl⟩) | (go_at_call 100; refine (implNumeric_any _ _).mono ?_; rintro r w1 ⟨rfl, rfl⟩))
                go_ret
                exact ⟨ret_int HB.out, by ((repeat (first | (with_reducible exact Below.refl _ _) | (with_reducible assumption) | (with_reducible refine Below.alloc ?_ ?_ _) | (with_reducible refine Below.setCell ?_ ?_ _) | (with_reducible refine Below.drew ?_) | (with_reducible refine below_setRow ?_ ?_ _) | (refine Below.trans ?_ (Below.mono (by assumption) ?_)))); all_goals (first | omega | (simp; done) | (simp; omega)))⟩
              · have g9 : (f.msg == 0) = false := by simp; omega
                have g9n : (f.msg != 0) = true := by simp; omega
                have HB := Lib.hid (HE2.out 9 (by rw [HRB.out, g9]; rfl))
                clear h9
                go_wp2_with (first | (go_at_call 53; refine (isKind_any _ _).mono ?_; rintro r w1 ⟨rfl, rfl⟩) | (go_at_call 100; refine (implNumeric_any _ _).mono ?_; rintro r w1 ⟨rfl, rfl⟩))
                go_ret
                exact ⟨ret_int HB.out, by ((repeat (first | (with_reducible exact Below.refl _ _) | (with_reducible assumption) | (with_reducible refine Below.alloc ?_ ?_ _) | (with_reducible refine Below.setCell ?_ ?_ _) | (with_reducible refine Below.drew ?_) | (with_reducible refine below_setRow ?_ ?_ _) | (refine Below.trans ?_ (Below.mono (by assumption) ?_)))); all_goals (first | omega | (simp; done) | (simp; omega)))⟩
    · have HB := Lib.hid (show (6 : Int) = R by rw [← HR.out, fldC, if_neg (by rw [h1]; simp), if_pos h2])
      go_wp2
      go_ret
      exact ⟨ret_int HB.out, by ((repeat (first | (with_reducible exact Below.refl _ _) | (with_reducible assumption) | (with_reducible refine Below.alloc ?_ ?_ _) | (with_reducible refine Below.setCell ?_ ?_ _) | (with_reducible refine Below.drew ?_) | (with_reducible refine below_setRow ?_ ?_ _) | (refine Below.trans ?_ (Below.mono (by assumption) ?_)))); all_goals (first | omega | (simp; done) | (simp; omega)))⟩
set_option maxRecDepth 100000 in
set_option maxHeartbeats 4000000 in
theorem implFirst_any (a : Option Addr) (cap n : Nat) (xs : List Shp) (w : World) (h : ShsL w a xs) (hl : xs.length = n) (hn : n ≤ 1048576) (hcap : n ≤ cap) (hm : fldSum xs ≤ 1048576) :
    Calls Tryz.prog 52 #[.agg #[.slice a n cap]] w fun r w' => r = .returned (vioV (firstV xs)) ∧ Below w.heap.size w w' := by
  have HL := Lib.hid hl; clear hl
  have HH := Lib.hid h; clear h
  obtain ⟨R, hR⟩ : ∃ R, firstV xs = R := ⟨_, rfl⟩
  rw [hR]
  go_enter Tryz.func52, Tryz.ntmps52
  by_cases h6 : 6 < n
  · have hR1 : R = (1, 6, -1) := by rw [← hR, firstV, if_pos (by rw [HL.out]; exact h6)]
    subst hR1
    have h6' : (6 : Int) < (n : Int) := by omega
    go_wp2
    refine bodyPost_ret (vio_res (B := w.heap.size + 1) (x := 1) (y := 6) (z := -1) Tryz.results52 rfl ?_) rfl ⟨rfl, by ((repeat (first | (with_reducible exact Below.refl _ _) | (with_reducible assumption) | (with_reducible refine Below.alloc ?_ ?_ _) | (with_reducible refine Below.setCell ?_ ?_ _) | (with_reducible refine Below.drew ?_) | (with_reducible refine below_setRow ?_ ?_ _) | (refine Below.trans ?_ (Below.mono (by assumption) ?_)))); all_goals (first | omega | (simp; done) | (simp; omega)))⟩
    exact hset_new (by simp)
  · have HR := Lib.hid (show firstM xs 0 (xs.drop 0) = R by rw [← hR, firstV, if_neg (by rw [HL.out]; exact h6)]; rfl)
    have h6' : decide ((6 : Int) < (n : Int)) = false := decide_eq_false (by omega)
    clear hR
    go_wp2
    go_loopw [16] (fun i wr => ∃ k : Nat, k ≤ n ∧ i = .int .i64 k ∧ Hid (firstM xs k (xs.drop k) = R) ∧ wr.heap[w.heap.size]? = some (.cells #[.slice a n cap] 24 (0, 0)) ∧ wr.heap[w.heap.size + 1]? = some (.cells #[.int .i64 0, .int .i64 0, .int .i64 0] 59 (0, 0)) ∧ Below w.heap.size w wr) (fun i _ => n - (intOf i).toNat)
    case atStart => exact ⟨0, Nat.zero_le _, rfl, HR, hset_alloc (hset_new rfl), hset_new (by simp), by ((repeat (first | (with_reducible exact Below.refl _ _) | (with_reducible assumption) | (with_reducible refine Below.alloc ?_ ?_ _) | (with_reducible refine Below.setCell ?_ ?_ _) | (with_reducible refine Below.drew ?_) | (with_reducible refine below_setRow ?_ ?_ _) | (refine Below.trans ?_ (Below.mono (by assumption) ?_)))); all_goals (first | omega | (simp; done) | (simp; omega)))⟩
    case round =>
      obtain ⟨k, hk, rfl, HK, hA, hV, hb⟩ := hrel
      have kA := box_cells hA 0; have kV := box_cells hV; have fV := box_frozen hV; have hlA := box_lt hA; have hlV := box_lt hV
      simp only [List.getElem?_toArray, List.getElem?_cons_zero] at kA
      have HA := Lib.hid hA; have HV := Lib.hid hV; clear hA hV
      by_cases hlt : k < n
      · obtain ⟨x, hx, _⟩ := at_lt (xs := xs) (k := k) (by rw [HL.out]; exact hlt)
        have hfl : x.flds.length ≤ 1048576 := by have := fldSum_ge hx; omega
        have hsl := HH.out.keep hb
        obtain ⟨b, off, a', cap', rfl, hbl, c0, c1, hfs, hcp⟩ := hsl k x hx
        have HX := Lib.hid hx; clear hx
        have HS := Lib.hid hsl; clear hsl hfs
        go_wp2_with fail
        refine (implMsgCode_any (some ⟨b, off, none⟩) cap n k xs x _ (HS.out.keep (by ((repeat (first | (with_reducible exact Below.refl _ _) | (with_reducible assumption) | (with_reducible refine Below.alloc ?_ ?_ _) | (with_reducible refine Below.setCell ?_ ?_ _) | (with_reducible refine Below.drew ?_) | (with_reducible refine below_setRow ?_ ?_ _) | (refine Below.trans ?_ (Below.mono (by assumption) ?_)))); all_goals (first | omega | (simp; done) | (simp; omega))))) HL.out hn hcap HX.out hlt hfl).mono ?_
        rintro r w1 ⟨rfl, hb1⟩
        have hA1 := (hb1.block _ (by simp; omega)).trans (hset_alloc HA.out)
        have hV1 := (hb1.block _ (by simp; omega)).trans (hset_alloc HV.out)
        have hM1 := (hb1.block wr.heap.size (by simp)).trans (hset_new (o := .cells #[.int .i64 x.id, .slice a' x.flds.length cap'] 40) (by simp))
        have hz1 := hb1.size
        simp only [World.size_alloc] at hz1
        have hbq : Below wr.heap.size wr w1 := by ((repeat (first | (with_reducible exact Below.refl _ _) | (with_reducible assumption) | (with_reducible refine Below.alloc ?_ ?_ _) | (with_reducible refine Below.setCell ?_ ?_ _) | (with_reducible refine Below.drew ?_) | (with_reducible refine below_setRow ?_ ?_ _) | (refine Below.trans ?_ (Below.mono (by assumption) ?_)))); all_goals (first | omega | (simp; done) | (simp; omega)))
        have hbw1 : Below w.heap.size w w1 := hb.trans (hbq.mono hb.size)
        have HS1 := Lib.hid (HS.out.keep hbq)
        have kM := box_cells hM1
        clear kA kV fV hlA hlV c0 c1 hb hb1 hbq HS HA HV hbl hM1
        have kA := box_cells hA1 0; have kV := box_cells hV1; have fV := box_frozen hV1; have hlA := box_lt hA1; have hlV := box_lt hV1
        simp only [List.getElem?_toArray, List.getElem?_cons_zero] at kA
        have HA := Lib.hid hA1; have HV := Lib.hid hV1; clear hA1 hV1
        by_cases hz : msgC xs k x = 0
        · obtain ⟨O, hO⟩ : ∃ O, firstF xs k x.flds 0 x.flds = O := ⟨_, rfl⟩
          have HM := fM_ok HK.out HX.out hz
          rw [hO] at HM
          have HMx := Lib.hid HM; clear HM
          have HO := Lib.hid (show firstF xs k x.flds 0 (x.flds.drop 0) = O from hO); clear hO
          have hz' : (msgC xs k x != 0) = false := by simp [hz]
          rw [hz]
          clear hz hz'
          go_wp2
          obtain ⟨wo, hwo⟩ : ∃ wo : World, wo = w1 := ⟨_, rfl⟩
          rw [← hwo] at HA HV hbw1 HS1 kA kV fV hlA hlV ⊢
          clear kM hz1
          clear hwo
          go_loopw [32] (fun j wi => ∃ q : Nat, q ≤ x.flds.length ∧ j = .int .i64 q ∧ Hid (firstF xs k x.flds q (x.flds.drop q) = O) ∧ Below wo.heap.size wo wi) (fun j _ => x.flds.length - (intOf j).toNat)
          case atStart => exact ⟨0, Nat.zero_le _, rfl, HO, Below.refl _ _⟩
          case round =>
            obtain ⟨q, hq, rfl, HQ, hbi⟩ := hrel
            obtain ⟨wi, hwi⟩ : ∃ wi : World, wi = wr := ⟨_, rfl⟩
            rw [← hwi] at hbi ⊢
            clear hwi
            have hAi := (hbi.block _ hlA).trans HA.out
            have hVi := (hbi.block _ hlV).trans HV.out
            have hbwi : Below w.heap.size w wi := hbw1.trans (hbi.mono hbw1.size)
            have HSi := Lib.hid (HS1.out.keep hbi)
            clear kA kV fV
            have kA := box_cells hAi 0; have kV := box_cells hVi; have fV := box_frozen hVi; have hlAi := box_lt hAi; have hlVi := box_lt hVi
            simp only [List.getElem?_toArray, List.getElem?_cons_zero] at kA
            have HVi := Lib.hid hVi; clear hVi hAi
            by_cases hlq : q < x.flds.length
            · obtain ⟨f, hf, _⟩ := at_lt (xs := x.flds) (k := q) hlq
              have HF := Lib.hid hf; clear hf
              go_wp2_with fail
              refine (implFieldCode_any (some ⟨b, off, none⟩) cap n k q xs x f wi HSi.out HL.out hn HX.out hlt hfl HF.out hlq).mono ?_
              rintro r w3 ⟨rfl, hb3⟩
              have hV3 := (hb3.block _ hlVi).trans HVi.out
              have hbw3 : Below w.heap.size w w3 := hbwi.trans (hb3.mono hbwi.size)
              have kV3 := box_cells hV3; have fV3 := box_frozen hV3; have hlV3 := box_lt hV3
              have HV3 := Lib.hid hV3; clear hV3 kV fV
              by_cases hz : fldC xs x.flds q f = 0
              · rw [hz]
                have HQ2 := Lib.hid (fF_ok HQ.out HF.out hz)
                clear hz
                go_wp2
                go_roundw
                case rel => exact ⟨q + 1, by omega, by go_num, HQ2, hbi.trans (hb3.mono hbi.size)⟩
                case measure => simp [intOf]; omega
              · have hO2 := fF_bad HQ.out HF.out hz
                have hR2 : (fldC xs x.flds q f, (k : Int), (q : Int)) = R := by have := HMx.out; rw [← hO2] at this; exact this
                have HR2 := Lib.hid hR2; clear hR2 hO2
                have gz : (fldC xs x.flds q f == 0) = false := by simp [hz]
                have gzn : (fldC xs x.flds q f != 0) = true := by simp [hz]
                clear hz
                go_wp2
                refine bodyPost_ret (vio_res (B := w.heap.size + 1) (x := fldC xs x.flds q f) (y := k) (z := q) Tryz.results52 rfl ?_) rfl ⟨?_, by ((repeat (first | (with_reducible exact Below.refl _ _) | (with_reducible assumption) | (with_reducible refine Below.alloc ?_ ?_ _) | (with_reducible refine Below.setCell ?_ ?_ _) | (with_reducible refine Below.drew ?_) | (with_reducible refine below_setRow ?_ ?_ _) | (refine Below.trans ?_ (Below.mono (by assumption) ?_)))); all_goals (first | omega | (simp; done) | (simp; omega)))⟩
                · apply hset_eq (hset_set (hset_set (hset_set HV3.out))); simp only [List.setIfInBounds_toArray, List.set_cons_zero, List.set_cons_succ]
                · rw [← HR2.out]; rfl
            · have hO2 := fF_end HQ.out (by omega)
              have HK2 := Lib.hid (show firstM xs (k + 1) (xs.drop (k + 1)) = R by have := HMx.out; rw [← hO2] at this; exact this)
              clear hO2
              go_wp2
              go_roundw
              case rel => exact ⟨k + 1, by omega, by go_num, HK2, (hbi.block _ hlA).trans HA.out, HVi.out, hbwi⟩
              case measure => simp [intOf]; omega
        · have hR2 := fM_bad HK.out HX.out hz
          have HR2 := Lib.hid hR2; clear hR2
          have gz : (msgC xs k x == 0) = false := by simp [hz]
          have gzn : (msgC xs k x != 0) = true := by simp [hz]
          clear hz
          go_wp2
          refine bodyPost_ret (vio_res (B := w.heap.size + 1) (x := msgC xs k x) (y := k) (z := -1) Tryz.results52 rfl ?_) rfl ⟨?_, by ((repeat (first | (with_reducible exact Below.refl _ _) | (with_reducible assumption) | (with_reducible refine Below.alloc ?_ ?_ _) | (with_reducible refine Below.setCell ?_ ?_ _) | (with_reducible refine Below.drew ?_) | (with_reducible refine below_setRow ?_ ?_ _) | (refine Below.trans ?_ (Below.mono (by assumption) ?_)))); all_goals (first | omega | (simp; done) | (simp; omega)))⟩
          · apply hset_eq (hset_set (hset_set (hset_set HV.out))); simp only [List.setIfInBounds_toArray, List.set_cons_zero, List.set_cons_succ]
          · rw [← HR2.out]; rfl
      · obtain rfl : k = n := by omega
        have hR2 := fM_end HK.out (by rw [HL.out]; omega)
        have HR2 := Lib.hid hR2; clear hR2
        go_wp2
        refine bodyPost_ret (vio_res (B := w.heap.size + 1) (x := 0) (y := 0) (z := 0) Tryz.results52 rfl ?_) rfl ⟨?_, by ((repeat (first | (with_reducible exact Below.refl _ _) | (with_reducible assumption) | (with_reducible refine Below.alloc ?_ ?_ _) | (with_reducible refine Below.setCell ?_ ?_ _) | (with_reducible refine Below.drew ?_) | (with_reducible refine below_setRow ?_ ?_ _) | (refine Below.trans ?_ (Below.mono (by assumption) ?_)))); all_goals (first | omega | (simp; done) | (simp; omega)))⟩
        · apply hset_eq (hset_set (hset_set (hset_set HV.out))); simp only [List.setIfInBounds_toArray, List.set_cons_zero, List.set_cons_succ]
        · rw [← HR2.out]; rfl
structure RawVal (xs : List Shp) : Prop where
  n : xs.length ≤ 6
  msg : ∀ (i : Nat) (x : Shp), xs[i]? = some x → msgC xs i x = 0
  fld : ∀ (i : Nat) (x : Shp), xs[i]? = some x → ∀ (k : Nat) (f : Fld), x.flds[k]? = some f → fldC xs x.flds k f = 0
theorem firstF_some {xs : List Shp} {i : Nat} {fs : List Fld} : ∀ {rest : List Fld} {k : Nat} {v : Int × Int × Int}, firstF xs i fs k rest = some v → v.1 ≠ 0
  | [], k, v, h => by simp [firstF] at h
  | f :: rest, k, v, h => by
    rw [firstF] at h
    by_cases hz : fldC xs fs k f = 0
    · rw [if_pos hz] at h; exact firstF_some h
    · rw [if_neg hz] at h; simp only [Option.some.injEq] at h; subst h; exact hz
theorem firstF_no {xs : List Shp} {i : Nat} {fs : List Fld} : ∀ {rest : List Fld} {k : Nat}, fs.drop k = rest → firstF xs i fs k rest = none → ∀ (j : Nat) (f : Fld), k ≤ j → fs[j]? = some f → fldC xs fs j f = 0
  | [], k, hd, h, j, f, hkj, hf => by
    have := List.drop_eq_nil_iff.1 hd
    obtain ⟨hj, _⟩ := List.getElem?_eq_some_iff.1 hf
    omega
  | g :: rest, k, hd, h, j, f, hkj, hf => by
    rw [firstF] at h
    by_cases hz : fldC xs fs k g = 0
    · rw [if_pos hz] at h
      have hg : fs[k]? = some g := by have := congrArg List.head? hd; rw [List.head?_drop] at this; simpa using this
      rcases Nat.eq_or_lt_of_le hkj with rfl | hlt
      · rw [hg] at hf; cases hf; exact hz
      · exact firstF_no (by have := congrArg List.tail hd; rw [List.tail_drop] at this; simpa using this) h j f hlt hf
    · rw [if_neg hz] at h; simp at h
theorem firstM_no {xs : List Shp} : ∀ {rest : List Shp} {i : Nat}, xs.drop i = rest → (firstM xs i rest).1 = 0 → ∀ (j : Nat) (x : Shp), i ≤ j → xs[j]? = some x → msgC xs j x = 0 ∧ ∀ (k : Nat) (f : Fld), x.flds[k]? = some f → fldC xs x.flds k f = 0
  | [], i, hd, h, j, x, hij, hx => by
    have := List.drop_eq_nil_iff.1 hd
    obtain ⟨hj, _⟩ := List.getElem?_eq_some_iff.1 hx
    omega
  | y :: rest, i, hd, h, j, x, hij, hx => by
    rw [firstM] at h
    by_cases hz : msgC xs i y = 0
    · rw [if_pos hz] at h
      have hy : xs[i]? = some y := by have := congrArg List.head? hd; rw [List.head?_drop] at this; simpa using this
      cases hF : firstF xs i y.flds 0 y.flds with
      | some v => rw [hF] at h; exact absurd h (firstF_some hF)
      | none =>
        rw [hF] at h
        rcases Nat.eq_or_lt_of_le hij with rfl | hlt
        · rw [hy] at hx; cases hx
          exact ⟨hz, fun k f hf => firstF_no (by simp) hF k f (Nat.zero_le _) hf⟩
        · exact firstM_no (by have := congrArg List.tail hd; rw [List.tail_drop] at this; simpa using this) h j x hlt hx
    · rw [if_neg hz] at h; exact absurd h hz
theorem val_of {xs : List Shp} (h : (firstV xs).1 = 0) : RawVal xs := by
  by_cases h6 : 6 < xs.length
  · rw [firstV, if_pos h6] at h; simp at h
  · rw [firstV, if_neg h6] at h
    have := firstM_no (xs := xs) (by simp) h
    exact ⟨by omega, fun i x hx => (this i x (Nat.zero_le _) hx).1, fun i x hx => (this i x (Nat.zero_le _) hx).2⟩
theorem RawVal.len {xs : List Shp} (h : RawVal xs) {x : Shp} (hx : x ∈ xs) : x.flds.length ≤ 8 := by
  obtain ⟨i, hi⟩ := List.getElem?_of_mem hx
  have := h.msg i x hi
  unfold msgC at this
  split at this
  · simp at this
  · split at this
    · simp at this
    · split at this
      · simp at this
      · omega
theorem msgC_id {xs : List Shp} {i : Nat} {x : Shp} (h : msgC xs i x = 0) : inB x.id 1 99 = true ∧ hasId (xs.take i) x.id = false := by
  unfold msgC at h
  split at h
  · simp at h
  · rename_i h1
    split at h
    · simp at h
    · rename_i h2
      exact ⟨by simpa using h1, by simpa using h2⟩
end Go.Proofs.YtbjbgneiglopmaaGreatDoor
