/- Texts that FnSettle leans on, part 14. (Put together by wip/tools/bundle.py.) -/
import Derived.Deep.CutBlock
import Derived.Test.YtabdjimjelfbfaaGreatSettle1
import Derived.Test.YtabdjimjelfbfaaGreatSettle2
import Derived.Test.YtabdjimjelfbfaaGreatSettle3
import Derived.Test.YtabdjimjelfbfaaGreatSettle4
import Derived.Test.YtabdjimjelfbfaaGreatSettle5
import Derived.Test.YtabdjimjelfbfaaGreatSettle6
import Derived.Test.YtabdjimjelfbfaaGreatSettle7
import Derived.Test.YtabdjimjelfbfaaGreatSettle8
import Derived.Test.YtabdjimjelfbfaaGreatSettle9
import Derived.Test.YtabdjimjelfbfaaGreatSettle10
import Derived.Test.YtabdjimjelfbfaaGreatSettle11
import Derived.Test.YtabdjimjelfbfaaGreatSettle12
import Derived.Test.YtabdjimjelfbfaaGreatSettle13
namespace Go.Proofs.YtabdjimjelfbfaaGreat
set_option linter.unusedSimpArgs false
set_option linter.unusedVariables false
open Go.ChangeShapes Go.WideShapes Go.ChangeAt Go.RowKit Go.BigFrame
def SomeU (w : World) (r : Ending) (w' : World) : Prop := ∃ m : Nat, r = .returned (.int .u64 m) ∧ m < 2 ^ 64 ∧ w = w'
set_option maxRecDepth 100000 in
set_option maxHeartbeats 1000000 in
theorem tagOf_any (n k : Int) (w : World) : Calls Tryz.prog 54 #[.int .i64 n, .int .i64 k] w (SomeU w) := by
 cases h1 : inB n 1 536870911
 ·go_enter Tryz.func54, Tryz.ntmps54
  go_wp2_with (first | (go_at_call 51; refine (l1In_any _ _ _ _).mono ?_; rintro r w1 ⟨rfl, rfl⟩; rw [h1]))
  go_ret
  exact ⟨0, rfl, by decide, rfl⟩
 ·cases h2 : inB k 0 7
  ·go_enter Tryz.func54, Tryz.ntmps54
   go_wp2_with (first | (go_at_call 51; refine (l1In_any _ _ _ _).mono ?_; rintro r w1 ⟨rfl, rfl⟩; first | rw [h1] | rw [h2]))
   go_ret
   exact ⟨0, rfl, by decide, rfl⟩
  ·have g1 := inB_le h1; have g2 := inB_le h2
   obtain ⟨m, hm⟩ := Int.eq_ofNat_of_zero_le (a := 8 * n + k) (by omega)
   have hm64 : m < 2 ^ 64 := by omega
   have e1 : IntKind.u64.wrap (8 * n + k) = m := by rw [IntKind.wrap_u64]; omega
   have HM := Lib.hid hm64
   clear hm hm64
   go_enter Tryz.func54, Tryz.ntmps54
   go_wp2_with (first | (go_at_call 51; refine (l1In_any _ _ _ _).mono ?_; rintro r w1 ⟨rfl, rfl⟩; first | rw [h1] | rw [h2]))
   go_ret
   exact ⟨m, rfl, HM.out, rfl⟩
def SomeNat (m : Nat) (w : World) (r : Ending) (w' : World) : Prop := ∃ q : Nat, r = .returned (.int .i64 q) ∧ q ≤ m ∧ w = w'
theorem l1Max_nat (x : Int) (w : World) (hx : x ≤ 1000000000) : Calls Tryz.prog 55 #[.int .i64 0, .int .i64 x] w (SomeNat 1000000000 w) := by
 by_cases h : (0 : Int) > x
 ·go_enter Tryz.func55, Tryz.ntmps55
  go_wp2
  go_ret
  exact ⟨0, rfl, by omega, rfl⟩
 ·obtain ⟨q, rfl⟩ := Int.eq_ofNat_of_zero_le (a := x) (by omega)
  go_enter Tryz.func55, Tryz.ntmps55
  go_wp2
  go_ret
  exact ⟨q, rfl, by omega, rfl⟩
set_option maxRecDepth 100000 in
set_option maxHeartbeats 2000000 in
theorem l12Scalar_any (B : Nat) (kind : Int) (w : World) (hc : Cur w B) : Calls Tryz.prog 169 #[.pointer (some ⟨B, 0, none⟩), .int .i64 kind] w (DrawnSt B 10 w) := by
 have hB := hc.lt
 go_enter Tryz.func169, Tryz.ntmps169
 go_wp2_with fail
 refine (l1Wide_any B w hc).mono ?_
 rintro r w1 ⟨u, rfl, hu, hc1, ho1⟩
 obtain ⟨u, rfl, hu64⟩ := wu64_nat hu
 have hu1 : Up B w w1 := ⟨hc1, ho1⟩
 clear hu
 cases h3 : (kind == 3)
 ·go_wp2_with fail
  refine (specWireOf_any kind w1).mono ?_
  rintro r v1 ⟨rfl, hv1⟩
  have hu2 := hu1.below hB hv1 hu1.oth.size
  go_wp2_with fail
  refine (specWidthOf_any _ v1).mono ?_
  rintro r v2 ⟨rfl, rfl⟩
  rcases widthOf_cases (wireOf kind) with h0 | h4 | h8
  ·rw [h0]
   go_wp2_with fail
   refine (l2Var_any B u v1 hu2.cur hu64).mono ?_
   rintro r v3 ⟨s, rfl, hs, hc3, ho3⟩
   go_wp2
   go_ret
   exact ⟨s, rfl, hs, hc3, hu2.oth.trans ho3⟩
  ·rw [h4]
   go_wp2_with fail
   refine (l1Bytes_any B 4 v1 hu2.cur (by omega)).mono ?_
   rintro r v3 ⟨v, l, rfl, hl, hv, hr, hu3⟩
   have hstr := own_string0 hr hv Tryz.underlying22 Tryz.underlying5 Tryz.underlying9
   go_wp2
   go_ret
   exact ⟨⟨l.toArray⟩, rfl, by show l.toArray.size ≤ _; rw [List.size_toArray]; omega, hu3.cur, hu2.oth.trans hu3.oth⟩
  ·rw [h8]
   go_wp2_with fail
   refine (l1Bytes_any B 8 v1 hu2.cur (by omega)).mono ?_
   rintro r v3 ⟨v, l, rfl, hl, hv, hr, hu3⟩
   have hstr := own_string0 hr hv Tryz.underlying22 Tryz.underlying5 Tryz.underlying9
   go_wp2
   go_ret
   exact ⟨⟨l.toArray⟩, rfl, by show l.toArray.size ≤ _; rw [List.size_toArray]; omega, hu3.cur, hu2.oth.trans hu3.oth⟩
 ·clear hu64
  go_wp2_with fail
  refine (l1Below_any B 3 w1 hc1 (by omega) (by omega)).mono ?_
  rintro r w2 ⟨x, rfl, hx0, hx1, hc2, ho2⟩
  obtain ⟨x, rfl⟩ := Int.eq_ofNat_of_zero_le hx0
  have hu64 : x < 2 ^ 64 := by omega
  have e1 : IntKind.u64.wrap (x : Int) = x := by rw [IntKind.wrap_u64]; omega
  have hu1' := hu1.step hc2 ho2
  go_wp2_with fail
  clear e1
  refine (specWireOf_any kind w2).mono ?_
  rintro r v1 ⟨rfl, hv1⟩
  have hu2 := hu1'.below hB hv1 hu1'.oth.size
  go_wp2_with fail
  refine (specWidthOf_any _ v1).mono ?_
  rintro r v2 ⟨rfl, rfl⟩
  rcases widthOf_cases (wireOf kind) with h0 | h4 | h8
  ·rw [h0]
   go_wp2_with fail
   refine (l2Var_any B x v1 hu2.cur hu64).mono ?_
   rintro r v3 ⟨s, rfl, hs, hc3, ho3⟩
   go_wp2
   go_ret
   exact ⟨s, rfl, hs, hc3, hu2.oth.trans ho3⟩
  ·rw [h4]
   go_wp2_with fail
   refine (l1Bytes_any B 4 v1 hu2.cur (by omega)).mono ?_
   rintro r v3 ⟨v, l, rfl, hl, hv, hr, hu3⟩
   have hstr := own_string0 hr hv Tryz.underlying22 Tryz.underlying5 Tryz.underlying9
   go_wp2
   go_ret
   exact ⟨⟨l.toArray⟩, rfl, by show l.toArray.size ≤ _; rw [List.size_toArray]; omega, hu3.cur, hu2.oth.trans hu3.oth⟩
  ·rw [h8]
   go_wp2_with fail
   refine (l1Bytes_any B 8 v1 hu2.cur (by omega)).mono ?_
   rintro r v3 ⟨v, l, rfl, hl, hv, hr, hu3⟩
   have hstr := own_string0 hr hv Tryz.underlying22 Tryz.underlying5 Tryz.underlying9
   go_wp2
   go_ret
   exact ⟨⟨l.toArray⟩, rfl, by show l.toArray.size ≤ _; rw [List.size_toArray]; omega, hu3.cur, hu2.oth.trans hu3.oth⟩
set_option maxRecDepth 100000 in
set_option maxHeartbeats 4000000 in
theorem l12Unknown_any (B : Nat) (w : World) (hc : Cur w B) : Calls Tryz.prog 151 #[.pointer (some ⟨B, 0, none⟩)] w (DrawnSt B 24 w) := by
 have hB := hc.lt
 go_enter Tryz.func151, Tryz.ntmps151
 go_wp2_with fail
 have hua := (Up.refl hc).alloc hB (.cells #[.int .i64 0, .int .i64 1, .int .i64 2, .int .i64 5, .int .i64 0, .int .i64 2] 3)
 refine (l1PickInt_any B w.heap.size 6 [0, 1, 2, 5, 0, 2] 3 _ hua.cur (by omega) (hset_new rfl) (by decide) (by decide)).mono ?_
 rintro r w1 ⟨wi, rfl, hc1, ho1⟩
 have hu1 := hua.step hc1 ho1
 clear hua hc1 ho1
 go_upto_if 10 with (go_at_call 52; refine (l1Once_any B 10 w1 hu1.cur (by omega) (by omega)).mono ?_; rintro r w2 ⟨b2, rfl, hc2, ho2⟩)
 have hu2 := hu1.step hc2 ho2
 clear hu1 hc2 ho2
 have hz2 := hu2.oth.size
 go_cut [3] from 11 to 58 (fun t wx => (∃ x : Int, t = .int .i64 x) ∧ Up B w wx)
 case first =>
  cases b2
  ·go_wp2_with fail
   go_meet
   case rel => exact ⟨⟨_, rfl⟩, hu2⟩
  ·go_wp2_with fail
   have hub := hu2.alloc hB (.cells #[.int .i64 3, .int .i64 4, .int .i64 6, .int .i64 7] 3)
   refine (l1PickInt_any B w2.heap.size 4 [3, 4, 6, 7] 3 _ hub.cur (by omega) (hset_new rfl) (by decide) (by decide)).mono ?_
   rintro r w3 ⟨x3, rfl, hc3, ho3⟩
   go_wp2_with fail
   go_meet
   case rel => exact ⟨⟨_, rfl⟩, hub.step hc3 ho3⟩
 case rest =>
  obtain ⟨⟨wi, rfl⟩, hu3⟩ := hcut
  go_wp2_with fail
  refine (l1Below_any B 3 wc hu3.cur (by omega) (by omega)).mono ?_
  rintro r w4 ⟨x4, rfl, hx40, hx41, hc4, ho4⟩
  have hu4 := hu3.step hc4 ho4
  clear hu3 hc4 ho4
  go_wp2_with fail
  refine (tagOf_any _ wi w4).mono ?_
  rintro r w5 ⟨m, rfl, hm64, rfl⟩
  go_wp2_with fail
  refine (l2Var_any B m w4 hu4.cur hm64).mono ?_
  rintro r w6 ⟨h6, rfl, hh6, hc6, ho6⟩
  have hu6 := hu4.step hc6 ho6
  clear hu4 hc6 ho6 hm64
  go_upto_if 22 with (go_at_call 52; refine (l1Once_any B 20 _ hu6.cur (by omega) (by omega)).mono ?_; rintro r w7 ⟨b7, rfl, hc7, ho7⟩)
  have hu7 := hu6.step hc7 ho7
  clear hu6 hc7 ho7
  go_cut [4] from 23 to 58 (fun t wx => (∃ s : ByteArray, t = .string s ∧ s.size ≤ 10) ∧ Up B w wx)
  case first =>
   cases b7
   ·go_wp2_with fail
    go_meet
    case rel => exact ⟨⟨_, rfl, hh6⟩, hu7⟩
   ·go_wp2_with fail
    refine (l1Wide_any B _ hu7.cur).mono ?_
    rintro r w8 ⟨u, rfl, hu, hc8, ho8⟩
    obtain ⟨u, rfl, hu64⟩ := wu64_nat hu
    have hu8 := hu7.step hc8 ho8
    clear hu
    go_wp2_with fail
    refine (l2Var_any B u _ hu8.cur hu64).mono ?_
    rintro r w9 ⟨h9, rfl, hh9, hc9, ho9⟩
    go_wp2_with fail
    go_meet
    case rel => exact ⟨⟨_, rfl, hh9⟩, hu8.step hc9 ho9⟩
  case rest =>
   obtain ⟨⟨hd, rfl, hhd⟩, hu9⟩ := hcut
   clear hu7 hh6
   have hz9 := hu9.oth.size
   cases h0 : (wi == 0)
   ·cases h2 : (wi == 2)
    ·go_wp2_with fail
     refine (specWidthOf_any wi _).mono ?_
     rintro r _ ⟨rfl, rfl⟩
     obtain ⟨q, hq, hq8⟩ : ∃ q : Nat, widthOf wi = q ∧ q ≤ 8 := by
      rcases widthOf_cases wi with h | h | h <;> rw [h]
      ·exact ⟨0, rfl, by omega⟩
      ·exact ⟨4, rfl, by omega⟩
      ·exact ⟨8, rfl, by omega⟩
     rw [hq]
     clear hq
     go_wp2_with fail
     refine (l1Bytes_any B q _ hu9.cur (by omega)).mono ?_
     rintro r v3 ⟨v, l, rfl, hl, hv, hr, hu3⟩
     have hstr := own_string0 hr hv Tryz.underlying22 Tryz.underlying5 Tryz.underlying9
     obtain ⟨t, ht⟩ : ∃ t : ByteArray, t = ⟨l.toArray⟩ := ⟨_, rfl⟩
     have hts : t.size ≤ 8 := by rw [ht]; show l.toArray.size ≤ _; rw [List.size_toArray]; omega
     rw [← ht] at hstr
     clear ht
     have hcat : ¬ 9223372036854775807 < hd.size + t.size := by omega
     go_wp2
     go_ret
     exact ⟨hd ++ t, rfl, by rw [ByteArray.size_append]; omega, hu3.cur, hu9.oth.trans hu3.oth⟩
    ·go_wp2_with fail
     refine (l1Below_any B 5 _ hu9.cur (by omega) (by omega)).mono ?_
     rintro r v1 ⟨q, rfl, hq0, hq1, hcq, hoq⟩
     obtain ⟨q, rfl⟩ := Int.eq_ofNat_of_zero_le hq0
     have huq := hu9.step hcq hoq
     clear hu9 hcq hoq
     go_wp2_with fail
     refine (l1Bytes_any B q _ huq.cur (by omega)).mono ?_
     rintro r v3 ⟨v, l, rfl, hl, hv, hr, hu3⟩
     have hstr := own_string0 hr hv Tryz.underlying22 Tryz.underlying5 Tryz.underlying9
     obtain ⟨t, ht⟩ : ∃ t : ByteArray, t = ⟨l.toArray⟩ := ⟨_, rfl⟩
     have hts : t.size ≤ 4 := by rw [ht]; show l.toArray.size ≤ _; rw [List.size_toArray]; omega
     rw [← ht] at hstr
     have hut := huq.step hu3.cur hu3.oth
     have e1 : IntKind.u64.wrap (t.size : Int) = t.size := by rw [IntKind.wrap_u64]; omega
     clear ht huq
     go_wp2_with fail
     refine (l2Var_any B t.size v3 hut.cur (by omega)).mono ?_
     rintro r v4 ⟨s4, rfl, hs4, hc4, ho4⟩
     clear hstr e1
     have hcat : ¬ 9223372036854775807 < hd.size + s4.size := by omega
     have hcat2 : ¬ 9223372036854775807 < hd.size + s4.size + t.size := by omega
     go_wp2
     go_ret
     exact ⟨hd ++ s4 ++ t, rfl, by rw [ByteArray.size_append, ByteArray.size_append]; omega, hc4, hut.oth.trans ho4⟩
   ·go_wp2_with fail
    refine (l1Wide_any B _ hu9.cur).mono ?_
    rintro r v1 ⟨u, rfl, hu, hc1, ho1⟩
    obtain ⟨u, rfl, hu64⟩ := wu64_nat hu
    have hu1 := hu9.step hc1 ho1
    clear hu
    go_wp2_with fail
    refine (l2Var_any B u _ hu1.cur hu64).mono ?_
    rintro r v2 ⟨s2, rfl, hs2, hc2, ho2⟩
    have hcat : ¬ 9223372036854775807 < hd.size + s2.size := by omega
    go_wp2
    go_ret
    exact ⟨hd ++ s2, rfl, by rw [ByteArray.size_append]; omega, hc2, hu1.oth.trans ho2⟩
def bD : Nat → Nat
 | 0 => 400
 | d + 1 => 4 * (bD d + 100)
def vD : Nat → Nat
 | 0 => 60
 | d + 1 => bD d + 60
theorem bD_le {d : Nat} (h : d ≤ 8) : bD d ≤ 100000000 := by
 have : d = 0 ∨ d = 1 ∨ d = 2 ∨ d = 3 ∨ d = 4 ∨ d = 5 ∨ d = 6 ∨ d = 7 ∨ d = 8 := by omega
 rcases this with rfl | rfl | rfl | rfl | rfl | rfl | rfl | rfl | rfl <;> decide
theorem vD_bD (d : Nat) : 4 * vD d ≤ bD d ∧ 60 ≤ vD d ∧ 96 ≤ bD d := by
 cases d with
 | zero => simp [vD, bD]
 | succ d => simp only [vD, bD]; omega
structure InS (w : World) (B base : Nat) (a : Option Addr) (n cap : Nat) (rs : List ShR) (xs : List Shp) : Prop where
 own : OwnShs w base 77 34 (.slice a n cap) n rs xs
 hB : B < base
 good : SchG xs
 n : n ≤ 1000
theorem InS.oth {w w' : World} {B base : Nat} {a : Option Addr} {n cap : Nat} {rs : List ShR} {xs : List Shp} (h : InS w B base a n cap rs xs) (ho : Oth B w w') : InS w' B base a n cap rs xs := ⟨h.own.oth ho h.hB, h.hB, h.good, h.n⟩
theorem InS.below {w w' : World} {B base : Nat} {a : Option Addr} {n cap : Nat} {rs : List ShR} {xs : List Shp} (h : InS w B base a n cap rs xs) (hb : Below w.heap.size w w') : InS w' B base a n cap rs xs := ⟨h.own.below hb (Nat.le_refl _), h.hB, h.good, h.n⟩
def BytesAt (d : Nat) : Prop := ∀ (B : Nat) (p : Pl) (a : Option Addr) (n cap : Nat) (rs : List ShR) (xs : List Shp) (base k : Nat) (w : World), Cur w B → InS w B base a n cap rs xs → k < n →
 Calls Tryz.prog 133 #[.pointer (some ⟨B, 0, none⟩), p.val (.slice a n cap), .int .i64 k, .int .i64 d] w (DrawnSt B (bD d) w)
def ValueAt (d : Nat) : Prop := ∀ (B : Nat) (p : Pl) (a : Option Addr) (n cap : Nat) (rs : List ShR) (xs : List Shp) (base : Nat) (f : Fld) (w : World), Cur w B → InS w B base a n cap rs xs → (f.kind = 8 → 0 ≤ f.msg ∧ f.msg < n) →
 Calls Tryz.prog 152 #[.pointer (some ⟨B, 0, none⟩), p.val (.slice a n cap), f.val, .int .i64 d] w (DrawnSt B (vD d) w)
structure MidV (w : World) (B : Nat) (p : Pl) (a : Option Addr) (n cap : Nat) (f : Fld) (wx : World) : Prop where
 boxP : wx.heap[w.heap.size]? = some (.cells #[.slice a n cap, .int .i64 p.root, .int .i64 p.deep, .int .i64 p.most] 28 (0, 0))
 boxF : wx.heap[w.heap.size + 1]? = some (.cells #[.int .i64 f.number, .int .i64 f.kind, .bool f.rep, .bool f.packed, .int .i64 f.msg] 34 (0, 0))
 up : Up B w wx
section
variable {w : World} {B : Nat} {p : Pl} {a : Option Addr} {n cap : Nat} {f : Fld} {wx wy : World}
theorem MidV.step (h : MidV w B p a n cap f wx) (hB : B < w.heap.size) (hc : Cur wy B) (ho : Oth B wx wy) : MidV w B p a n cap f wy :=
 ⟨(ho.block (box_lt h.boxP) (by omega)).trans h.boxP, (ho.block (box_lt h.boxF) (by omega)).trans h.boxF, h.up.step hc ho⟩
theorem MidV.below (h : MidV w B p a n cap f wx) (hB : B < w.heap.size) (hb : Below wx.heap.size wx wy) : MidV w B p a n cap f wy :=
 ⟨(hb.block _ (box_lt h.boxP)).trans h.boxP, (hb.block _ (box_lt h.boxF)).trans h.boxF, h.up.below hB hb h.up.oth.size⟩
theorem MidV.cells (h : MidV w B p a n cap f wx) : (wx.cell? ⟨w.heap.size, 0, none⟩ = some (.slice a n cap) ∧ wx.cell? ⟨w.heap.size, 1, none⟩ = some (.int .i64 p.root) ∧ wx.cell? ⟨w.heap.size, 2, none⟩ = some (.int .i64 p.deep) ∧ wx.cell? ⟨w.heap.size, 3, none⟩ = some (.int .i64 p.most)) ∧
  (wx.cell? ⟨w.heap.size + 1, 0, none⟩ = some (.int .i64 f.number) ∧ wx.cell? ⟨w.heap.size + 1, 1, none⟩ = some (.int .i64 f.kind) ∧ wx.cell? ⟨w.heap.size + 1, 2, none⟩ = some (.bool f.rep) ∧ wx.cell? ⟨w.heap.size + 1, 3, none⟩ = some (.bool f.packed) ∧ wx.cell? ⟨w.heap.size + 1, 4, none⟩ = some (.int .i64 f.msg)) :=
 ⟨⟨box_cells h.boxP 0, box_cells h.boxP 1, box_cells h.boxP 2, box_cells h.boxP 3⟩, ⟨box_cells h.boxF 0, box_cells h.boxF 1, box_cells h.boxF 2, box_cells h.boxF 3, box_cells h.boxF 4⟩⟩
theorem MidV.ins (h : MidV w B p a n cap f wx) {base : Nat} {rs : List ShR} {xs : List Shp} (hi : InS w B base a n cap rs xs) : InS wx B base a n cap rs xs := hi.oth h.up.oth
end
set_option maxRecDepth 100000 in
set_option maxHeartbeats 4000000 in
theorem value_of (d : Nat) (hd : d ≤ 8) (ih : ∀ e, d = e + 1 → BytesAt e) : ValueAt d := by
 intro B p a n cap rs xs base f w hc hi hf
 have hBl := hc.lt
 have hvd := (vD_bD d).2.1
 have hv9 : vD d ≤ 100000060 := by
  cases d with
  | zero => decide
  | succ e => have := bD_le (d := e) (by omega); simp only [vD]; omega
 obtain ⟨fn, fk, fr, fp, fm⟩ := f
 simp only at hf
 go_enter Tryz.func152, Tryz.ntmps152
 have hM0 : MidV w B p a n cap ⟨fn, fk, fr, fp, fm⟩ ((w.alloc (.cells #[.slice a n cap, .int .i64 p.root, .int .i64 p.deep, .int .i64 p.most] 28)).alloc (.cells #[.int .i64 fn, .int .i64 fk, .bool fr, .bool fp, .int .i64 fm] 34)) :=
  ⟨hset_alloc (hset_new rfl), hset_new (by simp), ((Up.refl hc).alloc hBl _).alloc hBl _⟩
 go_wp2_with fail
 refine (specWireOf_any fk _).mono ?_
 rintro r w1 ⟨rfl, hb1⟩
 have HM1 := Lib.hid (hM0.below hBl hb1); clear hM0 hb1
 obtain ⟨wi, hwi⟩ : ∃ wi, wireOf fk = wi := ⟨_, rfl⟩
 rw [hwi]
 clear hwi
 obtain ⟨⟨p0, p1, p2, p3⟩, f0, f1, f2, f3, f4⟩ := HM1.out.cells
 go_upto_block 0 with fail
 go_cut [9, 10] from 11 to 85 (fun t u wx => (∃ x : Int, t = .int .i64 x) ∧ (∃ s : ByteArray, u = .string s ∧ s.size + 20 ≤ vD d) ∧ MidV w B p a n cap ⟨fn, fk, fr, fp, fm⟩ wx)
 case first =>
  by_cases h8 : fk = 8
  ·subst h8
   have hf8 := hf rfl
   by_cases hd0 : d = 0
   ·subst hd0
    go_wp2_with fail
    go_meet
    case rel => exact ⟨⟨_, rfl⟩, ⟨_, rfl, by decide⟩, HM1.out⟩
   ·obtain ⟨e, rfl⟩ : ∃ e, d = e + 1 := ⟨d - 1, by omega⟩
    obtain ⟨m, rfl⟩ := Int.eq_ofNat_of_zero_le hf8.1
    have hm : m < n := by omega
    have hde : (0 : Int) < ((e + 1 : Nat) : Int) := by omega
    have hde2 : IntKind.i64.wrap (((e + 1 : Nat) : Int) - 1) = (e : Int) := by rw [IntKind.wrap_i64]; omega
    go_wp2_with fail
    refine (ih e rfl B p a n cap rs xs base m _ HM1.out.up.cur (HM1.out.ins hi) hm).mono ?_
    rintro r w2 ⟨s, rfl, hs, hc2, ho2⟩
    clear hde2
    go_wp2_with fail
    go_meet
    case rel => exact ⟨⟨_, rfl⟩, ⟨s, rfl, by simp only [vD]; omega⟩, HM1.out.step hBl hc2 ho2⟩
  ·have g8 : (fk == 8) = false := by simp [h8]
   clear hf
   by_cases h6 : fk = 6
   ·subst h6
    clear h8
    go_wp2_with fail
    refine (l1Below_any B 3 _ HM1.out.up.cur (by omega) (by omega)).mono ?_
    rintro r w2 ⟨x, rfl, hx0, hx1, hc2, ho2⟩
    obtain ⟨q, rfl⟩ := Int.eq_ofNat_of_zero_le hx0
    have hM2 := HM1.out.step hBl hc2 ho2
    go_wp2_with fail
    refine (l5Text_any B q _ hc2 (by omega)).mono ?_
    rintro r w3 ⟨s, rfl, hs, hc3, ho3⟩
    have hM3 := hM2.step hBl hc3 ho3
    go_wp2_with fail
    refine (l1Once_any B 8 _ hc3 (by omega) (by omega)).mono ?_
    rintro r w4 ⟨b4, rfl, hc4, ho4⟩
    have HM4 := Lib.hid (hM3.step hBl hc4 ho4)
    clear hM2 hM3
    cases b4
    ·go_wp2_with fail
     go_meet
     case rel => exact ⟨⟨_, rfl⟩, ⟨s, rfl, by omega⟩, HM4.out⟩
    ·go_wp2_with fail
     refine (l5Bent_any B _ HM4.out.up.cur).mono ?_
     rintro r w5 ⟨t, rfl, ht, hc5, ho5⟩
     go_wp2_with fail
     go_meet
     case rel => exact ⟨⟨_, rfl⟩, ⟨t, rfl, by omega⟩, HM4.out.step hBl hc5 ho5⟩
   ·have g6 : (fk == 6) = false := by simp [h6]
    by_cases h7 : fk = 7
    ·subst h7
     clear h8 h6
     go_wp2_with fail
     refine (l1Below_any B 6 _ HM1.out.up.cur (by omega) (by omega)).mono ?_
     rintro r w2 ⟨x, rfl, hx0, hx1, hc2, ho2⟩
     obtain ⟨q, rfl⟩ := Int.eq_ofNat_of_zero_le hx0
     have hM2 := HM1.out.step hBl hc2 ho2
     go_wp2_with fail
     refine (l1Bytes_any B q _ hc2 (by omega)).mono ?_
     rintro r w3 ⟨v, l, rfl, hl, hv, hr, hu3⟩
     have hstr := own_string0 hr hv Tryz.underlying22 Tryz.underlying5 Tryz.underlying9
     obtain ⟨t, ht⟩ : ∃ t : ByteArray, t = ⟨l.toArray⟩ := ⟨_, rfl⟩
     have hts : t.size ≤ 5 := by rw [ht]; show l.toArray.size ≤ _; rw [List.size_toArray]; omega
     rw [← ht] at hstr
     have HM3 := Lib.hid (hM2.step hBl hu3.cur hu3.oth)
     clear ht hM2
     go_wp2_with fail
     go_meet
     case rel => exact ⟨⟨_, rfl⟩, ⟨t, rfl, by omega⟩, HM3.out⟩
    ·have g7 : (fk == 7) = false := by simp [h7]
     clear h8 h6 h7
     go_upto_region 13 with fail
     go_cut [62] from 63 to 72 (fun t wx => (∃ b : Bool, t = .bool b) ∧ MidV w B p a n cap ⟨fn, fk, fr, fp, fm⟩ wx)
     case first =>
      go_wp2_with fail
      refine (specRuns_any ⟨fn, fk, fr, fp, fm⟩ _).mono ?_
      rintro r w2 ⟨rfl, hb2⟩
      have HM2 := Lib.hid (HM1.out.below hBl hb2); clear hb2
      obtain ⟨⟨q0, q1, q2, q3⟩, e0, e1, e2, e3, e4⟩ := HM2.out.cells
      cases hr : runsF ⟨fn, fk, fr, fp, fm⟩
      ·go_wp2_with fail
       go_meet
       case rel => exact ⟨⟨_, rfl⟩, HM2.out⟩
      ·cases fp
       ·go_wp2_with fail
        refine (l1Once_any B 3 _ HM2.out.up.cur (by omega) (by omega)).mono ?_
        rintro r w3 ⟨b3, rfl, hc3, ho3⟩
        go_wp2_with fail
        go_meet
        case rel => exact ⟨⟨_, rfl⟩, HM2.out.step hBl hc3 ho3⟩
       ·go_wp2_with fail
        go_meet
        case rel => exact ⟨⟨_, rfl⟩, HM2.out⟩
     case rest =>
      obtain ⟨⟨bb, rfl⟩, hM2⟩ := hcut
      have HM2 := Lib.hid hM2; clear hM2
      clear f0 f1 f2 f3 f4 p0 p1 p2 p3
      obtain ⟨⟨p0, p1, p2, p3⟩, f0, f1, f2, f3, f4⟩ := HM2.out.cells
      cases bb
      ·go_upto_region 3 with fail
       refine wp_region_till (Cells [(⟨w.heap.size + 1, 0, none⟩, .int .i64 fn), (⟨w.heap.size + 1, 1, none⟩, .int .i64 fk)]) (fun _ => false) (by kernel_rfl) ?_
       have hS : Cells [(⟨w.heap.size + 1, 0, none⟩, .int .i64 fn), (⟨w.heap.size + 1, 1, none⟩, .int .i64 fk)] wc.drew := cells_mk f0 (cells_mk f1 (cells_no _))
       have hud : Up B w wc.drew := HM2.out.up.below hBl (Below.refl _ _).drew HM2.out.up.oth.size
       refine tk (i := 0) hS ?_
       refine tk (i := 1) hS ?_
       refine tk (i := 2) hS ?_
       refine tk (i := 3) hS ?_
       refine tk (i := 6) hS ?_
       refine tk (i := 7) hS ?_
       refine tk (i := 8) hS ?_
       refine wpTill_op (i := 4) (by kernel_rfl) rfl (fun K hK => ?_)
       go_simp
       refine (tagOf_any fn wi _).mono ?_
       rintro r _ ⟨m, rfl, hm64, rfl⟩
       refine hK.out _ _ (fun _ => hS) ?_
       clear hK K
       try simp only [List.getElem_toArray, List.getElem_cons_succ, List.getElem_cons_zero, Act.put, List.setIfInBounds_toArray, List.set_cons_zero, List.set_cons_succ]
       refine wpTill_op (i := 5) (by kernel_rfl) rfl (fun K hK => ?_)
       go_simp
       refine (l2Var_any B m _ hud.cur hm64).mono ?_
       rintro r v2 ⟨s2, rfl, hs2, hc2, ho2⟩
       have hS2 := hS.oth2 ho2 (by intro q hq; simp only [List.mem_cons, List.not_mem_nil, or_false] at hq; rcases hq with rfl | rfl <;> (simp only; omega)); clear hS; have hS := hS2; clear hS2
       have hu2 := hud.step hc2 ho2
       clear hud hm64
       refine hK.out _ _ (fun _ => hS) ?_
       clear hK K
       try simp only [List.getElem_toArray, List.getElem_cons_succ, List.getElem_cons_zero, Act.put, List.setIfInBounds_toArray, List.set_cons_zero, List.set_cons_succ]
       refine wpTill_op (i := 9) (by kernel_rfl) rfl (fun K hK => ?_)
       go_simp
       refine (l12Scalar_any B fk _ hu2.cur).mono ?_
       rintro r v3 ⟨s3, rfl, hs3, hc3, ho3⟩
       have hS2 := hS.oth2 ho3 (by intro q hq; simp only [List.mem_cons, List.not_mem_nil, or_false] at hq; rcases hq with rfl | rfl <;> (simp only; omega)); clear hS; have hS := hS2; clear hS2
       have hu3 := hu2.step hc3 ho3
       refine hK.out _ _ (fun _ => hS) ?_
       clear hK K
       try simp only [List.getElem_toArray, List.getElem_cons_succ, List.getElem_cons_zero, Act.put, List.setIfInBounds_toArray, List.set_cons_zero, List.set_cons_succ]
       have hcat : ¬ 9223372036854775807 < s2.size + s3.size := by omega
       refine wpTill_op (i := 10) (by kernel_rfl) rfl (fun K hK => ?_)
       go_simp
       refine hK.out _ _ (fun _ => hS) ?_
       clear hK K
       try simp only [List.getElem_toArray, List.getElem_cons_succ, List.getElem_cons_zero, Act.put, List.setIfInBounds_toArray, List.set_cons_zero, List.set_cons_succ]
       refine wpTill_op (i := 11) (by kernel_rfl) rfl (fun K hK => ?_)
       go_simp
       refine hK.out _ _ (fun _ => hS) ?_
       clear hK K
       refine wpTill_done (by kernel_rfl) ?_ _
       go_wp2
       go_ret
       exact ⟨s2 ++ s3, rfl, by rw [ByteArray.size_append]; omega, hu3.cur, hu3.oth⟩
      ·go_wp2_with fail
       refine (l1Below_any B 4 _ HM2.out.up.cur (by omega) (by omega)).mono ?_
       rintro r w3 ⟨x, rfl, hx0, hx1, hc3, ho3⟩
       obtain ⟨m, rfl⟩ := Int.eq_ofNat_of_zero_le hx0
       have HM3 := Lib.hid (HM2.out.step hBl hc3 ho3)
       clear hc3 ho3 f0 f1 f2 f3 f4 p0 p1 p2 p3
       go_wp2_with fail
       go_loopw [10, 12] (fun t i wr => ∃ (k : Nat) (s : ByteArray), k ≤ m ∧ i = .int .i64 k ∧ t = .string s ∧ s.size ≤ 10 * k ∧ MidV w B p a n cap ⟨fn, fk, fr, fp, fm⟩ wr) (fun _ i _ => m - (intOf i).toNat)
       case atStart => exact ⟨0, _, Nat.zero_le _, rfl, rfl, Nat.zero_le _, HM3.out⟩
       case round =>
        obtain ⟨k, s, hk, rfl, rfl, hs, hMr⟩ := hrel
        have HMr := Lib.hid hMr; clear hMr
        obtain ⟨⟨p0, p1, p2, p3⟩, f0, f1, f2, f3, f4⟩ := HMr.out.cells
        by_cases hlt : k < m
        ·go_wp2_with fail
         refine (l12Scalar_any B fk _ HMr.out.up.cur).mono ?_
         rintro r w4 ⟨t, rfl, ht, hc4, ho4⟩
         have HM4 := Lib.hid (HMr.out.step hBl hc4 ho4)
         have hcat : ¬ 9223372036854775807 < s.size + t.size := by omega
         have hst : (s ++ t).size ≤ 10 * (k + 1) := by rw [ByteArray.size_append]; omega
         clear f0 f1 f2 f3 f4 p0 p1 p2 p3 hc4 ho4
         go_wp2
         go_roundw
         case rel => exact ⟨k + 1, _, by omega, by go_num, rfl, hst, HM4.out⟩
         case measure => simp [intOf]; omega
        ·go_wp2_with fail
         go_meet
         case rel => exact ⟨⟨_, rfl⟩, ⟨s, rfl, by omega⟩, HMr.out⟩
 case rest =>
  obtain ⟨⟨wi, rfl⟩, ⟨bo, rfl, hbo⟩, hM⟩ := hcut
  clear p0 p1 p2 p3 f0 f1 f2 f3 f4 hf
  have HM := Lib.hid hM; clear hM HM1
  go_upto_if 87 with (go_at_call 52; refine (l1Once_any B 30 _ HM.out.up.cur (by omega) (by omega)).mono ?_; rintro r w3 ⟨b3, rfl, hc3, ho3⟩)
  have HM3 := Lib.hid (HM.out.step hBl hc3 ho3)
  clear hc3 ho3 HM
  go_cut [9] from 88 to 89 (fun t wx => (∃ x : Int, t = .int .i64 x) ∧ MidV w B p a n cap ⟨fn, fk, fr, fp, fm⟩ wx)
  case first =>
   cases b3
   ·go_wp2_with fail
    go_meet
    case rel => exact ⟨⟨_, rfl⟩, HM3.out⟩
   ·go_wp2_with fail
    refine (l1Below_any B 8 _ HM3.out.up.cur (by omega) (by omega)).mono ?_
    rintro r w4 ⟨x, rfl, hx0, hx1, hc4, ho4⟩
    go_wp2_with fail
    go_meet
    case rel => exact ⟨⟨_, rfl⟩, HM3.out.step hBl hc4 ho4⟩
  case rest =>
   obtain ⟨⟨wi, rfl⟩, hM⟩ := hcut
   have HM := Lib.hid hM; clear hM HM3
   go_upto_if 93 with (go_at_call 52; refine (l1Once_any B 20 _ HM.out.up.cur (by omega) (by omega)).mono ?_; rintro r w5 ⟨b5, rfl, hc5, ho5⟩)
   have HM5 := Lib.hid (HM.out.step hBl hc5 ho5)
   clear hc5 ho5 HM
   go_cut [13] from 94 to 98 (fun t wx => (∃ x : Int, t = .int .i64 x ∧ -2 ≤ x ∧ x ≤ 1000000000) ∧ MidV w B p a n cap ⟨fn, fk, fr, fp, fm⟩ wx)
   case first =>
    cases b5
    ·go_wp2_with fail
     go_meet
     case rel => exact ⟨⟨_, rfl, by omega, by omega⟩, HM5.out⟩
    ·go_wp2_with fail
     refine (l1Below_any B 5 _ HM5.out.up.cur (by omega) (by omega)).mono ?_
     rintro r w6 ⟨x, rfl, hx0, hx1, hc6, ho6⟩
     have hw6 : IntKind.i64.wrap ((bo.size : Int) + x) = (bo.size : Int) + x := by rw [IntKind.wrap_i64]; omega
     have hw7 : IntKind.i64.wrap ((bo.size : Int) + x - 2) = (bo.size : Int) + x - 2 := by rw [IntKind.wrap_i64]; omega
     have HM6 := Lib.hid (HM5.out.step hBl hc6 ho6)
     have hr1 : -2 ≤ (bo.size : Int) + x - 2 := by omega
     have hr2 : (bo.size : Int) + x - 2 ≤ 1000000000 := by omega
     go_wp2_with fail
     go_meet
     case rel => exact ⟨⟨_, rfl, hr1, hr2⟩, HM6.out⟩
   case rest =>
    obtain ⟨⟨x, rfl, hx0, hx1⟩, hM⟩ := hcut
    have HM := Lib.hid hM; clear hM HM5
    obtain ⟨⟨p0, p1, p2, p3⟩, f0, f1, f2, f3, f4⟩ := HM.out.cells
    go_wp2_with fail
    refine (tagOf_any fn wi _).mono ?_
    rintro r _ ⟨m, rfl, hm64, rfl⟩
    go_wp2_with fail
    refine (l2Var_any B m _ HM.out.up.cur hm64).mono ?_
    rintro r w6 ⟨s6, rfl, hs6, hc6, ho6⟩
    have HM6 := Lib.hid (HM.out.step hBl hc6 ho6)
    clear hc6 ho6 hm64 p0 p1 p2 p3 f0 f1 f2 f3 f4
    go_wp2_with fail
    refine (l1Max_nat x _ hx1).mono ?_
    rintro r _ ⟨q, rfl, hq9, rfl⟩
    have e1 : IntKind.u64.wrap (q : Int) = q := by rw [IntKind.wrap_u64]; omega
    go_wp2_with fail
    refine (l2Var_any B q _ HM6.out.up.cur (by omega)).mono ?_
    rintro r w7 ⟨s7, rfl, hs7, hc7, ho7⟩
    clear e1
    have HM7 := Lib.hid (HM6.out.step hBl hc7 ho7)
    have hcat : ¬ 9223372036854775807 < s6.size + s7.size := by omega
    have hcat2 : ¬ 9223372036854775807 < s6.size + s7.size + bo.size := by omega
    go_wp2
    go_ret
    exact ⟨s6 ++ s7 ++ bo, rfl, by rw [ByteArray.size_append, ByteArray.size_append]; omega, HM7.out.up.cur, HM7.out.up.oth⟩
structure MidB (w : World) (B : Nat) (p : Pl) (a : Option Addr) (n cap : Nat) (wx : World) : Prop where
 boxP : wx.heap[w.heap.size]? = some (.cells #[.slice a n cap, .int .i64 p.root, .int .i64 p.deep, .int .i64 p.most] 28 (0, 0))
 up : Up B w wx
section
variable {w : World} {B : Nat} {p : Pl} {a : Option Addr} {n cap : Nat} {wx wy : World}
theorem MidB.step (h : MidB w B p a n cap wx) (hB : B < w.heap.size) (hc : Cur wy B) (ho : Oth B wx wy) : MidB w B p a n cap wy :=
 ⟨(ho.block (box_lt h.boxP) (by omega)).trans h.boxP, h.up.step hc ho⟩
theorem MidB.below (h : MidB w B p a n cap wx) (hB : B < w.heap.size) (hb : Below wx.heap.size wx wy) : MidB w B p a n cap wy :=
 ⟨(hb.block _ (box_lt h.boxP)).trans h.boxP, h.up.below hB hb h.up.oth.size⟩
theorem MidB.cells (h : MidB w B p a n cap wx) : wx.cell? ⟨w.heap.size, 0, none⟩ = some (.slice a n cap) ∧ wx.cell? ⟨w.heap.size, 1, none⟩ = some (.int .i64 p.root) ∧ wx.cell? ⟨w.heap.size, 2, none⟩ = some (.int .i64 p.deep) ∧ wx.cell? ⟨w.heap.size, 3, none⟩ = some (.int .i64 p.most) :=
 ⟨box_cells h.boxP 0, box_cells h.boxP 1, box_cells h.boxP 2, box_cells h.boxP 3⟩
theorem MidB.ins (h : MidB w B p a n cap wx) {base : Nat} {rs : List ShR} {xs : List Shp} (hi : InS w B base a n cap rs xs) : InS wx B base a n cap rs xs := hi.oth h.up.oth
end
set_option maxRecDepth 100000 in
set_option maxHeartbeats 4000000 in
theorem bytes_of (d : Nat) (hd : d ≤ 8) (hv : ValueAt d) : BytesAt d := by
 intro B p a n cap rs xs base k w hc hi hk
 have hBl := hc.lt
 obtain ⟨hb4, hvd, _⟩ := vD_bD d
 have hbl := bD_le hd
 obtain ⟨⟨rid, ra, rn, rcap⟩, hr, hrm⟩ := at_lt (xs := rs) (k := k) (by rw [hi.own.len]; exact hk)
 obtain ⟨x, hx, hxm⟩ := at_lt (xs := xs) (k := k) (by rw [hi.own.lenx]; exact hk)
 have hrow : ∀ W, InS W B base a n cap rs xs → W.ownsRow base 34 5 (.slice ra rn rcap) rn (x.flds.flatMap Fld.cs) := fun W h => (h.own.each k _ x hr hx).2.2
 have hrn : rn = x.flds.length := (hi.own.each k _ x hr hx).2.1
 have hmsg : ∀ f ∈ x.flds, f.kind = 8 → 0 ≤ f.msg ∧ f.msg < n := fun f hf e => by have := hi.good.msg x hxm f hf e; rw [hi.own.lenx] at this; exact this
 have hx5 := hi.good.len x hxm
 obtain ⟨g, cap0, e0, hg0, hgl⟩ := hi.own.outer.form (by omega)
 simp only [Value.slice.injEq, true_and] at e0
 obtain ⟨rfl, rfl⟩ := e0
 have hrowc : ∀ W, InS W B base (some ⟨g, 0, none⟩) n cap rs xs → W.cell? ⟨g, k * 2 + 1, none⟩ = some (.slice ra rn rcap) := fun W h => own_at h.own.outer (by rw [flatMap_at shR_len rs k 1 _ hr (by omega)]; rfl)
 subst hrn
 clear hr hx hrm
 have HROW := Lib.hid hrow; have HMSG := Lib.hid hmsg; have HRC := Lib.hid hrowc; clear hrow hmsg hrowc
 have hkn : (k : Int) < (n : Int) := by omega
 have hM0 : MidB w B p (some ⟨g, 0, none⟩) n cap (w.alloc (.cells #[.slice (some ⟨g, 0, none⟩) n cap, .int .i64 p.root, .int .i64 p.deep, .int .i64 p.most] 28)) := ⟨hset_new rfl, (Up.refl hc).alloc hBl _⟩
 have HM0 := Lib.hid hM0; clear hM0
 go_enter Tryz.func133, Tryz.ntmps133
 go_wp2_with fail
 refine (l1Below_any B 5 _ HM0.out.up.cur (by omega) (by omega)).mono ?_
 rintro r w1 ⟨y, rfl, hy0, hy1, hc1, ho1⟩
 obtain ⟨m, rfl⟩ := Int.eq_ofNat_of_zero_le hy0
 have HM1 := Lib.hid (HM0.out.step hBl hc1 ho1)
 clear hc1 ho1 HM0
 have c1 := HRC.out _ (HM1.out.ins hi)
 obtain ⟨p0, p1, p2, p3⟩ := HM1.out.cells
 go_wp2_with fail
 clear c1 p0 p1 p2 p3
 go_loopw [9, 12] (fun t i wr => ∃ (j : Nat) (s : ByteArray), j ≤ m ∧ i = .int .i64 j ∧ t = .string s ∧ s.size ≤ vD d * j ∧ MidB w B p (some ⟨g, 0, none⟩) n cap wr) (fun _ i _ => m - (intOf i).toNat)
 case atStart => exact ⟨0, _, Nat.zero_le _, rfl, rfl, Nat.zero_le _, HM1.out⟩
 case round =>
  obtain ⟨j, s, hj, rfl, rfl, hs, hMr⟩ := hrel
  have HMr := Lib.hid hMr; clear hMr
  have hj4 : vD d * j ≤ vD d * 4 := Nat.mul_le_mul_left _ (by omega)
  by_cases hlt : j < m
  ·by_cases h0 : x.flds.length = 0
   ·have h0' : ((x.flds.length : Int) == 0) = true := beq_iff_eq.2 (by omega)
    have H0 := Lib.hid h0; clear h0
    go_wp2_with fail
    refine (l12Unknown_any B _ HMr.out.up.cur).mono ?_
    rintro r v2 ⟨t, rfl, ht, hc2, ho2⟩
    have HMu := Lib.hid (HMr.out.step hBl hc2 ho2)
    have hcat : ¬ 9223372036854775807 < s.size + t.size := by omega
    have hst : (s ++ t).size ≤ vD d * (j + 1) := by rw [ByteArray.size_append, Nat.mul_succ]; omega
    clear hc2 ho2
    go_wp2
    go_roundw
    case rel => first | exact ⟨j + 1, _, by omega, by go_num, rfl, hst, HMu.out⟩ | ((repeat apply Exists.intro); exact ⟨⟨j + 1, _, by omega, by go_num, rfl, hst, HMu.out⟩, rfl⟩)
    case measure => simp [intOf]; omega
   ·have h0' : ((x.flds.length : Int) == 0) = false := beq_eq_false_iff_ne.2 (by omega)
    go_wp2_with fail
    refine (l1Once_any B 8 _ HMr.out.up.cur (by omega) (by omega)).mono ?_
    rintro r v1 ⟨b1, rfl, hc1, ho1⟩
    have HM2 := Lib.hid (HMr.out.step hBl hc1 ho1)
    clear hc1 ho1 HMr
    cases b1
    ·go_upto_region 9 with fail
     obtain ⟨p0, p1, p2, p3⟩ := HM2.out.cells
     refine wp_region_till (Cells [(⟨w.heap.size, 0, none⟩, .slice (some ⟨g, 0, none⟩) n cap), (⟨w.heap.size, 1, none⟩, .int .i64 p.root), (⟨w.heap.size, 2, none⟩, .int .i64 p.deep), (⟨w.heap.size, 3, none⟩, .int .i64 p.most)]) (fun _ => false) (by kernel_rfl) ?_
     have hS : Cells [(⟨w.heap.size, 0, none⟩, .slice (some ⟨g, 0, none⟩) n cap), (⟨w.heap.size, 1, none⟩, .int .i64 p.root), (⟨w.heap.size, 2, none⟩, .int .i64 p.deep), (⟨w.heap.size, 3, none⟩, .int .i64 p.most)] v1.drew := cells_mk p0 (cells_mk p1 (cells_mk p2 (cells_mk p3 (cells_no _))))
     have HMd := Lib.hid (HM2.out.below hBl (show Below v1.heap.size v1 v1.drew from (Below.refl _ _).drew))
     clear p0 p1 p2 p3
     refine tk (i := 0) hS ?_
     refine tk (i := 1) hS ?_
     refine tk (i := 2) hS ?_
     refine tk (i := 3) hS ?_
     refine tk (i := 4) hS ?_
     refine tk (i := 5) hS ?_
     refine tk (i := 6) hS ?_
     refine tk (i := 10) hS ?_
     refine wpTill_op (i := 7) (by kernel_rfl) rfl (fun K hK => ?_)
     go_simp
     refine (l1Below_any B x.flds.length _ HMd.out.up.cur (by omega) (by omega)).mono ?_
     rintro r v2 ⟨q, rfl, hq0, hq1, hc2, ho2⟩
     obtain ⟨q, rfl⟩ := Int.eq_ofNat_of_zero_le hq0
     have HM3 := Lib.hid (HMd.out.step hBl hc2 ho2)
     have hS2 := hS.oth2 ho2 (by intro q' hq'; simp only [List.mem_cons, List.not_mem_nil, or_false] at hq'; rcases hq' with rfl | rfl | rfl | rfl <;> (simp only; omega)); clear hS; have hS := hS2; clear hS2
     clear hc2 ho2 HMd
     obtain ⟨f, hf, hfm⟩ := at_lt (xs := x.flds) (k := q) (by omega)
     have hin3 := HM3.out.ins hi
     obtain ⟨b2, off2, rfl, hbl2, d0, d1, d2, d3, d4⟩ := Flds.at (flds_of_own (HROW.out _ hin3) rfl) hf
     clear hf
     have hqn : (q : Int) < (x.flds.length : Int) := by omega
     have HIN := Lib.hid hin3; clear hin3
     refine hK.out _ _ (fun _ => hS) ?_
     clear hK K
     try simp only [List.getElem_toArray, List.getElem_cons_succ, List.getElem_cons_zero, Act.put, List.setIfInBounds_toArray, List.set_cons_zero, List.set_cons_succ]
     refine wpTill_op (i := 8) (by kernel_rfl) rfl (fun K hK => ?_)
     go_simp
     refine hK.out _ _ (fun _ => hS) ?_
     clear hK K
     try simp only [List.getElem_toArray, List.getElem_cons_succ, List.getElem_cons_zero, Act.put, List.setIfInBounds_toArray, List.set_cons_zero, List.set_cons_succ]
     refine wpTill_op (i := 9) (by kernel_rfl) rfl (fun K hK => ?_)
     go_simp
     refine hK.out _ _ (fun _ => hS) ?_
     clear hK K
     try simp only [List.getElem_toArray, List.getElem_cons_succ, List.getElem_cons_zero, Act.put, List.setIfInBounds_toArray, List.set_cons_zero, List.set_cons_succ]
     refine wpTill_op (i := 11) (by kernel_rfl) rfl (fun K hK => ?_)
     go_simp
     refine (hv B p (some ⟨g, 0, none⟩) n cap rs xs base f _ HM3.out.up.cur HIN.out (HMSG.out f hfm)).mono ?_
     rintro r v4 ⟨t, rfl, ht, hc4, ho4⟩
     have HM4 := Lib.hid (HM3.out.step hBl hc4 ho4)
     have hS2 := hS.oth2 ho4 (by intro q' hq'; simp only [List.mem_cons, List.not_mem_nil, or_false] at hq'; rcases hq' with rfl | rfl | rfl | rfl <;> (simp only; omega)); clear hS; have hS := hS2; clear hS2
     have hcat : ¬ 9223372036854775807 < s.size + t.size := by omega
     have hst : (s ++ t).size ≤ vD d * (j + 1) := by rw [ByteArray.size_append, Nat.mul_succ]; omega
     clear hc4 ho4 HM3 d0 d1 d2 d3 d4
     refine hK.out _ _ (fun _ => hS) ?_
     clear hK K
     try simp only [List.getElem_toArray, List.getElem_cons_succ, List.getElem_cons_zero, Act.put, List.setIfInBounds_toArray, List.set_cons_zero, List.set_cons_succ]
     refine wpTill_op (i := 12) (by kernel_rfl) rfl (fun K hK => ?_)
     go_simp
     refine hK.out _ _ (fun _ => hS) ?_
     clear hK K
     try simp only [List.getElem_toArray, List.getElem_cons_succ, List.getElem_cons_zero, Act.put, List.setIfInBounds_toArray, List.set_cons_zero, List.set_cons_succ]
     refine wpTill_op (i := 13) (by kernel_rfl) rfl (fun K hK => ?_)
     go_simp
     refine hK.out _ _ (fun _ => hS) ?_
     clear hK K
     refine wpTill_done (by kernel_rfl) ?_ _
     go_wp2_with fail
     go_roundw
     case rel => first | exact ⟨j + 1, _, by omega, by go_num, rfl, hst, HM4.out⟩ | ((repeat apply Exists.intro); exact ⟨⟨j + 1, _, by omega, by go_num, rfl, hst, HM4.out⟩, rfl⟩)
     case measure => simp [intOf]; omega
    ·go_wp2_with fail
     refine (l12Unknown_any B _ HM2.out.up.cur).mono ?_
     rintro r v2 ⟨t, rfl, ht, hc2, ho2⟩
     have HMu := Lib.hid (HM2.out.step hBl hc2 ho2)
     have hcat : ¬ 9223372036854775807 < s.size + t.size := by omega
     have hst : (s ++ t).size ≤ vD d * (j + 1) := by rw [ByteArray.size_append, Nat.mul_succ]; omega
     clear hc2 ho2
     go_wp2
     go_roundw
     case rel => first | exact ⟨j + 1, _, by omega, by go_num, rfl, hst, HMu.out⟩ | ((repeat apply Exists.intro); exact ⟨⟨j + 1, _, by omega, by go_num, rfl, hst, HMu.out⟩, rfl⟩)
     case measure => simp [intOf]; omega
  ·go_wp2_with fail
   go_ret
   exact ⟨s, rfl, by omega, HMr.out.up.cur, HMr.out.up.oth⟩
theorem bytes_any : ∀ d : Nat, d ≤ 8 → BytesAt d
 | 0, h => bytes_of 0 h (value_of 0 h fun e he => by cases he)
 | d + 1, h => bytes_of (d + 1) h (value_of (d + 1) h fun e he => by
   obtain rfl : d = e := by omega
   exact bytes_any d (by omega))
theorem bD_le4 {d : Nat} (h : d ≤ 4) : bD d ≤ 136400 := by
 have : d = 0 ∨ d = 1 ∨ d = 2 ∨ d = 3 ∨ d = 4 := by omega
 rcases this with rfl | rfl | rfl | rfl | rfl <;> decide
set_option maxRecDepth 100000 in
set_option maxHeartbeats 4000000 in
theorem l12Turned_any (B : Nat) (s : ByteArray) (w : World) (hc : Cur w B) (hs : s.size ≤ 1000000) : Calls Tryz.prog 135 #[.pointer (some ⟨B, 0, none⟩), .string s] w (DrawnSt B (s.size + 2) w) := by
 have hB := hc.lt
 go_enter Tryz.func135, Tryz.ntmps135
 go_wp2_with fail
 refine (l1Below_any B 8 w hc (by omega) (by omega)).mono ?_
 rintro r w1 ⟨y, rfl, hy0, hy1, hc1, ho1⟩
 have hu1 : Up B w w1 := ⟨hc1, ho1⟩
 clear hc1 ho1
 rcases (show y = 0 ∨ y = 1 ∨ y = 2 ∨ 3 ≤ y by omega) with rfl | rfl | rfl | h3
 ·go_wp2_with fail
  refine (l1Spoil_any B s w1 hu1.cur hs).mono ?_
  rintro r w2 ⟨t, rfl, ht, hc2, ho2⟩
  go_wp2
  go_ret
  exact ⟨t, rfl, ht, hc2, hu1.oth.trans ho2⟩
 ·go_wp2_with fail
  refine (l1Below_gen B (s.size + 1) w1 hu1.cur (by omega) (by omega)).mono ?_
  rintro r w2 ⟨q, rfl, hq0, hq1, hc2, ho2⟩
  obtain ⟨m, rfl⟩ := Int.eq_ofNat_of_zero_le hq0
  have hm : m ≤ s.size := by omega
  have hmi : (m : Int) ≤ (s.size : Int) := by omega
  go_wp2
  go_ret
  exact ⟨_, rfl, by rw [ByteArray.size_extract]; omega, hc2, hu1.oth.trans ho2⟩
 ·go_wp2_with fail
  refine (l1Below_gen B (s.size + 1) w1 hu1.cur (by omega) (by omega)).mono ?_
  rintro r w2 ⟨q, rfl, hq0, hq1, hc2, ho2⟩
  obtain ⟨m, rfl⟩ := Int.eq_ofNat_of_zero_le hq0
  have hm : m ≤ s.size := by omega
  have hmi : (m : Int) ≤ (s.size : Int) := by omega
  have hu2 := hu1.step hc2 ho2
  clear hc2 ho2 hu1
  go_upto_region 8 with fail
  refine wp_region_till (Cells []) (fun _ => false) (by kernel_rfl) ?_
  have hS : Cells [] w2.drew := cells_no _
  have hud : Up B w w2.drew := hu2.below hB (Below.refl _ _).drew hu2.oth.size
  refine tk (i := 0) hS ?_
  refine tk (i := 1) hS ?_
  refine tk (i := 2) hS ?_
  refine tk (i := 3) hS ?_
  refine tk (i := 7) hS ?_
  refine tk (i := 8) hS ?_
  refine tk (i := 9) hS ?_
  refine wpTill_op (i := 4) (by kernel_rfl) rfl (fun K hK => ?_)
  go_simp
  refine (l1Bytes_any B 1 _ hud.cur (by omega)).mono ?_
  rintro r v3 ⟨v, l, rfl, hl, hv, hr, hu3⟩
  have hstr := own_string0 hr hv Tryz.underlying22 Tryz.underlying5 Tryz.underlying9
  obtain ⟨t, ht⟩ : ∃ t : ByteArray, t = ⟨l.toArray⟩ := ⟨_, rfl⟩
  have hts : t.size ≤ 1 := by rw [ht]; show l.toArray.size ≤ _; rw [List.size_toArray]; omega
  rw [← ht] at hstr
  clear ht
  have hS3 : Cells [] v3 := cells_no _
  clear hS; have hS := hS3; clear hS3
  refine hK.out _ _ (fun _ => hS) ?_
  clear hK K
  try simp only [List.getElem_toArray, List.getElem_cons_succ, List.getElem_cons_zero, Act.put, List.setIfInBounds_toArray, List.set_cons_zero, List.set_cons_succ]
  refine wpTill_op (i := 5) (by kernel_rfl) rfl (fun K hK => ?_)
  go_simp
  refine hK.out _ _ (fun _ => hS) ?_
  clear hK K
  try simp only [List.getElem_toArray, List.getElem_cons_succ, List.getElem_cons_zero, Act.put, List.setIfInBounds_toArray, List.set_cons_zero, List.set_cons_succ]
  obtain ⟨A, hA⟩ : ∃ A, s.extract 0 m = A := ⟨_, rfl⟩
  obtain ⟨C, hC⟩ : ∃ C, s.extract m s.size = C := ⟨_, rfl⟩
  have hAs : A.size ≤ m := by rw [← hA, ByteArray.size_extract]; omega
  have hCs : C.size ≤ s.size - m := by rw [← hC, ByteArray.size_extract]; omega
  rw [hA, hC]
  clear hA hC
  have hcat : ¬ 9223372036854775807 < A.size + t.size := by omega
  have hcat2 : ¬ 9223372036854775807 < A.size + t.size + C.size := by omega
  refine wpTill_op (i := 6) (by kernel_rfl) rfl (fun K hK => ?_)
  go_simp
  refine hK.out _ _ (fun _ => hS) ?_
  clear hK K
  try simp only [List.getElem_toArray, List.getElem_cons_succ, List.getElem_cons_zero, Act.put, List.setIfInBounds_toArray, List.set_cons_zero, List.set_cons_succ]
  refine wpTill_op (i := 10) (by kernel_rfl) rfl (fun K hK => ?_)
  go_simp
  refine hK.out _ _ (fun _ => hS) ?_
  clear hK K
  try simp only [List.getElem_toArray, List.getElem_cons_succ, List.getElem_cons_zero, Act.put, List.setIfInBounds_toArray, List.set_cons_zero, List.set_cons_succ]
  refine wpTill_op (i := 11) (by kernel_rfl) rfl (fun K hK => ?_)
  go_simp
  refine hK.out _ _ (fun _ => hS) ?_
  clear hK K
  refine wpTill_done (by kernel_rfl) ?_ _
  go_wp2
  go_ret
  exact ⟨A ++ t ++ C, rfl, by rw [ByteArray.size_append, ByteArray.size_append]; omega, hu3.cur, hud.oth.trans hu3.oth⟩
 ·have y0 : (y == 0) = false := by simp; omega
  have y1 : (y == 1) = false := by simp; omega
  have y2 : (y == 2) = false := by simp; omega
  go_wp2
  go_ret
  exact ⟨s, rfl, by omega, hu1.cur, hu1.oth⟩
set_option maxRecDepth 100000 in
set_option maxHeartbeats 4000000 in
theorem l13Input_any (B : Nat) (p : Pl) (a : Option Addr) (n cap : Nat) (rs : List ShR) (xs : List Shp) (base : Nat) (w : World) (hc : Cur w B) (hi : InS w B base a n cap rs xs) (hr0 : 0 ≤ p.root) (hr1 : p.root < n) (hd0 : 1 ≤ p.deep) (hd1 : p.deep ≤ 4) :
  Calls Tryz.prog 112 #[.pointer (some ⟨B, 0, none⟩), p.val (.slice a n cap)] w (DrawnSt B 500000 w) := by
 have hBl := hc.lt
 obtain ⟨pr, pd, pm⟩ := p
 simp only at hr0 hr1 hd0 hd1
 obtain ⟨k, rfl⟩ := Int.eq_ofNat_of_zero_le hr0
 obtain ⟨pd, rfl⟩ := Int.eq_ofNat_of_zero_le (a := pd) (by omega)
 have hk : k < n := by omega
 have HM0 := Lib.hid (show MidB w B ⟨k, pd, pm⟩ a n cap (w.alloc (.cells #[.slice a n cap, .int .i64 (k : Int), .int .i64 (pd : Int), .int .i64 pm] 28)) from ⟨hset_new rfl, (Up.refl hc).alloc hBl _⟩)
 go_enter Tryz.func112, Tryz.ntmps112
 go_wp2_with fail
 refine (l1Below_any B 4 _ HM0.out.up.cur (by omega) (by omega)).mono ?_
 rintro r w1 ⟨y, rfl, hy0, hy1, hc1, ho1⟩
 obtain ⟨m, rfl⟩ := Int.eq_ofNat_of_zero_le hy0
 have HM1 := Lib.hid (HM0.out.step hBl hc1 ho1)
 clear hc1 ho1 HM0
 go_wp2_with fail
 go_loopw [5, 7] (fun t i wr => ∃ (j : Nat) (s : ByteArray), j ≤ m ∧ i = .int .i64 j ∧ t = .string s ∧ s.size ≤ 136410 * j ∧ MidB w B ⟨k, pd, pm⟩ a n cap wr) (fun _ i _ => m - (intOf i).toNat)
 case atStart => exact ⟨0, _, Nat.zero_le _, rfl, rfl, Nat.zero_le _, HM1.out⟩
 case round =>
  obtain ⟨j, s, hj, rfl, rfl, hs, hMr⟩ := hrel
  have HMr := Lib.hid hMr; clear hMr
  by_cases hlt : j < m
  ·go_upto_region 6 with fail
   obtain ⟨p0, p1, p2, p3⟩ := HMr.out.cells
   obtain ⟨wi, hwi⟩ : ∃ wi : World, wi = wr := ⟨_, rfl⟩
   subst hwi
   refine wp_region_till (Cells [(⟨w.heap.size, 0, none⟩, .slice a n cap), (⟨w.heap.size, 1, none⟩, .int .i64 (k : Int)), (⟨w.heap.size, 2, none⟩, .int .i64 (pd : Int)), (⟨w.heap.size, 3, none⟩, .int .i64 pm)]) (fun _ => false) (by kernel_rfl) ?_
   have hS : Cells [(⟨w.heap.size, 0, none⟩, .slice a n cap), (⟨w.heap.size, 1, none⟩, .int .i64 (k : Int)), (⟨w.heap.size, 2, none⟩, .int .i64 (pd : Int)), (⟨w.heap.size, 3, none⟩, .int .i64 pm)] wi.drew := cells_mk p0 (cells_mk p1 (cells_mk p2 (cells_mk p3 (cells_no _))))
   have HMd := Lib.hid (HMr.out.below hBl (show Below wi.heap.size wi wi.drew from (Below.refl _ _).drew))
   clear p0 p1 p2 p3
   refine tk (i := 0) hS ?_
   refine tk (i := 1) hS ?_
   refine tk (i := 2) hS ?_
   refine tk (i := 3) hS ?_
   refine tk (i := 4) hS ?_
   refine tk (i := 5) hS ?_
   refine tk (i := 6) hS ?_
   refine wpTill_op (i := 7) (by kernel_rfl) rfl (fun K hK => ?_)
   go_simp
   refine (l1Below_any B 2 _ HMd.out.up.cur (by omega) (by omega)).mono ?_
   rintro r v2 ⟨q, rfl, hq0, hq1, hc2, ho2⟩
   obtain ⟨q, rfl⟩ := Int.eq_ofNat_of_zero_le hq0
   have HM3 := Lib.hid (HMd.out.step hBl hc2 ho2)
   have hS2 := hS.oth2 ho2 (by intro q' hq'; simp only [List.mem_cons, List.not_mem_nil, or_false] at hq'; rcases hq' with rfl | rfl | rfl | rfl <;> (simp only; omega)); clear hS; have hS := hS2; clear hS2
   clear hc2 ho2 HMd
   refine hK.out _ _ (fun _ => hS) ?_
   clear hK K
   try simp only [List.getElem_toArray, List.getElem_cons_succ, List.getElem_cons_zero, Act.put, List.setIfInBounds_toArray, List.set_cons_zero, List.set_cons_succ]
   obtain ⟨d, hd⟩ : ∃ d : Nat, (pd : Int) - (q : Int) = d := ⟨pd - q, by omega⟩
   have hd4 : d ≤ 4 := by omega
   have hw8 : IntKind.i64.wrap ((pd : Int) - (q : Int)) = (d : Int) := by rw [IntKind.wrap_i64]; omega
   have HD := Lib.hid hd; clear hd
   refine wpTill_op (i := 8) (by kernel_rfl) rfl (fun K hK => ?_)
   go_simp
   clear hw8
   refine hK.out _ _ (fun _ => hS) ?_
   clear hK K
   try simp only [List.getElem_toArray, List.getElem_cons_succ, List.getElem_cons_zero, Act.put, List.setIfInBounds_toArray, List.set_cons_zero, List.set_cons_succ]
   have hbd := bD_le4 hd4
   refine wpTill_op (i := 9) (by kernel_rfl) rfl (fun K hK => ?_)
   go_simp
   refine (bytes_any d (by omega) B ⟨k, pd, pm⟩ a n cap rs xs base k _ HM3.out.up.cur (HM3.out.ins hi) hk).mono ?_
   rintro r v4 ⟨t, rfl, ht, hc4, ho4⟩
   have HM4 := Lib.hid (HM3.out.step hBl hc4 ho4)
   have hS2 := hS.oth2 ho4 (by intro q' hq'; simp only [List.mem_cons, List.not_mem_nil, or_false] at hq'; rcases hq' with rfl | rfl | rfl | rfl <;> (simp only; omega)); clear hS; have hS := hS2; clear hS2
   have htb : t.size ≤ 136400 := by omega
   clear hc4 ho4 HM3 hbd ht
   refine hK.out _ _ (fun _ => hS) ?_
   clear hK K
   try simp only [List.getElem_toArray, List.getElem_cons_succ, List.getElem_cons_zero, Act.put, List.setIfInBounds_toArray, List.set_cons_zero, List.set_cons_succ]
   refine wpTill_op (i := 10) (by kernel_rfl) rfl (fun K hK => ?_)
   go_simp
   refine hK.out _ _ (fun _ => hS) ?_
   clear hK K
   refine wpTill_done (by kernel_rfl) ?_ _
   have e1 : IntKind.u64.wrap (t.size : Int) = t.size := by rw [IntKind.wrap_u64]; omega
   go_wp2_with fail
   refine (l2Var_any B t.size _ HM4.out.up.cur (by omega)).mono ?_
   rintro r v5 ⟨s5, rfl, hs5, hc5, ho5⟩
   have HM5 := Lib.hid (HM4.out.step hBl hc5 ho5)
   have hcat : ¬ 9223372036854775807 < s.size + s5.size := by omega
   have hcat2 : ¬ 9223372036854775807 < s.size + s5.size + t.size := by omega
   have hst : (s ++ s5 ++ t).size ≤ 136410 * (j + 1) := by rw [ByteArray.size_append, ByteArray.size_append]; omega
   clear e1 hc5 ho5
   go_wp2_with fail
   go_roundw
   case rel => exact ⟨j + 1, _, by omega, by go_num, rfl, hst, HM5.out⟩
   case measure => simp [intOf]; omega
  ·have hs3 : s.size ≤ 409230 := by omega
   clear hs
   go_upto_if 36 with (go_at_call 52; refine (l1Once_any B 20 _ HMr.out.up.cur (by omega) (by omega)).mono ?_; rintro r v1 ⟨b1, rfl, hc1, ho1⟩)
   have HM2 := Lib.hid (HMr.out.step hBl hc1 ho1)
   clear hc1 ho1
   go_cut [5] from 37 to 42 (fun t wx => (∃ s : ByteArray, t = .string s ∧ s.size ≤ 409240) ∧ MidB w B ⟨k, pd, pm⟩ a n cap wx)
   case first =>
    cases b1
    ·go_wp2_with fail
     go_meet
     case rel => exact ⟨⟨s, rfl, by omega⟩, HM2.out⟩
    ·go_wp2_with fail
     refine (l1Wide_any B _ HM2.out.up.cur).mono ?_
     rintro r v3 ⟨u, rfl, hu, hc3, ho3⟩
     obtain ⟨u, rfl, hu64⟩ := wu64_nat hu
     have hM3 := HM2.out.step hBl hc3 ho3
     clear hu
     go_wp2_with fail
     refine (l2Var_any B u _ hM3.up.cur hu64).mono ?_
     rintro r v4 ⟨s4, rfl, hs4, hc4, ho4⟩
     have hcat : ¬ 9223372036854775807 < s.size + s4.size := by omega
     have hst : (s ++ s4).size ≤ 409240 := by rw [ByteArray.size_append]; omega
     go_wp2_with fail
     go_meet
     case rel => exact ⟨⟨_, rfl, hst⟩, hM3.step hBl hc4 ho4⟩
   case rest =>
    obtain ⟨⟨s, rfl, hs⟩, hM⟩ := hcut
    go_wp2_with fail
    refine (l12Turned_any B s _ hM.up.cur (by omega)).mono ?_
    rintro r v3 ⟨t, rfl, ht, hc3, ho3⟩
    go_wp2
    go_ret
    exact ⟨t, rfl, by omega, hc3, hM.up.oth.trans ho3⟩
def freshD (p : Pl) (m : Int) : Dc := ⟨p, m, 0, 0, 0, 0, ⟨0, 0, false, false, 0⟩, 0, 0, ⟨0, 0, 0⟩, ⟨0, 0, 0, 0, ⟨#[]⟩, 0, 0⟩⟩
def newO (p : Pl) (xs : List Shp) : Dc × List Shp × Bool := if planOk p xs then (freshD p 1, xs, true) else (freshD ⟨0, 0, 0⟩ 0, [], false)
theorem newO_yes {p : Pl} {xs : List Shp} (h : planOk p xs = true) : newO p xs = (freshD p 1, xs, true) := by unfold newO; rw [if_pos h]
theorem newO_no {p : Pl} {xs : List Shp} (h : planOk p xs = false) : newO p xs = (freshD ⟨0, 0, 0⟩ 0, [], false) := by unfold newO; rw [if_neg (by simp [h])]
def FreshN (w : World) (T TF : TypeId) (O : Dc × List Shp × Bool) (r : Ending) (w' : World) : Prop :=
 ∃ a cap rs, r = .returned (.tuple #[O.1.val (.slice a O.2.1.length cap) (.slice none 0 0), .bool O.2.2]) ∧ OwnShs w' w.heap.size T TF (.slice a O.2.1.length cap) O.2.1.length rs O.2.1 ∧ Below w.heap.size w w'
theorem fin_new (w W : World) (f : Func) (tm : Array Value) (e : Dc) (ys : List Shp) (ok : Bool) (a : Option Addr) (cap : Nat) (rs : List ShR) (hr : f.results = #[.cell 2 40, .tmp 3])
  (t1 : tm.getD 2 undef = .pointer (some ⟨w.heap.size + 1, 0, none⟩)) (t2 : tm.getD 3 undef = .bool ok)
  (h1 : W.heap[w.heap.size + 1]? = some (.cells (Dc.cl e (.slice a ys.length cap) (.slice none 0 0)).toArray 40 (0, 0)))
  (h2 : OwnShs W w.heap.size 77 34 (.slice a ys.length cap) ys.length rs ys) (h3 : Below w.heap.size w W) :
  bodyPost Tryz.prog f (FreshN w 77 34 (e, ys, ok)) .ret ⟨tm, []⟩ W :=
 bodyPost_ret (v := .tuple #[e.val (.slice a ys.length cap) (.slice none 0 0), .bool ok]) (results_cell_tmp hr t1 t2 (run_loadVar_mid W (w.heap.size + 1) 0 40 (Dc.cl e (.slice a ys.length cap) (.slice none 0 0)) _ (range_of_box h1) Tryz.underlying40 rfl size_Dec)) rfl ⟨a, cap, rs, rfl, h2, h3⟩
set_option maxRecDepth 100000 in
set_option maxHeartbeats 2000000 in
theorem specDecNew_any (p : Pl) (a : Option Addr) (cap : Nat) (xs : List Shp) (w : World) (h : ShsC w a xs) (hn : xs.length ≤ 1048576) (hm : fldSum xs ≤ 1048576) :
  Calls Tryz.prog 111 #[p.val (.slice a xs.length cap)] w (FreshN w 77 34 (newO p xs)) := by
 have HSs := Lib.hid h; clear h
 obtain ⟨O, hO⟩ : ∃ O, newO p xs = O := ⟨_, rfl⟩
 rw [hO]
 have HO := Lib.hid hO; clear hO
 go_enter Tryz.func111, Tryz.ntmps111
 go_wp2_with fail
 refine (specPlanOk_any a cap _ p xs _ (HSs.out.shs.keep bl) rfl hn hm).mono ?_
 rintro r w1 ⟨rfl, hb1⟩
 have hz1 := hb1.size
 simp only [World.size_alloc] at hz1
 have hA_ : w1.heap[w.heap.size]? = some (.cells #[.slice a xs.length cap, .int .i64 p.root, .int .i64 p.deep, .int .i64 p.most] 28 (0, 0)) := (hb1.block _ (by simp; omega)).trans (hset_alloc (hset_new rfl))
 have hR_ : w1.heap[w.heap.size + 1]? = some (.cells dz0.toArray 40 (0, 0)) := (hb1.block _ (by simp)).trans (hset_new (by simp))
 have hb1b : Below w.heap.size w w1 := by exact bl
 have kA := box_cells hA_; have fA := box_frozen hA_; have hBA := box_lt hA_
 have HA := Lib.hid hA_; clear hA_
 have HR := Lib.hid hR_; clear hR_ hb1
 cases hk : planOk p xs
 ·have HO3 := Lib.hid (show O = (freshD ⟨0, 0, 0⟩ 0, [], false) from by rw [← HO.out]; exact newO_no hk)
  go_wp2_with (first | (refine wsr (w.heap.size + 1) dz0.toArray HR.out ?_))
  rw [HO3.out]
  refine fin_new w _ _ _ (freshD ⟨0, 0, 0⟩ 0) [] false none 0 [] Tryz.results111 ?_ ?_ ?_ ?_ ?_
  ·rfl
  ·rfl
  ·exact hset_row (cs := dz0.toArray) HR.out
  ·exact OwnShs.nil _ _ _ _
  ·exact bl
 ·have HO3 := Lib.hid (show O = (freshD p 1, xs, true) from by rw [← HO.out]; exact newO_yes hk)
  go_wp2_with fail
  refine (l8Copy_any a cap _ xs _ (ShsC.keep HSs.out (show Below w.heap.size w _ from by exact bl)) rfl hn hm).mono ?_
  rintro r w2 ⟨a2, cap2, rs2, rfl, ho2, hb2⟩
  have hz2 := hb2.size
  have hb12 : Below w1.heap.size w1 w2 := by exact bl
  have P2 := Lib.hid (OwnShs.le ho2 (show w.heap.size + 1 + 1 ≤ _ by first | omega | (simp; omega))); clear ho2
  have HA2 := Lib.hid ((hb12.block _ (by omega)).trans HA.out); clear HA kA fA hBA
  have HR2 := Lib.hid ((hb12.block _ (by omega)).trans HR.out); clear HR
  have kA := box_cells HA2.out; have fA := box_frozen HA2.out; have hBA := box_lt HA2.out
  clear hb2
  go_wp2_with (first | (refine wsr (w.heap.size + 1) (c1000 (.slice a2 xs.length cap2) (.slice none 0 0) p 1 0 0 0 0 0 0 false false 0 0 0 0 0 0 0 0 0 0 ⟨#[]⟩ 0 0).toArray (hset_other HR2.out (by simp)) ?_))
  rw [HO3.out]
  refine fin_new w _ _ _ (freshD p 1) xs true a2 cap2 rs2 Tryz.results111 ?_ ?_ ?_ ?_ ?_
  ·rfl
  ·rfl
  ·exact hset_row (cs := dz0.toArray) (hset_other HR2.out (by simp))
  ·exact (OwnShs.setRow (P2.out.set (by first | omega | (simp; done) | (simp; omega)) _) (by omega) _).le (by omega)
  ·exact bl
def DrawnD (B k : Nat) (w : World) (r : Ending) (w' : World) : Prop :=
 ∃ (d : Dc) (xs : List Shp) (ls : List Lvl) (a : Option Addr) (cap : Nat) (rs : List ShR) (sa : Option Addr) (scap : Nat), r = .returned (d.val (.slice a xs.length cap) (.slice sa ls.length scap)) ∧ OwnShs w' w.heap.size 77 34 (.slice a xs.length cap) xs.length rs xs
  ∧ w'.ownsRow w.heap.size 67 2 (.slice sa ls.length scap) ls.length (ls.flatMap Lvl.cs) ∧ SchB xs ∧ ls.length ≤ k ∧ Up B w w'
structure MidD (w wr : World) (B D : Nat) (d : Dc) (xs : List Shp) (ls : List Lvl) (a : Option Addr) (cap : Nat) (rs : List ShR) (sa : Option Addr) (scap : Nat) : Prop where
 box : wr.heap[D]? = some (.cells (Dc.cl d (.slice a xs.length cap) (.slice sa ls.length scap)).toArray 40 (0, 0))
 res : wr.heap[w.heap.size]? = some (.cells dz0.toArray 40 (0, 0))
 sh : OwnShs wr (w.heap.size + 1) 77 34 (.slice a xs.length cap) xs.length rs xs
 lv : wr.ownsRow (w.heap.size + 1) 67 2 (.slice sa ls.length scap) ls.length (ls.flatMap Lvl.cs)
 up : Up B w wr
 hD : w.heap.size < D
 hs : SchB xs
section
variable {w wr w' : World} {B D : Nat} {d e : Dc} {xs : List Shp} {ls : List Lvl} {a : Option Addr} {cap : Nat} {rs : List ShR} {sa : Option Addr} {scap : Nat}
theorem MidD.step (h : MidD w wr B D d xs ls a cap rs sa scap) (hB : B < w.heap.size) (hc : Cur w' B) (ho : Oth B wr w') : MidD w w' B D d xs ls a cap rs sa scap :=
 ⟨(ho.block (box_lt h.box) (by have := h.hD; omega)).trans h.box, (ho.block (box_lt h.res) (by omega)).trans h.res, h.sh.oth ho (by omega), owns_oth h.lv ho (by omega), h.up.step hc ho, h.hD, h.hs⟩
theorem MidD.keep (h : MidD w wr B D d xs ls a cap rs sa scap) (hB : B < w.heap.size) (hb : Below wr.heap.size wr w') : MidD w w' B D d xs ls a cap rs sa scap :=
 ⟨(hb.block _ (box_lt h.box)).trans h.box, (hb.block _ (box_lt h.res)).trans h.res, h.sh.chain hb (Nat.le_refl _), owns_below h.lv hb (Nat.le_refl _), h.up.below hB hb h.up.oth.size, h.hD, h.hs⟩
theorem MidD.upd (h : MidD w wr B D d xs ls a cap rs sa scap) (hB : B < w.heap.size) (hG : wr.grownBy w' (some D)) (hb : w'.heap[D]? = some (.cells (Dc.cl e (.slice a xs.length cap) (.slice sa ls.length scap)).toArray 40 (0, 0))) : MidD w w' B D e xs ls a cap rs sa scap :=
 ⟨hb, (hG.block _ (box_lt h.res) (by have := h.hD; simp only [ne_eq, Option.some.injEq]; omega)).trans h.res, h.sh.keepBy hG (other_box h.box (by decide)) (other_box h.box (by decide)), owns_keep h.lv hG (other_box h.box (by decide)), h.up.grown hB hG (fun g e => by have := Option.some.inj e; have := h.hD; omega), h.hD, h.hs⟩
theorem MidD.put {xs' : List Shp} {ls' : List Lvl} {a' sa' : Option Addr} {cap' scap' : Nat} {rs' : List ShR} (h : MidD w wr B D d xs ls a cap rs sa scap) (hB : B < w.heap.size) (hs : SchB xs') (h1 : OwnShs wr (w.heap.size + 1) 77 34 (.slice a' xs'.length cap') xs'.length rs' xs') (h2 : wr.ownsRow (w.heap.size + 1) 67 2 (.slice sa' ls'.length scap') ls'.length (ls'.flatMap Lvl.cs)) :
  MidD w (wr.setRow D (c1111 (.slice a' xs'.length cap') (.slice sa' ls'.length scap') e.p e.mode e.bits e.have_ e.start e.at_ e.field e.wire e.want e.utf e.end_).toArray) B D e xs' ls' a' cap' rs' sa' scap' := by
 have hG := only_rowT wr D (c1111 (.slice a' xs'.length cap') (.slice sa' ls'.length scap') e.p e.mode e.bits e.have_ e.start e.at_ e.field e.wire e.want e.utf e.end_).toArray
 exact ⟨hset_row h.box, (hG.block _ (box_lt h.res) (by have := h.hD; simp only [ne_eq, Option.some.injEq]; omega)).trans h.res, h1.keepBy hG (other_box h.box (by decide)) (other_box h.box (by decide)), owns_keep h2 hG (other_box h.box (by decide)), h.up.grown hB hG (fun g e => by have := Option.some.inj e; have := h.hD; omega), h.hD, hs⟩
theorem MidD.done {F : Func} {p k : Nat} (hF : F.results = #[.cell p 40]) {tm : Array Value} (h : MidD w wr B D d xs ls a cap rs sa scap) (hB : B < w.heap.size) (hk : ls.length ≤ k) (t1 : tm.getD p undef = .pointer (some ⟨w.heap.size, 0, none⟩)) :
  bodyPost Tryz.prog F (DrawnD B k w) .ret ⟨tm, []⟩ (wr.setRow w.heap.size (Dc.cl d (.slice a xs.length cap) (.slice sa ls.length scap)).toArray) := by
 have hG := only_rowT wr w.heap.size (Dc.cl d (.slice a xs.length cap) (.slice sa ls.length scap)).toArray
 refine bodyPost_ret (results_cell hF t1 (run_loadVar_mid _ w.heap.size 0 40 (Dc.cl d (.slice a xs.length cap) (.slice sa ls.length scap)) _ (range_of_box (t := 40) (hset_row h.res)) Tryz.underlying40 rfl size_Dec)) rfl ⟨d, xs, ls, a, cap, rs, sa, scap, rfl, ?_, ?_, h.hs, hk, ?_⟩
 ·exact (h.sh.setRow (by omega) _).le (by omega)
 ·exact owns_le (owns_setRow h.lv (by omega) _) (by omega)
 ·exact h.up.grown hB hG (fun g e => by have := Option.some.inj e; omega)
end
theorem newO_sch {p : Pl} {xs : List Shp} (h : SchB xs) : SchB (newO p xs).2.1 := by
 unfold newO; split
 ·exact h
 ·exact ⟨by simp, by simp, by simp⟩
set_option maxRecDepth 100000 in
set_option maxHeartbeats 8000000 in
theorem l14Right_any (B : Nat) (w : World) (hc : Cur w B) : Calls Tryz.prog 76 #[.pointer (some ⟨B, 0, none⟩)] w (DrawnD B 8 w) := by
 have hBl := hc.lt
 go_enter Tryz.func76, Tryz.ntmps76
 go_wp2_with fail
 refine (l12Plan_any B _ (hc.below bl)).mono ?_
 rintro r w1 ⟨p, a, n, cap, rs, xs, rfl, ho, hn1, hn3, hg, hr0, hr1, hd0, hd1, hm0, hm1, hu⟩
 obtain rfl : xs.length = n := ho.lenx
 have hz1 := hu.oth.size
 simp only [World.size_alloc] at hz1
 have hR1 := Lib.hid ((hu.oth.block (b := w.heap.size) (by simp) (by omega)).trans (hset_new (o := .cells dz0.toArray 40) rfl))
 have hu1 := Lib.hid (((Up.refl hc).alloc hBl _).step hu.cur hu.oth)
 have HI := Lib.hid (show InS w1 B (w.heap.size + 1) a xs.length cap rs xs from ⟨ho.le (by simp), by omega, hg, by omega⟩)
 have HG := Lib.hid hg
 have hbs := hg.bent (by omega)
 clear hg ho hu
 obtain ⟨pr, pd, pm⟩ := p
 simp only at hr0 hr1 hd0 hd1 hm0 hm1
 have hal : Below w1.heap.size w1 (w1.alloc (.cells #[.slice a xs.length cap, .int .i64 pr, .int .i64 pd, .int .i64 pm] 28)) := (Below.refl _ _).alloc (Nat.le_refl _) _
 have hms := hbs.sum
 have hys := newO_sch (p := ⟨pr, pd, pm⟩) hbs
 obtain ⟨⟨d0, ys, ok⟩, hO⟩ : ∃ q, newO ⟨pr, pd, pm⟩ xs = q := ⟨_, rfl⟩
 have hDN := specDecNew_any ⟨pr, pd, pm⟩ a cap xs (w1.alloc (.cells #[.slice a xs.length cap, .int .i64 pr, .int .i64 pd, .int .i64 pm] 28)) (HI.out.own.shsC.keep hal) (by omega) hms
 rw [hO] at hDN hys
 have HDN := Lib.hid hDN
 have HYS := Lib.hid hys
 clear hO hDN hys
 go_wp2_with fail
 refine HDN.out.mono ?_
 rintro r w2 ⟨a2, cap2, rs2, rfl, ho2, hb2⟩
 have hz2 := hb2.size
 simp only [World.size_alloc] at hz2 ho2
 have hP2 := Lib.hid ((hb2.block w1.heap.size (by simp)).trans (hset_new (w := w1) (o := .cells #[.slice a xs.length cap, .int .i64 pr, .int .i64 pd, .int .i64 pm] 28) rfl))
 have hb12 := hal.trans (hb2.mono (by simp))
 have hR2 := Lib.hid ((hb12.block _ (by have := box_lt hR1.out; omega)).trans hR1.out)
 have hu2 := Lib.hid (hu1.out.below hBl hb12 (by have := hu1.out.oth.size; omega))
 have HI2 := Lib.hid (HI.out.below hb12)
 have HO2 := Lib.hid ho2
 clear ho2 hb2 hal hb12 hR1 hu1 HI HDN
 have kP := box_cells hP2.out; have fP := box_frozen hP2.out; have hBP := box_lt hP2.out
 obtain ⟨P, hP⟩ : ∃ q, w1.heap.size = q := ⟨_, rfl⟩
 rw [hP] at kP fP hBP hz2 hP2
 try simp only [hP]
 have hPw : w.heap.size < P := by omega
 clear hP
 have hb3 : Below w2.heap.size w2 ((w2.alloc (.cells dz0.toArray 40)).setRow w2.heap.size (Dc.cl d0 (.slice a2 ys.length cap2) (.slice none 0 0)).toArray) := by exact bl
 have hD3 : ((w2.alloc (.cells dz0.toArray 40)).setRow w2.heap.size (Dc.cl d0 (.slice a2 ys.length cap2) (.slice none 0 0)).toArray).heap[w2.heap.size]? = some (.cells (Dc.cl d0 (.slice a2 ys.length cap2) (.slice none 0 0)).toArray 40 (0, 0)) := hset_row (cs := dz0.toArray) (hset_new rfl)
 have cP : ∀ i : Nat, ((w2.alloc (.cells dz0.toArray 40)).setRow w2.heap.size (Dc.cl d0 (.slice a2 ys.length cap2) (.slice none 0 0)).toArray).cell? ⟨P, i, none⟩ = (#[.slice a xs.length cap, .int .i64 pr, .int .i64 pd, .int .i64 pm] : Array Value)[i]? := box_next hb3 hBP kP
 go_upto_region 3 with (first | ((with_reducible show wpList _ _ _ (⟨_, Op.store 40 _ _, _, _, _, _⟩ :: _) _ _); refine wsq w2.heap.size (Dc.cl d0 (.slice a2 ys.length cap2) (.slice none 0 0)).toArray (hset_new rfl) (one_Dec _ _ _ _ _ _ _) ?_))
 obtain ⟨w3, hw3⟩ : ∃ q, ((w2.alloc (.cells dz0.toArray 40)).setRow w2.heap.size (Dc.cl d0 (.slice a2 ys.length cap2) (.slice none 0 0)).toArray) = q := ⟨_, rfl⟩
 rw [hw3] at hb3 hD3 cP ⊢
 clear hw3 kP fP
 have HM := Lib.hid (show MidD w w3 B w2.heap.size d0 ys ([] : List Lvl) a2 cap2 rs2 none 0 from ⟨hD3, (hb3.block _ (box_lt hR2.out)).trans hR2.out, (HO2.out.chain hb3 (Nat.le_refl _)).le (by omega), ⟨rfl, .inl ⟨rfl, rfl⟩⟩, hu2.out.below hBl hb3 (by have := hu2.out.oth.size; omega), by omega, HYS.out⟩)
 have HI3 := Lib.hid (HI2.out.below hb3)
 have hz3 := hb3.size
 have hBP3 : P < w3.heap.size := by omega
 have cfP := (hb3.block P hBP).trans hP2.out
 have fP := box_frozen cfP
 obtain ⟨D, hD⟩ : ∃ q, w2.heap.size = q := ⟨_, rfl⟩
 rw [hD] at HM
 try simp only [hD]
 have hDw : P < D := by omega
 clear hb3 hD3 HO2 HI2 hu2 hR2 hD cfP hBP
 try simp only [Act.put]
 go_wp2_with fail
 refine (l13Input_any B ⟨pr, pd, pm⟩ a xs.length cap rs xs (w.heap.size + 1) _ HM.out.up.cur HI3.out hr0 hr1 hd0 hd1).mono ?_
 rintro r w4 ⟨s, rfl, hs, hc4, ho4⟩
 have H4 := Lib.hid (HM.out.step hBl hc4 ho4)
 clear HM HI3 HG hc4 ho4 cP fP hBP3
 go_wp2_with fail
 refine (l1Below_gen B _ _ H4.out.up.cur (by omega) (by omega)).mono ?_
 rintro r w5 ⟨m, rfl, hm0', hm1', hc5, ho5⟩
 have H5 := Lib.hid (H4.out.step hBl hc5 ho5)
 clear hc5 ho5 H4
 obtain ⟨m, rfl⟩ := Int.eq_ofNat_of_zero_le hm0'
 have hms' : m ≤ s.size := by omega
 clear hm0' hm1'
 go_wp2_with fail
 go_loopw [8] (fun i wr => ∃ (k : Nat) (d : Dc) (ls : List Lvl) (a : Option Addr) (cap : Nat) (rs : List ShR) (sa : Option Addr) (scap : Nat), k ≤ m ∧ i = .int .i64 k ∧ ls.length ≤ 8 ∧ MidD w wr B D d ys ls a cap rs sa scap) (fun i _ => m - (intOf i).toNat)
 case atStart => exact ⟨0, d0, [], a2, cap2, rs2, none, 0, by omega, rfl, by simp, H5.out⟩
 case round =>
  obtain ⟨k, d, ls, ad, capd, rsd, sa, scap, hk, rfl, hl8, hmid⟩ := hrel
  have HR := Lib.hid hmid; clear hmid H5
  by_cases hlt : k < m
  ·go_upto_region 8 with fail
   obtain ⟨wi, hwi⟩ : ∃ wi : World, wi = wr := ⟨_, rfl⟩
   subst hwi
   have hks : k < s.size := by omega
   have HRd := Lib.hid (HR.out.keep hBl (show Below wi.heap.size wi wi.drew from (Below.refl _ _).drew)); clear HR
   refine wp_region_till (fun w' : World => ∀ i : Nat, w'.cell? ⟨D, i, none⟩ = ((Dc.cl d (.slice ad ys.length capd) (.slice sa ls.length scap)).toArray : Array Value)[i]?) (fun _ => false) (by kernel_rfl) ?_
   have hS : (fun w' : World => ∀ i : Nat, w'.cell? ⟨D, i, none⟩ = ((Dc.cl d (.slice ad ys.length capd) (.slice sa ls.length scap)).toArray : Array Value)[i]?) wi.drew := box_cells HRd.out.box
   refine' wpTill_take (i := 0) (oi := _) (v := _) rfl (by kernel_rfl) (by kernel_rfl) (by kernel_rfl) (by kernel_rfl) (fun _ _ _ h => h) (yieldsIf_load_mid (by rfl) _ _ rfl _ _ rfl (Dc.cl d (.slice ad ys.length capd) (.slice sa ls.length scap)) _ (fun wq hq => range_of_cells hq) Tryz.underlying40 rfl size_Dec) hS ?_
   try simp only [List.getElem_toArray, List.getElem_cons_succ, List.getElem_cons_zero, Act.put, List.setIfInBounds_toArray, List.set_cons_zero, List.set_cons_succ]
   refine tk (i := 1) hS ?_
   refine tk (i := 2) hS ?_
   refine tk (i := 3) hS ?_
   refine tk (i := 4) hS ?_
   refine wpTill_two (i := 5) (j := 9) (by kernel_rfl) rfl rfl (fun K hK => ?_) (fun K hK => ?_)
   ·skip
    go_simp
    refine (stepByte_some d ad capd ys sa scap ls _ _ HRd.out.sh.shsC (lvls_of_own HRd.out.lv rfl) (by have := HYS.out.n; omega) HYS.out.sum hl8 (fun e => (own_nilc2 HRd.out.lv e).2)).mono ?_
    rintro r w9 ⟨e, ms, es, a9, cap9, rs9, sa9, scap9, ea, ecap, rfl, hs9, hp9, he9, hb9, hm8⟩
    have hzH := HRd.out.up.oth.size
    have hlH := box_lt HRd.out.res
    have H9 := Lib.hid (HRd.out.keep hBl hb9); have P1 := Lib.hid (hs9.le (show w.heap.size + 1 ≤ _ from hlH)); have P2 := Lib.hid (owns_le hp9 (show w.heap.size + 1 ≤ _ from hlH)); clear hs9 hp9 he9 hS
    have hS : (fun w' : World => ∀ i : Nat, w'.cell? ⟨D, i, none⟩ = ((Dc.cl d (.slice ad ys.length capd) (.slice sa ls.length scap)).toArray : Array Value)[i]?) w9 := box_cells H9.out.box
    refine hK.out _ _ (fun _ => hS) ?_
    clear hK K
    try simp only [List.getElem_toArray, List.getElem_cons_succ, List.getElem_cons_zero, Act.put, List.setIfInBounds_toArray, List.set_cons_zero, List.set_cons_succ]
    refine tk (i := 6) hS ?_
    refine tk (i := 7) hS ?_
    refine tk (i := 8) hS ?_
    refine wpTill_op (i := 9) (by kernel_rfl) rfl (fun K hK => ?_)
    go_simp
    have hal : Below w9.heap.size w9 (w9.alloc (.cells dz0.toArray 40)) := (Below.refl _ _).alloc (Nat.le_refl _) _
    have hS2 : (fun w' : World => ∀ i : Nat, w'.cell? ⟨D, i, none⟩ = ((Dc.cl d (.slice ad ys.length capd) (.slice sa ls.length scap)).toArray : Array Value)[i]?) (w9.alloc (.cells dz0.toArray 40)) := box_cells (H9.out.keep hBl hal).box
    refine hK.out _ _ (fun _ => hS2) ?_
    clear hK K
    try simp only [List.getElem_toArray, List.getElem_cons_succ, List.getElem_cons_zero, Act.put, List.setIfInBounds_toArray, List.set_cons_zero, List.set_cons_succ]
    refine wpTill_op (i := 10) (by kernel_rfl) rfl (fun K hK => ?_)
    refine step_store_row rfl 40 _ _ rfl w9.heap.size (Dc.cl e (.slice a9 ys.length cap9) (.slice sa9 ms.length scap9)).toArray rfl rfl 40 dz0.toArray (hset_new rfl) size_Dec rfl (one_Dec _ _ _ _ _ _ _) ?_
    have hbN : Below w9.heap.size w9 ((w9.alloc (.cells dz0.toArray 40)).setRow w9.heap.size (Dc.cl e (.slice a9 ys.length cap9) (.slice sa9 ms.length scap9)).toArray) := by exact bl
    have hN_ : ((w9.alloc (.cells dz0.toArray 40)).setRow w9.heap.size (Dc.cl e (.slice a9 ys.length cap9) (.slice sa9 ms.length scap9)).toArray).heap[w9.heap.size]? = some (.cells (Dc.cl e (.slice a9 ys.length cap9) (.slice sa9 ms.length scap9)).toArray 40 (0, 0)) := hset_row (cs := dz0.toArray) (hset_new rfl)
    obtain ⟨wN, hwN⟩ : ∃ q, ((w9.alloc (.cells dz0.toArray 40)).setRow w9.heap.size (Dc.cl e (.slice a9 ys.length cap9) (.slice sa9 ms.length scap9)).toArray) = q := ⟨_, rfl⟩
    rw [hwN] at hbN hN_ ⊢
    clear hwN hS2 hal
    have H10 := Lib.hid (H9.out.keep hBl hbN)
    have hS3 : (fun w' : World => ∀ i : Nat, w'.cell? ⟨D, i, none⟩ = ((Dc.cl d (.slice ad ys.length capd) (.slice sa ls.length scap)).toArray : Array Value)[i]?) wN := box_cells H10.out.box
    refine hK.out _ _ (fun _ => hS3) ?_
    clear hK K hS
    try simp only [List.getElem_toArray, List.getElem_cons_succ, List.getElem_cons_zero, Act.put, List.setIfInBounds_toArray, List.set_cons_zero, List.set_cons_succ]
    refine wpTill_op (i := 11) (by kernel_rfl) rfl (fun K hK => ?_)
    go_simp
    refine hK.out _ _ (fun _ => hS3) ?_
    clear hK K hS3
    refine wpTill_done (by kernel_rfl) ?_ _
    try simp only [List.getElem_toArray, List.getElem_cons_succ, List.getElem_cons_zero, Act.put, List.setIfInBounds_toArray, List.set_cons_zero, List.set_cons_succ]
    have P1b := Lib.hid (P1.out.chain hbN (Nat.le_refl _)); clear P1; have P1 := P1b; clear P1b
    have P2b := Lib.hid (owns_below P2.out hbN (Nat.le_refl _)); clear P2; have P2 := P2b; clear P2b
    have hD9 := box_lt H9.out.box
    obtain ⟨NX, hNX⟩ : ∃ q, w9.heap.size = q := ⟨_, rfl⟩
    have hNw : w.heap.size < NX := by have := H9.out.hD; omega
    rw [hNX] at hN_
    try simp only [hNX]
    clear hNX hbN H9 hb9
    have HN := Lib.hid hN_; clear hN_
    have kN := box_cells HN.out; have fN := box_frozen HN.out; have hBN := box_lt HN.out
    cases m9 : (e.mode == 9)
    ·skip
     go_wp2_with (first | ((with_reducible show wpList _ _ _ (⟨_, Op.load 40 _, _, _, _, _⟩ :: _) _ _); refine wlm NX (Dc.cl e (.slice a9 ys.length cap9) (.slice sa9 ms.length scap9)) (range_of_box (t := 40) HN.out) ?_) | ((with_reducible show wpList _ _ _ (⟨_, Op.store 40 _ _, _, _, _, _⟩ :: _) _ _); refine wpList_store_row rfl 40 (.tmp 4) (.tmp 48) rfl D (Dc.cl e (.slice a9 ys.length cap9) (.slice sa9 ms.length scap9)).toArray rfl rfl 40 (Dc.cl d (.slice ad ys.length capd) (.slice sa ls.length scap)).toArray H10.out.box size_Dec rfl (one_Dec _ _ _ _ _ _ _) ?_))
     go_roundw
     case rel => exact ⟨k + 1, e, ms, a9, cap9, rs9, sa9, scap9, by omega, by go_num, hm8, H10.out.put hBl HYS.out P1.out P2.out⟩
     case measure => simp [intOf]; omega
    ·go_wp2_with fail
     refine (l1Once_any B 4 _ H10.out.up.cur (by omega) (by omega)).mono ?_
     rintro r wq ⟨b4, rfl, hcq, hoq⟩
     have H11 := Lib.hid (H10.out.step hBl hcq hoq)
     have HNb := Lib.hid ((hoq.block hBN (by omega)).trans HN.out); clear HN kN fN hBN; have HN := HNb; clear HNb
     have P1b := Lib.hid (P1.out.oth hoq (by omega)); clear P1; have P1 := P1b; clear P1b
     have P2b := Lib.hid (owns_oth P2.out hoq (by omega)); clear P2; have P2 := P2b; clear P2b
     clear H10 hcq hoq
     have kN := box_cells HN.out; have fN := box_frozen HN.out; have hBN := box_lt HN.out
     cases b4
     ·skip
      go_wp2_with (first | ((with_reducible show wpList _ _ _ (⟨_, Op.load 40 _, _, _, _, _⟩ :: _) _ _); refine wlm D (Dc.cl d (.slice ad ys.length capd) (.slice sa ls.length scap)) (range_of_box (t := 40) H11.out.box) ?_) | ((with_reducible show wpList _ _ _ (⟨_, Op.store 40 _ _, _, _, _, _⟩ :: _) _ _); refine wsq w.heap.size (Dc.cl d (.slice ad ys.length capd) (.slice sa ls.length scap)).toArray (H11.out.res) (one_Dec _ _ _ _ _ _ _) ?_))
      exact MidD.done Tryz.results76 H11.out hBl hl8 rfl
     ·skip
      go_wp2_with (first | ((with_reducible show wpList _ _ _ (⟨_, Op.load 40 _, _, _, _, _⟩ :: _) _ _); refine wlm NX (Dc.cl e (.slice a9 ys.length cap9) (.slice sa9 ms.length scap9)) (range_of_box (t := 40) HN.out) ?_) | ((with_reducible show wpList _ _ _ (⟨_, Op.store 40 _ _, _, _, _, _⟩ :: _) _ _); refine wpList_store_row rfl 40 (.tmp 4) (.tmp 48) rfl D (Dc.cl e (.slice a9 ys.length cap9) (.slice sa9 ms.length scap9)).toArray rfl rfl 40 (Dc.cl d (.slice ad ys.length capd) (.slice sa ls.length scap)).toArray H11.out.box size_Dec rfl (one_Dec _ _ _ _ _ _ _) ?_))
      go_roundw
      case rel => exact ⟨k + 1, e, ms, a9, cap9, rs9, sa9, scap9, by omega, by go_num, hm8, H11.out.put hBl HYS.out P1.out P2.out⟩
      case measure => simp [intOf]; omega
   ·skip
    go_simp
    have hal : Below wi.drew.heap.size wi.drew ((wi.alloc (.cells dz0.toArray 40)).drew) := (let h := ((Below.refl wi.heap.size wi).alloc (Nat.le_refl _) (.cells dz0.toArray 40)).drew; ⟨h.os, h.tape, h.output, h.size, h.block⟩)
    have HRe := Lib.hid (HRd.out.keep hBl hal)
    have hNa : ((wi.alloc (.cells dz0.toArray 40)).drew).heap[wi.heap.size]? = some (.cells dz0.toArray 40 (0, 0)) := heap_alloc_new wi _
    have hDi := box_lt HRd.out.box
    have hDw2 := HRd.out.hD
    obtain ⟨wa, hwa⟩ : ∃ q, (wi.alloc (.cells dz0.toArray 40)).drew = q := ⟨_, rfl⟩
    rw [hwa] at HRe hNa ⊢
    clear hwa hal hS HRd
    have hS2 : (fun w' : World => ∀ i : Nat, w'.cell? ⟨D, i, none⟩ = ((Dc.cl d (.slice ad ys.length capd) (.slice sa ls.length scap)).toArray : Array Value)[i]?) wa := box_cells HRe.out.box
    refine hK.out _ _ (fun _ => hS2) ?_
    clear hK K
    try simp only [List.getElem_toArray, List.getElem_cons_succ, List.getElem_cons_zero, Act.put, List.setIfInBounds_toArray, List.set_cons_zero, List.set_cons_succ]
    have hS := hS2; clear hS2
    refine wpTill_op (i := 5) (by kernel_rfl) rfl (fun K hK => ?_)
    go_simp
    refine (stepByte_some d ad capd ys sa scap ls _ _ HRe.out.sh.shsC (lvls_of_own HRe.out.lv rfl) (by have := HYS.out.n; omega) HYS.out.sum hl8 (fun e => (own_nilc2 HRe.out.lv e).2)).mono ?_
    rintro r w9 ⟨e, ms, es, a9, cap9, rs9, sa9, scap9, ea, ecap, rfl, hs9, hp9, he9, hb9, hm8⟩
    have hzH := HRe.out.up.oth.size
    have hlH := box_lt HRe.out.res
    have H9 := Lib.hid (HRe.out.keep hBl hb9); have P1 := Lib.hid (hs9.le (show w.heap.size + 1 ≤ _ from hlH)); have P2 := Lib.hid (owns_le hp9 (show w.heap.size + 1 ≤ _ from hlH)); clear hs9 hp9 he9 hS
    have hS : (fun w' : World => ∀ i : Nat, w'.cell? ⟨D, i, none⟩ = ((Dc.cl d (.slice ad ys.length capd) (.slice sa ls.length scap)).toArray : Array Value)[i]?) w9 := box_cells H9.out.box
    have hNb := (hb9.block _ (box_lt hNa)).trans hNa
    obtain ⟨NX, hNX⟩ : ∃ q, wi.heap.size = q := ⟨_, rfl⟩
    rw [hNX] at hNb
    have hNw : w.heap.size < NX := by have : D < wi.heap.size := hDi; omega
    try simp only [hNX]
    have hND : NX ≠ D := by have : D < wi.heap.size := hDi; omega
    clear hNX hNa hb9 hDi HRe
    refine hK.out _ _ (fun _ => hS) ?_
    clear hK K
    try simp only [List.getElem_toArray, List.getElem_cons_succ, List.getElem_cons_zero, Act.put, List.setIfInBounds_toArray, List.set_cons_zero, List.set_cons_succ]
    refine tk (i := 6) hS ?_
    refine tk (i := 7) hS ?_
    refine tk (i := 8) hS ?_
    refine wpTill_op (i := 10) (by kernel_rfl) rfl (fun K hK => ?_)
    refine step_store_row rfl 40 _ _ rfl NX (Dc.cl e (.slice a9 ys.length cap9) (.slice sa9 ms.length scap9)).toArray rfl rfl 40 dz0.toArray hNb size_Dec rfl (one_Dec _ _ _ _ _ _ _) ?_
    have hG := only_rowT w9 NX (Dc.cl e (.slice a9 ys.length cap9) (.slice sa9 ms.length scap9)).toArray
    have hN_ : (w9.setRow NX (Dc.cl e (.slice a9 ys.length cap9) (.slice sa9 ms.length scap9)).toArray).heap[NX]? = some (.cells (Dc.cl e (.slice a9 ys.length cap9) (.slice sa9 ms.length scap9)).toArray 40 (0, 0)) := hset_row (cs := dz0.toArray) hNb
    have hob : ∀ t, 40 ≠ t → Other w9 (some NX) t := fun t ht => other_box hNb ht
    obtain ⟨wN, hwN⟩ : ∃ q, (w9.setRow NX (Dc.cl e (.slice a9 ys.length cap9) (.slice sa9 ms.length scap9)).toArray) = q := ⟨_, rfl⟩
    rw [hwN] at hG hN_ ⊢
    clear hwN
    have H10 := Lib.hid (show MidD w wN B D d ys ls ad capd rsd sa scap from ⟨(hG.block _ (box_lt H9.out.box) (by simp only [ne_eq, Option.some.injEq]; omega)).trans H9.out.box, (hG.block _ (box_lt H9.out.res) (by simp only [ne_eq, Option.some.injEq]; omega)).trans H9.out.res, H9.out.sh.keepBy hG (hob _ (by decide)) (hob _ (by decide)), owns_keep H9.out.lv hG (hob _ (by decide)), H9.out.up.grown hBl hG (fun g e => by have := Option.some.inj e; omega), H9.out.hD, H9.out.hs⟩)
    have P1b := Lib.hid (P1.out.keepBy hG (hob _ (by decide)) (hob _ (by decide))); clear P1; have P1 := P1b; clear P1b
    have P2b := Lib.hid (owns_keep P2.out hG (hob _ (by decide))); clear P2; have P2 := P2b; clear P2b
    have hS3 : (fun w' : World => ∀ i : Nat, w'.cell? ⟨D, i, none⟩ = ((Dc.cl d (.slice ad ys.length capd) (.slice sa ls.length scap)).toArray : Array Value)[i]?) wN := box_cells H10.out.box
    refine hK.out _ _ (fun _ => hS3) ?_
    clear hK K hS
    try simp only [List.getElem_toArray, List.getElem_cons_succ, List.getElem_cons_zero, Act.put, List.setIfInBounds_toArray, List.set_cons_zero, List.set_cons_succ]
    refine wpTill_op (i := 11) (by kernel_rfl) rfl (fun K hK => ?_)
    go_simp
    refine hK.out _ _ (fun _ => hS3) ?_
    clear hK K hS3
    refine wpTill_done (by kernel_rfl) ?_ _
    try simp only [List.getElem_toArray, List.getElem_cons_succ, List.getElem_cons_zero, Act.put, List.setIfInBounds_toArray, List.set_cons_zero, List.set_cons_succ]
    have HN := Lib.hid hN_; clear hN_ hNb hG hob H9
    have kN := box_cells HN.out; have fN := box_frozen HN.out; have hBN := box_lt HN.out
    cases m9 : (e.mode == 9)
    ·skip
     go_wp2_with (first | ((with_reducible show wpList _ _ _ (⟨_, Op.load 40 _, _, _, _, _⟩ :: _) _ _); refine wlm NX (Dc.cl e (.slice a9 ys.length cap9) (.slice sa9 ms.length scap9)) (range_of_box (t := 40) HN.out) ?_) | ((with_reducible show wpList _ _ _ (⟨_, Op.store 40 _ _, _, _, _, _⟩ :: _) _ _); refine wpList_store_row rfl 40 (.tmp 4) (.tmp 48) rfl D (Dc.cl e (.slice a9 ys.length cap9) (.slice sa9 ms.length scap9)).toArray rfl rfl 40 (Dc.cl d (.slice ad ys.length capd) (.slice sa ls.length scap)).toArray H10.out.box size_Dec rfl (one_Dec _ _ _ _ _ _ _) ?_))
     go_roundw
     case rel => exact ⟨k + 1, e, ms, a9, cap9, rs9, sa9, scap9, by omega, by go_num, hm8, H10.out.put hBl HYS.out P1.out P2.out⟩
     case measure => simp [intOf]; omega
    ·go_wp2_with fail
     refine (l1Once_any B 4 _ H10.out.up.cur (by omega) (by omega)).mono ?_
     rintro r wq ⟨b4, rfl, hcq, hoq⟩
     have H11 := Lib.hid (H10.out.step hBl hcq hoq)
     have HNb := Lib.hid ((hoq.block hBN (by omega)).trans HN.out); clear HN kN fN hBN; have HN := HNb; clear HNb
     have P1b := Lib.hid (P1.out.oth hoq (by omega)); clear P1; have P1 := P1b; clear P1b
     have P2b := Lib.hid (owns_oth P2.out hoq (by omega)); clear P2; have P2 := P2b; clear P2b
     clear H10 hcq hoq
     have kN := box_cells HN.out; have fN := box_frozen HN.out; have hBN := box_lt HN.out
     cases b4
     ·skip
      go_wp2_with (first | ((with_reducible show wpList _ _ _ (⟨_, Op.load 40 _, _, _, _, _⟩ :: _) _ _); refine wlm D (Dc.cl d (.slice ad ys.length capd) (.slice sa ls.length scap)) (range_of_box (t := 40) H11.out.box) ?_) | ((with_reducible show wpList _ _ _ (⟨_, Op.store 40 _ _, _, _, _, _⟩ :: _) _ _); refine wsq w.heap.size (Dc.cl d (.slice ad ys.length capd) (.slice sa ls.length scap)).toArray (H11.out.res) (one_Dec _ _ _ _ _ _ _) ?_))
      exact MidD.done Tryz.results76 H11.out hBl hl8 rfl
     ·skip
      go_wp2_with (first | ((with_reducible show wpList _ _ _ (⟨_, Op.load 40 _, _, _, _, _⟩ :: _) _ _); refine wlm NX (Dc.cl e (.slice a9 ys.length cap9) (.slice sa9 ms.length scap9)) (range_of_box (t := 40) HN.out) ?_) | ((with_reducible show wpList _ _ _ (⟨_, Op.store 40 _ _, _, _, _, _⟩ :: _) _ _); refine wpList_store_row rfl 40 (.tmp 4) (.tmp 48) rfl D (Dc.cl e (.slice a9 ys.length cap9) (.slice sa9 ms.length scap9)).toArray rfl rfl 40 (Dc.cl d (.slice ad ys.length capd) (.slice sa ls.length scap)).toArray H11.out.box size_Dec rfl (one_Dec _ _ _ _ _ _ _) ?_))
      go_roundw
      case rel => exact ⟨k + 1, e, ms, a9, cap9, rs9, sa9, scap9, by omega, by go_num, hm8, H11.out.put hBl HYS.out P1.out P2.out⟩
      case measure => simp [intOf]; omega
  ·skip
   go_wp2_with (first | ((with_reducible show wpList _ _ _ (⟨_, Op.load 40 _, _, _, _, _⟩ :: _) _ _); refine wlm D (Dc.cl d (.slice ad ys.length capd) (.slice sa ls.length scap)) (range_of_box (t := 40) HR.out.box) ?_) | ((with_reducible show wpList _ _ _ (⟨_, Op.store 40 _ _, _, _, _, _⟩ :: _) _ _); refine wsq w.heap.size (Dc.cl d (.slice ad ys.length capd) (.slice sa ls.length scap)).toArray (HR.out.res) (one_Dec _ _ _ _ _ _ _) ?_))
   exact MidD.done Tryz.results76 HR.out hBl hl8 rfl
set_option maxRecDepth 100000 in
set_option maxHeartbeats 2000000 in
theorem l4Number_any (B : Nat) (w : World) (hc : Cur w B) : Calls Tryz.prog 56 #[.pointer (some ⟨B, 0, none⟩)] w (DrawnI B w) := by
 have hB := hc.lt
 go_enter Tryz.func56, Tryz.ntmps56
 go_wp2_with fail
 refine (l1Once_any B 4 w hc (by omega) (by omega)).mono ?_
 rintro r w1 ⟨b, rfl, hc1, ho1⟩
 have hz1 := ho1.size
 cases b
 ·go_wp2_with fail
  refine (l1Below_any B 20 w1 hc1 (by omega) (by omega)).mono ?_
  rintro r w2 ⟨x, rfl, hx0, hx1, hc2, ho2⟩
  go_wp2
  go_ret
  exact ⟨_, rfl, hc2, ho1.trans ho2⟩
 ·go_wp2_with fail
  have hu := (Up.step (Up.refl hc) hc1 ho1).alloc hB
  refine (l1PickInt_any B w1.heap.size 10 [0, 1, -1, 18999, 19000, 19999, 20000, 536870911, 536870912, 9223372036854775807] _ _ (hu _).cur (by omega) (heap_alloc_new _ _) (by decide) (by decide)).mono ?_
  rintro r w2 ⟨x, rfl, hc2, ho2⟩
  go_wp2
  go_ret
  exact ⟨x, rfl, hc2, (hu _).oth.trans ho2⟩
set_option maxRecDepth 100000 in
set_option maxHeartbeats 2000000 in
theorem l1Whole_any (B : Nat) (w : World) (hc : Cur w B) : Calls Tryz.prog 34 #[.pointer (some ⟨B, 0, none⟩)] w (DrawnI B w) := by
 have hB := hc.lt
 go_enter Tryz.func34, Tryz.ntmps34
 go_wp2_with fail
 refine (l1Below_any B 3 w hc (by omega) (by omega)).mono ?_
 rintro r w1 ⟨b, rfl, hb0, hb1, hc1, ho1⟩
 have hz1 := ho1.size
 rcases (show b = 0 ∨ b = 1 ∨ b = 2 by omega) with rfl | rfl | rfl
 ·go_wp2_with fail
  have hu := (Up.step (Up.refl hc) hc1 ho1).alloc hB
  refine (l1PickInt_any B w1.heap.size 11 [0, 1, -1, 9, 10, 127, 128, 999999999, 1000000000, 9223372036854775807, -9223372036854775808] _ _ (hu _).cur (by omega) (heap_alloc_new _ _) (by decide) (by decide)).mono ?_
  rintro r w2 ⟨x, rfl, hc2, ho2⟩
  go_wp2
  go_ret
  exact ⟨x, rfl, hc2, (hu _).oth.trans ho2⟩
 ·go_wp2_with fail
  refine (l1Below_big B 1000000 w1 hc1 (by omega) (by omega)).mono ?_
  rintro r w2 ⟨x, rfl, hx0, hx1, hc2, ho2⟩
  go_wp2
  go_ret
  exact ⟨_, rfl, hc2, ho1.trans ho2⟩
 ·go_wp2_with fail
  refine (l1Below_any B 20 w1 hc1 (by omega) (by omega)).mono ?_
  rintro r w2 ⟨x, rfl, hx0, hx1, hc2, ho2⟩
  go_wp2
  go_ret
  exact ⟨_, rfl, hc2, ho1.trans ho2⟩
set_option maxRecDepth 100000 in
set_option maxHeartbeats 4000000 in
theorem l10Bent_any (B : Nat) (w : World) (hc : Cur w B) : Calls Tryz.prog 80 #[.pointer (some ⟨B, 0, none⟩)] w (DrawnE B w) := by
 have hB := hc.lt
 have hu0 := Up.refl hc
 go_enter Tryz.func80, Tryz.ntmps80
 go_wp2_with fail
 refine (l10Right_any B _ (Up.cur (upx hu0))).mono ?_
 rintro r w1 ⟨⟨k, f, b, l, t, c, a⟩, rfl, ht, hc1, ho1⟩
 have hu1 : Up B w w1 := Up.step (upx hu0) hc1 ho1
 have hz1 := ho1.size
 try simp only [World.size_alloc, World.size_setCell, World.size_drew, size_setRow] at hz1
 have hR_ : w1.heap[w.heap.size]? = some (.cells #[.int .i64 0, .int .i64 0, .int .u64 0, .int .i64 0, .string ⟨#[]⟩, .int .i64 0, .int .i64 0] 38 (0, 0)) := (ho1.block (b := w.heap.size) (by first | omega | (simp; done) | (simp; omega)) (by omega)).trans (by first | exact hsx HR.out | exact hsn)
 try clear HR kR fR hBR
 have kR := box_cells hR_; have fR := box_frozen hR_; have hBR := box_lt hR_; have HR := Lib.hid hR_; clear hR_
 clear hc1 ho1
 simp only at ht
 go_wp2_with fail
 refine (l1Below_any B 14 _ (Up.cur (upx hu1)) (by omega) (by omega)).mono ?_
 rintro r w2 ⟨x, rfl, hx0, hx1, hc2, ho2⟩
 have hu2 : Up B w w2 := Up.step (upx hu1) hc2 ho2
 have hz2 := ho2.size
 try simp only [World.size_alloc, World.size_setCell, World.size_drew, size_setRow] at hz2
 have hR_ : w2.heap[w.heap.size]? = some (.cells #[.int .i64 0, .int .i64 0, .int .u64 0, .int .i64 0, .string ⟨#[]⟩, .int .i64 0, .int .i64 0] 38 (0, 0)) := (ho2.block (b := w.heap.size) (by first | omega | (simp; done) | (simp; omega)) (by omega)).trans (by first | exact hsx HR.out | exact hsn)
 try clear HR kR fR hBR
 have kR := box_cells hR_; have fR := box_frozen hR_; have hBR := box_lt hR_; have HR := Lib.hid hR_; clear hR_
 have hE_ : w2.heap[w1.heap.size]? = some (.cells #[.int .i64 k, .int .i64 f, .int .u64 b, .int .i64 l, .string t, .int .i64 c, .int .i64 a] 38 (0, 0)) := (ho2.block (b := w1.heap.size) (by first | omega | (simp; done) | (simp; omega)) (by omega)).trans (by first | exact hsx HE.out | exact hsn)
 try clear HE kE fE hBE
 have kE := box_cells hE_; have fE := box_frozen hE_; have hBE := box_lt hE_; have HE := Lib.hid hE_; clear hE_
 clear hc2 ho2
 rcases (show x = 0 ∨ x = 1 ∨ x = 2 ∨ x = 3 ∨ x = 4 ∨ x = 5 ∨ x = 6 ∨ 7 ≤ x by omega) with rfl | rfl | rfl | rfl | rfl | rfl | rfl | h7
 ·skip
  go_wp2_with fail
  refine (l1Below_any B 13 _ (Up.cur (upx hu2)) (by omega) (by omega)).mono ?_
  rintro r w3 ⟨y, rfl, hy0, hy1, hc3, ho3⟩
  have hu3 : Up B w w3 := Up.step (upx hu2) hc3 ho3
  have hz3 := ho3.size
  try simp only [World.size_alloc, World.size_setCell, World.size_drew, size_setRow] at hz3
  have hR_ : w3.heap[w.heap.size]? = some (.cells #[.int .i64 0, .int .i64 0, .int .u64 0, .int .i64 0, .string ⟨#[]⟩, .int .i64 0, .int .i64 0] 38 (0, 0)) := (ho3.block (b := w.heap.size) (by first | omega | (simp; done) | (simp; omega)) (by omega)).trans (by first | exact hsx HR.out | exact hsn)
  try clear HR kR fR hBR
  have kR := box_cells hR_; have fR := box_frozen hR_; have hBR := box_lt hR_; have HR := Lib.hid hR_; clear hR_
  have hE_ : w3.heap[w1.heap.size]? = some (.cells #[.int .i64 k, .int .i64 f, .int .u64 b, .int .i64 l, .string t, .int .i64 c, .int .i64 a] 38 (0, 0)) := (ho3.block (b := w1.heap.size) (by first | omega | (simp; done) | (simp; omega)) (by omega)).trans (by first | exact hsx HE.out | exact hsn)
  try clear HE kE fE hBE
  have kE := box_cells hE_; have fE := box_frozen hE_; have hBE := box_lt hE_; have HE := Lib.hid hE_; clear hE_
  clear hc3 ho3
  go_wp2
  exact fin_ev Tryz.results80 ⟨y - 1, f, b, l, t, c, a⟩ rfl rfl (by first | exact hsx HR.out | exact hsn) ht (upx hu3)
 ·skip
  go_wp2_with fail
  refine (l4Number_any B _ (Up.cur (upx hu2))).mono ?_
  rintro r w3 ⟨y, rfl, hc3, ho3⟩
  have hu3 : Up B w w3 := Up.step (upx hu2) hc3 ho3
  have hz3 := ho3.size
  try simp only [World.size_alloc, World.size_setCell, World.size_drew, size_setRow] at hz3
  have hR_ : w3.heap[w.heap.size]? = some (.cells #[.int .i64 0, .int .i64 0, .int .u64 0, .int .i64 0, .string ⟨#[]⟩, .int .i64 0, .int .i64 0] 38 (0, 0)) := (ho3.block (b := w.heap.size) (by first | omega | (simp; done) | (simp; omega)) (by omega)).trans (by first | exact hsx HR.out | exact hsn)
  try clear HR kR fR hBR
  have kR := box_cells hR_; have fR := box_frozen hR_; have hBR := box_lt hR_; have HR := Lib.hid hR_; clear hR_
  have hE_ : w3.heap[w1.heap.size]? = some (.cells #[.int .i64 k, .int .i64 f, .int .u64 b, .int .i64 l, .string t, .int .i64 c, .int .i64 a] 38 (0, 0)) := (ho3.block (b := w1.heap.size) (by first | omega | (simp; done) | (simp; omega)) (by omega)).trans (by first | exact hsx HE.out | exact hsn)
  try clear HE kE fE hBE
  have kE := box_cells hE_; have fE := box_frozen hE_; have hBE := box_lt hE_; have HE := Lib.hid hE_; clear hE_
  clear hc3 ho3
  go_wp2
  exact fin_ev Tryz.results80 ⟨k, y, b, l, t, c, a⟩ rfl rfl (by first | exact hsx HR.out | exact hsn) ht (upx hu3)
 ·skip
  go_wp2_with fail
  refine (l1Whole_any B _ (Up.cur (upx hu2))).mono ?_
  rintro r w3 ⟨y, rfl, hc3, ho3⟩
  have hu3 : Up B w w3 := Up.step (upx hu2) hc3 ho3
  have hz3 := ho3.size
  try simp only [World.size_alloc, World.size_setCell, World.size_drew, size_setRow] at hz3
  have hR_ : w3.heap[w.heap.size]? = some (.cells #[.int .i64 0, .int .i64 0, .int .u64 0, .int .i64 0, .string ⟨#[]⟩, .int .i64 0, .int .i64 0] 38 (0, 0)) := (ho3.block (b := w.heap.size) (by first | omega | (simp; done) | (simp; omega)) (by omega)).trans (by first | exact hsx HR.out | exact hsn)
  try clear HR kR fR hBR
  have kR := box_cells hR_; have fR := box_frozen hR_; have hBR := box_lt hR_; have HR := Lib.hid hR_; clear hR_
  have hE_ : w3.heap[w1.heap.size]? = some (.cells #[.int .i64 k, .int .i64 f, .int .u64 b, .int .i64 l, .string t, .int .i64 c, .int .i64 a] 38 (0, 0)) := (ho3.block (b := w1.heap.size) (by first | omega | (simp; done) | (simp; omega)) (by omega)).trans (by first | exact hsx HE.out | exact hsn)
  try clear HE kE fE hBE
  have kE := box_cells hE_; have fE := box_frozen hE_; have hBE := box_lt hE_; have HE := Lib.hid hE_; clear hE_
  clear hc3 ho3
  go_wp2
  exact fin_ev Tryz.results80 ⟨k, f, b, y, t, c, a⟩ rfl rfl (by first | exact hsx HR.out | exact hsn) ht (upx hu3)
 ·skip
  go_wp2_with fail
  refine (l1Pick_any B (w2.heap.size) 2 [⟨#[]⟩, ⟨#[120]⟩] _ _ (Up.cur (upx hu2)) (by omega) (by first | exact hsx HR.out | exact hsn) (by decide) (by decide)).mono ?_
  rintro r w3 ⟨y, rfl, hy, hc3, ho3⟩
  have hu3 : Up B w w3 := Up.step (upx hu2) hc3 ho3
  have hz3 := ho3.size
  try simp only [World.size_alloc, World.size_setCell, World.size_drew, size_setRow] at hz3
  have hR_ : w3.heap[w.heap.size]? = some (.cells #[.int .i64 0, .int .i64 0, .int .u64 0, .int .i64 0, .string ⟨#[]⟩, .int .i64 0, .int .i64 0] 38 (0, 0)) := (ho3.block (b := w.heap.size) (by first | omega | (simp; done) | (simp; omega)) (by omega)).trans (by first | exact hsx HR.out | exact hsn)
  try clear HR kR fR hBR
  have kR := box_cells hR_; have fR := box_frozen hR_; have hBR := box_lt hR_; have HR := Lib.hid hR_; clear hR_
  have hE_ : w3.heap[w1.heap.size]? = some (.cells #[.int .i64 k, .int .i64 f, .int .u64 b, .int .i64 l, .string t, .int .i64 c, .int .i64 a] 38 (0, 0)) := (ho3.block (b := w1.heap.size) (by first | omega | (simp; done) | (simp; omega)) (by omega)).trans (by first | exact hsx HE.out | exact hsn)
  try clear HE kE fE hBE
  have kE := box_cells hE_; have fE := box_frozen hE_; have hBE := box_lt hE_; have HE := Lib.hid hE_; clear hE_
  clear hc3 ho3
  have hys : y.size ≤ 6 := by simp only [List.mem_cons, List.not_mem_nil, or_false] at hy; rcases hy with rfl | rfl <;> decide
  go_wp2
  exact fin_ev Tryz.results80 ⟨k, f, b, l, y, c, a⟩ rfl rfl (by first | exact hsx HR.out | exact hsn) hys (upx hu3)
 ·skip
  go_wp2_with fail
  refine (l1PickInt_any B (w2.heap.size) 4 [0, -1, 11, 20] _ _ (Up.cur (upx hu2)) (by omega) (by first | exact hsx HR.out | exact hsn) (by decide) (by decide)).mono ?_
  rintro r w3 ⟨y, rfl, hc3, ho3⟩
  have hu3 : Up B w w3 := Up.step (upx hu2) hc3 ho3
  have hz3 := ho3.size
  try simp only [World.size_alloc, World.size_setCell, World.size_drew, size_setRow] at hz3
  have hR_ : w3.heap[w.heap.size]? = some (.cells #[.int .i64 0, .int .i64 0, .int .u64 0, .int .i64 0, .string ⟨#[]⟩, .int .i64 0, .int .i64 0] 38 (0, 0)) := (ho3.block (b := w.heap.size) (by first | omega | (simp; done) | (simp; omega)) (by omega)).trans (by first | exact hsx HR.out | exact hsn)
  try clear HR kR fR hBR
  have kR := box_cells hR_; have fR := box_frozen hR_; have hBR := box_lt hR_; have HR := Lib.hid hR_; clear hR_
  have hE_ : w3.heap[w1.heap.size]? = some (.cells #[.int .i64 k, .int .i64 f, .int .u64 b, .int .i64 l, .string t, .int .i64 c, .int .i64 a] 38 (0, 0)) := (ho3.block (b := w1.heap.size) (by first | omega | (simp; done) | (simp; omega)) (by omega)).trans (by first | exact hsx HE.out | exact hsn)
  try clear HE kE fE hBE
  have kE := box_cells hE_; have fE := box_frozen hE_; have hBE := box_lt hE_; have HE := Lib.hid hE_; clear hE_
  clear hc3 ho3
  go_wp2
  exact fin_ev Tryz.results80 ⟨k, f, b, l, t, y, a⟩ rfl rfl (by first | exact hsx HR.out | exact hsn) ht (upx hu3)
 ·skip
  go_wp2_with fail
  refine (l1Whole_any B _ (Up.cur (upx hu2))).mono ?_
  rintro r w3 ⟨y, rfl, hc3, ho3⟩
  have hu3 : Up B w w3 := Up.step (upx hu2) hc3 ho3
  have hz3 := ho3.size
  try simp only [World.size_alloc, World.size_setCell, World.size_drew, size_setRow] at hz3
  have hR_ : w3.heap[w.heap.size]? = some (.cells #[.int .i64 0, .int .i64 0, .int .u64 0, .int .i64 0, .string ⟨#[]⟩, .int .i64 0, .int .i64 0] 38 (0, 0)) := (ho3.block (b := w.heap.size) (by first | omega | (simp; done) | (simp; omega)) (by omega)).trans (by first | exact hsx HR.out | exact hsn)
  try clear HR kR fR hBR
  have kR := box_cells hR_; have fR := box_frozen hR_; have hBR := box_lt hR_; have HR := Lib.hid hR_; clear hR_
  have hE_ : w3.heap[w1.heap.size]? = some (.cells #[.int .i64 k, .int .i64 f, .int .u64 b, .int .i64 l, .string t, .int .i64 c, .int .i64 a] 38 (0, 0)) := (ho3.block (b := w1.heap.size) (by first | omega | (simp; done) | (simp; omega)) (by omega)).trans (by first | exact hsx HE.out | exact hsn)
  try clear HE kE fE hBE
  have kE := box_cells hE_; have fE := box_frozen hE_; have hBE := box_lt hE_; have HE := Lib.hid hE_; clear hE_
  clear hc3 ho3
  go_wp2
  exact fin_ev Tryz.results80 ⟨k, f, b, l, t, c, y⟩ rfl rfl (by first | exact hsx HR.out | exact hsn) ht (upx hu3)
 ·skip
  go_wp2_with fail
  refine (l1Wide_any B _ (Up.cur (upx hu2))).mono ?_
  rintro r w3 ⟨y, rfl, _, hc3, ho3⟩
  have hu3 : Up B w w3 := Up.step (upx hu2) hc3 ho3
  have hz3 := ho3.size
  try simp only [World.size_alloc, World.size_setCell, World.size_drew, size_setRow] at hz3
  have hR_ : w3.heap[w.heap.size]? = some (.cells #[.int .i64 0, .int .i64 0, .int .u64 0, .int .i64 0, .string ⟨#[]⟩, .int .i64 0, .int .i64 0] 38 (0, 0)) := (ho3.block (b := w.heap.size) (by first | omega | (simp; done) | (simp; omega)) (by omega)).trans (by first | exact hsx HR.out | exact hsn)
  try clear HR kR fR hBR
  have kR := box_cells hR_; have fR := box_frozen hR_; have hBR := box_lt hR_; have HR := Lib.hid hR_; clear hR_
  have hE_ : w3.heap[w1.heap.size]? = some (.cells #[.int .i64 k, .int .i64 f, .int .u64 b, .int .i64 l, .string t, .int .i64 c, .int .i64 a] 38 (0, 0)) := (ho3.block (b := w1.heap.size) (by first | omega | (simp; done) | (simp; omega)) (by omega)).trans (by first | exact hsx HE.out | exact hsn)
  try clear HE kE fE hBE
  have kE := box_cells hE_; have fE := box_frozen hE_; have hBE := box_lt hE_; have HE := Lib.hid hE_; clear hE_
  clear hc3 ho3
  go_wp2
  exact fin_ev Tryz.results80 ⟨k, f, y, l, t, c, a⟩ rfl rfl (by first | exact hsx HR.out | exact hsn) ht (upx hu3)
 ·have g0 : ¬ x = 0 := by omega
  have g1 : ¬ x = 1 := by omega
  have g2 : ¬ x = 2 := by omega
  have g3 : ¬ x = 3 := by omega
  have g4 : ¬ x = 4 := by omega
  have g5 : ¬ x = 5 := by omega
  have g6 : ¬ x = 6 := by omega
  go_wp2
  exact fin_ev Tryz.results80 ⟨k, f, b, l, t, c, a⟩ rfl rfl (by first | exact hsx HR.out | exact hsn) ht (upx hu2)
end Go.Proofs.YtabdjimjelfbfaaGreat
