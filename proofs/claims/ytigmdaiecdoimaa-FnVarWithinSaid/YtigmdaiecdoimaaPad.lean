/- Varints written longer than they need be: draws of strings. -/
import Derived.Test.YtigmdaiecdoimaaByt
import Derived.Test.YtigmdaiecdoimaaDrawR
namespace Go.Proofs.Ytigmdaiecdoimaa
set_option linter.unusedSimpArgs false
set_option linter.unusedVariables false
open Go.ChangeShapes Go.WideShapes Go.ChangeAt Go.RowKit Go.BigFrame

/-- One byte more behind a row that a conversion made. -/
theorem run_append_TB {P : Program} (w : World) (base : Nat) (t ty e : TypeId) (i : TypeInfo) (ht : P.underlying t = some (.slice e)) (hi : P.info? e = some i) (hz : i.zero = some (.int .u8 0))
    (hsize : i.size = 1) (hby : i.bytes = 1) (v : Value) (n : Nat) (xs : List Value) (hown : OwnT w base e v n xs) (ad : Addr) (c : Nat) (x : Int) (hnew : w.cell? ad = some (.int .u8 x))
    (h63 : n + 1 ≤ 1000) (hbase : base ≤ w.heap.size) :
    ∃ v' w', (Builtin.append_ #[t, t] ty #[v, .slice (some ad) 1 c]).run P w = .ok v' w' ∧ OwnT w' base e v' (n + 1) (xs ++ [.int .u8 x]) ∧ w.grownBy w' v.ownBlock ∧ (v'.ownBlock = v.ownBlock ∨ v'.ownBlock = some w.heap.size) := by
  obtain ⟨hxl, g, cap, cur, fz, rfl, hbg, hg, hfz, hnc, hcm, hcs, htake⟩ := hown
  have hlen : (xs ++ [Value.int .u8 x]).length = n + 1 := by simp [hxl]
  have hadd0 : ad.add 0 = ad := by obtain ⟨b, o, k⟩ := ad; simp [Addr.add]
  have hnews : ∀ (j : Nat) (u : Value), ([Value.int .u8 x] : List Value)[j]? = some u → w.cell? (ad.add j) = some u := by
    intro j u hu
    cases j with
    | zero => simp at hu; subst hu; rw [hadd0]; exact hnew
    | succ j => simp at hu
  by_cases hroom : n + 1 ≤ cap
  · have hf := run_firstCells_some (P := P) w i.size 1 ad 1 c [Value.int .u8 x] (by simp [hsize]) hnews
    have hst := store_atT P g n e fz [Value.int .u8 x] 0 cur w hg (by rw [hcs]; exact hfz) (by simp; omega) (by intro u hu; simp at hu; subst hu; rfl)
    simp only [Nat.add_zero, List.length_cons, List.length_nil, Nat.zero_add] at hst
    rw [hsize] at hf
    have hr : (Builtin.append_ #[t, t] ty #[.slice (some ⟨g, 0, none⟩) n cap, .slice (some ad) 1 c]).run P w = .ok (.slice (some ⟨g, 0, none⟩) (n + 1) cap) (w.setRow g (cur.toList.take n ++ [Value.int .u8 x] ++ cur.toList.drop (n + 1)).toArray) := by
      simp [Builtin.append_, run_underlying ht, sizeOf, typeInfo, hi, hsize, Builtin.lenOf, hroom, hf, Addr.add_lit, hst]
    refine ⟨_, _, hr, ⟨hlen, g, cap, _, fz, rfl, hbg, setRow_heap w g cur _ e _ hg, hfz, hroom, hcm, ?_, ?_⟩, ⟨rfl, rfl, rfl, by simp, fun k _ hk => setRow_other w g k _ (fun e => hk (by simp [Value.ownBlock, e]))⟩, .inl rfl⟩
    · simp only [List.size_toArray, List.length_append, List.length_take, List.length_drop, Array.length_toList, List.length_cons, List.length_nil]
      omega
    · rw [htake, ← hlen]
      exact List.take_left
  · have holds : ∀ j u, xs[j]? = some u → w.cell? ((⟨g, 0, none⟩ : Addr).add j) = some u := fun j u hu => by
      rw [Addr.add_lit, Nat.zero_add]
      exact OwnT.cell ⟨hxl, g, cap, cur, fz, rfl, hbg, hg, hfz, hnc, hcm, hcs, htake⟩ rfl j u hu
    have hr := run_append_grow (P := P) w t ty e i (.int .u8 0) ht hi hz ⟨g, 0, none⟩ n cap xs (by rw [hsize]; simpa using hxl) holds ad 1 c [Value.int .u8 x] (by rw [hsize]; rfl) hnews (by omega) (by omega) (by rw [hby]; exact growslice_fits (by omega) (by omega))
    have hge := grownCap_ge w (n + 1) cap e
    have hcm2 : grownCap w (n + 1) cap e ≤ maxLen := grownCap_le_maxLen w (n + 1) cap e (by unfold maxLen; omega)
    refine ⟨_, _, hr, ⟨hlen, w.heap.size, _, _, (0, 0), rfl, hbase, heap_alloc_new w.drew _, fun j _ h => by simp at h, hge, hcm2, ?_, ?_⟩, ⟨rfl, rfl, rfl, by simp, fun k hk _ => Below.heap_alloc w.drew _ k hk⟩, .inr rfl⟩
    · have hz1 : (Value.int IntKind.u8 0).cells.size = 1 := rfl
      simp only [Array.size_append, List.size_toArray, size_zeroCells, hz1, hxl, List.length_cons, List.length_nil]
      omega
    · simp only [Array.toList_append, List.append_assoc]
      rw [← List.append_assoc, ← hlen]
      exact List.take_left
theorem wpList_append_TB {P : Program} (w : World) {ops : Array Oper} {rest : List Oper} {o : Oper} {a : Act} {Q : Exit → Act → World → Prop} (hgd : o.guard = none) (sl x : Operand) (t : TypeId)
    (ho : o.op = .call { callee := .builtin .append, args := #[sl, x], argTypes := #[t, t] })
    (base : Nat) (e : TypeId) (i : TypeInfo) (ht : P.underlying t = some (.slice e)) (hi : P.info? e = some i) (hz : i.zero = some (.int .u8 0)) (hsize : i.size = 1) (hby : i.bytes = 1)
    (v : Value) (n : Nat) (xs : List Value) (hs : a.eval sl = v) (hown : OwnT w base e v n xs) (ad : Addr) (c : Nat) (y : Int) (hx : a.eval x = .slice (some ad) 1 c) (hnew : w.cell? ad = some (.int .u8 y))
    (h63 : n + 1 ≤ 1000) (hbase : base ≤ w.heap.size)
    (h : ∀ v' w', OwnT w' base e v' (n + 1) (xs ++ [.int .u8 y]) → w.grownBy w' v.ownBlock → (v'.ownBlock = v.ownBlock ∨ v'.ownBlock = some w.heap.size) → wpList P ops Q rest (a.put o.dst v') w') : wpList P ops Q (o :: rest) a w := by
  refine wpList_plain hgd fun K hK => ?_
  obtain ⟨v', w', hr, h2, h3, h4⟩ := run_append_TB (P := P) w base t o.type e i ht hi hz hsize hby v n xs hown ad c y hnew h63 hbase
  unfold Oper.wp execOp
  simp only [ho, resolve, invoke, builtin, Sem.run_bind, Sem.run_pure, Result.andThen_ok, List.map_toArray, List.map_cons, List.map_nil, hs, hx, hr]
  exact hK _ _ (h v' w' h2 h3 h4)
theorem OwnT.free {w : World} {base n g cap : Nat} {e : TypeId} {xs : List Value} (h : OwnT w base e (.slice (some ⟨g, 0, none⟩) n cap) n xs) {j : Nat} (hj : j < n) : w.frozen? ⟨g, j, none⟩ = false := by
  obtain ⟨_, g', cap', cur, fz, hv, _, hg, hfz, hnc, _⟩ := h
  simp only [Value.slice.injEq, Option.some.injEq, Addr.mk.injEq, and_true] at hv
  obtain ⟨rfl, _, rfl⟩ := hv
  have h2 := hfz j (by omega)
  obtain ⟨lo, hi'⟩ := fz
  simp only [World.frozen?, hg, Bool.and_eq_false_iff, decide_eq_false_iff_not]
  simp only at h2
  omega
theorem OwnT.put {w : World} {base n g cap : Nat} {e : TypeId} {xs : List Value} (h : OwnT w base e (.slice (some ⟨g, 0, none⟩) n cap) n xs) {j : Nat} (hj : j < n) (u : Value) : OwnT (w.setCell ⟨g, j, none⟩ u) base e (.slice (some ⟨g, 0, none⟩) n cap) n (xs.set j u) := by
  obtain ⟨hxl, g', cap', cur, fz, hv, hb, hg, hfz, hnc, hcm, hcs, ht⟩ := h
  simp only [Value.slice.injEq, Option.some.injEq, Addr.mk.injEq, and_true] at hv
  obtain ⟨rfl, _, rfl⟩ := hv
  refine ⟨by simpa using hxl, g, cap, cur.setIfInBounds j u, fz, rfl, hb, ?_, hfz, hnc, hcm, by simpa using hcs, ?_⟩
  · rw [setCell_eq_setRow w g j cur e fz u hg]; exact setRow_heap w g cur _ e _ hg
  · rw [Array.toList_setIfInBounds, List.take_set, ht]
theorem OwnT.keepB {w w' : World} {base n : Nat} {e : TypeId} {v : Value} {xs : List Value} (h : OwnT w base e v n xs) (hb : Below w.heap.size w w') : OwnT w' base e v n xs := h.same fun g hg => by
  obtain ⟨g', cap, rfl, _, hl⟩ := h.lt
  simp [Value.ownBlock] at hg
  subst hg
  exact hb.block _ hl
theorem OwnT.leP {w : World} {base b' n : Nat} {e : TypeId} {v : Value} {xs : List Value} (h : OwnT w base e v n xs) (hb : b' ≤ base) : OwnT w b' e v n xs := by
  obtain ⟨hl, g, cap, cur, fz, hv, hg, r⟩ := h
  exact ⟨hl, g, cap, cur, fz, hv, Nat.le_trans hb hg, r⟩
/-- All are bytes. -/
def AllBy (xs : List Value) : Prop := ∀ u ∈ xs, ∃ x : Nat, x < 256 ∧ u = .int .u8 (x : Int)
theorem allBy_bv (l : List UInt8) : AllBy (bv l) := fun u hu => by
  simp only [bv, List.mem_map] at hu
  obtain ⟨b, _, rfl⟩ := hu
  exact ⟨b.toNat, UInt8.toNat_lt b, rfl⟩
theorem AllBy.bytes : ∀ {xs : List Value}, AllBy xs → ∃ l : List UInt8, xs = bv l
  | [], _ => ⟨[], rfl⟩
  | u :: xs, h => by
    obtain ⟨x, hx, rfl⟩ := h u (by simp)
    obtain ⟨l, rfl⟩ := AllBy.bytes (xs := xs) fun v hv => h v (by simp [hv])
    exact ⟨UInt8.ofNat x :: l, by simp [bv, Nat.mod_eq_of_lt hx]⟩
theorem AllBy.set {xs : List Value} (h : AllBy xs) (j : Nat) {x : Nat} (hx : x < 256) : AllBy (xs.set j (.int .u8 (x : Int))) := fun u hu => by
  rcases List.mem_or_eq_of_mem_set hu with h1 | h1
  · exact h u h1
  · exact ⟨x, hx, h1⟩
theorem AllBy.snoc {xs : List Value} (h : AllBy xs) : AllBy (xs ++ [.int .u8 0]) := fun u hu => by
  rcases List.mem_append.1 hu with h1 | h1
  · exact h u h1
  · simp at h1; exact ⟨0, by omega, by rw [h1]; rfl⟩
def lenV : Value → Nat
  | .slice _ n _ => n
  | _ => 0
theorem below_grownP {B : Nat} {w0 w w' : World} {row : Option Nat} (hb : Below B w0 w) (hg : w.grownBy w' row) (hr : ∀ g, row = some g → B ≤ g) (hB : B ≤ w.heap.size) : Below B w0 w' :=
  hb.trans ⟨hg.os, hg.tape, hg.output, hg.size, fun k hk => hg.block k (by omega) (fun e => by have := hr k e.symm; omega)⟩
/-- A short string. -/
def StrLe (m : Nat) (w : World) (r : Ending) (w' : World) : Prop := ∃ s : ByteArray, r = .returned (.string s) ∧ s.size ≤ m ∧ Below w.heap.size w w'
set_option maxRecDepth 100000 in
set_option maxHeartbeats 2000000 in
theorem padVar_any (n : Nat) (m : Int) (w : World) (hn : n < 2 ^ 64) : Calls Try.prog 171 #[.int .u64 n, .int .i64 m] w (StrLe 10 w) := by
  obtain ⟨i0, hi, hz0, hz1, hz2⟩ := info_parts info_u8
  go_enter Try.func171, Try.ntmps171
  go_wp2_with fail
  refine (specPutVar_any n w hn).mono ?_
  rintro r w1 ⟨⟨k, hk, rfl⟩, hb1⟩
  have hk9 := len_le hn hk.below
  obtain ⟨s, hs⟩ : ∃ s : ByteArray, s = ⟨(putB n k).toArray⟩ := ⟨_, rfl⟩
  have hsz : s.size = k + 1 := by rw [hs]; simp [ByteArray.size, putB, hiB_len]
  rw [← hs]
  have hs1 : 1 ≤ s.size := by omega
  have hs2 : s.size ≤ 10 := by omega
  clear hs hk hsz hk9
  have hzb := hb1.size
  have hconv := fun W => run_bytes_of_string (P := Try.prog) W 9 22 5 s Try.underlying9 Try.underlying22 Try.underlying5
  go_wp2_with fail
  refine (l1In_any _ _ _ _).mono ?_
  rintro r _ ⟨rfl, rfl⟩
  clear hconv
  cases h1 : inB m (s.size : Int) 10
  · go_wp2
    go_ret
    exact ⟨⟨#[]⟩, rfl, by simp [ByteArray.size], by ((repeat (first | (with_reducible exact Below.refl _ _) | (with_reducible assumption) | (with_reducible refine Below.alloc ?_ ?_ _) | (with_reducible refine Below.setCell ?_ ?_ _) | (with_reducible refine Below.drew ?_) | (with_reducible refine below_setRow ?_ ?_ _) | (refine Below.trans ?_ (Below.mono (by assumption) ?_)))); all_goals (first | omega | (simp; done) | (simp; omega)))⟩
  · have hm : (s.size : Int) ≤ m ∧ m ≤ 10 := by simpa [inB] using h1
    obtain ⟨m, rfl⟩ := Int.eq_ofNat_of_zero_le (a := m) (by omega)
    have hT : OwnT (w1.alloc (.cells (bytesRow s (grownCap w1 s.size 0 5)) 5 ((bytesRow s (grownCap w1 s.size 0 5)).size, (bytesRow s (grownCap w1 s.size 0 5)).size + 1))).drew w.heap.size 5 (.slice (some ⟨w1.heap.size, 0, none⟩) s.size (grownCap w1 s.size 0 5)) s.size (bv s.data.toList) :=
      OwnT.same (OwnT.leP (ownT_made w1 5 s (by unfold maxLen; omega)) (by have := hb1.size; omega)) (fun g hg => rfl)
    go_wp2_with fail
    go_loopw [5] (fun v wr => ∃ (k : Nat) (xs : List Value) (g cap : Nat), v = .slice (some ⟨g, 0, none⟩) k cap ∧ 1 ≤ k ∧ k ≤ 10 ∧ AllBy xs ∧ OwnT wr w.heap.size 5 (.slice (some ⟨g, 0, none⟩) k cap) k xs ∧ Below w.heap.size w wr) (fun v _ => 10 - lenV v)
    case atStart => exact ⟨s.size, _, _, _, rfl, by omega, by omega, allBy_bv _, hT, by ((repeat (first | (with_reducible exact Below.refl _ _) | (with_reducible assumption) | (with_reducible refine Below.alloc ?_ ?_ _) | (with_reducible refine Below.setCell ?_ ?_ _) | (with_reducible refine Below.drew ?_) | (with_reducible refine below_setRow ?_ ?_ _) | (refine Below.trans ?_ (Below.mono (by assumption) ?_)))); all_goals (first | omega | (simp; done) | (simp; omega)))⟩
    case round =>
      clear hT
      obtain ⟨q, xs, g, cap, rfl, hq1, hq2, hB, ho, hb⟩ := hrel
      have HT := Lib.hid ho; clear ho
      have hgl : g < wr.heap.size := by obtain ⟨g', c', e, _, hl⟩ := HT.out.lt; simp only [Value.slice.injEq, Option.some.injEq, Addr.mk.injEq] at e; omega
      have hgb : w.heap.size ≤ g := by obtain ⟨g', c', e, hl, _⟩ := HT.out.lt; simp only [Value.slice.injEq, Option.some.injEq, Addr.mk.injEq] at e; omega
      have hxl : xs.length = q := HT.out.1
      by_cases hlt : q < m
      · obtain ⟨j, rfl⟩ : ∃ j, q = j + 1 := ⟨q - 1, by omega⟩
        obtain ⟨u, hu⟩ : ∃ u, xs[j]? = some u := ⟨_, List.getElem?_eq_getElem (by omega)⟩
        obtain ⟨x, hx, rfl⟩ := hB u (List.mem_of_getElem? hu)
        have hc := HT.out.cell rfl j _ hu
        have hf := HT.out.free (j := j) (by omega)
        have HB := Lib.hid hB; clear hB hu
        have hxe : ((x : Int) + 128) % 256 = (((x + 128) % 256 : Nat) : Int) := by omega
        have HXE := Lib.hid hxe; clear hxe
        go_wp2_with (first | (at_builtin; refine wpList_append_TB _ rfl _ _ 22 rfl w.heap.size 5 i0 Try.underlying22 hi hz0 hz1 hz2 _ (j + 1) (xs.set j (.int .u8 (((x : Int) + 128) % 256))) rfl ((HT.out.put (by omega) _).keepB (show Below (wr.setCell ⟨g, j, none⟩ (.int .u8 (((x : Int) + 128) % 256))).heap.size _ _ from (Below.refl _ _).alloc (Nat.le_refl _) _)) ⟨wr.heap.size, 0, none⟩ 1 0 rfl (box_cells (t := 5) (cs := #[.int .u8 0]) (hset_new (by simp)) 0) (by omega) (by simp; omega) ?_; intro v2 w2 hown2 hgr2 hat2; have hb2 : Below w.heap.size w w2 := below_grownP (show Below w.heap.size w _ from by ((repeat (first | (with_reducible exact Below.refl _ _) | (with_reducible assumption) | (with_reducible refine Below.alloc ?_ ?_ _) | (with_reducible refine Below.setCell ?_ ?_ _) | (with_reducible refine Below.drew ?_) | (with_reducible refine below_setRow ?_ ?_ _) | (refine Below.trans ?_ (Below.mono (by assumption) ?_)))); all_goals (first | omega | (simp; done) | (simp; omega)))) hgr2 (fun g' e => by have e' : g = g' := Option.some.inj e; omega) (by simp; omega); clear hgr2 hat2))
        obtain ⟨g2, cap2, rfl, _, _⟩ := hown2.lt
        go_roundw
        case rel => exact ⟨j + 1 + 1, _, g2, cap2, rfl, by omega, by omega, (by rw [HXE.out]; exact (HB.out.set j (by omega)).snoc), hown2, hb2⟩
        case measure => simp [lenV]; omega
      · obtain ⟨l, rfl⟩ := AllBy.bytes hB
        have hstr := own_stringT HT.out Try.underlying22 Try.underlying5 Try.underlying9
        go_wp2
        go_ret
        exact ⟨⟨l.toArray⟩, rfl, by simp [ByteArray.size]; simp [bv] at hxl; omega, hb⟩
end Go.Proofs.Ytigmdaiecdoimaa
