/- Both Shattered give the same list. -/
import Derived.Test.YtaoejdbkbnonpaaMerge
import Derived.ArgAppend
import Derived.Deep.RegionLaw
import Derived.Lib.AppendStr
import Derived.Lib.MinMax
import Derived.Maps.AppendAt
import Derived.Laws.AppendOwnNone
import Derived.Lib.LazyBuf
namespace Go.Proofs.Ytaoejdbkbnonpaa
set_option linter.unusedSimpArgs false
set_option linter.unusedVariables false
open Go.ChangeShapes Go.WideShapes Go.ChangeAt Go.RowKit Go.BigFrame

theorem not_at {v v1 : Value} {B s : Nat} (h : v1.ownBlock = v.ownBlock ∨ v1.ownBlock = some s) (hn : ∀ g, v.ownBlock = some g → g ≠ B) (hs : s ≠ B) : ∀ g, v1.ownBlock = some g → g ≠ B := by
  intro g hg
  rcases h with h | h
  · rw [h] at hg; exact hn g hg
  · rw [h] at hg; simp at hg; omega
def strV : Value → ByteArray
  | .string s => s
  | _ => ByteArray.empty
def cutAt (n : Int) (s : ByteArray) : Nat := (min n s.size).toNat
def pieces (n : Int) : Nat → ByteArray → List ByteArray
  | 0, _ => []
  | f + 1, s => if s.size = 0 then [] else s.extract 0 (cutAt n s) :: pieces n f (s.extract (cutAt n s) s.size)
theorem cutAt_le (n : Int) (s : ByteArray) : cutAt n s ≤ s.size := by unfold cutAt; omega
theorem rest_size (n : Int) (s : ByteArray) : (s.extract (cutAt n s) s.size).size = s.size - cutAt n s := by rw [ByteArray.size_extract]; omega
theorem pieces_fuel {n : Int} (hn : 1 ≤ n) : ∀ (f g : Nat) (s : ByteArray), s.size ≤ f → s.size ≤ g → pieces n f s = pieces n g s
  | 0, 0, _, _, _ => rfl
  | 0, g + 1, s, h, _ => by have h0 : s.size = 0 := Nat.le_zero.1 h; simp [pieces, h0]
  | f + 1, 0, s, _, h => by have h0 : s.size = 0 := Nat.le_zero.1 h; simp [pieces, h0]
  | f + 1, g + 1, s, h, h' => by
    simp only [pieces]
    by_cases h0 : s.size = 0
    · simp [h0]
    · rw [if_neg h0, if_neg h0]
      have hc : 1 ≤ cutAt n s := by unfold cutAt; omega
      have hr := rest_size n s
      rw [pieces_fuel hn f g _ (by omega) (by omega)]
theorem pieces_step {n : Int} (hn : 1 ≤ n) {s : ByteArray} (h0 : ¬ s.size = 0) : pieces n s.size s = s.extract 0 (cutAt n s) :: pieces n (s.extract (cutAt n s) s.size).size (s.extract (cutAt n s) s.size) := by
  have hc : 1 ≤ cutAt n s := by unfold cutAt; omega
  have hr := rest_size n s
  obtain ⟨f, hf⟩ : ∃ f, s.size = f + 1 := ⟨s.size - 1, by omega⟩
  rw [hf]
  simp only [pieces]
  rw [if_neg h0, pieces_fuel hn f _ _ (by omega) (Nat.le_refl _)]
  rw [hf]
theorem pieces_nil {n : Int} {s : ByteArray} (h0 : s.size = 0) : pieces n s.size s = [] := by rw [h0]; rfl
theorem pieces_len {n : Int} (hn : 1 ≤ n) : ∀ (f : Nat) (s : ByteArray), s.size ≤ f → (pieces n f s).length ≤ s.size
  | 0, s, h => by simp [pieces]
  | f + 1, s, h => by
    simp only [pieces]
    by_cases h0 : s.size = 0
    · simp [h0]
    · rw [if_neg h0]
      have hc : 1 ≤ cutAt n s := by unfold cutAt; omega
      have hr := rest_size n s
      have := pieces_len hn f (s.extract (cutAt n s) s.size) (by omega)
      simp only [List.length_cons]; omega
def shat (n : Int) (e : Ev) : List Ev := if e.kind = 4 then (pieces n e.text.size e.text).map (fun t => { e with text := t }) else [e]
def shattered (n : Int) (xs : List Ev) : List Ev := if n < 1 then xs else xs.flatMap (shat n)
def shats (n : Int) (xs : List Ev) : List Ev := xs.flatMap (shat n)
theorem shats_snoc {n : Int} {xs : List Ev} {k : Nat} {e : Ev} (he : xs[k]? = some e) : shats n (xs.take (k + 1)) = shats n (xs.take k) ++ shat n e := by
  rw [List.take_add_one, he]; simp [shats]
theorem shat_len {n : Int} (hn : 1 ≤ n) (e : Ev) : (shat n e).length ≤ 1 + e.text.size := by
  simp only [shat]
  split
  · have := pieces_len hn e.text.size e.text (Nat.le_refl _); simp; omega
  · simp
theorem shats_len {n : Int} (hn : 1 ≤ n) : ∀ xs : List Ev, (shats n xs).length ≤ xs.length + textSum xs
  | [] => by simp [shats]
  | e :: xs => by
    have h1 := shats_len hn xs
    have h2 := shat_len hn e
    have h3 : textSum (e :: xs) = e.text.size + textSum xs := by simp [textSum]
    have h4 : shats n (e :: xs) = shat n e ++ shats n xs := by simp [shats]
    rw [h4, List.length_append, List.length_cons]; omega
theorem shats_take {n : Int} (xs : List Ev) (k : Nat) : (shats n (xs.take k)).length ≤ (shats n xs).length := by
  have h : shats n xs = shats n (xs.take k) ++ shats n (xs.drop k) := by simp only [shats, ← List.flatMap_append, List.take_append_drop]
  rw [h, List.length_append]; omega
theorem wp_append_at {P : Program} (w : World) {o : Oper} {a : Act} {K : Act → World → Prop} {Q : Exit → Act → World → Prop} (s x : Operand) (t : TypeId)
    (ho : o.op = .call { callee := .builtin .append, args := #[s, x], argTypes := #[t, t] })
    (base : Nat) (e : TypeId) (i : TypeInfo) (z : Value) (size bytes : Nat) (ht : P.underlying t = some (.slice e)) (hi : P.info? e = some i) (hz : i.zero = some z)
    (hsize : i.size = size) (hby : i.bytes = bytes) (hzs : z.cells.size = size) (hsz : 0 < size)
    (v : Value) (n : Nat) (xs : List Value) (hs : a.eval s = v) (hown : w.ownsRow base e size v n xs)
    (ad : Addr) (m c : Nat) (news : List Value) (hx : a.eval x = .slice (some ad) m c) (hl : news.length = m * size) (hnews : ∀ j u, news[j]? = some u → w.cell? (ad.add j) = some u) (h1 : ∀ u ∈ news, u.oneCell' = true)
    (h63 : n + m ≤ maxLen) (hbytes : (n + m) * bytes ≤ 140737488355328) (hbase : base ≤ w.heap.size)
    (h : ∀ v' w', w'.ownsRow base e size v' (n + m) (xs ++ news) → w.grownBy w' v.ownBlock → (v' = .slice none 0 0 ↔ v = .slice none 0 0 ∧ m = 0) → (v'.ownBlock = v.ownBlock ∨ v'.ownBlock = some w.heap.size) → K (a.put o.dst v') w') : o.wp P a w K Q := by
  obtain ⟨v', w', hr, h2, h3, h4, h5⟩ := run_append_own_at (P := P) w base t o.type e i z size bytes ht hi hz hsize hby hzs hsz v n xs hown ad m c news hl hnews h1 h63 hbytes hbase
  unfold Oper.wp execOp
  simp only [ho, resolve, invoke, builtin, Sem.run_bind, Sem.run_pure, Result.andThen_ok, List.map_toArray, List.map_cons, List.map_nil, hs, hx, hr]
  exact h v' w' h2 h3 h4 h5
set_option maxRecDepth 100000 in
set_option maxHeartbeats 4000000 in
theorem specShattered_pos (a : Option Addr) (cap n : Nat) (xs : List Ev) (m : Int) (w : World) (h : Evs w a xs) (hx : xs.length = n) (hn : n ≤ 1048576) (hm : textSum xs ≤ 1048576) (hm1 : 1 ≤ m) (hm2 : m ≤ 9223372036854775807) :
    Calls Try.prog 17 #[.slice a n cap, .int .i64 m] w fun r w' => ∃ v, r = .returned v ∧ w'.ownsRow w.heap.size 78 7 v (shats m xs).length ((shats m xs).flatMap Ev.cs) ∧ Below w.heap.size w w' := by
  have HX := Lib.hid hx; clear hx
  have hsl := shats_len hm1 xs
  rw [HX.out] at hsl
  obtain ⟨i0, hi, hz0, hz1, hz2⟩ := info_parts info_Event
  go_enter Try.func17, Try.ntmps17
  go_wp2
  go_loopw [5, 6, 7, 8, 9, 10] (fun v i e7 s8 k9 p10 wr => ∃ (k : Nat) (acc : List Ev), k ≤ n ∧ i = .int .i64 k ∧ Hid (acc = shats m (xs.take k)) ∧ wr.ownsRow w.heap.size 78 7 v acc.length (acc.flatMap Ev.cs) ∧ Below w.heap.size w wr) (fun _ i _ _ _ _ _ => n - (intOf i).toNat)
  case atStart => exact ⟨0, [], Nat.zero_le _, rfl, Lib.hid rfl, ⟨by simp, .inr ⟨w.heap.size, 0, #[], rfl, Nat.le_refl _, heap_nth0 w _, Nat.le_refl _, Nat.zero_le _, rfl, rfl⟩⟩, by ((repeat (first | (with_reducible exact Below.refl _ _) | (with_reducible assumption) | (with_reducible refine Below.alloc ?_ ?_ _) | (with_reducible refine Below.setCell ?_ ?_ _) | (with_reducible refine Below.drew ?_) | (with_reducible refine below_setRow ?_ ?_ _) | (refine Below.trans ?_ (Below.mono (by assumption) ?_)))); all_goals (first | omega | (simp; done) | (simp; omega)))⟩
  case round =>
    obtain ⟨k, acc, hk, rfl, HA, ho, hb⟩ := hrel
    have hz := hb.size
    by_cases hlt : k < n
    · obtain ⟨e, he, _⟩ := at_lt (xs := xs) (k := k) (by rw [HX.out]; exact hlt)
      have HE := Lib.hid he
      have hlen : acc.length + (shat m e).length ≤ 2097152 := by
        have h1 := shats_take (n := m) xs (k + 1)
        rw [shats_snoc he, List.length_append, ← HA.out] at h1
        omega
      obtain ⟨b, off, rfl, hlb, c0, c1, c2, c3, c4, c5, c6⟩ := Evs.at (h.below hb (Nat.le_refl _)) he
      have htx : e.text.size ≤ 1048576 := by have h1 := textSum_take xs (k + 1); rw [textSum_snoc he] at h1; omega
      clear he
      obtain ⟨ek, ef, eb, el, et, ec, ea⟩ := e
      simp only at c0 c1 c2 c3 c4 c5 c6 htx
      have HO5 := Lib.hid ho; clear ho
      by_cases h4 : ek = 4
      · subst h4
        have hlen2 : acc.length + (pieces m et.size et).length ≤ 2097152 := by simpa [shat] using hlen
        clear hlen
        obtain ⟨Bk, hBk⟩ : ∃ Bk, wr.heap.size = Bk := ⟨_, rfl⟩
        go_wp2_with fail
        go_loopw [5, 8, 9, 10] (fun v s8 k9 p10 wq => ∃ (done : List Ev) (s : ByteArray), s8 = .string s ∧ s.size ≤ 1048576 ∧ Hid (done ++ (pieces m s.size s).map (fun t => (⟨4, ef, eb, el, t, ec, ea⟩ : Ev)) = acc ++ (pieces m et.size et).map (fun t => (⟨4, ef, eb, el, t, ec, ea⟩ : Ev))) ∧ wq.ownsRow w.heap.size 78 7 v done.length (done.flatMap Ev.cs) ∧ wq.heap[Bk]? = some (.cells (⟨4, ef, eb, el, et, ec, ea⟩ : Ev).cs.toArray 78 (0, 0)) ∧ (∀ g, v.ownBlock = some g → g ≠ Bk) ∧ Below w.heap.size w wq) (fun _ s8 _ _ _ => (strV s8).size)
        case atStart => exact ⟨acc, et, rfl, htx, Lib.hid rfl, World.ownsRow.alloc HO5.out _, by rw [← hBk]; exact heap_nth0 wr _, fun g hg => by have := (HO5.out.lt g hg).2; omega, by ((repeat (first | (with_reducible exact Below.refl _ _) | (with_reducible assumption) | (with_reducible refine Below.alloc ?_ ?_ _) | (with_reducible refine Below.setCell ?_ ?_ _) | (with_reducible refine Below.drew ?_) | (with_reducible refine below_setRow ?_ ?_ _) | (refine Below.trans ?_ (Below.mono (by assumption) ?_)))); all_goals (first | omega | (simp; done) | (simp; omega)))⟩
        case round =>
          obtain ⟨done, s, rfl, hss, HD, ho, hbx, hne, hbq⟩ := hrel
          have hbc := box_cells hbx
          have HBX := Lib.hid hbx; clear hbx
          have HN := Lib.hid hne; clear hne
          have HO6 := Lib.hid ho; clear ho
          have hzq := hbq.size
          have hwq := box_lt HBX.out
          by_cases h0 : s.size = 0
          · have HF := Lib.hid (show done = acc ++ (pieces m et.size et).map (fun t => (⟨4, ef, eb, el, t, ec, ea⟩ : Ev)) by have := HD.out; rw [pieces_nil h0] at this; simpa using this)
            go_wp2
            go_roundw
            case rel => exact ⟨k + 1, done, by omega, by go_num, Lib.hid (by rw [shats_snoc HE.out, ← HA.out, HF.out]; simp [shat]), HO6.out, hbq⟩
            case measure => simp [intOf]; omega
          · obtain ⟨c, hc⟩ : ∃ c, c = cutAt m s := ⟨_, rfl⟩
            have hcl : c ≤ s.size := by rw [hc]; exact cutAt_le m s
            have hc1 : 1 ≤ c := by rw [hc]; unfold cutAt; omega
            have hlen4 : done.length + 1 ≤ 2097152 := by
              have h1 := congrArg List.length HD.out
              rw [pieces_step hm1 h0] at h1
              simp at h1; omega
            have HC := Lib.hid hc; clear hc
            go_wp2_with (first
              | (go_at_call 69; refine (specMin_any m _ (c : Int) _ (by rw [HC.out]; unfold cutAt; omega)).mono ?_; rintro r w2 ⟨rfl, rfl⟩)
              | (at_builtin; refine wpList_append_own_at _ rfl _ _ 24 rfl w.heap.size 78 i0 _ 7 64 Try.underlying24 hi hz0 hz1 hz2 rfl (by decide) _ _ _ rfl (World.ownsRow.alloc (World.ownsRow.alloc HO6.out _) _) ⟨wr.heap.size + 1, 0, none⟩ 1 1 ((⟨4, ef, eb, el, s.extract 0 c, ec, ea⟩ : Ev)).cs rfl rfl (box_cs ((⟨4, ef, eb, el, s.extract 0 c, ec, ea⟩ : Ev)) _ _ _ (by simp)) (cs_one ((⟨4, ef, eb, el, s.extract 0 c, ec, ea⟩ : Ev))) (by unfold maxLen; omega) (by omega) (by simp; omega) ?_; intro v1 w1 hown1 hgrow1 hnn1 hat1; have hb1 : Below w.heap.size w w1 := Below.grown (by ((repeat (first | (with_reducible exact Below.refl _ _) | (with_reducible assumption) | (with_reducible refine Below.alloc ?_ ?_ _) | (with_reducible refine Below.setCell ?_ ?_ _) | (with_reducible refine Below.drew ?_) | (with_reducible refine below_setRow ?_ ?_ _) | (refine Below.trans ?_ (Below.mono (by assumption) ?_)))); all_goals (first | omega | (simp; done) | (simp; omega)))) hgrow1 (by simp; omega) (fun g hg => (HO6.out.lt g hg).1); have HBX1 := Lib.hid ((hgrow1.block Bk (by simp; omega) (fun e => HN.out Bk e.symm rfl)).trans (hset_alloc (hset_alloc HBX.out))); have HN1 := Lib.hid (not_at hat1 HN.out (by simp; omega)); clear hgrow1 hnn1 hat1))
            go_roundw
            case rel => exact ⟨done ++ [(⟨4, ef, eb, el, s.extract 0 c, ec, ea⟩ : Ev)], s.extract c s.size, rfl, by rw [ByteArray.size_extract]; omega, Lib.hid (by rw [← HD.out, pieces_step hm1 h0, ← HC.out]; simp), by rw [List.length_append, ev_snoc]; exact hown1, HBX1.out, HN1.out, hb1⟩
            case measure => simp only [strV, ByteArray.size_extract]; omega
      · have hl5 : (ek == 4) = false := by simp [h4]
        have HL := Lib.hid (show shat m (⟨ek, ef, eb, el, et, ec, ea⟩ : Ev) = [(⟨ek, ef, eb, el, et, ec, ea⟩ : Ev)] by simp [shat, h4]); clear h4
        have hlen3 : acc.length + 1 ≤ 2097152 := by rw [HL.out] at hlen; exact hlen
        clear hlen
        go_wp2_with (first | (at_builtin; refine wpList_append_own _ rfl _ _ 24 rfl w.heap.size 78 i0 _ 7 64 Try.underlying24 hi hz0 hz1 hz2 rfl (by decide) _ _ _ rfl (World.ownsRow.alloc (World.ownsRow.alloc HO5.out _) _) ⟨wr.heap.size + 1, 0, none⟩ 1 1 ((⟨ek, ef, eb, el, et, ec, ea⟩ : Ev)).cs rfl rfl (box_cs ((⟨ek, ef, eb, el, et, ec, ea⟩ : Ev)) _ _ _ (by simp)) (cs_one ((⟨ek, ef, eb, el, et, ec, ea⟩ : Ev))) (by unfold maxLen; omega) (by omega) (by simp; omega) ?_; intro v1 w1 hown1 hgrow1 hnn1; have hb1 : Below w.heap.size w w1 := Below.grown (by ((repeat (first | (with_reducible exact Below.refl _ _) | (with_reducible assumption) | (with_reducible refine Below.alloc ?_ ?_ _) | (with_reducible refine Below.setCell ?_ ?_ _) | (with_reducible refine Below.drew ?_) | (with_reducible refine below_setRow ?_ ?_ _) | (refine Below.trans ?_ (Below.mono (by assumption) ?_)))); all_goals (first | omega | (simp; done) | (simp; omega)))) hgrow1 (by simp; omega) (fun g hg => (HO5.out.lt g hg).1); clear hgrow1 hnn1))
        go_roundw
        case rel => exact ⟨k + 1, acc ++ [(⟨ek, ef, eb, el, et, ec, ea⟩ : Ev)], by omega, by go_num, Lib.hid (by rw [shats_snoc HE.out, ← HA.out, HL.out]), by rw [List.length_append, ev_snoc]; exact hown1, hb1⟩
        case measure => simp [intOf]; omega
    · obtain ⟨a5, cap5, rfl, _⟩ := owned_shape ho
      have HO5 := Lib.hid ho; clear ho
      have HF := Lib.hid (show acc = shats m xs by rw [HA.out, List.take_of_length_le (by rw [HX.out]; omega)])
      go_wp2
      go_ret
      exact ⟨_, rfl, by rw [← HF.out]; exact HO5.out, hb⟩
set_option maxRecDepth 100000 in
set_option maxHeartbeats 4000000 in
theorem implShattered_pos (a : Option Addr) (cap n : Nat) (xs : List Ev) (m : Int) (w : World) (h : Evs w a xs) (hx : xs.length = n) (hn : n ≤ 1048576) (hm : textSum xs ≤ 1048576) (hm1 : 1 ≤ m) (hm2 : m ≤ 9223372036854775807) :
    Calls Try.prog 16 #[.slice a n cap, .int .i64 m] w fun r w' => ∃ v, r = .returned v ∧ w'.ownsRow w.heap.size 78 7 v (shats m xs).length ((shats m xs).flatMap Ev.cs) ∧ Below w.heap.size w w' := by
  have HX := Lib.hid hx; clear hx
  have hsl := shats_len hm1 xs
  rw [HX.out] at hsl
  obtain ⟨i0, hi, hz0, hz1, hz2⟩ := info_parts info_Event
  go_enter Try.func16, Try.ntmps16
  go_wp2
  go_loopw [5, 7, 8, 9, 17] (fun v e7 s8 k9 i wr => ∃ (k : Nat) (acc : List Ev), k ≤ n ∧ i = .int .i64 k ∧ Hid (acc = shats m (xs.take k)) ∧ wr.ownsRow w.heap.size 78 7 v acc.length (acc.flatMap Ev.cs) ∧ Below w.heap.size w wr) (fun _ _ _ _ i _ => n - (intOf i).toNat)
  case atStart => exact ⟨0, [], Nat.zero_le _, rfl, Lib.hid rfl, ⟨by simp, .inr ⟨w.heap.size, 0, #[], rfl, Nat.le_refl _, heap_nth0 w _, Nat.le_refl _, Nat.zero_le _, rfl, rfl⟩⟩, by ((repeat (first | (with_reducible exact Below.refl _ _) | (with_reducible assumption) | (with_reducible refine Below.alloc ?_ ?_ _) | (with_reducible refine Below.setCell ?_ ?_ _) | (with_reducible refine Below.drew ?_) | (with_reducible refine below_setRow ?_ ?_ _) | (refine Below.trans ?_ (Below.mono (by assumption) ?_)))); all_goals (first | omega | (simp; done) | (simp; omega)))⟩
  case round =>
    obtain ⟨k, acc, hk, rfl, HA, ho, hb⟩ := hrel
    have hz := hb.size
    by_cases hlt : k < n
    · obtain ⟨e, he, _⟩ := at_lt (xs := xs) (k := k) (by rw [HX.out]; exact hlt)
      have HE := Lib.hid he
      have hlen : acc.length + (shat m e).length ≤ 2097152 := by
        have h1 := shats_take (n := m) xs (k + 1)
        rw [shats_snoc he, List.length_append, ← HA.out] at h1
        omega
      obtain ⟨b, off, rfl, hlb, c0, c1, c2, c3, c4, c5, c6⟩ := Evs.at (h.below hb (Nat.le_refl _)) he
      have htx : e.text.size ≤ 1048576 := by have h1 := textSum_take xs (k + 1); rw [textSum_snoc he] at h1; omega
      clear he
      obtain ⟨ek, ef, eb, el, et, ec, ea⟩ := e
      simp only at c0 c1 c2 c3 c4 c5 c6 htx
      have HO5 := Lib.hid ho; clear ho
      by_cases h4 : ek = 4
      · subst h4
        have hlen2 : acc.length + (pieces m et.size et).length ≤ 2097152 := by simpa [shat] using hlen
        clear hlen
        obtain ⟨Bk, hBk⟩ : ∃ Bk, wr.heap.size = Bk := ⟨_, rfl⟩
        go_wp2_with fail
        go_loopw [5, 8, 9] (fun v s8 k9 wq => ∃ (done : List Ev) (s t0 : ByteArray), s8 = .string s ∧ s.size ≤ 1048576 ∧ Hid (done ++ (pieces m s.size s).map (fun t => (⟨4, ef, eb, el, t, ec, ea⟩ : Ev)) = acc ++ (pieces m et.size et).map (fun t => (⟨4, ef, eb, el, t, ec, ea⟩ : Ev))) ∧ wq.ownsRow w.heap.size 78 7 v done.length (done.flatMap Ev.cs) ∧ wq.heap[Bk]? = some (.cells (⟨4, ef, eb, el, t0, ec, ea⟩ : Ev).cs.toArray 78 (0, 0)) ∧ (∀ g, v.ownBlock = some g → g ≠ Bk) ∧ Below w.heap.size w wq) (fun _ s8 _ _ => (strV s8).size)
        case atStart => exact ⟨acc, et, et, rfl, htx, Lib.hid rfl, World.ownsRow.alloc HO5.out _, by rw [← hBk]; exact heap_nth0 wr _, fun g hg => by have := (HO5.out.lt g hg).2; omega, by ((repeat (first | (with_reducible exact Below.refl _ _) | (with_reducible assumption) | (with_reducible refine Below.alloc ?_ ?_ _) | (with_reducible refine Below.setCell ?_ ?_ _) | (with_reducible refine Below.drew ?_) | (with_reducible refine below_setRow ?_ ?_ _) | (refine Below.trans ?_ (Below.mono (by assumption) ?_)))); all_goals (first | omega | (simp; done) | (simp; omega)))⟩
        case round =>
          obtain ⟨done, s, t0, rfl, hss, HD, ho, hbx, hne, hbq⟩ := hrel
          have hbc := box_cells hbx
          have hbf := box_frozen hbx
          have HBX := Lib.hid hbx; clear hbx
          have HN := Lib.hid hne; clear hne
          have HO6 := Lib.hid ho; clear ho
          have hzq := hbq.size
          have hwq := box_lt HBX.out
          by_cases h0 : s.size = 0
          · have HF := Lib.hid (show done = acc ++ (pieces m et.size et).map (fun t => (⟨4, ef, eb, el, t, ec, ea⟩ : Ev)) by have := HD.out; rw [pieces_nil h0] at this; simpa using this)
            have he0 := (isEmpty_bytes s).1 h0
            go_wp2
            go_roundw
            case rel => exact ⟨k + 1, done, by omega, by go_num, Lib.hid (by rw [shats_snoc HE.out, ← HA.out, HF.out]; simp [shat]), HO6.out, hbq⟩
            case measure => simp [intOf]; omega
          · have he0 := (isEmpty_bytes s).2 h0
            obtain ⟨c, hc⟩ : ∃ c, c = cutAt m s := ⟨_, rfl⟩
            have hcl : c ≤ s.size := by rw [hc]; exact cutAt_le m s
            have hc1 : 1 ≤ c := by rw [hc]; unfold cutAt; omega
            have hmm : min m (s.size : Int) = (c : Int) := by rw [hc]; unfold cutAt; omega
            have hlen4 : done.length + 1 ≤ 2097152 := by
              have h1 := congrArg List.length HD.out
              rw [pieces_step hm1 h0] at h1
              simp at h1; omega
            have HC := Lib.hid hc; clear hc
            go_wp2_with fail
            go_region_law (first | (rw [if_pos (by rfl)]; refine wp_append_at _ _ _ _ rfl w.heap.size 78 i0 _ 7 64 Try.underlying24 hi hz0 hz1 hz2 rfl (by decide) u5 done.length (done.flatMap Ev.cs) rfl (by (repeat (first | (with_reducible exact HO6.out) | (with_reducible refine World.ownsRow.alloc ?_ _) | (with_reducible refine World.ownsRow.drew ?_) | (with_reducible refine owns_set_other ?_ HN.out _)))) ⟨wr.heap.size, 0, none⟩ 1 1 (⟨4, ef, eb, el, s.extract 0 c, ec, ea⟩ : Ev).cs rfl rfl (box_cs (⟨4, ef, eb, el, s.extract 0 c, ec, ea⟩ : Ev) _ _ _ (by simp)) (cs_one (⟨4, ef, eb, el, s.extract 0 c, ec, ea⟩ : Ev)) (by unfold maxLen; omega) (by omega) (by simp; omega) ?_; intro v1 w1 hown1 hgrow1 hnn1 hat1; have hb1 : Below w.heap.size w w1 := Below.grown (by ((repeat (first | (with_reducible exact Below.refl _ _) | (with_reducible assumption) | (with_reducible refine Below.alloc ?_ ?_ _) | (with_reducible refine Below.setCell ?_ ?_ _) | (with_reducible refine Below.drew ?_) | (with_reducible refine below_setRow ?_ ?_ _) | (refine Below.trans ?_ (Below.mono (by assumption) ?_)))); all_goals (first | omega | (simp; done) | (simp; omega)))) hgrow1 (by simp; omega) (fun g hg => (HO6.out.lt g hg).1); have HBX1 : Hid (w1.heap[Bk]? = some (.cells (⟨4, ef, eb, el, s.extract 0 c, ec, ea⟩ : Ev).cs.toArray 78 (0, 0))) := Lib.hid ((hgrow1.block Bk (by simp; omega) (fun e => HN.out Bk e.symm rfl)).trans (by (repeat (first | (with_reducible exact HBX.out) | (with_reducible refine hset_alloc ?_) | (with_reducible refine hset_drew ?_) | (with_reducible apply hset_same))); all_goals rfl)); have HN1 := Lib.hid (not_at hat1 HN.out (by simp; omega)); clear hgrow1 hnn1 hat1))
            all_goals
              simp only [List.getElem_toArray, List.getElem_cons_succ, List.getElem_cons_zero, Act.put, List.setIfInBounds_toArray, List.set_cons_zero, List.set_cons_succ]
              go_wp2
              go_roundw
              case rel => exact ⟨done ++ [(⟨4, ef, eb, el, s.extract 0 c, ec, ea⟩ : Ev)], s.extract c s.size, s.extract 0 c, rfl, by rw [ByteArray.size_extract]; omega, Lib.hid (by rw [← HD.out, pieces_step hm1 h0, ← HC.out]; simp), by rw [List.length_append, ev_snoc]; exact hown1, HBX1.out, HN1.out, hb1⟩
              case measure => simp only [strV, ByteArray.size_extract]; omega
      · have hl5 : (ek == 4) = false := by simp [h4]
        have HL := Lib.hid (show shat m (⟨ek, ef, eb, el, et, ec, ea⟩ : Ev) = [(⟨ek, ef, eb, el, et, ec, ea⟩ : Ev)] by simp [shat, h4]); clear h4
        have hlen3 : acc.length + 1 ≤ 2097152 := by rw [HL.out] at hlen; exact hlen
        clear hlen
        go_wp2_with (first | (at_builtin; refine wpList_append_own _ rfl _ _ 24 rfl w.heap.size 78 i0 _ 7 64 Try.underlying24 hi hz0 hz1 hz2 rfl (by decide) _ _ _ rfl (World.ownsRow.alloc (World.ownsRow.alloc HO5.out _) _) ⟨wr.heap.size + 1, 0, none⟩ 1 1 ((⟨ek, ef, eb, el, et, ec, ea⟩ : Ev)).cs rfl rfl (box_cs ((⟨ek, ef, eb, el, et, ec, ea⟩ : Ev)) _ _ _ (by simp)) (cs_one ((⟨ek, ef, eb, el, et, ec, ea⟩ : Ev))) (by unfold maxLen; omega) (by omega) (by simp; omega) ?_; intro v1 w1 hown1 hgrow1 hnn1; have hb1 : Below w.heap.size w w1 := Below.grown (by ((repeat (first | (with_reducible exact Below.refl _ _) | (with_reducible assumption) | (with_reducible refine Below.alloc ?_ ?_ _) | (with_reducible refine Below.setCell ?_ ?_ _) | (with_reducible refine Below.drew ?_) | (with_reducible refine below_setRow ?_ ?_ _) | (refine Below.trans ?_ (Below.mono (by assumption) ?_)))); all_goals (first | omega | (simp; done) | (simp; omega)))) hgrow1 (by simp; omega) (fun g hg => (HO5.out.lt g hg).1); clear hgrow1 hnn1))
        go_roundw
        case rel => exact ⟨k + 1, acc ++ [(⟨ek, ef, eb, el, et, ec, ea⟩ : Ev)], by omega, by go_num, Lib.hid (by rw [shats_snoc HE.out, ← HA.out, HL.out]), by rw [List.length_append, ev_snoc]; exact hown1, hb1⟩
        case measure => simp [intOf]; omega
    · obtain ⟨a5, cap5, rfl, _⟩ := owned_shape ho
      have HO5 := Lib.hid ho; clear ho
      have HF := Lib.hid (show acc = shats m xs by rw [HA.out, List.take_of_length_le (by rw [HX.out]; omega)])
      go_wp2
      go_ret
      exact ⟨_, rfl, by rw [← HF.out]; exact HO5.out, hb⟩
theorem evs_cells {w : World} {ad : Addr} {xs : List Ev} (h : Evs w (some ad) xs) : ∀ (j : Nat) (u : Value), (xs.flatMap Ev.cs)[j]? = some u → w.cell? (ad.add j) = some u := by
  intro j u hu
  have hj : j < xs.length * 7 := by
    rcases Nat.lt_or_ge j (xs.length * 7) with h' | h'
    · exact h'
    · rw [List.getElem?_eq_none (by rw [flatMap_len ev_len]; exact h')] at hu; simp at hu
  obtain ⟨e, he, _⟩ := at_lt (xs := xs) (k := j / 7) (by omega)
  obtain ⟨b, off, ha, hlt, hc⟩ := h (j / 7) e he
  simp only [Option.some.injEq] at ha
  subst ha
  have hm := flatMap_at ev_len xs (j / 7) (j % 7) e he (by omega)
  rw [show j / 7 * 7 + j % 7 = j from by omega, hu] at hm
  have := hc (j % 7) u hm.symm
  rw [Addr.add_lit]
  rw [show off + j / 7 * 7 + j % 7 = off + j from by omega] at this
  exact this
set_option maxRecDepth 100000 in
theorem specShattered_neg (a : Option Addr) (cap n : Nat) (xs : List Ev) (m : Int) (w : World) (h : Evs w a xs) (hx : xs.length = n) (hn : n ≤ 1048576) (hm1 : m < 1) (hnil : a = none → n = 0 ∧ cap = 0) :
    Calls Try.prog 17 #[.slice a n cap, .int .i64 m] w fun r w' => ∃ v, r = .returned v ∧ w'.ownsRow w.heap.size 78 7 v xs.length (xs.flatMap Ev.cs) ∧ Below w.heap.size w w' := by
  obtain ⟨i0, hi, hz0, hz1, hz2⟩ := info_parts info_Event
  have HO := Lib.hid (show (w.alloc (.cells #[] 78)).ownsRow w.heap.size 78 7 (.slice (some ⟨w.heap.size, 0, none⟩) 0 0) 0 [] from ⟨rfl, .inr ⟨w.heap.size, 0, #[], rfl, Nat.le_refl _, heap_nth0 w _, Nat.le_refl _, Nat.zero_le _, rfl, rfl⟩⟩)
  cases a with
  | none =>
    obtain ⟨rfl, rfl⟩ := hnil rfl
    have hx0 : xs = [] := List.length_eq_zero_iff.1 hx
    subst hx0
    clear hnil hx
    go_enter Try.func17, Try.ntmps17
    go_wp2_with (first | (at_builtin; refine wpList_append_own_none rfl _ _ 24 rfl w.heap.size 78 i0 7 Try.underlying24 hi _ 0 [] rfl HO.out rfl ?_))
    go_ret
    exact ⟨_, rfl, HO.out, by ((repeat (first | (with_reducible exact Below.refl _ _) | (with_reducible assumption) | (with_reducible refine Below.alloc ?_ ?_ _) | (with_reducible refine Below.setCell ?_ ?_ _) | (with_reducible refine Below.drew ?_) | (with_reducible refine below_setRow ?_ ?_ _) | (refine Below.trans ?_ (Below.mono (by assumption) ?_)))); all_goals (first | omega | (simp; done) | (simp; omega)))⟩
  | some ad =>
    have HC := Lib.hid (evs_cells (h.keep (show Below w.heap.size w (w.alloc (.cells #[] 78)) by ((repeat (first | (with_reducible exact Below.refl _ _) | (with_reducible assumption) | (with_reducible refine Below.alloc ?_ ?_ _) | (with_reducible refine Below.setCell ?_ ?_ _) | (with_reducible refine Below.drew ?_) | (with_reducible refine below_setRow ?_ ?_ _) | (refine Below.trans ?_ (Below.mono (by assumption) ?_)))); all_goals (first | omega | (simp; done) | (simp; omega))))))
    have HX := Lib.hid hx; clear hx hnil
    go_enter Try.func17, Try.ntmps17
    go_wp2_with (first | (at_builtin; refine wpList_append_own _ rfl _ _ 24 rfl w.heap.size 78 i0 _ 7 64 Try.underlying24 hi hz0 hz1 hz2 rfl (by decide) _ 0 [] rfl HO.out ad n cap (xs.flatMap Ev.cs) rfl (by rw [flatMap_len ev_len, HX.out]) HC.out (fun u hu => by obtain ⟨e, _, he⟩ := List.mem_flatMap.1 hu; exact cs_one e u he) (by unfold maxLen; omega) (by omega) (by simp) ?_; intro v1 w1 hown1 hgrow1 hnn1; have hb1 : Below w.heap.size w w1 := Below.grown (by ((repeat (first | (with_reducible exact Below.refl _ _) | (with_reducible assumption) | (with_reducible refine Below.alloc ?_ ?_ _) | (with_reducible refine Below.setCell ?_ ?_ _) | (with_reducible refine Below.drew ?_) | (with_reducible refine below_setRow ?_ ?_ _) | (refine Below.trans ?_ (Below.mono (by assumption) ?_)))); all_goals (first | omega | (simp; done) | (simp; omega)))) hgrow1 (by simp) (fun g hg => (HO.out.lt g hg).1); clear hgrow1 hnn1))
    go_ret
    exact ⟨_, rfl, by rw [HX.out]; simpa using hown1, hb1⟩
set_option maxRecDepth 100000 in
theorem cloneEv_any (a : Option Addr) (cap n : Nat) (xs : List Ev) (w : World) (h : Evs w a xs) (hx : xs.length = n) (hn : n ≤ 1048576) (hnil : a = none → n = 0 ∧ cap = 0) :
    Calls Try.prog 68 #[.slice a n cap] w fun r w' => ∃ v, r = .returned v ∧ w'.ownsRow w.heap.size 78 7 v xs.length (xs.flatMap Ev.cs) ∧ Below w.heap.size w w' := by
  obtain ⟨i0, hi, hz0, hz1, hz2⟩ := info_parts info_Event
  have HO := Lib.hid (show (w.alloc (.cells #[] 78)).ownsRow w.heap.size 78 7 (.slice (some ⟨w.heap.size, 0, none⟩) 0 0) 0 [] from ⟨rfl, .inr ⟨w.heap.size, 0, #[], rfl, Nat.le_refl _, heap_nth0 w _, Nat.le_refl _, Nat.zero_le _, rfl, rfl⟩⟩)
  cases a with
  | none =>
    obtain ⟨rfl, rfl⟩ := hnil rfl
    have hx0 : xs = [] := List.length_eq_zero_iff.1 hx
    subst hx0
    clear hnil hx
    have hq := Go.run_eql_slice_nil (P := Try.prog) w 24 78 none 0 0 Try.underlying24
    go_enter Try.func68, Try.ntmps68
    go_wp2
    go_ret
    exact ⟨_, rfl, World.ownsRow_nil _ _ _ _, by ((repeat (first | (with_reducible exact Below.refl _ _) | (with_reducible assumption) | (with_reducible refine Below.alloc ?_ ?_ _) | (with_reducible refine Below.setCell ?_ ?_ _) | (with_reducible refine Below.drew ?_) | (with_reducible refine below_setRow ?_ ?_ _) | (refine Below.trans ?_ (Below.mono (by assumption) ?_)))); all_goals (first | omega | (simp; done) | (simp; omega)))⟩
  | some ad =>
    have HC := Lib.hid (evs_cells (h.keep (show Below w.heap.size w (w.alloc (.cells #[] 78)) by ((repeat (first | (with_reducible exact Below.refl _ _) | (with_reducible assumption) | (with_reducible refine Below.alloc ?_ ?_ _) | (with_reducible refine Below.setCell ?_ ?_ _) | (with_reducible refine Below.drew ?_) | (with_reducible refine below_setRow ?_ ?_ _) | (refine Below.trans ?_ (Below.mono (by assumption) ?_)))); all_goals (first | omega | (simp; done) | (simp; omega))))))
    have HX := Lib.hid hx; clear hx hnil
    have hq := Go.run_eql_slice_nil (P := Try.prog) w 24 78 (some ad) n cap Try.underlying24
    go_enter Try.func68, Try.ntmps68
    go_wp2_with (first | (at_builtin; refine wpList_append_own _ rfl _ _ 24 rfl w.heap.size 78 i0 _ 7 64 Try.underlying24 hi hz0 hz1 hz2 rfl (by decide) _ 0 [] rfl HO.out ad n cap (xs.flatMap Ev.cs) rfl (by rw [flatMap_len ev_len, HX.out]) HC.out (fun u hu => by obtain ⟨e, _, he⟩ := List.mem_flatMap.1 hu; exact cs_one e u he) (by unfold maxLen; omega) (by omega) (by simp) ?_; intro v1 w1 hown1 hgrow1 hnn1; have hb1 : Below w.heap.size w w1 := Below.grown (by ((repeat (first | (with_reducible exact Below.refl _ _) | (with_reducible assumption) | (with_reducible refine Below.alloc ?_ ?_ _) | (with_reducible refine Below.setCell ?_ ?_ _) | (with_reducible refine Below.drew ?_) | (with_reducible refine below_setRow ?_ ?_ _) | (refine Below.trans ?_ (Below.mono (by assumption) ?_)))); all_goals (first | omega | (simp; done) | (simp; omega)))) hgrow1 (by simp) (fun g hg => (HO.out.lt g hg).1); clear hgrow1 hnn1))
    go_ret
    exact ⟨_, rfl, by rw [HX.out]; simpa using hown1, hb1⟩
set_option maxRecDepth 100000 in
theorem implShattered_neg (a : Option Addr) (cap n : Nat) (xs : List Ev) (m : Int) (w : World) (h : Evs w a xs) (hx : xs.length = n) (hn : n ≤ 1048576) (hm1 : m < 1) (hnil : a = none → n = 0 ∧ cap = 0) :
    Calls Try.prog 16 #[.slice a n cap, .int .i64 m] w fun r w' => ∃ v, r = .returned v ∧ w'.ownsRow w.heap.size 78 7 v xs.length (xs.flatMap Ev.cs) ∧ Below w.heap.size w w' := by
  have HN := Lib.hid hnil; clear hnil
  have HX := Lib.hid hx; clear hx
  go_enter Try.func16, Try.ntmps16
  go_wp2_with fail
  refine (cloneEv_any a cap n xs _ (Sl.keep h (by ((repeat (first | (with_reducible exact Below.refl _ _) | (with_reducible assumption) | (with_reducible refine Below.alloc ?_ ?_ _) | (with_reducible refine Below.setCell ?_ ?_ _) | (with_reducible refine Below.drew ?_) | (with_reducible refine below_setRow ?_ ?_ _) | (refine Below.trans ?_ (Below.mono (by assumption) ?_)))); all_goals (first | omega | (simp; done) | (simp; omega))))) HX.out hn HN.out).mono ?_
  rintro r w1 ⟨v, rfl, ho, hb⟩
  have HO := Lib.hid ho; clear ho
  have hz := hb.size
  simp only [World.size_alloc] at hz
  have HO2 := Lib.hid (owns_le HO.out (b' := w.heap.size) (by simp)); clear HO
  go_wp2
  go_ret
  exact ⟨_, rfl, HO2.out, by ((repeat (first | (with_reducible exact Below.refl _ _) | (with_reducible assumption) | (with_reducible refine Below.alloc ?_ ?_ _) | (with_reducible refine Below.setCell ?_ ?_ _) | (with_reducible refine Below.drew ?_) | (with_reducible refine below_setRow ?_ ?_ _) | (refine Below.trans ?_ (Below.mono (by assumption) ?_)))); all_goals (first | omega | (simp; done) | (simp; omega)))⟩
theorem shattered_pos {m : Int} (h : 1 ≤ m) (xs : List Ev) : shattered m xs = shats m xs := if_neg (by omega)
theorem shattered_neg {m : Int} (h : m < 1) (xs : List Ev) : shattered m xs = xs := if_pos h
theorem shattered_len (m : Int) (xs : List Ev) : (shattered m xs).length ≤ xs.length + textSum xs := by
  by_cases h : m < 1
  · rw [shattered_neg h]; omega
  · rw [shattered_pos (by omega)]; exact shats_len (by omega) xs
theorem specShattered_any (a : Option Addr) (cap n : Nat) (xs : List Ev) (m : Int) (w : World) (h : Evs w a xs) (hx : xs.length = n) (hn : n ≤ 1048576) (hm : textSum xs ≤ 1048576) (hm2 : m ≤ 9223372036854775807) (hnil : a = none → n = 0 ∧ cap = 0) :
    Calls Try.prog 17 #[.slice a n cap, .int .i64 m] w (FreshEv w (shattered m xs)) := by
  by_cases h1 : m < 1
  · exact freshEv (specShattered_neg a cap n xs m w h hx hn h1 hnil) (shattered_neg h1 xs)
  · exact freshEv (specShattered_pos a cap n xs m w h hx hn hm (by omega) hm2) (shattered_pos (by omega) xs)
theorem implShattered_any (a : Option Addr) (cap n : Nat) (xs : List Ev) (m : Int) (w : World) (h : Evs w a xs) (hx : xs.length = n) (hn : n ≤ 1048576) (hm : textSum xs ≤ 1048576) (hm2 : m ≤ 9223372036854775807) (hnil : a = none → n = 0 ∧ cap = 0) :
    Calls Try.prog 16 #[.slice a n cap, .int .i64 m] w (FreshEv w (shattered m xs)) := by
  by_cases h1 : m < 1
  · exact freshEv (implShattered_neg a cap n xs m w h hx hn h1 hnil) (shattered_neg h1 xs)
  · exact freshEv (implShattered_pos a cap n xs m w h hx hn hm (by omega) hm2) (shattered_pos (by omega) xs)
end Go.Proofs.Ytaoejdbkbnonpaa
