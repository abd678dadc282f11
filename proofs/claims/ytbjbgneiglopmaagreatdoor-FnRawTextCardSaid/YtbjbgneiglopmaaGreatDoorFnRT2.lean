/- Texts that FnRawText leans on, part 2. (Put together by wip/tools/bundle.py.) -/
import Derived.Lib.AtoiTie
import Derived.Laws.IdiomStrings
import Derived.Maps.AppendAt
import Derived.Laws.AppendOwnNone
import Derived.Deep.AppendLies
import Derived.Laws.Tables
import Derived.Lib.Split
import Derived.Lib.Join
import Derived.Test.YtbjbgneiglopmaaGreatDoorFnRT1
namespace Go.Proofs.YtbjbgneiglopmaaGreatDoor
set_option linter.unusedSimpArgs false
set_option linter.unusedVariables false
open Go.ChangeShapes Go.WideShapes Go.ChangeAt Go.RowKit Go.BigFrame
theorem decFrom_append : ∀ (l r : List UInt8) (acc : Nat), Lib.decFrom acc (l ++ r) = (Lib.decFrom acc l).bind fun n => Lib.decFrom n r
  | [], r, acc => rfl
  | b :: l, r, acc => by
    simp only [List.cons_append, Lib.decFrom]
    cases Lib.digitVal b with
    | none => rfl
    | some d => exact decFrom_append l r _
theorem digitVal_of {r : Nat} (h : r < 10) : Lib.digitVal (UInt8.ofNat (48 + r)) = some r := by
  have : (UInt8.ofNat (48 + r)).toNat = 48 + r := by rw [UInt8.toNat_ofNat']; omega
  rw [Lib.digitVal, this, if_pos (by omega)]; congr 1; omega
theorem decFrom_dec (u : Nat) : Lib.decFrom 0 (Lib.decDigits u) = some u := by
  induction u using Nat.strongRecOn with
  | _ u ih =>
    by_cases h : u < 10
    · rw [dec_lt h]; simp only [Lib.decFrom, digitVal_of h, Option.some.injEq]; omega
    · rw [dec_ge h, decFrom_append, ih (u / 10) (by omega)]
      simp only [Option.bind_some, Lib.decFrom, digitVal_of (show u % 10 < 10 by omega), Option.some.injEq]
      omega
theorem decFrom_mono : ∀ (l : List UInt8) (acc v : Nat), Lib.decFrom acc l = some v → acc ≤ v
  | [], acc, v, h => by simp [Lib.decFrom] at h; omega
  | b :: l, acc, v, h => by
    simp only [Lib.decFrom] at h
    cases hd : Lib.digitVal b with
    | none => rw [hd] at h; cases h
    | some d => rw [hd] at h; have := decFrom_mono l _ v h; omega
theorem nDig_le : ∀ (k u : Nat), 1 ≤ k → u < 10 ^ k → Lib.nDigits u ≤ k
  | 0, u, h, _ => by omega
  | 1, u, _, h => by rw [Lib.nDigits_small (by simpa using h)]; omega
  | k + 2, u, _, h => by
    by_cases h10 : u < 10
    · rw [Lib.nDigits_small h10]; omega
    · rw [Lib.nDigits_big h10]
      have := nDig_le (k + 1) (u / 10) (by omega) (by rw [Nat.pow_succ] at h; omega)
      omega
theorem dec_ne (u : Nat) : Lib.decDigits u ≠ [] := by
  intro e
  have := congrArg List.length e
  rw [Lib.decDigits_length] at this
  have := Lib.nDigits_pos u
  simp at *; omega
def numUpto (lim : Nat) (l : List UInt8) : Option Nat :=
  match Lib.decFrom 0 l with
  | some v => if l = Lib.decDigits v ∧ v ≤ lim then some v else none
  | none => none
theorem numUpto_yes {lim v : Nat} (h : v ≤ lim) : numUpto lim (Lib.decDigits v) = some v := by
  simp only [numUpto, decFrom_dec]; rw [if_pos ⟨trivial, h⟩]
theorem numUpto_some {lim v : Nat} {l : List UInt8} (h : numUpto lim l = some v) : l = Lib.decDigits v ∧ v ≤ lim := by
  simp only [numUpto] at h
  split at h
  · split at h
    · rename_i hc; simp at h; subst h; exact hc
    · cases h
  · cases h
theorem numUpto_no {lim : Nat} {l : List UInt8} (h : ∀ v, v ≤ lim → l ≠ Lib.decDigits v) : numUpto lim l = none := by
  cases hn : numUpto lim l with
  | none => rfl
  | some v => obtain ⟨h1, h2⟩ := numUpto_some hn; exact absurd h1 (h v h2)
@[reducible] def optU (o : Option Nat) : Value := .tuple #[.int .u64 (o.getD 0 : Nat), .bool o.isSome]
@[reducible] def optI (o : Option Nat) : Value := .tuple #[.int .i64 (o.getD 0 : Nat), .bool o.isSome]
set_option maxRecDepth 100000 in
set_option maxHeartbeats 4000000 in
theorem specLong_any (N : Nat) (w : World) (h : N < 18446744073709551616) :
    Calls Tryz.prog 62 #[.int .u64 N] w fun r w' => r = .returned (.string ⟨(Lib.decDigits N).toArray⟩) ∧ Below w.heap.size w w' := by
  have hlen : (Lib.decDigits N).length ≤ 20 := by rw [Lib.decDigits_length]; exact Lib.nDigits_le20 N h
  go_enter Tryz.func62, Tryz.ntmps62
  go_wp2_with fail
  go_loopw [0, 3] (fun nv ov wr => ∃ u : Nat, nv = .int .u64 u ∧ u < 18446744073709551616 ∧ (∃ l, ov = .string ⟨l.toArray⟩ ∧ Hid (Lib.decDigits N = Lib.decDigits u ++ l)) ∧ Below w.heap.size w wr) (fun nv _ _ => (intOf nv).toNat)
  case atStart => exact ⟨N, rfl, h, ⟨[], rfl, Lib.hid (by simp)⟩, Below.refl _ _⟩
  case round =>
    obtain ⟨u, rfl, hu, ⟨l, rfl, HD⟩, hb⟩ := hrel
    have hz := hb.size
    have hll : ¬ 9223372036854775807 < 1 + l.length := by have := congrArg List.length HD.out; rw [List.length_append] at this; omega
    have hu0 : (0 : Int) ≤ u := by omega
    obtain ⟨r, hr⟩ : ∃ r, u % 10 = r := ⟨_, rfl⟩
    have hr10 : r < 10 := by omega
    by_cases h9 : 9 < u
    · have h9' : (9 : Int) < (u : Int) := by omega
      have hmd : (u : Int).tmod 10 = (r : Int) := by rw [Int.tmod_eq_emod_of_nonneg hu0]; omega
      have hdv : (u : Int).tdiv 10 = (u / 10 : Nat) := by rw [Int.tdiv_eq_ediv_of_nonneg hu0]; rfl
      have w1 : IntKind.u64.wrap (r : Int) = r := by rw [IntKind.wrap_u64]; omega
      have w2 : IntKind.u64.wrap (48 + (r : Int)) = 48 + r := by rw [IntKind.wrap_u64]; omega
      have w3 : IntKind.u8.wrap (48 + (r : Int)) = 48 + r := by rw [IntKind.wrap_u8]; omega
      have w4 : IntKind.u64.wrap ((u / 10 : Nat) : Int) = (u / 10 : Nat) := by rw [IntKind.wrap_u64]; omega
      have hcv := bytes_string (wr.alloc (.cells #[.int .u8 (48 + r)] 5 (0, 0))) wr.heap.size 1 1 [48 + (r : Int)] (src := 30) (dst := 9) (e := 5) 5 (hset_new rfl) (by intro x hx; simp only [List.mem_cons, List.not_mem_nil, or_false] at hx; omega) rfl Tryz.underlying30 Tryz.underlying5 Tryz.underlying9
      have hone : UInt8.ofNat ((48 : Int) + r).toNat = UInt8.ofNat (48 + r) := by congr 1
      simp only [List.map_cons, List.map_nil, hone] at hcv
      have hcat := bytes_cat [UInt8.ofNat (48 + r)] l
      have HST := Lib.hid (show Lib.decDigits N = Lib.decDigits (u / 10) ++ (UInt8.ofNat (48 + r) :: l) by rw [HD.out, dec_ge (show ¬ u < 10 by omega), hr]; simp)
      clear HD
      go_wp2_with fail
      go_roundw
      case rel => exact ⟨u / 10, by simp, by omega, ⟨UInt8.ofNat (48 + r) :: l, by rw [ofNat_48]; exact congrArg Value.string hcat, HST⟩, by ((repeat (first | (with_reducible exact Below.refl _ _) | (with_reducible assumption) | (with_reducible refine Below.alloc ?_ ?_ _) | (with_reducible refine Below.setCell ?_ ?_ _) | (with_reducible refine Below.drew ?_) | (with_reducible refine below_setRow ?_ ?_ _) | (refine Below.trans ?_ (Below.mono (by assumption) ?_)))); all_goals (first | omega | (simp; done) | (simp; omega)))⟩
      case measure => simp only [intOf]; omega
    · have h9' : ¬ (9 : Int) < (u : Int) := by omega
      have hre : r = u := by omega
      subst hre
      have w2 : IntKind.u64.wrap (48 + (r : Int)) = 48 + r := by rw [IntKind.wrap_u64]; omega
      have w3 : IntKind.u8.wrap (48 + (r : Int)) = 48 + r := by rw [IntKind.wrap_u8]; omega
      have hcv := bytes_string (wr.alloc (.cells #[.int .u8 (48 + r)] 5 (0, 0))) wr.heap.size 1 1 [48 + (r : Int)] (src := 30) (dst := 9) (e := 5) 5 (hset_new rfl) (by intro x hx; simp only [List.mem_cons, List.not_mem_nil, or_false] at hx; omega) rfl Tryz.underlying30 Tryz.underlying5 Tryz.underlying9
      have hone : UInt8.ofNat ((48 : Int) + r).toNat = UInt8.ofNat (48 + r) := by congr 1
      simp only [List.map_cons, List.map_nil, hone] at hcv
      have hcat := bytes_cat [UInt8.ofNat (48 + r)] l
      have HST := Lib.hid (show Lib.decDigits N = UInt8.ofNat (48 + r) :: l by rw [HD.out, dec_lt hr10]; rfl)
      clear HD hr
      go_wp2_with fail
      go_ret
      exact ⟨ret_str (by rw [HST.out]; first | exact hcat | (rw [ofNat_48]; exact hcat)), by ((repeat (first | (with_reducible exact Below.refl _ _) | (with_reducible assumption) | (with_reducible refine Below.alloc ?_ ?_ _) | (with_reducible refine Below.setCell ?_ ?_ _) | (with_reducible refine Below.drew ?_) | (with_reducible refine below_setRow ?_ ?_ _) | (refine Below.trans ?_ (Below.mono (by assumption) ?_)))); all_goals (first | omega | (simp; done) | (simp; omega)))⟩
@[reducible] def bL (s : ByteArray) : List UInt8 := s.data.toList
theorem bL_at {s : ByteArray} {k : Nat} (h : k < s.size) : (bL s)[k]? = some s[k] := by
  have h' : k < s.data.toList.length := by simpa using h
  rw [bL, List.getElem?_eq_getElem h', Array.getElem_toList]; try rfl
theorem bL_len (s : ByteArray) : (bL s).length = s.size := by rw [bL, Array.length_toList]; try rfl
theorem str_of_bL (s : ByteArray) : s = ⟨(bL s).toArray⟩ := by
  obtain ⟨d⟩ := s
  show ByteArray.mk d = ByteArray.mk d.toList.toArray
  rw [Array.toArray_toList]
theorem str_inj {s : ByteArray} {l : List UInt8} (h : bL s = l) : s = ⟨l.toArray⟩ := by subst h; exact str_of_bL s
theorem take_at {l : List UInt8} {k : Nat} {b : UInt8} {u : Nat} (h : Lib.decFrom 0 (l.take k) = some u) (hb : l[k]? = some b) : Lib.decFrom 0 (l.take (k + 1)) = (Lib.digitVal b).map fun d => u * 10 + d := by
  rw [List.take_add_one, hb, decFrom_append, h]
  simp only [Option.bind_some, Option.toList_some, Lib.decFrom]
  cases Lib.digitVal b <;> rfl
theorem no_dec_prefix {lim k : Nat} {l : List UInt8} (h : Lib.decFrom 0 (l.take k) = none) : numUpto lim l = none := by
  refine numUpto_no fun v _ e => ?_
  have h1 := decFrom_dec v
  rw [← e, ← List.take_append_drop k l, decFrom_append, h] at h1
  cases h1
theorem big_prefix {lim k u : Nat} {l : List UInt8} (h : Lib.decFrom 0 (l.take k) = some u) (hu : lim < u) : numUpto lim l = none := by
  refine numUpto_no fun v hv e => ?_
  have h1 := decFrom_dec v
  rw [← e, ← List.take_append_drop k l, decFrom_append, h] at h1
  have := decFrom_mono _ _ _ h1
  omega
theorem len_no {l : List UInt8} (h : l.length < 1 ∨ 20 < l.length) : numUpto 18446744073709551615 l = none := by
  refine numUpto_no fun v hv e => ?_
  have h1 := congrArg List.length e
  rw [Lib.decDigits_length] at h1
  have := Lib.nDigits_pos v
  have := Lib.nDigits_le20 v (by omega)
  omega
set_option maxRecDepth 100000 in
set_option maxHeartbeats 4000000 in
theorem specLongOf_any (s : ByteArray) (w : World) :
    Calls Tryz.prog 36 #[.string s] w fun r w' => r = .returned (optU (numUpto 18446744073709551615 (bL s))) ∧ Below w.heap.size w w' := by
  obtain ⟨R, hR⟩ : ∃ R, numUpto 18446744073709551615 (bL s) = R := ⟨_, rfl⟩
  rw [hR]
  have HR := Lib.hid hR; clear hR
  by_cases hl : s.size < 1
  · have hN : R = none := by rw [← HR.out]; exact len_no (by rw [bL_len]; omega)
    subst hN
    have hl' : decide (s.size < 1) = true := by simpa using hl
    have hl2 : s.size = 0 := by omega
    go_enter Tryz.func36, Tryz.ntmps36
    go_wp2
    go_ret2
    exact ⟨rfl, by ((repeat (first | (with_reducible exact Below.refl _ _) | (with_reducible assumption) | (with_reducible refine Below.alloc ?_ ?_ _) | (with_reducible refine Below.setCell ?_ ?_ _) | (with_reducible refine Below.drew ?_) | (with_reducible refine below_setRow ?_ ?_ _) | (refine Below.trans ?_ (Below.mono (by assumption) ?_)))); all_goals (first | omega | (simp; done) | (simp; omega)))⟩
  by_cases hl2 : 20 < s.size
  · have hN : R = none := by rw [← HR.out]; exact len_no (by rw [bL_len]; omega)
    subst hN
    go_enter Tryz.func36, Tryz.ntmps36
    go_wp2
    go_ret2
    exact ⟨rfl, by ((repeat (first | (with_reducible exact Below.refl _ _) | (with_reducible assumption) | (with_reducible refine Below.alloc ?_ ?_ _) | (with_reducible refine Below.setCell ?_ ?_ _) | (with_reducible refine Below.drew ?_) | (with_reducible refine below_setRow ?_ ?_ _) | (refine Below.trans ?_ (Below.mono (by assumption) ?_)))); all_goals (first | omega | (simp; done) | (simp; omega)))⟩
  have hs20 : s.size ≤ 20 := by omega
  have hlim : s.size ≤ 9223372036854775807 := by omega
  go_enter Tryz.func36, Tryz.ntmps36
  go_wp2_with fail
  go_loopw [4, 5] (fun uv i wr => ∃ k u : Nat, k ≤ s.size ∧ i = .int .i64 k ∧ uv = .int .u64 u ∧ u ≤ 18446744073709551615 ∧ Hid (Lib.decFrom 0 ((bL s).take k) = some u) ∧ Below w.heap.size w wr) (fun _ i _ => s.size - (intOf i).toNat)
  case atStart => exact ⟨0, 0, Nat.zero_le _, rfl, rfl, by omega, Lib.hid rfl, Below.refl _ _⟩
  case round =>
    obtain ⟨k, u, hk, rfl, rfl, hu, HU, hb⟩ := hrel
    by_cases hlt : k < s.size
    · have hat := bL_at hlt
      obtain ⟨b, hbv⟩ : ∃ b : Nat, (s[k]'hlt).toNat = b := ⟨_, rfl⟩
      have hb256 : b < 256 := by rw [← hbv]; exact UInt8.toNat_lt _
      have hstep := take_at HU.out hat
      have hkl : (k : Int) < (s.size : Int) := by omega
      by_cases hdig : 48 ≤ b ∧ b ≤ 57
      · have hd : Lib.digitVal (s[k]'hlt) = some (b - 48) := by rw [Lib.digitVal, hbv, if_pos hdig]
        rw [hd] at hstep
        simp only [Option.map_some] at hstep
        obtain ⟨d, hde⟩ : ∃ d, b - 48 = d := ⟨_, rfl⟩
        rw [hde] at hstep
        have hd9 : d ≤ 9 := by omega
        have HST := Lib.hid hstep; clear hstep hd hat
        have q1 : ¬ b < 48 := by omega
        have q2 : ¬ 57 < b := by omega
        have q3 : IntKind.u8.wrap ((b : Int) - 48) = d := by rw [IntKind.wrap_u8]; omega
        have q4 : IntKind.u64.wrap (d : Int) = d := by rw [IntKind.wrap_u64]; omega
        have q5 : IntKind.u64.wrap (18446744073709551615 - (d : Int)) = 18446744073709551615 - d := by rw [IntKind.wrap_u64]; omega
        obtain ⟨M, hM⟩ : ∃ M, (18446744073709551615 - d) / 10 = M := ⟨_, rfl⟩
        have q6 : (18446744073709551615 - (d : Int)).tdiv 10 = M := by rw [Int.tdiv_eq_ediv_of_nonneg (by omega)]; omega
        have q7 : IntKind.u64.wrap (M : Int) = M := by rw [IntKind.wrap_u64]; omega
        clear hdig hde
        by_cases hov : M < u
        · have hN : R = none := by rw [← HR.out]; exact big_prefix HST.out (by omega)
          subst hN
          clear hM
          go_wp2_with fail
          go_ret2
          exact ⟨rfl, hb⟩
        · have hnew : u * 10 + d ≤ 18446744073709551615 := by omega
          have q8 : IntKind.u64.wrap (10 * (u : Int)) = 10 * u := by rw [IntKind.wrap_u64]; omega
          have q9 : IntKind.u64.wrap (10 * (u : Int) + d) = 10 * u + d := by rw [IntKind.wrap_u64]; omega
          clear hM
          go_wp2_with fail
          go_roundw
          case rel => exact ⟨k + 1, u * 10 + d, by omega, by go_num, by congr 1; push_cast; omega, hnew, HST, hb⟩
          case measure => simp [intOf]; omega
      · have hd : Lib.digitVal (s[k]'hlt) = none := by rw [Lib.digitVal, hbv, if_neg hdig]
        rw [hd] at hstep
        have hN : R = none := by rw [← HR.out]; exact no_dec_prefix (k := k + 1) hstep
        subst hN
        clear hstep hat hd
        by_cases h48 : b < 48
        · go_wp2_with fail
          go_ret2
          exact ⟨rfl, hb⟩
        · have h57 : 57 < b := by omega
          go_wp2_with fail
          go_ret2
          exact ⟨rfl, hb⟩
    · have hke : k = s.size := by omega
      have hdf : Lib.decFrom 0 (bL s) = some u := by
        have := HU.out
        rwa [List.take_of_length_le (by rw [bL_len]; omega)] at this
      have hRR : R = if bL s = Lib.decDigits u then some u else none := by
        rw [← HR.out, numUpto, hdf]
        by_cases he : bL s = Lib.decDigits u
        · rw [if_pos he]; simp only; rw [if_pos ⟨he, hu⟩]
        · rw [if_neg he]; simp only; rw [if_neg (fun h => he h.1)]
      obtain ⟨S, hS⟩ : ∃ S, (⟨(Lib.decDigits u).toArray⟩ : ByteArray) = S := ⟨_, rfl⟩
      have hlong : ∀ W : World, Calls Tryz.prog 62 #[.int .u64 u] W fun r w' => r = .returned (.string S) ∧ Below W.heap.size W w' := fun W => by
        have := specLong_any u W (by omega)
        rw [hS] at this; exact this
      by_cases he : S = s
      · have hRu : R = some u := by
          rw [hRR, if_pos]
          rw [← he, ← hS]
        subst hRu
        clear hRR hS hdf HU HR
        subst he
        go_wp2_with fail
        refine (hlong _).mono ?_
        rintro r w1 ⟨rfl, hb1⟩
        go_wp2_with fail
        go_ret2
        exact ⟨rfl, hb.trans (hb1.mono hb.size)⟩
      · have hRn : R = none := by
          rw [hRR, if_neg]
          intro e
          exact he (by rw [← hS, ← str_inj e])
        subst hRn
        have he2 : (S.toList == s.toList) = false := by rw [beq_bytes]; simpa using he
        clear hRR hS hdf HU HR
        go_wp2_with fail
        refine (hlong _).mono ?_
        rintro r w1 ⟨rfl, hb1⟩
        go_wp2_with fail
        go_ret2
        exact ⟨rfl, hb.trans (hb1.mono hb.size)⟩
theorem numUpto_le {a b : Nat} (h : b ≤ a) (l : List UInt8) : numUpto b l = (numUpto a l).bind fun v => if v ≤ b then some v else none := by
  simp only [numUpto]
  cases Lib.decFrom 0 l with
  | none => rfl
  | some v =>
    simp only
    by_cases h1 : l = Lib.decDigits v ∧ v ≤ b
    · rw [if_pos h1, if_pos ⟨h1.1, by omega⟩]; simp [h1.2]
    · rw [if_neg h1]
      by_cases h2 : l = Lib.decDigits v ∧ v ≤ a
      · rw [if_pos h2]; simp only [Option.bind_some]; rw [if_neg (fun h => h1 ⟨h2.1, h⟩)]
      · rw [if_neg h2]; rfl
def numOf (s : ByteArray) : Option Nat := numUpto 999999999 (bL s)
set_option maxHeartbeats 2000000 in
theorem specNumber_any (s : ByteArray) (w : World) :
    Calls Tryz.prog 17 #[.string s] w fun r w' => r = .returned (optI (numOf s)) ∧ Below w.heap.size w w' := by
  have hle := numUpto_le (a := 18446744073709551615) (b := 999999999) (by omega) (bL s)
  obtain ⟨R, hR⟩ : ∃ R, numUpto 18446744073709551615 (bL s) = R := ⟨_, rfl⟩
  have hcall : ∀ W : World, Calls Tryz.prog 36 #[.string s] W fun r w' => r = .returned (optU R) ∧ Below W.heap.size W w' := fun W => by
    have := specLongOf_any s W
    rw [hR] at this; exact this
  rw [numOf, hle, hR]
  clear hle hR
  cases R with
  | none =>
    go_enter Tryz.func17, Tryz.ntmps17
    go_wp2_with fail
    refine (hcall _).mono ?_
    rintro r w1 ⟨rfl, hb1⟩
    go_wp2
    go_ret2
    exact ⟨rfl, hb1⟩
  | some v =>
    by_cases hv : v ≤ 999999999
    · have w1 : IntKind.i64.wrap (v : Int) = v := by rw [IntKind.wrap_i64]; omega
      have hv' : ¬ 999999999 < v := by omega
      simp only [Option.bind_some, if_pos hv]
      go_enter Tryz.func17, Tryz.ntmps17
      go_wp2_with fail
      refine (hcall _).mono ?_
      rintro r w1 ⟨rfl, hb1⟩
      go_wp2
      go_ret2
      exact ⟨rfl, hb1⟩
    · have hv' : 999999999 < v := by omega
      simp only [Option.bind_some, if_neg hv]
      go_enter Tryz.func17, Tryz.ntmps17
      go_wp2_with fail
      refine (hcall _).mono ?_
      rintro r w1 ⟨rfl, hb1⟩
      go_wp2
      go_ret2
      exact ⟨rfl, hb1⟩
theorem atoi_dec {v : Nat} (h : v ≤ 999999999) : Lib.atoiAll (Lib.decDigits v) = .ok (v : Int) := by
  have hl : (Lib.decDigits v).length ≤ 18 := by rw [Lib.decDigits_length]; exact Nat.le_trans (nDig_le 9 v (by omega) (by omega)) (by omega)
  rw [Lib.atoiAll_short _ hl]
  have hd := decFrom_dec v
  obtain ⟨b, r, hbr⟩ : ∃ b r, Lib.decDigits v = b :: r := by
    cases h : Lib.decDigits v with
    | nil => exact absurd h (dec_ne v)
    | cons b r => exact ⟨b, r, rfl⟩
  rw [hbr] at hd ⊢
  have hb : Lib.digitVal b ≠ none := by
    intro e
    simp only [Lib.decFrom, e] at hd
    cases hd
  have h45 : (b == 45) = false := by
    rw [beq_eq_false_iff_ne]; rintro rfl; exact hb (by decide)
  have h43 : (b == 43) = false := by
    rw [beq_eq_false_iff_ne]; rintro rfl; exact hb (by decide)
  simp only [Lib.atoi, h45, h43, Lib.decNat, List.isEmpty_cons, hd]
  rfl
structure NumW (w : World) : Prop where
  tab : TabW w
  syn : ∃ tp p, w.var? Tryz.prog "strconv.ErrSyntax" = some #[.iface tp p]
  rng : ∃ tp p, w.var? Tryz.prog "strconv.ErrRange" = some #[.iface tp p]
theorem gSyn : Tryz.prog.globalNamed "strconv.ErrSyntax" = some 1 := by kernel_rfl
theorem gRng : Tryz.prog.globalNamed "strconv.ErrRange" = some 2 := by kernel_rfl
theorem NumW.keep {w w' : World} (h : NumW w) (hb : Below w.heap.size w w') : NumW w' := by
  obtain ⟨ht, ⟨t1, p1, h1⟩, ⟨t2, p2, h2⟩⟩ := h
  exact ⟨ht.keep hb, ⟨t1, p1, Joins.var_stays gSyn h1 hb (Nat.le_refl _)⟩, ⟨t2, p2, Joins.var_stays gRng h2 hb (Nat.le_refl _)⟩⟩
theorem below_bytesW {w w' : World} (h : w' = w ∨ ∃ t, w' = Lib.bytesWorld w 5 t) : Below w.heap.size w w' := by
  rcases h with rfl | ⟨t, rfl⟩
  · exact Below.refl _ _
  · exact Joins.below_bytesWorld _ _ _ _ (Nat.le_refl _)
set_option maxRecDepth 100000 in
set_option maxHeartbeats 4000000 in
theorem implNumber_any (s : ByteArray) (w : World) (hw : NumW w) (hs : s.size ≤ 1048576) :
    Calls Tryz.prog 22 #[.string s] w fun r w' => r = .returned (optI (numOf s)) ∧ Below w.heap.size w w' := by
  have HW := Lib.hid hw; clear hw
  obtain ⟨R, hR⟩ : ∃ R, numOf s = R := ⟨_, rfl⟩
  rw [hR]
  have hdec : ∀ u, R = some u → bL s = Lib.decDigits u ∧ u ≤ 999999999 := fun u e => numUpto_some (by rw [← e, ← hR]; rfl)
  cases hA : Lib.atoiAll (bL s) with
  | ok v =>
    have hcall : ∀ W : World, Calls Tryz.prog 41 #[.string s] W fun r w' => r = .returned (.tuple #[.int .i64 v, .nilIface]) ∧ Below W.heap.size W w' := fun W => by
      refine (Tryz.strconv_Atoi_ok s (by omega) v hA W).mono ?_
      rintro r w' ⟨rfl, h⟩
      exact ⟨rfl, below_bytesW h⟩
    cases hin : inB v 0 999999999
    · have hRn : R = none := by
        cases R with
        | none => rfl
        | some u =>
          obtain ⟨h1, h2⟩ := hdec u rfl
          rw [h1, atoi_dec h2] at hA
          injection hA with hA
          subst hA
          simp only [inB, decide_eq_false_iff_not] at hin
          omega
      subst hRn
      clear hdec hR hA
      go_enter Tryz.func22, Tryz.ntmps22
      go_wp2_with fail
      refine (hcall _).mono ?_
      rintro r w1 ⟨rfl, hb1⟩
      go_wp2_with (first | (go_at_call 42; refine (within_any _ _ _ _).mono ?_; rintro r w1 ⟨rfl, rfl⟩))
      go_ret2
      exact ⟨rfl, hb1⟩
    · have hv : 0 ≤ v ∧ v ≤ 999999999 := by simpa [inB] using hin
      obtain ⟨u, rfl⟩ := Int.eq_ofNat_of_zero_le hv.1
      have hu : u ≤ 999999999 := by omega
      have hit : Lib.itoa (u : Int) = Lib.decDigits u := by unfold Lib.itoa; rw [if_neg (by omega)]; congr 1
      obtain ⟨S, hS⟩ : ∃ S, numB (u : Int) = S := ⟨_, rfl⟩
      have hdig : ∀ W : World, TabW W → Calls Tryz.prog 31 #[.int .i64 u] W fun r w' => r = .returned (.string S) ∧ Below W.heap.size W w' := fun W hW => by
        have := implDigits_any (u : Int) W hW (by omega) (by omega)
        rw [hS] at this; exact this
      by_cases he : S = s
      · have hRu : R = some u := by
          rw [← hR, numOf, ← he, ← hS, numB, hit]
          exact numUpto_yes hu
        subst hRu
        clear hdec hR hA hS hv
        subst he
        go_enter Tryz.func22, Tryz.ntmps22
        go_wp2_with fail
        refine (hcall _).mono ?_
        rintro r w1 ⟨rfl, hb1⟩
        go_wp2_with (first | (go_at_call 42; refine (within_any _ _ _ _).mono ?_; rintro r w1 ⟨rfl, rfl⟩))
        refine (hdig _ (HW.out.keep hb1).tab).mono ?_
        rintro r w2 ⟨rfl, hb2⟩
        go_wp2
        go_ret2
        exact ⟨rfl, hb1.trans (hb2.mono hb1.size)⟩
      · have hRn : R = none := by
          cases R with
          | none => rfl
          | some u' =>
            obtain ⟨h1, h2⟩ := hdec u' rfl
            rw [h1, atoi_dec h2] at hA
            injection hA with hA
            exfalso
            apply he
            rw [← hS, numB, hit, str_inj h1]
            have : u' = u := by omega
            rw [this]
        subst hRn
        have he2 : (S.toList == s.toList) = false := by rw [beq_bytes]; simpa using he
        clear hdec hR hA hS hv
        go_enter Tryz.func22, Tryz.ntmps22
        go_wp2_with fail
        refine (hcall _).mono ?_
        rintro r w1 ⟨rfl, hb1⟩
        go_wp2_with (first | (go_at_call 42; refine (within_any _ _ _ _).mono ?_; rintro r w1 ⟨rfl, rfl⟩))
        refine (hdig _ (HW.out.keep hb1).tab).mono ?_
        rintro r w2 ⟨rfl, hb2⟩
        go_wp2
        go_ret2
        exact ⟨rfl, hb1.trans (hb2.mono hb1.size)⟩
  | range =>
    have hRn : R = none := by
      cases R with
      | none => rfl
      | some u => obtain ⟨h1, h2⟩ := hdec u rfl; rw [h1, atoi_dec h2] at hA; cases hA
    subst hRn
    obtain ⟨tp, p, hvar⟩ := HW.out.rng
    have HV := Lib.hid hvar
    clear hdec hR hvar
    go_enter Tryz.func22, Tryz.ntmps22
    go_wp2_with fail
    refine (Tryz.strconv_Atoi_range_var s (by omega) hA tp p _ HV.out).mono ?_
    rintro r w1 ⟨N, rfl, hN, hblk, hb1⟩
    clear hA hblk
    go_wp2
    go_ret2
    exact ⟨rfl, hb1⟩
  | _ =>
    have hRn : R = none := by
      cases R with
      | none => rfl
      | some u => obtain ⟨h1, h2⟩ := hdec u rfl; rw [h1, atoi_dec h2] at hA; cases hA
    subst hRn
    obtain ⟨tp, p, hvar⟩ := HW.out.syn
    have HV := Lib.hid hvar
    have hcA : ∀ W : World, W.var? Tryz.prog "strconv.ErrSyntax" = some #[.iface tp p] → Calls Tryz.prog 41 #[.string s] W fun e w' => ∃ N, e = .returned (.tuple #[.int .i64 0, .iface 106 (.pointer (some ⟨N, 0, none⟩))]) ∧ Below W.heap.size W w' := fun W hW =>
      (Any.strconv_Atoi_syntax_var Tryz.laysC172 s (by omega) hA tp p W hW).mono fun e w' ⟨N, h1, _, _, h2⟩ => ⟨N, h1, h2⟩
    clear hdec hR hvar
    go_enter Tryz.func22, Tryz.ntmps22
    go_wp2_with fail
    refine (hcA _ HV.out).mono ?_
    rintro r w1 ⟨N, rfl, hb1⟩
    clear hA hcA
    go_wp2
    go_ret2
    exact ⟨rfl, hb1⟩
structure Pl where
  root : Int
  deep : Int
  most : Int
  deriving DecidableEq
@[reducible] def Pl.val (p : Pl) (sh : Value) : Value := .agg #[sh, .int .i64 p.root, .int .i64 p.deep, .int .i64 p.most]
@[reducible] def fldCK : List CK := [CK.int .i64, .int .i64, .bool, .bool, .int .i64]
@[reducible] def shpCK : List CK := [CK.int .i64, .sl fldCK]
structure ShArg where
  a : Option Addr
  cap : Nat
  xs : List Shp
@[reducible] def ShArg.sl (x : ShArg) : Value := .slice x.a x.xs.length x.cap
structure ShArg.ok (x : ShArg) (w : World) : Prop where
  sh : Shs w x.a x.xs
  each : ∀ e ∈ x.xs, ShpOk e
  le : x.xs.length ≤ x.cap
  cap : x.cap ≤ maxLen
section
variable {H : Type} {enc : TypeId × Value → H} {W : World} {base : Nat} {sp : Nat → Bool} {v : Value} {d : DataW H} {ps : List MemPlace}
end
structure Lvl where
  msg : Int
  left : Int
  deriving DecidableEq
@[reducible] def Lvl.cs (f : Lvl) : List Value := [.int .i64 f.msg, .int .i64 f.left]
@[reducible] def Lvl.val (f : Lvl) : Value := .agg #[.int .i64 f.msg, .int .i64 f.left]
structure Lvl.ok (f : Lvl) : Prop where
  msg : W64 f.msg
  left : W64 f.left
@[reducible] def Lvls := Sl 2 Lvl.cs
theorem Lvls.at {w : World} {a : Option Addr} {xs : List Lvl} (h : Lvls w a xs) {k : Nat} {e : Lvl} (he : xs[k]? = some e) :
    ∃ b off, a = some ⟨b, off, none⟩ ∧ b < w.heap.size ∧ w.cell? ⟨b, off + k * 2, none⟩ = some (.int .i64 e.msg) ∧ w.cell? ⟨b, off + k * 2 + 1, none⟩ = some (.int .i64 e.left) := by
  obtain ⟨b, off, ha, hlt, hc⟩ := h k e he
  exact ⟨b, off, ha, hlt, hc 0 _ rfl, hc 1 _ rfl⟩
structure Ut where
  want : Int
  low : Int
  high : Int
  deriving DecidableEq
@[reducible] def Ut.val (u : Ut) : Value := .agg #[.int .i64 u.want, .int .i64 u.low, .int .i64 u.high]
structure Dc where
  p : Pl
  mode : Int
  bits : Int
  have_ : Int
  start : Int
  at_ : Int
  field : Fld
  wire : Int
  want : Int
  utf : Ut
  end_ : Ev
  deriving DecidableEq
@[reducible] def Dc.val (d : Dc) (sh st : Value) : Value := .agg #[sh, .int .i64 d.p.root, .int .i64 d.p.deep, .int .i64 d.p.most, .int .i64 d.mode, st, .int .u64 d.bits, .int .i64 d.have_, .int .i64 d.start, .int .i64 d.at_, .int .i64 d.field.number, .int .i64 d.field.kind, .bool d.field.rep, .bool d.field.packed, .int .i64 d.field.msg, .int .i64 d.wire, .int .i64 d.want, .int .i64 d.utf.want, .int .i64 d.utf.low, .int .i64 d.utf.high, .int .i64 d.end_.kind, .int .i64 d.end_.field, .int .u64 d.end_.bits, .int .i64 d.end_.len, .string d.end_.text, .int .i64 d.end_.code, .int .i64 d.end_.at_]
@[reducible] def Dc.cl (d : Dc) (sh st : Value) : List Value := [sh, .int .i64 d.p.root, .int .i64 d.p.deep, .int .i64 d.p.most, .int .i64 d.mode, st, .int .u64 d.bits, .int .i64 d.have_, .int .i64 d.start, .int .i64 d.at_, .int .i64 d.field.number, .int .i64 d.field.kind, .bool d.field.rep, .bool d.field.packed, .int .i64 d.field.msg, .int .i64 d.wire, .int .i64 d.want, .int .i64 d.utf.want, .int .i64 d.utf.low, .int .i64 d.utf.high, .int .i64 d.end_.kind, .int .i64 d.end_.field, .int .u64 d.end_.bits, .int .i64 d.end_.len, .string d.end_.text, .int .i64 d.end_.code, .int .i64 d.end_.at_]
structure Dc.ok (d : Dc) : Prop where
  root : W64 d.p.root
  deep : W64 d.p.deep
  most : W64 d.p.most
  mode : W64 d.mode
  bits : WU64 d.bits
  have_ : W64 d.have_
  start : W64 d.start
  at_ : W64 d.at_
  field : d.field.ok
  wire : W64 d.wire
  want : W64 d.want
  uwant : W64 d.utf.want
  ulow : W64 d.utf.low
  uhigh : W64 d.utf.high
  end_ : d.end_.ok
@[reducible] def lvlCK : List CK := [CK.int .i64, .int .i64]
structure DcArg where
  d : Dc
  s : ShArg
  l : SlArg Lvl
@[reducible] def DcArg.val (x : DcArg) : Value := x.d.val x.s.sl x.l.val
structure DcArg.ok (x : DcArg) (w : World) : Prop where
  d : x.d.ok
  s : x.s.ok w
  l : x.l.ok 2 Lvl.cs Lvl.ok w
@[reducible] def bv (l : List UInt8) : List Value := l.map fun b => Value.int .u8 (b.toNat : Int)
structure Chg (lo hi : Nat) (w w' : World) : Prop where
  os : w'.os = w.os
  tape : w'.tape = w.tape
  output : w'.output = w.output
  size : w.heap.size ≤ w'.heap.size
  block : ∀ k, k < w.heap.size → (k < lo ∨ hi ≤ k) → w'.heap[k]? = w.heap[k]?
theorem Chg.refl (lo hi : Nat) (w : World) : Chg lo hi w w := ⟨rfl, rfl, rfl, Nat.le_refl _, fun _ _ _ => rfl⟩
theorem Chg.trans {lo hi : Nat} {a b c : World} (h : Chg lo hi a b) (k : Chg lo hi b c) : Chg lo hi a c :=
  ⟨k.os.trans h.os, k.tape.trans h.tape, k.output.trans h.output, Nat.le_trans h.size k.size, fun i hi' ho => (k.block i (Nat.lt_of_lt_of_le hi' h.size) ho).trans (h.block i hi' ho)⟩
theorem Chg.of_below {lo hi : Nat} {w w' : World} (h : Below w.heap.size w w') : Chg lo hi w w' := ⟨h.os, h.tape, h.output, h.size, fun k hk _ => h.block k hk⟩
theorem Chg.below {lo hi : Nat} {w w' : World} (h : Chg lo hi w w') (hl : lo ≤ w.heap.size) : Below lo w w' := ⟨h.os, h.tape, h.output, h.size, fun k hk => h.block k (by omega) (.inl hk)⟩
theorem Chg.setCell {lo hi b o : Nat} {w : World} (h1 : lo ≤ b) (h2 : b < hi) (u : Value) : Chg lo hi w (w.setCell ⟨b, o, none⟩ u) :=
  ⟨rfl, rfl, rfl, by simp [World.setCell], fun k _ hk => Below.heap_setCell w ⟨b, o, none⟩ u k (by simp only; omega)⟩
structure OwnR (w : World) (lo hi : Nat) (a : Option Addr) (n : Nat) (L : List Value) : Prop where
  len : L.length = n
  own : n = 0 ∨ ∃ g, a = some ⟨g, 0, none⟩ ∧ lo ≤ g ∧ g < hi ∧ g < w.heap.size ∧ (∀ (j : Nat) (u : Value), L[j]? = some u → w.cell? ⟨g, j, none⟩ = some u) ∧ (∀ j : Nat, w.frozen? ⟨g, j, none⟩ = false)
theorem OwnR.of_owns {w : World} {base n cap : Nat} {t : TypeId} {a : Option Addr} {L : List Value} (h : w.ownsRow base t 1 (.slice a n cap) n L) : OwnR w base w.heap.size a n L := by
  have hlen : L.length = n := by have := h.1; omega
  refine ⟨hlen, ?_⟩
  have hl := h.lt
  have hc : ∀ g, (Value.slice a n cap).ownBlock = some g → _ := fun g hg => World.ownsRow.cells h hg
  rcases h.2 with ⟨e, h0⟩ | ⟨g, cap', cur, e, hb, hh, _⟩
  · exact .inl h0
  · simp only [Value.slice.injEq] at e
    obtain ⟨rfl, _, rfl⟩ := e
    have h1 := hl g rfl
    exact .inr ⟨g, rfl, h1.1, h1.2, h1.2, fun j u hu => by have := hc g rfl j u hu; rwa [Addr.add_lit, Nat.zero_add] at this, h.frozenAt⟩
theorem OwnR.chg {w w' : World} {lo hi lo' hi' n : Nat} {a : Option Addr} {L : List Value} (h : OwnR w lo hi a n L) (hc : Chg lo' hi' w w') (hd : hi ≤ lo' ∨ hi' ≤ lo) : OwnR w' lo hi a n L := by
  refine ⟨h.len, ?_⟩
  rcases h.own with h0 | ⟨g, ha, h1, h2, h3, h4, h5⟩
  · exact .inl h0
  · have hb := hc.block g h3 (by omega)
    exact .inr ⟨g, ha, h1, h2, Nat.lt_of_lt_of_le h3 hc.size, fun j u hu => (World.cell?_of_block (a := ⟨g, j, none⟩) hb).trans (h4 j u hu), fun j => (World.frozen?_of_block (a := ⟨g, j, none⟩) hb).trans (h5 j)⟩
theorem OwnR.keep {w w' : World} {lo hi n : Nat} {a : Option Addr} {L : List Value} (h : OwnR w lo hi a n L) (hb : Below w.heap.size w w') : OwnR w' lo hi a n L :=
  h.chg (Chg.of_below (lo := hi) (hi := hi) hb) (.inl (Nat.le_refl _))
theorem OwnR.store {w : World} {lo hi n g j : Nat} {L : List Value} (h : OwnR w lo hi (some ⟨g, 0, none⟩) n L) (hj : j < n) (u : Value) : OwnR (w.setCell ⟨g, j, none⟩ u) lo hi (some ⟨g, 0, none⟩) n (L.set j u) := by
  refine ⟨by rw [List.length_set, h.len], ?_⟩
  rcases h.own with h0 | ⟨g', ha, h1, h2, h3, h4, h5⟩
  · omega
  · simp only [Option.some.injEq, Addr.mk.injEq, and_true] at ha
    subst ha
    refine .inr ⟨g, rfl, h1, h2, by simpa [World.setCell] using h3, fun i v hv => ?_, fun i => by rw [World.frozen?_setCell]; exact h5 i⟩
    rw [List.getElem?_set] at hv
    by_cases hij : j = i
    · subst hij
      rw [if_pos rfl, if_pos (by rw [h.len]; exact hj)] at hv
      simp only [Option.some.injEq] at hv
      subst hv
      exact World.cell?_setCell_same _ _ _ (h4 j L[j]! (by rw [List.getElem?_eq_getElem (by rw [h.len]; exact hj)]; simp [h.len, hj]))
    · rw [if_neg hij] at hv
      rw [World.cell?_setCell_other _ _ _ _ (by simp [hij])]
      exact h4 i v hv
theorem OwnR.sl {α : Type} {cs : α → List Value} {w : World} {lo hi n : Nat} {a : Option Addr} {xs : List α} (hcs : ∀ x, (cs x).length = 1) (h : OwnR w lo hi a n (xs.flatMap cs)) : Sl 1 cs w a xs := by
  intro k e he
  have hk : k < xs.length := by
    rcases Nat.lt_or_ge k xs.length with h' | h'
    · exact h'
    · rw [List.getElem?_eq_none h'] at he; simp at he
  rcases h.own with h0 | ⟨g, ha, h1, h2, h3, h4, h5⟩
  · have := h.len; rw [flatMap_len hcs] at this; omega
  · refine ⟨g, 0, ha, h3, fun j u hu => ?_⟩
    have hj : j = 0 := by
      rcases Nat.lt_or_ge j 1 with h' | h'
      · omega
      · rw [List.getElem?_eq_none (by rw [hcs]; exact h')] at hu; simp at hu
    subst hj
    have := h4 (k * 1 + 0) u (by rw [flatMap_at hcs xs k 0 e he (by omega)]; exact hu)
    simpa using this
theorem OwnR.slK {α : Type} {cs : α → List Value} {sz : Nat} {w : World} {lo hi n : Nat} {a : Option Addr} {xs : List α} (hsz : 0 < sz) (hcs : ∀ x, (cs x).length = sz) (h : OwnR w lo hi a (n * sz) (xs.flatMap cs)) : Sl sz cs w a xs := by
  intro k e he
  have hk : k < xs.length := by
    rcases Nat.lt_or_ge k xs.length with h' | h'
    · exact h'
    · rw [List.getElem?_eq_none h'] at he; simp at he
  have hlen := h.len
  rw [flatMap_len hcs] at hlen
  rcases h.own with h0 | ⟨g, ha, h1, h2, h3, h4, h5⟩
  · have : 0 < xs.length * sz := Nat.mul_pos (by omega) hsz
    omega
  · refine ⟨g, 0, ha, h3, fun j u hu => ?_⟩
    have hj : j < sz := by
      rcases Nat.lt_or_ge j sz with h' | h'
      · exact h'
      · rw [List.getElem?_eq_none (by rw [hcs]; exact h')] at hu; simp at hu
    have := h4 (k * sz + j) u (by rw [flatMap_at hcs xs k j e he hj]; exact hu)
    simpa using this
theorem Chg.widen {lo hi g e : Nat} {w w' : World} (h : Chg g e w w') (h1 : lo ≤ g) (h2 : e ≤ hi) : Chg lo hi w w' :=
  ⟨h.os, h.tape, h.output, h.size, fun k hk ho => h.block k hk (by omega)⟩
theorem OwnR.widen {w : World} {lo hi g e n : Nat} {a : Option Addr} {L : List Value} (h : OwnR w g e a n L) (h1 : lo ≤ g) (h2 : e ≤ hi) : OwnR w lo hi a n L := by
  refine ⟨h.len, ?_⟩
  rcases h.own with h0 | ⟨b, ha, k1, k2, k3, k4, k5⟩
  · exact .inl h0
  · exact .inr ⟨b, ha, by omega, by omega, k3, k4, k5⟩
theorem OwnR.chg1 {w w' : World} {lo hi g e n : Nat} {a : Option Addr} {L : List Value} (h : OwnR w lo hi a n L) (hc : Chg g e w w') (hd : ∀ b, a = some ⟨b, 0, none⟩ → n ≠ 0 → b < g ∨ e ≤ b) : OwnR w' lo hi a n L := by
  refine ⟨h.len, ?_⟩
  by_cases hn : n = 0
  · exact .inl hn
  rcases h.own with h0 | ⟨b, ha, h1, h2, h3, h4, h5⟩
  · exact .inl h0
  · have hb := hc.block b h3 (hd b ha hn)
    exact .inr ⟨b, ha, h1, h2, Nat.lt_of_lt_of_le h3 hc.size, fun j u hu => (World.cell?_of_block (a := ⟨b, j, none⟩) hb).trans (h4 j u hu), fun j => (World.frozen?_of_block (a := ⟨b, j, none⟩) hb).trans (h5 j)⟩
structure OwnSh (w : World) (lo hi : Nat) (a : Option Addr) (n : Nat) (rs : List ShR) (xs : List Shp) : Prop where
  le : lo ≤ hi
  len : rs.length = n
  lenx : xs.length = n
  outer : OwnR w lo hi a (n * 2) (rs.flatMap ShR.cs)
  each : ∀ (k : Nat) (r : ShR) (x : Shp), rs[k]? = some r → xs[k]? = some x → r.id = x.id ∧ r.n = x.flds.length ∧ OwnR w lo hi r.a (r.n * 5) (x.flds.flatMap Fld.cs)
  apart : ∀ (i j : Nat) (r s : ShR) (g : Nat), rs[i]? = some r → rs[j]? = some s → i ≠ j → r.n ≠ 0 → s.n ≠ 0 → r.a = some ⟨g, 0, none⟩ → s.a ≠ some ⟨g, 0, none⟩
  off : ∀ (i : Nat) (r : ShR) (g : Nat), rs[i]? = some r → r.n ≠ 0 → a = some ⟨g, 0, none⟩ → r.a ≠ some ⟨g, 0, none⟩
def ShBlk (a : Option Addr) (n : Nat) (rs : List ShR) (b : Nat) : Prop := n ≠ 0 ∧ a = some ⟨b, 0, none⟩ ∨ ∃ (i : Nat) (r : ShR), rs[i]? = some r ∧ r.n ≠ 0 ∧ r.a = some ⟨b, 0, none⟩
section
variable {w w' : World} {lo hi n : Nat} {a : Option Addr} {rs : List ShR} {xs : List Shp}
theorem OwnSh.at (h : OwnSh w lo hi a n rs xs) {k : Nat} (hk : k < n) : ∃ r x, rs[k]? = some r ∧ xs[k]? = some x :=
  ⟨_, _, List.getElem?_eq_getElem (by rw [h.len]; exact hk), List.getElem?_eq_getElem (by rw [h.lenx]; exact hk)⟩
theorem OwnSh.shs (h : OwnSh w lo hi a n rs xs) : Shs w a xs := by
  intro k x hx
  have hk : k < n := by
    rcases Nat.lt_or_ge k xs.length with h' | h'
    · rw [← h.lenx]; exact h'
    · rw [List.getElem?_eq_none h'] at hx; simp at hx
  obtain ⟨r, x', hr, hx'⟩ := h.at hk
  rw [hx] at hx'; simp at hx'; subst hx'
  obtain ⟨e1, e2, e3⟩ := h.each k r x hr hx
  obtain ⟨b, off, ha, hlt, hc⟩ := OwnR.slK (by omega) shR_len h.outer k r hr
  have c0 := hc 0 _ rfl
  have c1 := hc 1 _ rfl
  rw [e1] at c0
  rw [e2] at c1
  exact ⟨b, off, r.a, r.cap, ha, hlt, c0, c1, by rw [e2] at e3; exact OwnR.slK (by omega) fld_len e3⟩
theorem OwnSh.chgB (h : OwnSh w lo hi a n rs xs) {g e : Nat} (hc : Chg g e w w') (hd : ∀ b, ShBlk a n rs b → b < g ∨ e ≤ b) : OwnSh w' lo hi a n rs xs where
  le := h.le
  len := h.len
  lenx := h.lenx
  outer := h.outer.chg1 hc fun b hb hn => hd b (.inl ⟨by omega, hb⟩)
  each k r x hr hx := ⟨(h.each k r x hr hx).1, (h.each k r x hr hx).2.1, (h.each k r x hr hx).2.2.chg1 hc fun b hb hn => hd b (.inr ⟨k, r, hr, by omega, hb⟩)⟩
  apart := h.apart
  off := h.off
theorem OwnSh.blk (h : OwnSh w lo hi a n rs xs) {b : Nat} (hb : ShBlk a n rs b) : lo ≤ b ∧ b < hi := by
  rcases hb with ⟨hn, ha⟩ | ⟨i, r, hr, hn, ha⟩
  · rcases h.outer.own with h0 | ⟨g, hg, h1, h2, _⟩
    · omega
    · rw [hg] at ha; simp at ha; subst ha; exact ⟨h1, h2⟩
  · have hi' : i < n := by
      rcases Nat.lt_or_ge i rs.length with h' | h'
      · rw [← h.len]; exact h'
      · rw [List.getElem?_eq_none h'] at hr; simp at hr
    obtain ⟨x, hx⟩ : ∃ x, xs[i]? = some x := ⟨_, List.getElem?_eq_getElem (by rw [h.lenx]; exact hi')⟩
    rcases (h.each i r x hr hx).2.2.own with h0 | ⟨g, hg, h1, h2, _⟩
    · omega
    · rw [hg] at ha; simp at ha; subst ha; exact ⟨h1, h2⟩
theorem OwnSh.chg (h : OwnSh w lo hi a n rs xs) {lo' hi' : Nat} (hc : Chg lo' hi' w w') (hd : hi ≤ lo' ∨ hi' ≤ lo) : OwnSh w' lo hi a n rs xs :=
  h.chgB hc fun b hb => by have := h.blk hb; omega
theorem OwnSh.keep (h : OwnSh w lo hi a n rs xs) (hb : Below w.heap.size w w') : OwnSh w' lo hi a n rs xs :=
  h.chg (Chg.of_below (lo := hi) (hi := hi) hb) (.inl (Nat.le_refl _))
end
theorem shr_set : ∀ (rs : List ShR) (k : Nat) (r : ShR) (q : Int), rs[k]? = some r → (rs.flatMap ShR.cs).set (k * 2) (.int .i64 q) = (rs.set k ⟨q, r.a, r.n, r.cap⟩).flatMap ShR.cs
  | [], k, r, q, h => by simp at h
  | s :: rs, 0, r, q, h => by simp at h; subst h; simp [List.flatMap_cons]
  | s :: rs, k + 1, r, q, h => by
    have ih := shr_set rs k r q (by simpa using h)
    rw [show (k + 1) * 2 = k * 2 + 1 + 1 by omega]
    simp only [List.flatMap_cons, List.cons_append, List.nil_append, List.set_cons_succ, ih]
theorem OwnSh.put {w w2 : World} {lo hi g n k g1 e1 : Nat} {rs : List ShR} {xs : List Shp} {r : ShR} {x : Shp} {q : Int} {ys : List Fld} (h : OwnSh w lo hi (some ⟨g, 0, none⟩) n rs xs) (hk : k < n) (hr : rs[k]? = some r) (hx : xs[k]? = some x)
    (ho : OwnR w2 g1 e1 r.a (r.n * 5) (ys.flatMap Fld.cs)) (hy : ys.length = r.n) (hc : Chg g1 e1 (w.setCell ⟨g, k * 2, none⟩ (.int .i64 q)) w2) (h1 : lo ≤ g1) (h2 : e1 ≤ hi) (hp : r.n = 0 ∧ e1 = g1 ∨ r.n ≠ 0 ∧ e1 = g1 + 1 ∧ r.a = some ⟨g1, 0, none⟩) :
    OwnSh w2 lo hi (some ⟨g, 0, none⟩) n (rs.set k ⟨q, r.a, r.n, r.cap⟩) (xs.set k ⟨q, ys⟩) := by
  have hset : Chg g (g + 1) w (w.setCell ⟨g, k * 2, none⟩ (.int .i64 q)) := Chg.setCell (Nat.le_refl _) (by omega) _
  have hrs : ∀ (i : Nat) (s : ShR), (rs.set k ⟨q, r.a, r.n, r.cap⟩)[i]? = some s → ∃ s', rs[i]? = some s' ∧ s.a = s'.a ∧ s.n = s'.n ∧ (i = k → s = ⟨q, r.a, r.n, r.cap⟩) ∧ (i ≠ k → s = s') := by
    intro i s hs
    rw [List.getElem?_set] at hs
    by_cases hik : k = i
    · subst hik
      rw [if_pos rfl, if_pos (by rw [h.len]; exact hk)] at hs
      simp at hs; subst hs
      exact ⟨r, hr, rfl, rfl, fun _ => rfl, fun hh => absurd rfl hh⟩
    · rw [if_neg hik] at hs
      exact ⟨s, hs, rfl, rfl, fun hh => absurd hh.symm hik, fun _ => rfl⟩
  refine ⟨h.le, by rw [List.length_set, h.len], by rw [List.length_set, h.lenx], ?_, ?_, ?_, ?_⟩
  · rw [← shr_set rs k r q hr]
    refine (h.outer.store (j := k * 2) (by omega) _).chg1 hc fun b hb hn => ?_
    simp at hb; subst hb
    rcases hp with ⟨_, hp⟩ | ⟨hp0, hp1, hp2⟩
    · omega
    · have := h.off k r g hr hp0 rfl
      by_cases hgg : g = g1
      · subst hgg; exact absurd hp2 this
      · omega
  · intro i s y hs hyy
    obtain ⟨s', hs', e1', e2', e3', e4'⟩ := hrs i s hs
    rw [List.getElem?_set] at hyy
    by_cases hik : k = i
    · subst hik
      rw [if_pos rfl, if_pos (by rw [h.lenx]; exact hk)] at hyy
      simp at hyy; subst hyy
      have e := e3' rfl
      subst e
      exact ⟨rfl, hy.symm, ho.widen h1 h2⟩
    · rw [if_neg hik] at hyy
      have e := e4' (fun hh => hik hh.symm)
      subst e
      obtain ⟨f1, f2, f3⟩ := h.each i s y hs' hyy
      refine ⟨f1, f2, (f3.chg1 hset fun b hb hn => ?_).chg1 hc fun b hb hn => ?_⟩
      · have := h.off i s b hs' (by omega)
        by_cases hbg : b = g
        · subst hbg; exact absurd hb (this rfl)
        · omega
      · rcases hp with ⟨_, hp⟩ | ⟨hp0, hp1, hp2⟩
        · omega
        · by_cases hbg : b = g1
          · subst hbg; exact absurd hp2 (h.apart i k s r b hs' hr (fun hh => hik hh.symm) (by omega) hp0 hb)
          · omega
  · intro i j s t b hs ht hij hn hn' ha
    obtain ⟨s', hs', f1, f2, _⟩ := hrs i s hs
    obtain ⟨t', ht', f3, f4, _⟩ := hrs j t ht
    rw [f3]
    exact h.apart i j s' t' b hs' ht' hij (by rw [← f2]; exact hn) (by rw [← f4]; exact hn') (by rw [← f1]; exact ha)
  · intro i s b hs hn ha
    obtain ⟨s', hs', f1, f2, _⟩ := hrs i s hs
    rw [f1]
    exact h.off i s' b hs' (by rw [← f2]; exact hn) ha
def kS (k : Nat) (xs : List Shp) (i : Nat) : Nat := k + i + 5 * fldSum (xs.take i)
structure ChgB (P : Nat → Prop) (w w' : World) : Prop where
  os : w'.os = w.os
  tape : w'.tape = w.tape
  output : w'.output = w.output
  size : w.heap.size ≤ w'.heap.size
  block : ∀ k, k < w.heap.size → ¬ P k → w'.heap[k]? = w.heap[k]?
theorem ChgB.refl (P : Nat → Prop) (w : World) : ChgB P w w := ⟨rfl, rfl, rfl, Nat.le_refl _, fun _ _ _ => rfl⟩
theorem ChgB.trans {P : Nat → Prop} {a b c : World} (h : ChgB P a b) (k : ChgB P b c) : ChgB P a c :=
  ⟨k.os.trans h.os, k.tape.trans h.tape, k.output.trans h.output, Nat.le_trans h.size k.size, fun i hi' ho => (k.block i (Nat.lt_of_lt_of_le hi' h.size) ho).trans (h.block i hi' ho)⟩
theorem OwnR.chgB {P : Nat → Prop} {w w' : World} {lo hi n : Nat} {a : Option Addr} {L : List Value} (h : OwnR w lo hi a n L) (hc : ChgB P w w') (hd : ∀ b, a = some ⟨b, 0, none⟩ → n ≠ 0 → ¬ P b) : OwnR w' lo hi a n L := by
  refine ⟨h.len, ?_⟩
  by_cases hn : n = 0
  · exact .inl hn
  rcases h.own with h0 | ⟨b, ha, h1, h2, h3, h4, h5⟩
  · exact .inl h0
  · have hb := hc.block b h3 (hd b ha hn)
    exact .inr ⟨b, ha, h1, h2, Nat.lt_of_lt_of_le h3 hc.size, fun j u hu => (World.cell?_of_block (a := ⟨b, j, none⟩) hb).trans (h4 j u hu), fun j => (World.frozen?_of_block (a := ⟨b, j, none⟩) hb).trans (h5 j)⟩
def SameR (rs rs' : List ShR) : Prop := ∀ (i : Nat) (r' : ShR), rs'[i]? = some r' → ∃ r, rs[i]? = some r ∧ r'.a = r.a ∧ r'.n = r.n
theorem SameR.refl (rs : List ShR) : SameR rs rs := fun i r h => ⟨r, h, rfl, rfl⟩
theorem SameR.blk {rs rs' : List ShR} (h : SameR rs rs') {a : Option Addr} {n b : Nat} (hb : ShBlk a n rs' b) : ShBlk a n rs b := by
  rcases hb with hb | ⟨i, r, hr, hn, ha⟩
  · exact .inl hb
  · obtain ⟨r0, h0, h1, h2⟩ := h i r hr
    exact .inr ⟨i, r0, h0, by omega, by rw [← h1]; exact ha⟩
theorem SameR.set {rs rs' : List ShR} (h : SameR rs rs') {k : Nat} {r : ShR} (hr : rs'[k]? = some r) (q : Int) : SameR rs (rs'.set k ⟨q, r.a, r.n, r.cap⟩) := by
  intro i s hs
  rw [List.getElem?_set] at hs
  by_cases hik : k = i
  · subst hik
    rw [if_pos rfl] at hs
    split at hs
    · simp at hs; subst hs
      obtain ⟨r0, h0, h1, h2⟩ := h k r hr
      exact ⟨r0, h0, h1, h2⟩
    · simp at hs
  · rw [if_neg hik] at hs
    exact h i s hs
theorem own_sh {w : World} {base n size : Nat} {t : TypeId} {v : Value} {L : List Value} (h : w.ownsRow base t size v n L) : ∃ a cap, v = .slice a n cap ∧ w.ownsRow base t size (.slice a n cap) n L := by
  rcases h.2 with ⟨rfl, h0⟩ | ⟨g, cap', cur, rfl, _⟩
  · subst h0; exact ⟨none, 0, rfl, h⟩
  · exact ⟨_, _, rfl, h⟩
def ShsC (w : World) (a : Option Addr) (xs : List Shp) : Prop :=
  ∀ (k : Nat) (x : Shp), xs[k]? = some x → ∃ b off a' cap', a = some ⟨b, off, none⟩ ∧ b < w.heap.size ∧ w.cell? ⟨b, off + k * 2, none⟩ = some (.int .i64 x.id) ∧ w.cell? ⟨b, off + k * 2 + 1, none⟩ = some (.slice a' x.flds.length cap') ∧ Flds w a' x.flds ∧ (a' = none → cap' = 0)
theorem ShsC.shs {w : World} {a : Option Addr} {xs : List Shp} (h : ShsC w a xs) : Shs w a xs := fun k x hx => by
  obtain ⟨b, off, a', cap', h1, h2, h3, h4, h5, _⟩ := h k x hx
  exact ⟨b, off, a', cap', h1, h2, h3, h4, h5⟩
theorem ShsC.keep {w w' : World} {a : Option Addr} {xs : List Shp} (h : ShsC w a xs) (hb : Below w.heap.size w w') : ShsC w' a xs := fun k x hx => by
  obtain ⟨b, off, a', cap', h1, h2, h3, h4, h5, h6⟩ := h k x hx
  exact ⟨b, off, a', cap', h1, Nat.lt_of_lt_of_le h2 hb.size, (hb.cell (p := ⟨b, _, none⟩) h2).trans h3, (hb.cell (p := ⟨b, _, none⟩) h2).trans h4, Sl.keep h5 hb, h6⟩
theorem OwnShs.push {w w' : World} {base n : Nat} {T TF : TypeId} {v v' : Value} {rs : List ShR} {xs : List Shp} {r : ShR} {x : Shp} (h : OwnShs w base T TF v n rs xs) (hne : T ≠ TF) (hr : RowIs w base TF r x)
    (hf : ∀ (i : Nat) (s : ShR), rs[i]? = some s → ∀ g, (Value.slice s.a s.n s.cap).ownBlock = some g → (Value.slice r.a r.n r.cap).ownBlock ≠ some g)
    (ho : w'.ownsRow base T 2 v' (n + 1) (rs.flatMap ShR.cs ++ r.cs)) (hg : w.grownBy w' v.ownBlock) : OwnShs w' base T TF v' (n + 1) (rs ++ [r]) (xs ++ [x]) := by
  have keep : ∀ (s : ShR) (y : Shp), RowIs w base TF s y → RowIs w' base TF s y := by
    intro s y hs
    refine ⟨hs.1, hs.2.1, hs.2.2.kept hg ?_⟩
    cases hb : (Value.slice s.a s.n s.cap).ownBlock with
    | none => exact .inl rfl
    | some g =>
      refine .inr (fun hv => ?_)
      obtain ⟨a0, cap0, rfl, ho0⟩ := own_sh h.outer
      rcases hs.2.2.2 with ⟨e, _⟩ | ⟨g', c', cur, e, _, hh, _⟩
      · rw [e] at hb; simp [Value.ownBlock] at hb
      · rcases ho0.2 with ⟨e2, _⟩ | ⟨g2, c2, cur2, e2, _, hh2, _⟩
        · rw [e2] at hv; simp [Value.ownBlock] at hv
        · rw [e] at hb; rw [e2] at hv
          simp only [Value.ownBlock, Option.some.injEq] at hb hv
          subst hb
          rw [← hv, hh] at hh2
          simp only [Option.some.injEq, Obj.cells.injEq] at hh2
          exact hne hh2.2.1.symm
  refine ⟨by simp [h.len], by simp [h.lenx], by rw [List.flatMap_append]; simpa using ho, ?_, h.apart.snoc hf⟩
  intro k s y hs hy
  rcases Nat.lt_trichotomy k n with hk | hk | hk
  · rw [List.getElem?_append_left (by rw [h.len]; exact hk)] at hs
    rw [List.getElem?_append_left (by rw [h.lenx]; exact hk)] at hy
    exact keep s y (h.each k s y hs hy)
  · rw [List.getElem?_append_right (by rw [h.len]; omega), h.len, hk] at hs
    rw [List.getElem?_append_right (by rw [h.lenx]; omega), h.lenx, hk] at hy
    simp at hs hy; subst hs; subst hy
    exact keep _ _ hr
  · rw [List.getElem?_eq_none (by simp [h.len]; omega)] at hs; simp at hs
theorem OwnShs.nil (w : World) (base : Nat) (T TF : TypeId) : OwnShs w base T TF (.slice none 0 0) 0 [] [] :=
  ⟨rfl, rfl, World.ownsRow_nil _ _ _ _, fun k r x h => by simp at h, Apart.nil⟩
section
variable {P : Program} {ops : Array Oper} {Q : Exit → Act → World → Prop} {md : Region.Mode} {S : World → Prop} {D : Nat → Bool}
def wpTill (P : Program) (md : Region.Mode) (ops : Array Oper) (Q : Exit → Act → World → Prop) (S : World → Prop) (D : Nat → Bool) : Nat → Array Bool → Act → World → Prop
  | 0, listed, a, w => Region.ready md ops listed = [] ∧ Q .normal a w
  | f + 1, listed, a, w => (Region.ready md ops listed = [] → Q .normal a w) ∧
      ∀ i ∈ Region.ready md ops listed, wpOp P ops Q i (fun a' w' => (D i = false → S w') ∧ wpTill P md ops Q S D f (listed.setIfInBounds i true) a' w') a w
theorem wpTill_any : ∀ (f : Nat) (listed : Array Bool) (a : Act) (w : World), wpTill P md ops Q S D f listed a w → wpAny P md ops Q f listed a w
  | 0, _, _, _, h => h
  | f + 1, _, _, _, h => ⟨h.1, fun i hi => wpOp_mono (fun a' w' g => wpTill_any f _ a' w' g.2) (h.2 i hi)⟩
theorem ready_nowait {listed : Array Bool} {i j : Nat} {oj : Oper} (hi : i ∈ Region.ready md ops listed) (hj : j ∈ Region.ready md ops listed) (hoj : ops[j]? = some oj) : ∀ e ∈ oj.after, Region.binds md e = true → e.on ≠ i := by
  intro e he hb heq
  obtain ⟨_, o, ho, hall⟩ := mem_ready.1 hj
  rw [hoj] at ho
  obtain rfl := Option.some.inj ho
  have h1 := hall e he hb
  have h0 := (mem_ready.1 hi).1
  rw [heq] at h1
  rcases Nat.lt_or_ge i listed.size with h' | h'
  · simp [h'] at h0 h1; rw [h0] at h1; cases h1
  · simp [Array.getElem?_eq_none h'] at h1
def waits (md : Region.Mode) (ops : Array Oper) (D : Nat → Bool) (i : Nat) : Bool :=
  (List.range ops.size).all fun j => !D j || (match ops[j]? with | some o => o.after.any fun e => Region.binds md e && e.on == i | none => true)
theorem waits_spec {i j : Nat} {oj : Oper} (h : waits md ops D i = true) (hoj : ops[j]? = some oj) (hD : D j = true) : ∃ e ∈ oj.after, Region.binds md e = true ∧ e.on = i := by
  have hj : j < ops.size := by
    rcases Nat.lt_or_ge j ops.size with h' | h'
    · exact h'
    · rw [Array.getElem?_eq_none h'] at hoj; cases hoj
  have h1 := List.all_eq_true.1 h j (List.mem_range.2 hj)
  rw [hD, hoj] at h1
  simp only [Bool.not_true, Bool.false_or, Array.any_eq_true', Bool.and_eq_true, beq_iff_eq] at h1
  exact h1
theorem wpTill_first {i : Nat} {oi : Oper} {v : Value} (hi : ops[i]? = some oi) (hsel : ∀ (j : Nat) (o : Oper) cs b, ops[j]? = some o → o.op ≠ .select cs b)
    (hQ : ∀ c a w, Q (.panic c) (a.put oi.dst v) w → Q (.panic c) a w) (hw : waits md ops D i = true) :
    ∀ (f : Nat) (listed : Array Bool) (a : Act) (w : World),
      (∀ j oj, ops[j]? = some oj → j ≠ i → listed.getD j true = false → (∀ e ∈ oj.after, Region.binds md e = true → e.on ≠ i) → oi.apart ops oj = true) →
      i ∈ Region.ready md ops listed → YieldsIf P ops S oi v a → S w →
      wpTill P md ops Q S D f (listed.setIfInBounds i true) (a.put oi.dst v) w → wpTill P md ops Q S D (f + 1) listed a w := by
  intro f
  induction f with
  | zero =>
    intro listed a w _ hr hy hS H
    refine ⟨fun h => (by rw [h] at hr; cases hr), fun j hj => ?_⟩
    by_cases hji : j = i
    · subst hji; exact hy.wpOp hi hS ⟨fun _ => hS, H⟩
    · have := ready_mono hj hji
      rw [H.1] at this; cases this
  | succ f ih =>
    intro listed a w hfree hr hy hS H
    refine ⟨fun h => (by rw [h] at hr; cases hr), fun j hj => ?_⟩
    by_cases hji : j = i
    · subst hji; exact hy.wpOp hi hS ⟨fun _ => hS, H⟩
    · have h1 := H.2 j (ready_mono hj hji)
      obtain ⟨hun, oj, hoj, _⟩ := mem_ready.1 hj
      have hno := ready_nowait hr hj hoj
      have hDj : D j = false := by
        cases hd : D j with
        | false => rfl
        | true =>
          obtain ⟨e, he, hb, ho⟩ := waits_spec hw hoj hd
          exact absurd ho (hno e he hb)
      have h2 := wpOp_putIf hoj (hfree j oj hoj hji hun hno) (fun cs b => hsel i oi cs b hi) (fun cs b => hsel j oj cs b hoj) hQ hy h1
      refine wpOp_mono (fun a' w' g => ⟨g.2.1, ih (listed.setIfInBounds j true) a' w' ?_ (ready_mono hr (Ne.symm hji)) g.1 (g.2.1 hDj) ?_⟩) h2
      · intro k ok hk hki hunk hnok
        refine hfree k ok hk hki ?_ hnok
        by_cases hjk : j = k
        · subst hjk; exact hun
        · rw [getD_set_ne true hjk] at hunk; exact hunk
      · rw [Array.setIfInBounds_comm _ _ hji]; exact g.2.2
theorem wpTill_take {i : Nat} {oi : Oper} {v : Value} {f : Nat} {listed : Array Bool} {a : Act} {w : World} (hi : ops[i]? = some oi)
    (hs : Region.noSelect ops = true) (hf : Region.free md ops listed i = true) (hr : (Region.ready md ops listed).contains i = true) (hw : waits md ops D i = true)
    (hQ : ∀ c a w, Q (.panic c) (a.put oi.dst v) w → Q (.panic c) a w) (hy : YieldsIf P ops S oi v a) (hS : S w)
    (h : wpTill P md ops Q S D f (listed.setIfInBounds i true) (a.put oi.dst v) w) : wpTill P md ops Q S D (f + 1) listed a w :=
  wpTill_first hi (Region.noSelect_spec hs) hQ hw f listed a w (Region.free_spec hi hf) (by simpa using hr) hy hS h
theorem wpTill_op {i : Nat} {o : Oper} {f : Nat} {listed : Array Bool} {a : Act} {w : World} (hr : Region.ready md ops listed = [i]) (ho : ops[i]? = some o)
    (h : ∀ K' : Act → World → Prop, Shut (∀ a w, (D i = false → S w) → wpTill P md ops Q S D f (listed.setIfInBounds i true) a w → K' a w) → if Region.wanted o (yielded ops a.tmps) = true then Oper.wp P o a w K' Q else K' (a.put o.dst undef) w) :
    wpTill P md ops Q S D (f + 1) listed a w :=
  ⟨fun h0 => (by rw [hr] at h0; cases h0), fun j hj => by
    rw [hr] at hj
    rcases List.mem_cons.1 hj with rfl | hj
    · exact wpOp_step ho (fun K' hK => h K' (fun a w hS hW => hK a w ⟨hS, hW⟩))
    · cases hj⟩
theorem wpTill_done {listed : Array Bool} {a : Act} {w : World} (hr : Region.ready md ops listed = []) (h : Q .normal a w) : ∀ f, wpTill P md ops Q S D f listed a w
  | 0 => ⟨hr, h⟩
  | _ + 1 => ⟨fun _ => h, by rw [hr]; simp⟩
theorem wp_region_till {id : Nat} {a : Act} {w : World} (S : World → Prop) (D : Nat → Bool) (hm : P.follows .mixedOrders = true)
    (h : wpTill P .any ops Q S D ops.size (Array.replicate ops.size false) a w.drew) : (Code.region id ops true).wp P Q a w :=
  wp_region_any hm (wpTill_any _ _ _ _ h)
theorem step_append_own {o : Oper} {a : Act} {w : World} {K : Act → World → Prop} {E : Prop} (hgd : o.guard = none) (s x : Operand) (t : TypeId)
    (ho : o.op = .call { callee := .builtin .append, args := #[s, x], argTypes := #[t, t] })
    (base : Nat) (e : TypeId) (i : TypeInfo) (z : Value) (size bytes : Nat) (ht : P.underlying t = some (.slice e)) (hi : P.info? e = some i) (hz : i.zero = some z)
    (hsize : i.size = size) (hby : i.bytes = bytes) (hzs : z.cells.size = size) (hsz : 0 < size)
    (v : Value) (n : Nat) (xs : List Value) (hs : a.eval s = v) (hown : w.ownsRow base e size v n xs)
    (ad : Addr) (m c : Nat) (news : List Value) (hx : a.eval x = .slice (some ad) m c) (hl : news.length = m * size) (hnews : ∀ j u, news[j]? = some u → w.cell? (ad.add j) = some u) (h1 : ∀ u ∈ news, u.oneCell' = true)
    (h63 : n + m ≤ maxLen) (hbytes : (n + m) * bytes ≤ 140737488355328) (hbase : base ≤ w.heap.size)
    (h : ∀ v' w', w'.ownsRow base e size v' (n + m) (xs ++ news) → w.grownBy w' v.ownBlock → (v' = .slice none 0 0 ↔ v = .slice none 0 0 ∧ m = 0) → K (a.put o.dst v') w') :
    if Region.wanted o (yielded ops a.tmps) = true then Oper.wp P o a w K Q else E := by
  have hw : Region.wanted o (yielded ops a.tmps) = true := by simp [Region.wanted, hgd]
  rw [if_pos hw]
  exact wp_append_own w s x t ho base e i z size bytes ht hi hz hsize hby hzs hsz v n xs hs hown ad m c news hx hl hnews h1 h63 hbytes hbase fun v' w' h2 h3 h4 => h v' w' h2 h3 h4
end
def Cells (l : List (Addr × Value)) (w : World) : Prop := ∀ q ∈ l, w.cell? q.1 = some q.2
theorem cells_nil (w : World) : Cells [] w ↔ True := by simp [Cells]
theorem cells_cons (q : Addr × Value) (l : List (Addr × Value)) (w : World) : Cells (q :: l) w ↔ w.cell? q.1 = some q.2 ∧ Cells l w := by simp [Cells]
theorem cells_mk {q : Addr} {v : Value} {l : List (Addr × Value)} {w : World} (h : w.cell? q = some v) (h' : Cells l w) : Cells ((q, v) :: l) w := (cells_cons _ _ _).2 ⟨h, h'⟩
theorem cells_no (w : World) : Cells [] w := (cells_nil w).2 trivial
theorem cell_alloc {w : World} {p : Addr} {v : Value} (o : Obj) (h : w.cell? p = some v) : (w.alloc o).cell? p = some v := by rw [World.cell?_alloc_some w p o (by rw [h]; rfl)]; exact h
theorem cell_grown {w w' : World} {p : Addr} {v : Value} {row : Option Nat} (hg : w.grownBy w' row) (h : w.cell? p = some v) (hne : row ≠ some p.block) : w'.cell? p = some v := by
  rw [World.cell?_of_block (a := p) (hg.block p.block (World.block_lt_of_cell? w _ h) (fun e => hne e.symm))]; exact h
theorem Cells.drew {l : List (Addr × Value)} {w : World} (h : Cells l w) : Cells l w.drew := fun q hq => h q hq
theorem Cells.alloc {l : List (Addr × Value)} {w : World} (h : Cells l w) (o : Obj) : Cells l (w.alloc o) := fun q hq => cell_alloc o (h q hq)
theorem Cells.below {l : List (Addr × Value)} {w w' : World} (h : Cells l w) (hb : Below w.heap.size w w') : Cells l w' := fun q hq => (hb.cell (World.block_lt_of_cell? w _ (h q hq))).trans (h q hq)
theorem Cells.grown {l : List (Addr × Value)} {w w' : World} {row : Option Nat} (h : Cells l w) (hg : w.grownBy w' row) (hr : ∀ q ∈ l, row ≠ some q.1.block) : Cells l w' := fun q hq => cell_grown hg (h q hq) (hr q hq)
theorem fresh_apart {w w1 : World} {base base1 n : Nat} {T TF : TypeId} {v : Value} {rs : List ShR} {xs : List Shp} {r : ShR} {L : List Value} (h : OwnShs w base T TF v n rs xs) (hb : w.heap.size ≤ base1) (hr : w1.ownsRow base1 TF 5 (.slice r.a r.n r.cap) r.n L) :
    ∀ (i : Nat) (s : ShR), rs[i]? = some s → ∀ g, (Value.slice s.a s.n s.cap).ownBlock = some g → (Value.slice r.a r.n r.cap).ownBlock ≠ some g := by
  intro i s hs g hg hrg
  have hi : i < n := by
    rcases Nat.lt_or_ge i rs.length with h' | h'
    · rw [← h.len]; exact h'
    · rw [List.getElem?_eq_none h'] at hs; simp at hs
  obtain ⟨x, hx⟩ : ∃ x, xs[i]? = some x := ⟨_, List.getElem?_eq_getElem (by rw [h.lenx]; exact hi)⟩
  have h1 := ((h.each i s x hs hx).2.2.lt g hg).2
  have h2 := (hr.lt g hrg).1
  omega
theorem OwnShs.alloc {w : World} {base n : Nat} {T TF : TypeId} {v : Value} {rs : List ShR} {xs : List Shp} (h : OwnShs w base T TF v n rs xs) (o : Obj) : OwnShs (w.alloc o) base T TF v n rs xs := OwnShs.below h (Below.refl _ _ |>.alloc (Nat.le_refl _) o) (Nat.le_refl _)
theorem RowIs.alloc {w : World} {base : Nat} {TF : TypeId} {r : ShR} {x : Shp} (h : RowIs w base TF r x) (o : Obj) : RowIs (w.alloc o) base TF r x := ⟨h.1, h.2.1, h.2.2.alloc o⟩
theorem OwnShs.drew {w : World} {base n : Nat} {T TF : TypeId} {v : Value} {rs : List ShR} {xs : List Shp} (h : OwnShs w base T TF v n rs xs) : OwnShs w.drew base T TF v n rs xs := OwnShs.below h (Below.refl _ _).drew (Nat.le_refl _)
theorem below_grown {B : Nat} {w0 w w' : World} {row : Option Nat} (hb : Below B w0 w) (hg : w.grownBy w' row) (hr : ∀ g, row = some g → B ≤ g) (hB : B ≤ w.heap.size) : Below B w0 w' :=
  hb.trans ⟨hg.os, hg.tape, hg.output, hg.size, fun k hk => hg.block k (by omega) (fun e => by have := hr k e.symm; omega)⟩
def partsL (c : UInt8) : List UInt8 → List (List UInt8)
  | [] => [[]]
  | b :: r => if b = c then [] :: partsL c r else match partsL c r with
    | [] => [[b]]
    | w :: ws => (b :: w) :: ws
theorem partsL_ne (c : UInt8) : ∀ l, partsL c l ≠ []
  | [] => by simp [partsL]
  | b :: r => by
    unfold partsL
    split
    · simp
    · split <;> simp
theorem partsL_free {c : UInt8} : ∀ {l : List UInt8}, (∀ b ∈ l, b ≠ c) → partsL c l = [l]
  | [], _ => rfl
  | b :: r, h => by
    rw [partsL, if_neg (h b (List.mem_cons_self ..)), partsL_free fun x hx => h x (List.mem_cons_of_mem _ hx)]
theorem partsL_cut {c : UInt8} : ∀ {a r : List UInt8}, (∀ b ∈ a, b ≠ c) → partsL c (a ++ c :: r) = a :: partsL c r
  | [], r, _ => by simp [partsL]
  | b :: a, r, h => by
    rw [List.cons_append, partsL, if_neg (h b (List.mem_cons_self ..)), partsL_cut fun x hx => h x (List.mem_cons_of_mem _ hx)]
theorem partsL_len (c : UInt8) : ∀ l, (partsL c l).length ≤ l.length + 1
  | [] => by simp [partsL]
  | b :: r => by
    have := partsL_len c r
    unfold partsL
    split
    · simp; omega
    · split
      · simp
      · rename_i w ws h; rw [h] at this; simp at this ⊢; omega
theorem join_cons2 (x y : List UInt8) (r : List (List UInt8)) (c : UInt8) : Lib.join (x :: y :: r) [c] = x ++ c :: Lib.join (y :: r) [c] := by
  rw [Lib.join_cons, Lib.join_cons]
  simp [Lib.joinTail]
theorem partsL_join {c : UInt8} : ∀ {ws : List (List UInt8)}, ws ≠ [] → (∀ w ∈ ws, ∀ b ∈ w, b ≠ c) → partsL c (Lib.join ws [c]) = ws
  | [], h, _ => absurd rfl h
  | [x], _, h => by rw [Lib.join_one]; exact partsL_free (h x (List.mem_cons_self ..))
  | x :: y :: r, _, h => by
    rw [join_cons2, partsL_cut (h x (List.mem_cons_self ..)), partsL_join (by simp) fun w hw => h w (List.mem_cons_of_mem _ hw)]
theorem index_free {c : UInt8} : ∀ {l : List UInt8}, (∀ b ∈ l, b ≠ c) → Lib.index l [c] = -1
  | [], _ => rfl
  | b :: r, h => by
    have hb := h b (List.mem_cons_self ..)
    have ih := index_free fun x hx => h x (List.mem_cons_of_mem _ hx)
    rw [Lib.index, if_neg (by simp [List.isPrefixOf]; exact fun e => hb e.symm), ih]; try rfl
theorem index_cut {c : UInt8} : ∀ {a r : List UInt8}, (∀ b ∈ a, b ≠ c) → Lib.index (a ++ c :: r) [c] = a.length
  | [], r, _ => by simp [Lib.index, List.isPrefixOf]
  | b :: a, r, h => by
    have hb := h b (List.mem_cons_self ..)
    have ih := index_cut (r := r) fun x hx => h x (List.mem_cons_of_mem _ hx)
    rw [List.cons_append, Lib.index, if_neg (by simp [List.isPrefixOf]; exact fun e => hb e.symm), ih, if_neg (by first | (simp; done) | (simp; omega))]
    try simp
theorem splitK_join {c : UInt8} : ∀ {ws : List (List UInt8)} {k : Nat}, ws ≠ [] → ws.length ≤ k + 1 → (∀ w ∈ ws, ∀ b ∈ w, b ≠ c) → Lib.splitK [c] 0 k (Lib.join ws [c]) = ws
  | [], k, h, _, _ => absurd rfl h
  | [x], 0, _, _, h => by rw [Lib.join_one]; rfl
  | [x], k + 1, _, _, h => by
    rw [Lib.join_one, Lib.splitK, index_free (h x (List.mem_cons_self ..)), if_pos (by rfl)]
  | x :: y :: r, 0, _, hl, h => by simp at hl
  | x :: y :: r, k + 1, _, hl, h => by
    have hx := h x (List.mem_cons_self ..)
    rw [join_cons2, Lib.splitK, index_cut hx, if_neg (by first | (simp; done) | (simp; omega))]
    have e1 : (((x.length : Nat) : Int).toNat + 0) = x.length := by simp
    have e2 : (((x.length : Nat) : Int).toNat + [c].length) = x.length + 1 := by simp
    rw [e1, e2, List.take_left, List.drop_append, List.drop_of_length_le (by omega), List.nil_append, show x.length + 1 - x.length = 1 by omega, List.drop_one, List.tail_cons]
    rw [splitK_join (by simp) (by simp at hl ⊢; omega) fun w hw => h w (List.mem_cons_of_mem _ hw)]
theorem parts_hit {c : UInt8} {l : List UInt8} {f k : Nat} (hf : f ≤ k) (hk : l[k]? = some c) (hfree : ∀ b ∈ (l.drop f).take (k - f), b ≠ c) : partsL c (l.drop f) = (l.drop f).take (k - f) :: partsL c (l.drop (k + 1)) := by
  have hlt := (List.getElem?_eq_some_iff.1 hk).1
  have e : l.drop f = (l.drop f).take (k - f) ++ c :: l.drop (k + 1) := by
    conv => lhs; rw [← List.take_append_drop (k - f) (l.drop f)]
    rw [List.drop_drop, show f + (k - f) = k by omega]
    congr 1
    rw [List.drop_eq_getElem_cons hlt]
    congr 1
    have := List.getElem?_eq_getElem hlt
    rw [hk] at this
    exact (Option.some.inj this).symm
  conv => lhs; rw [e]
  exact partsL_cut hfree
theorem free_snoc {c b : UInt8} {l : List UInt8} {f k : Nat} (hf : f ≤ k) (hk : l[k]? = some b) (hb : b ≠ c) (hfree : ∀ x ∈ (l.drop f).take (k - f), x ≠ c) : ∀ x ∈ (l.drop f).take (k + 1 - f), x ≠ c := by
  rw [show k + 1 - f = (k - f) + 1 by omega, List.take_add_one, List.getElem?_drop, show f + (k - f) = k by omega, hk]
  intro x hx
  rcases List.mem_append.1 hx with h | h
  · exact hfree x h
  · simp at h; subst h; exact hb
theorem info_strP : (Tryz.prog.info? 9).map (fun i => (i.zero, i.size, i.bytes)) = some (some (.string ByteArray.empty), 1, 16) := by kernel_rfl
@[reducible] def strRowP (L : List (List UInt8)) : List Value := L.map fun l => .string (sB l)
theorem extract_bL (s : ByteArray) (a b : Nat) : bL (s.extract a b) = ((bL s).drop a).take (b - a) := by
  simp [bL, ByteArray.data_extract, List.extract_eq_take_drop]
def FreshStrs (w : World) (L : List (List UInt8)) (r : Ending) (w' : World) : Prop :=
  ∃ g cap, r = .returned (.slice (some ⟨g, 0, none⟩) L.length cap) ∧ w'.ownsRow w.heap.size 9 1 (.slice (some ⟨g, 0, none⟩) L.length cap) L.length (strRowP L) ∧ Below w.heap.size w w'
set_option maxRecDepth 100000 in
set_option maxHeartbeats 8000000 in
theorem specParts_any (s : ByteArray) (c : UInt8) (C : Int) (w : World) (hC : C = c.toNat) (hs : s.size ≤ 1048576) :
    Calls Tryz.prog 16 #[.string s, .int .u8 C] w (FreshStrs w (partsL c (bL s))) := by
  obtain ⟨iS, hiS, hs0, hs1, hs2⟩ := info_parts info_strP
  obtain ⟨PL, hPL⟩ : ∃ PL, partsL c (bL s) = PL := ⟨_, rfl⟩
  have hPn : PL ≠ [] := by rw [← hPL]; exact partsL_ne c _
  rw [hPL]
  have HPL := Lib.hid hPL; clear hPL
  subst hC
  obtain ⟨cn, hcn⟩ : ∃ cn, c.toNat = cn := ⟨_, rfl⟩
  rw [hcn]
  have HCN := Lib.hid hcn; clear hcn
  go_enter Tryz.func16, Tryz.ntmps16
  go_wp2_with fail
  go_loopw [5, 6, 7] (fun v fv i wr => ∃ (f k : Nat) (D : List (List UInt8)), f ≤ k ∧ k ≤ s.size + 1 ∧ D.length ≤ k ∧ i = .int .i64 k ∧ fv = .int .i64 f ∧ wr.ownsRow w.heap.size 9 1 v D.length (strRowP D) ∧ Hid ((k ≤ s.size ∧ PL = D ++ partsL c ((bL s).drop f) ∧ ∀ x ∈ ((bL s).drop f).take (k - f), x ≠ c) ∨ (k = s.size + 1 ∧ PL = D)) ∧ Below w.heap.size w wr) (fun _ _ i _ => s.size + 1 - (intOf i).toNat)
  case atStart => exact ⟨0, 0, [], Nat.le_refl _, by omega, Nat.le_refl _, rfl, rfl, ⟨by simp [strRowP], .inr ⟨w.heap.size, 0, #[], rfl, Nat.le_refl _, heap_nth0 w _, Nat.le_refl _, Nat.zero_le _, rfl, rfl⟩⟩, Lib.hid (.inl ⟨by omega, by simpa using HPL.out.symm, by simp⟩), by ((repeat (first | (with_reducible exact Below.refl _ _) | (with_reducible assumption) | (with_reducible refine Below.alloc ?_ ?_ _) | (with_reducible refine Below.setCell ?_ ?_ _) | (with_reducible refine Below.drew ?_) | (with_reducible refine below_setRow ?_ ?_ _) | (refine Below.trans ?_ (Below.mono (by assumption) ?_)))); all_goals (first | omega | (simp; done) | (simp; omega)))⟩
  case round =>
    obtain ⟨f, k, D, hfk, hk, hDk, rfl, rfl, ho, HR, hb⟩ := hrel
    have hz := hb.size
    have HO := Lib.hid ho; clear ho
    by_cases hle : k ≤ s.size
    · have hR : PL = D ++ partsL c ((bL s).drop f) ∧ ∀ x ∈ ((bL s).drop f).take (k - f), x ≠ c := by
        rcases HR.out with h | h
        · exact h.2
        · omega
      obtain ⟨hR1, hR2⟩ := hR
      have HR1 := Lib.hid hR1; have HR2 := Lib.hid hR2; clear hR1 hR2 HR
      by_cases hend : k = s.size
      · have hext : bL (s.extract f k) = (bL s).drop f := by rw [extract_bL, List.take_of_length_le (by rw [List.length_drop, bL_len]; omega)]
        have hnew : PL = D ++ [bL (s.extract f k)] := by
          rw [HR1.out, hext, partsL_free]
          have := HR2.out
          rwa [List.take_of_length_le (by rw [List.length_drop, bL_len]; omega)] at this
        subst hend
        obtain ⟨E, hE⟩ : ∃ E, s.extract f s.size = E := ⟨_, rfl⟩
        rw [hE] at hnew
        have HNEW := Lib.hid hnew; clear hnew hext
        have hsb : E = sB (bL E) := str_of_bL E
        have HSB := Lib.hid hsb; clear hsb
        have HA := Lib.hid (World.ownsRow.alloc HO.out (.cells #[.string E] 9 (0, 0)))
        go_wp2_with (first | (at_builtin; refine wpList_append_lies _ rfl _ _ 36 rfl w.heap.size 9 iS _ 1 16 Tryz.underlying36 hiS hs0 hs1 hs2 rfl (by decide) _ D.length (strRowP D) rfl HA.out ⟨wr.heap.size, 0, none⟩ 1 1 [.string E] rfl rfl (World.news_of_block (cs := #[.string E]) (t := 9) (fr := (0, 0)) (hset_new rfl)) (by simp [Value.oneCell']) (by omega) (by unfold maxLen; omega) (by omega) (by simp; omega) _ rfl ?_; intro gn capn w11 hown11 hgr11 hat11 hlt11; have hgb : Below w.heap.size wr w11 := below_grown ((Below.refl _ _).alloc (by omega) _) hgr11 (fun b e => (HA.out.lt b e).1) (by simp; omega); have HO11 := Lib.hid hown11; clear hown11 hgr11 hat11))
        have hrow : strRowP D ++ [.string E] = strRowP (D ++ [bL E]) := by rw [strRowP, strRowP, List.map_append, List.map_cons, List.map_nil, ← HSB.out]
        have hDl : (D ++ [bL E]).length = D.length + 1 := by simp
        rw [hrow] at HO11
        go_roundw
        case rel => exact ⟨s.size + 1, s.size + 1, D ++ [bL E], Nat.le_refl _, by omega, by rw [hDl]; omega, by go_num, by go_num, (by rw [hDl]; exact HO11.out), Lib.hid (.inr ⟨rfl, HNEW.out⟩), hb.trans (hgb.mono (Nat.le_refl _))⟩
        case measure => first | (simp [intOf]; done) | (simp [intOf]; omega)
      · have hlt : k < s.size := by omega
        have hat := bL_at hlt
        obtain ⟨bv, hbv⟩ : ∃ bv : Nat, (s[k]'hlt).toNat = bv := ⟨_, rfl⟩
        have hke : ¬ k = s.size := hend
        by_cases hbc : bv = cn
        · have hc : s[k]'hlt = c := UInt8.toNat_inj.1 (by rw [hbv, hbc, HCN.out])
          rw [hc] at hat
          have hnew : PL = D ++ [bL (s.extract f k)] ++ partsL c ((bL s).drop (k + 1)) := by
            rw [HR1.out, parts_hit hfk hat HR2.out, extract_bL]; simp
          subst hbc
          obtain ⟨E, hE⟩ : ∃ E, s.extract f k = E := ⟨_, rfl⟩
          rw [hE] at hnew
          have HNEW := Lib.hid hnew; clear hnew hat hc
          have hsb : E = sB (bL E) := str_of_bL E
          have HSB := Lib.hid hsb; clear hsb
          have HA := Lib.hid (World.ownsRow.alloc HO.out (.cells #[.string E] 9 (0, 0)))
          go_wp2_with (first | (at_builtin; refine wpList_append_lies _ rfl _ _ 36 rfl w.heap.size 9 iS _ 1 16 Tryz.underlying36 hiS hs0 hs1 hs2 rfl (by decide) _ D.length (strRowP D) rfl HA.out ⟨wr.heap.size, 0, none⟩ 1 1 [.string E] rfl rfl (World.news_of_block (cs := #[.string E]) (t := 9) (fr := (0, 0)) (hset_new rfl)) (by simp [Value.oneCell']) (by omega) (by unfold maxLen; omega) (by omega) (by simp; omega) _ rfl ?_; intro gn capn w11 hown11 hgr11 hat11 hlt11; have hgb : Below w.heap.size wr w11 := below_grown ((Below.refl _ _).alloc (by omega) _) hgr11 (fun b e => (HA.out.lt b e).1) (by simp; omega); have HO11 := Lib.hid hown11; clear hown11 hgr11 hat11))
          have hrow : strRowP D ++ [.string E] = strRowP (D ++ [bL E]) := by rw [strRowP, strRowP, List.map_append, List.map_cons, List.map_nil, ← HSB.out]
          have hDl : (D ++ [bL E]).length = D.length + 1 := by simp
          rw [hrow] at HO11
          go_roundw
          case rel => exact ⟨k + 1, k + 1, D ++ [bL E], Nat.le_refl _, by omega, by rw [hDl]; omega, by go_num, by go_num, (by rw [hDl]; exact HO11.out), Lib.hid (.inl ⟨by omega, HNEW.out, by simp⟩), hb.trans (hgb.mono (Nat.le_refl _))⟩
          case measure => first | (simp [intOf]; done) | (simp [intOf]; omega)
        · have hc : s[k]'hlt ≠ c := fun e => hbc (by rw [← hbv, e, HCN.out])
          have hfr := free_snoc hfk hat hc HR2.out
          have HFR := Lib.hid hfr; clear hfr hat hc
          have hbc1 : ((bv : Int) == (cn : Int)) = false := by rw [beq_eq_false_iff_ne]; omega
          have hbc2 : (bv == cn) = false := by simpa using hbc
          go_wp2_with fail
          go_roundw
          case rel => exact ⟨f, k + 1, D, by omega, by omega, by omega, by go_num, rfl, HO.out, Lib.hid (.inl ⟨by omega, HR1.out, HFR.out⟩), hb⟩
          case measure => first | (simp [intOf]; done) | (simp [intOf]; omega)
    · have hR : PL = D := by
        rcases HR.out with h | h
        · omega
        · exact h.2
      subst hR
      have hDn : 0 < PL.length := List.length_pos_iff.2 hPn
      obtain ⟨g, cap, e, hg, hgl⟩ := HO.out.form hDn
      subst e
      go_wp2_with fail
      go_ret
      exact ⟨g, cap, rfl, HO.out, hb⟩
def repW : List UInt8 := [114, 101, 112, 101, 97, 116, 101, 100]
def packW : List UInt8 := [112, 97, 99, 107, 101, 100]
def kf (w : List UInt8) : Nat → Int → Int
  | 0, k0 => k0
  | j + 1, k0 => if w = kindL (j + 1 : Nat) then (j + 1 : Nat) else kf w j k0
def numD (w : List UInt8) : Int := ((numUpto 999999999 w).getD 0 : Nat)
def stepS (f : Fld) (w : List UInt8) : Fld := ⟨f.number, kf w 8 f.kind, f.rep || decide (w = repW), f.packed || decide (w = packW), match numUpto 999999999 w with | some v => (v : Int) | none => f.msg⟩
def specP (ws : List (List UInt8)) : Fld := (ws.drop 1).foldl stepS ⟨numD (ws.headD []), 0, false, false, 0⟩
@[reducible] def zeroR : Fld := ⟨0, 0, false, false, 0⟩
def readS (l : List UInt8) : Fld × Bool := if l.length = 0 ∨ 60 < l.length then (zeroR, false) else if fieldL (specP (partsL 32 l)) = l then (specP (partsL 32 l), true) else (zeroR, false)
theorem foldl_snocS {ws : List (List UInt8)} {j : Nat} {x : List UInt8} {f0 : Fld} (hx : ws[j]? = some x) : (ws.take (j + 1)).foldl stepS f0 = stepS ((ws.take j).foldl stepS f0) x := by
  rw [List.take_add_one, hx, List.foldl_append]; rfl
@[reducible] def fcs (f : Fld) : Array Value := #[.int .i64 f.number, .int .i64 f.kind, .bool f.rep, .bool f.packed, .int .i64 f.msg]
theorem fbox_set {w : World} {F o : Nat} {f f' : Fld} {T : TypeId} {u : Value} (h : w.heap[F]? = some (.cells (fcs f) T (0, 0))) (e : (fcs f).setIfInBounds o u = fcs f') : (w.setCell ⟨F, o, none⟩ u).heap[F]? = some (.cells (fcs f') T (0, 0)) := by
  apply hset_eq (hset_set h); exact e
theorem fbox_cells {w : World} {F : Nat} {f : Fld} {T : TypeId} (h : w.heap[F]? = some (.cells (fcs f) T (0, 0))) : w.cell? ⟨F, 0, none⟩ = some (.int .i64 f.number) ∧ w.cell? ⟨F, 1, none⟩ = some (.int .i64 f.kind) ∧ w.cell? ⟨F, 2, none⟩ = some (.bool f.rep) ∧ w.cell? ⟨F, 3, none⟩ = some (.bool f.packed) ∧ w.cell? ⟨F, 4, none⟩ = some (.int .i64 f.msg) ∧ ∀ j, w.frozen? ⟨F, j, none⟩ = false :=
  ⟨box_cells h 0, box_cells h 1, box_cells h 2, box_cells h 3, box_cells h 4, box_frozen h⟩
theorem own_cell {w : World} {base n cap g : Nat} {t : TypeId} {L : List (List UInt8)} {j : Nat} {l : List UInt8} (h : w.ownsRow base t 1 (.slice (some ⟨g, 0, none⟩) n cap) n (strRowP L)) (hj : L[j]? = some l) : w.cell? ⟨g, j, none⟩ = some (.string (sB l)) := by
  have := h.cells (g := g) rfl j (.string (sB l)) (by rw [strRowP, List.getElem?_map, hj]; rfl)
  by_cases h0 : j = 0
  · subst h0; simpa [Addr.add] using this
  · simpa [Addr.add, h0] using this
set_option maxRecDepth 100000 in
set_option maxHeartbeats 8000000 in
theorem specReadField_any (s : ByteArray) (w : World) (hs : s.size ≤ 1048576) :
    Calls Tryz.prog 18 #[.string s] w fun r w' => r = .returned (.tuple #[(readS (bL s)).1.val, .bool (readS (bL s)).2]) ∧ Below w.heap.size w w' := by
  obtain ⟨⟨RF, RB⟩, hR⟩ : ∃ R, readS (bL s) = R := ⟨_, rfl⟩
  rw [hR]
  have HR := Lib.hid hR; clear hR
  by_cases hsz : s.size = 0 ∨ 60 < s.size
  · have hz : (RF, RB) = (zeroR, false) := by rw [← HR.out, readS, bL_len, if_pos hsz]
    simp only [Prod.mk.injEq] at hz
    obtain ⟨rfl, rfl⟩ := hz
    by_cases h0 : s.size = 0
    · have hse : s.toList = [] := by rw [ByteArray.toList_eq]; exact List.length_eq_zero_iff.1 (by rw [Array.length_toList]; exact h0)
      clear hsz HR
      go_enter Tryz.func18, Tryz.ntmps18
      go_wp2_with fail
      refine bodyPost_ret (v := .tuple #[zeroR.val, .bool false]) (by simp [results, Tryz.results18, go_sem, zeroR]) rfl ⟨rfl, by ((repeat (first | (with_reducible exact Below.refl _ _) | (with_reducible assumption) | (with_reducible refine Below.alloc ?_ ?_ _) | (with_reducible refine Below.setCell ?_ ?_ _) | (with_reducible refine Below.drew ?_) | (with_reducible refine below_setRow ?_ ?_ _) | (refine Below.trans ?_ (Below.mono (by assumption) ?_)))); all_goals (first | omega | (simp; done) | (simp; omega)))⟩
    · have h60 : 60 < s.size := by omega
      have hse : ¬ s.toList = [] := by
        rw [ByteArray.toList_eq]; intro e
        have := congrArg List.length e
        rw [Array.length_toList] at this
        exact h0 this
      have hse2 : s.toList.isEmpty = false := by simpa using hse
      have h60i : (60 : Int) < s.size := by omega
      clear hsz HR h0
      go_enter Tryz.func18, Tryz.ntmps18
      go_wp2_with fail
      refine bodyPost_ret (v := .tuple #[zeroR.val, .bool false]) (by simp [results, Tryz.results18, go_sem, zeroR]) rfl ⟨rfl, by ((repeat (first | (with_reducible exact Below.refl _ _) | (with_reducible assumption) | (with_reducible refine Below.alloc ?_ ?_ _) | (with_reducible refine Below.setCell ?_ ?_ _) | (with_reducible refine Below.drew ?_) | (with_reducible refine below_setRow ?_ ?_ _) | (refine Below.trans ?_ (Below.mono (by assumption) ?_)))); all_goals (first | omega | (simp; done) | (simp; omega)))⟩
  · have h60 : ¬ 60 < s.size := by omega
    have h0 : ¬ s.size = 0 := by omega
    have hse : ¬ s.toList = [] := by
      rw [ByteArray.toList_eq]; intro e
      have := congrArg List.length e
      rw [Array.length_toList] at this
      exact h0 this
    have hse2 : s.toList.isEmpty = false := by simpa using hse
    have h60i : ¬ (60 : Int) < s.size := by omega
    obtain ⟨ws, hws⟩ : ∃ ws, partsL 32 (bL s) = ws := ⟨_, rfl⟩
    have hwn : ws ≠ [] := by rw [← hws]; exact partsL_ne _ _
    have hwl : ws.length ≤ 61 := by rw [← hws]; have := partsL_len 32 (bL s); rw [bL_len] at this; omega
    have hRR : (RF, RB) = if fieldL (specP ws) = bL s then (specP ws, true) else (zeroR, false) := by rw [← HR.out, readS, bL_len, if_neg hsz, hws]
    have HRR := Lib.hid hRR; clear hRR HR hsz
    have hparts : ∀ W : World, Calls Tryz.prog 16 #[.string s, .int .u8 32] W (FreshStrs W ws) := fun W => by
      have := specParts_any s 32 32 W (by decide) hs
      rw [hws] at this; exact this
    clear hws h0
    go_enter Tryz.func18, Tryz.ntmps18
    go_wp2_with fail
    refine (hparts _).mono ?_
    rintro r w1 ⟨g, cap, rfl, ho, hb1⟩
    obtain ⟨x0, wr0, rfl⟩ : ∃ x0 r, ws = x0 :: r := by
      cases ws with
      | nil => exact absurd rfl hwn
      | cons x r => exact ⟨x, r, rfl⟩
    have hz1 := hb1.size
    simp only [World.size_alloc] at hz1
    have hgl := (ho.lt g rfl).2
    have hg1 := (ho.lt g rfl).1
    simp only [World.size_alloc] at hg1
    have hRes := (hb1.block w.heap.size (by simp)).trans (hset_new (o := .cells (fcs zeroR) 44 (0, 0)) rfl)
    have HO := Lib.hid ho; have HRes := Lib.hid hRes; clear ho hRes hparts
    have hT1 : Below w.heap.size w w1 := ((Below.refl _ _).alloc (Nat.le_refl _) _).trans (hb1.mono (by simp))
    have q0 := own_cell HO.out (j := 0) (l := x0) rfl
    have hnum : ∀ (x : List UInt8) (W : World), Calls Tryz.prog 17 #[.string ⟨x.toArray⟩] W fun r w' => r = .returned (.tuple #[.int .i64 (numD x), .bool (numUpto 999999999 x).isSome]) ∧ Below W.heap.size W w' := fun x W => specNumber_any ⟨x.toArray⟩ W
    have hwl' : wr0.length ≤ 60 := by simp at hwl; omega
    obtain ⟨F, hFe⟩ : ∃ F, w1.heap.size = F := ⟨_, rfl⟩
    have hgF : g < F := by omega
    obtain ⟨N0, hN0⟩ : ∃ N0, numD x0 = N0 := ⟨_, rfl⟩
    have hn0 := fun W => hnum x0 W
    rw [hN0] at hn0
    go_wp2_with fail
    refine (hn0 _).mono ?_
    rintro r w4 ⟨rfl, hb4⟩
    have hz4 := hb4.size
    simp only [World.size_alloc] at hz4
    have hF4 := (hb4.block w1.heap.size (by simp)).trans (hset_new (o := .cells (fcs zeroR) 44 (0, 0)) rfl)
    have hB4 : Below w1.heap.size w1 w4 := ((Below.refl _ _).alloc (Nat.le_refl _) _).trans (hb4.mono (by simp))
    rw [hFe] at hF4 hB4 hz4 hgl
    obtain ⟨c0, c1, c2, c3, c4, fz⟩ := fbox_cells hF4
    have HF4 := Lib.hid hF4
    simp only [hFe]
    clear hF4 hb4 hn0 q0
    go_wp2_with fail
    go_loopw [6] (fun i wr => ∃ j : Nat, j ≤ wr0.length ∧ i = .int .i64 (j + 1) ∧ (∃ f : Fld, wr.heap[F]? = some (.cells (fcs f) 44 (0, 0)) ∧ Hid (f = (wr0.take j).foldl stepS ⟨N0, 0, false, false, 0⟩)) ∧ Below F w1 wr) (fun i _ => wr0.length + 1 - (intOf i).toNat)
    case atStart => exact ⟨0, Nat.zero_le _, rfl, ⟨⟨N0, 0, false, false, 0⟩, fbox_set HF4.out rfl, Lib.hid rfl⟩, hB4.setCell (Nat.le_refl _) _⟩
    case round =>
      clear c0 c1 c2 c3 c4 fz
      obtain ⟨j, hj, rfl, ⟨f, hF, HFo⟩, hb⟩ := hrel
      have HF := Lib.hid hF; clear hF
      by_cases hlt : j < wr0.length
      · obtain ⟨x, hx, _⟩ := at_lt (xs := wr0) (k := j) hlt
        have hrow : ∀ W, Below F w1 W → W.cell? ⟨g, j + 1, none⟩ = some (.string ⟨x.toArray⟩) := fun W hW => (World.cell?_of_block (a := ⟨g, j + 1, none⟩) (hW.block g hgl)).trans (own_cell HO.out (j := j + 1) (by rw [List.getElem?_cons_succ]; exact hx))
        have HFn := Lib.hid (foldl_snocS (f0 := ⟨N0, 0, false, false, 0⟩) hx)
        rw [← HFo.out] at HFn
        have hlc : (j : Int) + 1 < ((x0 :: wr0).length : Int) := by simp; omega
        have hlc2 : (j : Int) + 1 < (wr0.length : Int) + 1 := by omega
        clear hx
        go_wp2_with fail
        go_loopw [7] (fun kv wi => ∃ k : Nat, k ≤ 8 ∧ kv = .int .i64 (k + 1) ∧ wi.heap[F]? = some (.cells (fcs ⟨f.number, kf x k f.kind, f.rep, f.packed, f.msg⟩) 44 (0, 0)) ∧ Below F w1 wi) (fun kv _ => 9 - (intOf kv).toNat)
        case atStart => exact ⟨0, by omega, rfl, HF.out, hb⟩
        case round =>
          obtain ⟨k, hk, rfl, hFi, hbi⟩ := hrel
          obtain ⟨c0, c1, c2, c3, c4, fz⟩ := fbox_cells hFi
          simp only at c0 c1 c2 c3 c4
          have hFl := box_lt hFi
          have hq := hrow _ hbi
          have hgi : g < wr.heap.size := by have := hbi.size; omega
          have HFi := Lib.hid hFi; clear hFi
          by_cases hk8 : k < 8
          · obtain ⟨K, hK⟩ : ∃ K, kindL ((k : Int) + 1) = K := ⟨_, rfl⟩
            have hkw : ∀ W : World, Calls Tryz.prog 37 #[.int .i64 ((k : Int) + 1)] W fun r w' => r = .returned (.string ⟨K.toArray⟩) ∧ Below W.heap.size W w' := fun W => by
              have := specKindWord_any ((k : Int) + 1) W
              rw [hK] at this; exact this
            have hk9 : (k : Int) + 1 ≤ 8 := by omega
            by_cases hxK : x = K
            · have hkf : kf x (k + 1) f.kind = (k : Int) + 1 := by rw [kf, if_pos (by rw [hxK, ← hK]; rfl)]; rfl
              have e1 : (x == K) = true := by simpa using hxK
              have e2 : ((⟨x.toArray⟩ : ByteArray).toList == (⟨K.toArray⟩ : ByteArray).toList) = true := by rw [hxK]; simp
              clear hxK hK
              go_wp2_with fail
              (refine wp_region_ext (by kernel_rfl) (by kernel_rfl) ?_; (repeat (go_big_quiet_step (first | (go_at_call 37; refine Calls.ext_of (hkw _))))); refine wpQuiet_nil ?_; intro w12 hb12; obtain ⟨hc12, hf12⟩ := bcell hb12; have hz12 := hb12.size; (try simp only [World.size_alloc, World.size_setCell, World.size_drew] at hz12))
              have hFl2 := Nat.lt_of_lt_of_le hFl hz12
              have hF12 := (hb12.block F hFl).trans HFi.out
              obtain ⟨c0', c1', c2', c3', c4', fz'⟩ := fbox_cells hF12
              have HF12 := Lib.hid hF12
              have hT12 : Below F w1 w12 := hbi.trans (hb12.mono (by omega))
              clear hb12 hc12 hf12 hF12 c0 c1 c2 c3 c4 fz
              go_wp2_with fail
              go_roundw
              case rel => exact ⟨k + 1, by omega, by go_num, fbox_set HF12.out (by rw [hkf]; rfl), hT12.setCell (Nat.le_refl _) _⟩
              case measure => simp [intOf]; omega
            · have hkf : kf x (k + 1) f.kind = kf x k f.kind := by rw [kf, if_neg (by rw [show ((k + 1 : Nat) : Int) = (k : Int) + 1 from rfl, hK]; exact hxK)]
              have e1 : (x == K) = false := by simpa using hxK
              have e2 : ((⟨x.toArray⟩ : ByteArray).toList == (⟨K.toArray⟩ : ByteArray).toList) = false := by rw [beq_bytes, decide_eq_false]; intro e; apply hxK; have := congrArg bL e; simpa [bL] using this
              clear hxK hK
              go_wp2_with fail
              (refine wp_region_ext (by kernel_rfl) (by kernel_rfl) ?_; (repeat (go_big_quiet_step (first | (go_at_call 37; refine Calls.ext_of (hkw _))))); refine wpQuiet_nil ?_; intro w12 hb12; obtain ⟨hc12, hf12⟩ := bcell hb12; have hz12 := hb12.size; (try simp only [World.size_alloc, World.size_setCell, World.size_drew] at hz12))
              have hF12 := (hb12.block F hFl).trans HFi.out
              have HF12 := Lib.hid hF12
              have hT12 : Below F w1 w12 := hbi.trans (hb12.mono (by omega))
              clear hb12 hc12 hf12 hF12 c0 c1 c2 c3 c4 fz
              go_wp2_with fail
              go_roundw
              case rel => exact ⟨k + 1, by omega, by go_num, by rw [hkf]; exact HF12.out, hT12⟩
              case measure => simp [intOf]; omega
          · obtain rfl : k = 8 := by omega
            obtain ⟨dr, hdr⟩ : ∃ dr, decide (x = repW) = dr := ⟨_, rfl⟩
            obtain ⟨dp, hdp⟩ : ∃ dp, decide (x = packW) = dp := ⟨_, rfl⟩
            have r1 : ((⟨x.toArray⟩ : ByteArray).toList == (⟨#[114, 101, 112, 101, 97, 116, 101, 100]⟩ : ByteArray).toList) = dr := by rw [beq_bytes, ← hdr, decide_eq_decide]; exact ⟨fun e => by have := congrArg bL e; simpa [bL, repW] using this, fun e => by rw [e]; rfl⟩
            have r2 : ((⟨x.toArray⟩ : ByteArray).toList == (⟨#[112, 97, 99, 107, 101, 100]⟩ : ByteArray).toList) = dp := by rw [beq_bytes, ← hdp, decide_eq_decide]; exact ⟨fun e => by have := congrArg bL e; simpa [bL, packW] using this, fun e => by rw [e]; rfl⟩
            have r3 : (x == [114, 101, 112, 101, 97, 116, 101, 100]) = dr := by rw [← hdr, Bool.eq_iff_iff, beq_iff_eq, decide_eq_true_iff]; exact Iff.rfl
            have r4 : (x == [112, 97, 99, 107, 101, 100]) = dp := by rw [← hdp, Bool.eq_iff_iff, beq_iff_eq, decide_eq_true_iff]; exact Iff.rfl
            have hgne : ¬ g = F := by omega
            have hgne2 : ¬ F = g := by omega
            have HDR := Lib.hid hdr; have HDP := Lib.hid hdp; clear hdr hdp HFo
            obtain ⟨a1, a2, a3, a4, a5⟩ := f
            simp only at c0 c1 c2 c3 c4 HFi
            obtain ⟨b3, hb3⟩ : ∃ b3, (a3 || dr) = b3 := ⟨_, rfl⟩
            obtain ⟨b4, hb4⟩ : ∃ b4, (a4 || dp) = b4 := ⟨_, rfl⟩
            have HB3 := Lib.hid hb3; have HB4 := Lib.hid hb4; clear hb3 hb4
            cases hnv : numUpto 999999999 x with
            | none =>
              have hnx : ∀ W : World, Calls Tryz.prog 17 #[.string ⟨x.toArray⟩] W fun r w' => r = .returned (.tuple #[.int .i64 0, .bool false]) ∧ Below W.heap.size W w' := fun W => by
                have := hnum x W
                rw [numD, hnv] at this; exact this
              have HNV := Lib.hid hnv; clear hnv
              go_wp2_with fail
              refine (hnx _).mono ?_
              rintro r w13 ⟨rfl, hb13⟩
              have hF13 := (hb13.block F hFl).trans HFi.out
              obtain ⟨c0', c1', c2', c3', c4', fz'⟩ := fbox_cells hF13
              simp only at c0' c1' c2' c3' c4'
              have HF13 := Lib.hid hF13
              have hT13 : Below F w1 w13 := hbi.trans (hb13.mono (by omega))
              have hq13 := hrow _ hT13
              have hz13 := hb13.size
              have hg13 : g < w13.heap.size := by omega
              clear hb13 hF13 c0 c1 c2 c3 c4 fz hq hnx hnum
              cases a3 <;> cases a4
              all_goals
                go_wp2_with fail
                go_roundw
                case rel => exact ⟨j + 1, by omega, by go_num, ⟨⟨a1, kf x 8 a2, b3, b4, a5⟩, (by rw [← HB3.out, ← HB4.out]; apply hset_eq (hset_set (hset_set HF13.out)); rfl), Lib.hid (by rw [HFn.out, stepS, HNV.out, HDR.out, HDP.out, ← HB3.out, ← HB4.out]; try rfl)⟩, (hT13.setCell (Nat.le_refl _) _).setCell (Nat.le_refl _) _⟩
                case measure => simp [intOf]; omega
            | some v =>
              have hnx : ∀ W : World, Calls Tryz.prog 17 #[.string ⟨x.toArray⟩] W fun r w' => r = .returned (.tuple #[.int .i64 v, .bool true]) ∧ Below W.heap.size W w' := fun W => by
                have := hnum x W
                rw [numD, hnv] at this; exact this
              have HNV := Lib.hid hnv; clear hnv
              go_wp2_with fail
              refine (hnx _).mono ?_
              rintro r w13 ⟨rfl, hb13⟩
              have hF13 := (hb13.block F hFl).trans HFi.out
              obtain ⟨c0', c1', c2', c3', c4', fz'⟩ := fbox_cells hF13
              simp only at c0' c1' c2' c3' c4'
              have HF13 := Lib.hid hF13
              have hT13 : Below F w1 w13 := hbi.trans (hb13.mono (by omega))
              have hq13 := hrow _ hT13
              have hz13 := hb13.size
              have hg13 : g < w13.heap.size := by omega
              clear hb13 hF13 c0 c1 c2 c3 c4 fz hq hnx hnum
              cases a3 <;> cases a4
              all_goals
                go_wp2_with fail
                go_roundw
                case rel => exact ⟨j + 1, by omega, by go_num, ⟨⟨a1, kf x 8 a2, b3, b4, v⟩, (by rw [← HB3.out, ← HB4.out]; apply hset_eq (hset_set (hset_set (hset_set HF13.out))); rfl), Lib.hid (by rw [HFn.out, stepS, HNV.out, HDR.out, HDP.out, ← HB3.out, ← HB4.out]; try rfl)⟩, ((hT13.setCell (Nat.le_refl _) _).setCell (Nat.le_refl _) _).setCell (Nat.le_refl _) _⟩
                case measure => simp [intOf]; omega
      · have hje : j = wr0.length := by omega
        have hfs : f = specP (x0 :: wr0) := by rw [HFo.out, hje, List.take_of_length_le (Nat.le_refl _), ← hN0]; rfl
        have HFS := Lib.hid hfs; clear hfs
        obtain ⟨c0, c1, c2, c3, c4, fz⟩ := fbox_cells HF.out
        have hFl := box_lt HF.out
        obtain ⟨G, hG⟩ : ∃ G, fieldL f = G := ⟨_, rfl⟩
        have hft : ∀ W : World, Calls Tryz.prog 38 #[.agg #[.int .i64 f.number, .int .i64 f.kind, .bool f.rep, .bool f.packed, .int .i64 f.msg]] W fun r w' => r = .returned (.string ⟨G.toArray⟩) ∧ Below W.heap.size W w' := fun W => by
          have := specFieldText_any f W
          rw [sB, hG] at this; exact this
        have HRes0 := (hb.block w.heap.size (by omega)).trans HRes.out
        have HRl := box_lt HRes0
        have HRS := Lib.hid HRes0; clear HRes0
        have hTw : Below w.heap.size w wr := hT1.trans (hb.mono (by omega))
        have hRF : ¬ w.heap.size = F := by omega
        have hRF2 : ¬ F = w.heap.size := by omega
        go_wp2_with fail
        refine (hft _).mono ?_
        rintro r w14 ⟨rfl, hb14⟩
        have hF14 := (hb14.block F hFl).trans HF.out
        have hR14 := (hb14.block w.heap.size HRl).trans HRS.out
        obtain ⟨d0, d1, d2, d3, d4, dz⟩ := fbox_cells hF14
        obtain ⟨r0, r1, r2, r3, r4, rz⟩ := fbox_cells hR14
        simp only at r0 r1 r2 r3 r4
        have hRl14 := box_lt hR14
        have hT14 : Below w.heap.size w w14 := hTw.trans (hb14.mono hTw.size)
        by_cases heq : G = bL s
        · have hRR2 : (RF, RB) = (f, true) := by rw [HRR.out, if_pos (by rw [← HFS.out, hG, heq]), ← HFS.out]
          simp only [Prod.mk.injEq] at hRR2
          obtain ⟨rfl, rfl⟩ := hRR2
          have e1 : ((⟨G.toArray⟩ : ByteArray).toList == s.toList) = true := by rw [heq, ← str_of_bL]; simp
          have e2 : (G == s.toList) = true := by rw [ByteArray.toList_eq, heq]; simp [bL]
          clear heq hG hft HF HFS hF14 hR14 c0 c1 c2 c3 c4 fz
          go_wp2_with fail
          refine bodyPost_ret (v := .tuple #[RF.val, .bool true]) (by simp [results, Tryz.results18, go_sem, hRl14, r0, r1, r2, r3, r4]) rfl ⟨rfl, ((((hT14.setCell (Nat.le_refl _) _).setCell (Nat.le_refl _) _).setCell (Nat.le_refl _) _).setCell (Nat.le_refl _) _).setCell (Nat.le_refl _) _⟩
        · have hRR2 : (RF, RB) = (zeroR, false) := by rw [HRR.out, if_neg (by rw [← HFS.out, hG]; exact heq)]
          simp only [Prod.mk.injEq] at hRR2
          obtain ⟨rfl, rfl⟩ := hRR2
          have e1 : ((⟨G.toArray⟩ : ByteArray).toList == s.toList) = false := by rw [beq_bytes, decide_eq_false]; intro e; apply heq; have := congrArg bL e; simpa [bL] using this
          have e2 : (G == s.toList) = false := by rw [ByteArray.toList_eq, beq_eq_false_iff_ne]; exact heq
          clear heq hG hft HF HFS hF14 hR14 c0 c1 c2 c3 c4 fz d0 d1 d2 d3 d4 dz
          go_wp2_with fail
          refine bodyPost_ret (v := .tuple #[zeroR.val, .bool false]) (by simp [results, Tryz.results18, go_sem, zeroR, hRl14, r0, r1, r2, r3, r4]) rfl ⟨rfl, ((((hT14.setCell (Nat.le_refl _) _).setCell (Nat.le_refl _) _).setCell (Nat.le_refl _) _).setCell (Nat.le_refl _) _).setCell (Nat.le_refl _) _⟩
theorem results_cell {fn : Func} {p : Tmp} {ty : TypeId} (h : fn.results = #[.cell p ty]) {tmps : Array Value} {a : Addr} (hp : tmps.getD p undef = .pointer (some a)) {P : Program} {w : World} {v : Value} (hv : (loadVar ty a).run P w = .ok v w) : (results fn tmps).run P w = .ok v w := by
  have hp' : tmps[p]?.getD undef = .pointer (some a) := by simpa using hp
  simp only [results, h]
  simp [Sem.run_bind, Result.andThen, hp', asAddr, hv]
theorem range_of_box {w : World} {b : Nat} {cs : List Value} {t : TypeId} (h : w.heap[b]? = some (.cells cs.toArray t (0, 0))) : w.rangeAt b 0 cs := by
  intro j u hj
  simp [World.cell?, h, hj]
def shAt (id : Int) : Nat → List Shp → Int
  | _, [] => -1
  | k, x :: xs => if x.id = id then k else shAt id (k + 1) xs
theorem shAt_yes {id : Int} {k : Nat} {xs : List Shp} {e : Shp} {R : Int} (h : shAt id k (xs.drop k) = R) (he : xs[k]? = some e) (hi : e.id = id) : (k : Int) = R := by
  rw [drop_cons he, shAt, if_pos hi] at h; exact h
theorem shAt_no {id : Int} {k : Nat} {xs : List Shp} {e : Shp} {R : Int} (h : shAt id k (xs.drop k) = R) (he : xs[k]? = some e) (hi : ¬ e.id = id) : shAt id (k + 1) (xs.drop (k + 1)) = R := by
  rw [drop_cons he, shAt, if_neg hi] at h; exact h
theorem shAt_end {id : Int} {k : Nat} {xs : List Shp} {R : Int} (h : shAt id k (xs.drop k) = R) (hk : xs.length ≤ k) : (-1 : Int) = R := by
  rw [List.drop_of_length_le hk] at h; exact h
theorem heap_new1 (w : World) (o1 o2 : Obj) : ((w.alloc o1).alloc o2).heap[w.heap.size + 1]? = some o2 := by
  have h := heap_alloc_new (w.alloc o1) o2
  rw [World.size_alloc] at h; exact h
end Go.Proofs.YtbjbgneiglopmaaGreatDoor
