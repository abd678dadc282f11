/- FnNew: a new decoder of a plan that is drawn is valid and at a boundary, for every code. No condition. -/
import Derived.Test.YtbgejldjgkihaaaPlD
import Derived.Test.YtbgejldjgkihaaaNew
import Derived.Test.YtbgejldjgkihaaaAtB
import Derived.Test.YtbgejldjgkihaaaRet
namespace Go.Proofs.Ytbgejldjgkihaaa.fnNew
set_option linter.unusedSimpArgs false
set_option linter.unusedVariables false
open Go.ChangeShapes Go.WideShapes Go.ChangeAt Go.RowKit Go.BigFrame

theorem fresh_ok {p : Pl} {xs : List Shp} (h : planOk p xs = true) : decOk (freshD p 1) xs [] = true := by
  simp [decOk, headOk, endOk, wantOk, kindOk, scanD, freshD, h, inB, utfOk, sameU, wireOk, fieldIn, zeroF, stackOk, zeroE, scanOk]
theorem fresh_at {p : Pl} {xs : List Shp} (h : planOk p xs = true) : atBoundary (freshD p 1) xs [] = true := by
  rw [atBoundary, fresh_ok h]; rfl
theorem fresh_left {p : Pl} {xs : List Shp} : leftIn (freshD p 1) xs [] = 0 := by
  unfold leftIn; split <;> rfl
theorem size_Plan4 : (Try.prog.info? 55).map (·.size) = some 4 := by kernel_rfl
theorem shape {f : FuncId} {args : Array Value} {w : World} {T TF : TypeId} {O : Dc × List Shp × Bool} {e : Dc} {ys : List Shp} {ok : Bool} (h : Calls Try.prog f args w (FreshN w T TF O)) (hO : O = (e, ys, ok)) :
    Calls Try.prog f args w fun r w' => ∃ a cap rs, r = .returned (.tuple #[e.val (.slice a ys.length cap) (.slice none 0 0), .bool ok]) ∧ OwnShs w' w.heap.size T TF (.slice a ys.length cap) ys.length rs ys ∧ Below w.heap.size w w' := by
  subst hO; exact h
/-- A plan that is drawn. -/
def DrawnPF (w : World) (r : Ending) (w' : World) : Prop :=
  ∃ (p : Pl) (a : Option Addr) (n cap : Nat) (rs : List ShR) (xs : List Shp), r = .returned (p.val (.slice a n cap)) ∧ OwnShs w' w.heap.size 43 47 (.slice a n cap) n rs xs ∧ SchB xs ∧ W64 p.root ∧ W64 p.deep ∧ W64 p.most ∧ Below w.heap.size w w'
set_option maxHeartbeats 2000000 in
theorem drawDecNew_any (a : Option Addr) (cap n : Nat) (w : World) (h : Code w a n) (hn : n ≤ 1048576) :
    Calls Try.prog 21 #[.slice a n cap] w (DrawnPF w) := by
  go_enter Try.func21, Try.ntmps21
  go_wp2_with fail
  refine (l1New_any a cap n _ (h.keep (by ((repeat (first | (with_reducible exact Below.refl _ _) | (with_reducible assumption) | (with_reducible refine Below.alloc ?_ ?_ _) | (with_reducible refine Below.setCell ?_ ?_ _) | (with_reducible refine Below.drew ?_) | (with_reducible refine below_setRow ?_ ?_ _) | (refine Below.trans ?_ (Below.mono (by assumption) ?_)))); all_goals (first | omega | (simp; done) | (simp; omega))))) hn).mono ?_
  rintro r w1 ⟨B, rfl, hB, hc, hb1⟩
  simp only [World.size_alloc] at hB
  go_wp2_with fail
  refine (l12Bent_any B w1 hc).mono ?_
  rintro r w2 ⟨p, a2, m, cap2, rs, xs, rfl, ho, hg, h1, h2, h3, hu⟩
  have hb2 : Below (w.heap.size + 1) w1 w2 := hu.oth.below hB hc.lt
  have hbw : Below w.heap.size w w2 := ((Below.refl _ _).alloc (Nat.le_refl _) _).trans ((hb1.mono (by simp)).trans (hb2.mono (by omega)))
  have hz1 := hb1.size
  simp only [World.size_alloc] at hz1
  have hR2 := (hb2.block w.heap.size (by omega)).trans ((hb1.block w.heap.size (by simp)).trans (hset_new (o := .cells #[.slice none 0 0, .int .i64 0, .int .i64 0, .int .i64 0] 55) rfl))
  have kR := box_cells hR2; have fR := box_frozen hR2; have hlR := box_lt hR2
  have k0 := kR 0; have k1 := kR 1; have k2 := kR 2; have k3 := kR 3
  simp only [List.getElem?_toArray, List.getElem?_cons_zero, List.getElem?_cons_succ] at k0 k1 k2 k3
  have HR2 := Lib.hid hR2; have HO := Lib.hid ho; clear hR2 ho kR
  go_wp2_with fail
  refine bodyPost_ret (results_cell Try.results21 rfl (run_loadVar_mid _ w.heap.size 0 55 [.slice a2 m cap2, .int .i64 p.root, .int .i64 p.deep, .int .i64 p.most] _ (range_of_box (t := 55) ?_) Try.underlying55 rfl (by kernel_rfl))) rfl ⟨p, _, _, _, _, _, rfl, ((((HO.out.set (by simp; omega) _).set (by simp; omega) _).set (by simp; omega) _).set (by simp; omega) _).le (by omega), hg, h1, h2, h3, (((hbw.setCell (by simp) _).setCell (by simp) _).setCell (by simp) _).setCell (by simp) _⟩
  apply hset_eq (hset_set (hset_set (hset_set (hset_set HR2.out)))); simp only [List.setIfInBounds_toArray, List.set_cons_zero, List.set_cons_succ]
set_option maxRecDepth 100000 in
set_option maxHeartbeats 4000000 in
theorem walk (w : World) (x : SlArg Int) (hx : x.ok 1 byCs ByOk w) :
    Calls Try.prog 5 #[.slice x.a x.xs.length x.cap] w fun r w' => r = .returned (.bool true) ∧ Below w.heap.size w w' := by
  have hcode := code_of hx
  obtain ⟨a, cap, bs⟩ := x
  obtain ⟨_, _, hle, hcap⟩ := hx
  simp only at hcode hle hcap ⊢
  by_cases hbig : (1048576 : Int) < (bs.length : Int)
  · go_enter Try.func5, Try.ntmps5
    go_wp2_with (first | (go_at_call 8; refine (big_any _ _ _ _).mono ?_; rintro r w1 ⟨rfl, rfl⟩))
    go_ret
    exact ⟨rfl, by ((repeat (first | (with_reducible exact Below.refl _ _) | (with_reducible assumption) | (with_reducible refine Below.alloc ?_ ?_ _) | (with_reducible refine Below.setCell ?_ ?_ _) | (with_reducible refine Below.drew ?_) | (with_reducible refine below_setRow ?_ ?_ _) | (refine Below.trans ?_ (Below.mono (by assumption) ?_)))); all_goals (first | omega | (simp; done) | (simp; omega)))⟩
  · go_enter Try.func5, Try.ntmps5
    go_wp2_with (first | (go_at_call 8; refine (big_any _ _ _ _).mono ?_; rintro r w1 ⟨rfl, rfl⟩))
    refine (drawDecNew_any a cap bs.length w hcode (by omega)).mono ?_
    rintro r w1 ⟨p, a1, n, cap1, rs, xs, rfl, ho, hg, hw1, hw2, hw3, hb1⟩
    obtain rfl : xs.length = n := ho.lenx
    have hn7 : xs.length ≤ 7 := hg.n
    have hms := hg.sum
    have HS := Lib.hid ho.shsC; clear ho
    have hz1 := hb1.size
    have hbP : Below w1.heap.size w1 (w1.alloc (.cells #[.slice a1 xs.length cap1, .int .i64 p.root, .int .i64 p.deep, .int .i64 p.most] 55)) := (Below.refl _ _).alloc (Nat.le_refl _) _
    cases hp : planOk p xs
    · have hO := newO_no hp
      obtain ⟨e, he⟩ : ∃ e, e = freshD ⟨0, 0, 0⟩ 0 := ⟨_, rfl⟩
      rw [← he] at hO
      have HO := Lib.hid hO; have HP := Lib.hid hp; clear hO he hp
      go_wp2_with fail
      refine (shape (implDecNew_any p a1 cap1 xs _ (HS.out.keep hbP) (by omega) hms) HO.out).mono ?_
      rintro r w3 ⟨a3, cap3, rs3, rfl, ho3, hb3⟩
      have hz3 := hb3.size
      simp only [World.size_alloc] at hz3
      have hP3 := (hb3.block w1.heap.size (by simp)).trans (hset_new (o := .cells #[.slice a1 xs.length cap1, .int .i64 p.root, .int .i64 p.deep, .int .i64 p.most] 55) rfl)
      have kP := box_cells hP3; have hlP := box_lt hP3
      have k0 := kP 0; have k1 := kP 1; have k2 := kP 2; have k3 := kP 3
      simp only [List.getElem?_toArray, List.getElem?_cons_zero, List.getElem?_cons_succ] at k0 k1 k2 k3
      have hbw3 : Below w.heap.size w w3 := hb1.trans ((hbP.trans (hb3.mono (by simp))).mono hz1)
      have hS3 := (HS.out.keep hbP).keep hb3
      have HS3 := Lib.hid hS3; have HO3 := Lib.hid ho3; clear hS3 ho3 hP3
      have hb4 : Below w3.heap.size w3 ((w3.alloc (.cells #[.slice none 0 0, .int .i64 0, .int .i64 0, .int .i64 0, .int .i64 0, .slice none 0 0, .int .u64 0, .int .i64 0, .int .i64 0, .int .i64 0, .int .i64 0, .int .i64 0, .bool false, .bool false, .int .i64 0, .int .i64 0, .int .i64 0, .int .i64 0, .int .i64 0, .int .i64 0, .int .i64 0, .int .i64 0, .int .u64 0, .int .i64 0, .string ⟨#[]⟩, .int .i64 0, .int .i64 0] 66)).setRow w3.heap.size #[.slice a3 ([] : List Shp).length cap3, .int .i64 e.p.root, .int .i64 e.p.deep, .int .i64 e.p.most, .int .i64 e.mode, .slice none 0 0, .int .u64 e.bits, .int .i64 e.have_, .int .i64 e.start, .int .i64 e.at_, .int .i64 e.field.number, .int .i64 e.field.kind, .bool e.field.rep, .bool e.field.packed, .int .i64 e.field.msg, .int .i64 e.wire, .int .i64 e.want, .int .i64 e.utf.want, .int .i64 e.utf.low, .int .i64 e.utf.high, .int .i64 e.end_.kind, .int .i64 e.end_.field, .int .u64 e.end_.bits, .int .i64 e.end_.len, .string e.end_.text, .int .i64 e.end_.code, .int .i64 e.end_.at_]) := below_setRow ((Below.refl _ _).alloc (Nat.le_refl _) _) (Nat.le_refl _) _
      go_wp2_with (first | ((with_reducible show wpList _ _ _ (⟨_, Op.store 66 _ _, _, _, _, _⟩ :: _) _ _); refine wpList_store_row rfl 66 (.tmp 4) (.tmp 13) rfl (w3.heap.size) #[.slice a3 ([] : List Shp).length cap3, .int .i64 e.p.root, .int .i64 e.p.deep, .int .i64 e.p.most, .int .i64 e.mode, .slice none 0 0, .int .u64 e.bits, .int .i64 e.have_, .int .i64 e.start, .int .i64 e.at_, .int .i64 e.field.number, .int .i64 e.field.kind, .bool e.field.rep, .bool e.field.packed, .int .i64 e.field.msg, .int .i64 e.wire, .int .i64 e.want, .int .i64 e.utf.want, .int .i64 e.utf.low, .int .i64 e.utf.high, .int .i64 e.end_.kind, .int .i64 e.end_.field, .int .u64 e.end_.bits, .int .i64 e.end_.len, .string e.end_.text, .int .i64 e.end_.code, .int .i64 e.end_.at_] rfl rfl 66 #[.slice none 0 0, .int .i64 0, .int .i64 0, .int .i64 0, .int .i64 0, .slice none 0 0, .int .u64 0, .int .i64 0, .int .i64 0, .int .i64 0, .int .i64 0, .int .i64 0, .bool false, .bool false, .int .i64 0, .int .i64 0, .int .i64 0, .int .i64 0, .int .i64 0, .int .i64 0, .int .i64 0, .int .i64 0, .int .u64 0, .int .i64 0, .string ⟨#[]⟩, .int .i64 0, .int .i64 0] (hset_new rfl) size_Dec rfl (one_Dec _ _ _ _ _ _ _) ?_) | ((with_reducible show wpList _ _ _ (⟨_, Op.load 55 _, _, _, _, _⟩ :: _) _ _); refine wpList_load_mid rfl 55 _ rfl (w1.heap.size) 0 rfl [.slice a1 xs.length cap1, .int .i64 p.root, .int .i64 p.deep, .int .i64 p.most] _ (range_of_cells (box_next (w := w3) (by ((repeat (first | (with_reducible exact Below.refl _ _) | (with_reducible assumption) | (with_reducible refine Below.alloc ?_ ?_ _) | (with_reducible refine Below.setCell ?_ ?_ _) | (with_reducible refine Below.drew ?_) | (with_reducible refine below_setRow ?_ ?_ _) | (refine Below.trans ?_ (Below.mono (by assumption) ?_)))); all_goals (first | omega | (simp; done) | (simp; omega)))) hlP kP)) Try.underlying55 rfl size_Plan4 ?_))
      refine (specPlanOk_any _ _ _ p xs _ (HS3.out.keep hb4).shs rfl (by omega) hms).mono ?_
      rintro r w5 ⟨rfl, hb5⟩
      rw [HP.out]
      go_wp2
      go_ret
      exact ⟨rfl, hbw3.trans ((hb4.trans (hb5.mono hb4.size)).mono hbw3.size)⟩
    · have hO := newO_yes hp
      have hdk := fresh_ok hp; have hat := fresh_at hp; have hlf := fresh_left (p := p) (xs := xs)
      have hh0 : (freshD p 1).have_ = 0 := rfl
      have hmd : (freshD p 1).ok := ⟨hw1, hw2, hw3, w64_of (u := 1) (by omega) (by omega), wu64_small (u := 0) (by omega) (by omega), w64_of (u := 0) (by omega) (by omega), w64_of (u := 0) (by omega) (by omega), w64_of (u := 0) (by omega) (by omega), ⟨w64_of (u := 0) (by omega) (by omega), w64_of (u := 0) (by omega) (by omega), w64_of (u := 0) (by omega) (by omega)⟩, w64_of (u := 0) (by omega) (by omega), w64_of (u := 0) (by omega) (by omega), w64_of (u := 0) (by omega) (by omega), w64_of (u := 0) (by omega) (by omega), w64_of (u := 0) (by omega) (by omega), ⟨w64_of (u := 0) (by omega) (by omega), w64_of (u := 0) (by omega) (by omega), wu64_small (u := 0) (by omega) (by omega), w64_of (u := 0) (by omega) (by omega), Nat.zero_le _, w64_of (u := 0) (by omega) (by omega), w64_of (u := 0) (by omega) (by omega)⟩⟩
      obtain ⟨e, he⟩ : ∃ e, e = freshD p 1 := ⟨_, rfl⟩
      rw [← he] at hO hdk hat hlf hh0 hmd
      have HO := Lib.hid hO; have HP := Lib.hid hp; have HDK := Lib.hid hdk; have HAT := Lib.hid hat; have HLF := Lib.hid hlf; have HH := Lib.hid hh0; have HMD := Lib.hid hmd
      clear hO he hp hdk hat hlf hh0 hmd
      go_wp2_with fail
      refine (shape (implDecNew_any p a1 cap1 xs _ (HS.out.keep hbP) (by omega) hms) HO.out).mono ?_
      rintro r w3 ⟨a3, cap3, rs3, rfl, ho3, hb3⟩
      have hz3 := hb3.size
      simp only [World.size_alloc] at hz3
      have hP3 := (hb3.block w1.heap.size (by simp)).trans (hset_new (o := .cells #[.slice a1 xs.length cap1, .int .i64 p.root, .int .i64 p.deep, .int .i64 p.most] 55) rfl)
      have kP := box_cells hP3; have hlP := box_lt hP3
      have k0 := kP 0; have k1 := kP 1; have k2 := kP 2; have k3 := kP 3
      simp only [List.getElem?_toArray, List.getElem?_cons_zero, List.getElem?_cons_succ] at k0 k1 k2 k3
      have hbw3 : Below w.heap.size w w3 := hb1.trans ((hbP.trans (hb3.mono (by simp))).mono hz1)
      have hS3 := (HS.out.keep hbP).keep hb3
      have HS3 := Lib.hid hS3; have HO3 := Lib.hid ho3; clear hS3 ho3 hP3
      have hb4 : Below w3.heap.size w3 ((w3.alloc (.cells #[.slice none 0 0, .int .i64 0, .int .i64 0, .int .i64 0, .int .i64 0, .slice none 0 0, .int .u64 0, .int .i64 0, .int .i64 0, .int .i64 0, .int .i64 0, .int .i64 0, .bool false, .bool false, .int .i64 0, .int .i64 0, .int .i64 0, .int .i64 0, .int .i64 0, .int .i64 0, .int .i64 0, .int .i64 0, .int .u64 0, .int .i64 0, .string ⟨#[]⟩, .int .i64 0, .int .i64 0] 66)).setRow w3.heap.size #[.slice a3 xs.length cap3, .int .i64 e.p.root, .int .i64 e.p.deep, .int .i64 e.p.most, .int .i64 e.mode, .slice none 0 0, .int .u64 e.bits, .int .i64 e.have_, .int .i64 e.start, .int .i64 e.at_, .int .i64 e.field.number, .int .i64 e.field.kind, .bool e.field.rep, .bool e.field.packed, .int .i64 e.field.msg, .int .i64 e.wire, .int .i64 e.want, .int .i64 e.utf.want, .int .i64 e.utf.low, .int .i64 e.utf.high, .int .i64 e.end_.kind, .int .i64 e.end_.field, .int .u64 e.end_.bits, .int .i64 e.end_.len, .string e.end_.text, .int .i64 e.end_.code, .int .i64 e.end_.at_]) := below_setRow ((Below.refl _ _).alloc (Nat.le_refl _) _) (Nat.le_refl _) _
      go_wp2_with (first | ((with_reducible show wpList _ _ _ (⟨_, Op.store 66 _ _, _, _, _, _⟩ :: _) _ _); refine wpList_store_row rfl 66 (.tmp 4) (.tmp 13) rfl (w3.heap.size) #[.slice a3 xs.length cap3, .int .i64 e.p.root, .int .i64 e.p.deep, .int .i64 e.p.most, .int .i64 e.mode, .slice none 0 0, .int .u64 e.bits, .int .i64 e.have_, .int .i64 e.start, .int .i64 e.at_, .int .i64 e.field.number, .int .i64 e.field.kind, .bool e.field.rep, .bool e.field.packed, .int .i64 e.field.msg, .int .i64 e.wire, .int .i64 e.want, .int .i64 e.utf.want, .int .i64 e.utf.low, .int .i64 e.utf.high, .int .i64 e.end_.kind, .int .i64 e.end_.field, .int .u64 e.end_.bits, .int .i64 e.end_.len, .string e.end_.text, .int .i64 e.end_.code, .int .i64 e.end_.at_] rfl rfl 66 #[.slice none 0 0, .int .i64 0, .int .i64 0, .int .i64 0, .int .i64 0, .slice none 0 0, .int .u64 0, .int .i64 0, .int .i64 0, .int .i64 0, .int .i64 0, .int .i64 0, .bool false, .bool false, .int .i64 0, .int .i64 0, .int .i64 0, .int .i64 0, .int .i64 0, .int .i64 0, .int .i64 0, .int .i64 0, .int .u64 0, .int .i64 0, .string ⟨#[]⟩, .int .i64 0, .int .i64 0] (hset_new rfl) size_Dec rfl (one_Dec _ _ _ _ _ _ _) ?_) | ((with_reducible show wpList _ _ _ (⟨_, Op.load 55 _, _, _, _, _⟩ :: _) _ _); refine wpList_load_mid rfl 55 _ rfl (w1.heap.size) 0 rfl [.slice a1 xs.length cap1, .int .i64 p.root, .int .i64 p.deep, .int .i64 p.most] _ (range_of_cells (box_next (w := w3) (by ((repeat (first | (with_reducible exact Below.refl _ _) | (with_reducible assumption) | (with_reducible refine Below.alloc ?_ ?_ _) | (with_reducible refine Below.setCell ?_ ?_ _) | (with_reducible refine Below.drew ?_) | (with_reducible refine below_setRow ?_ ?_ _) | (refine Below.trans ?_ (Below.mono (by assumption) ?_)))); all_goals (first | omega | (simp; done) | (simp; omega)))) hlP kP)) Try.underlying55 rfl size_Plan4 ?_))
      refine (specPlanOk_any _ _ _ p xs _ (HS3.out.keep hb4).shs rfl (by omega) hms).mono ?_
      rintro r w5 ⟨rfl, hb5⟩
      rw [HP.out]
      have hz4 := hb4.size
      have hD5 : w5.heap[w3.heap.size]? = some (.cells #[.slice a3 xs.length cap3, .int .i64 e.p.root, .int .i64 e.p.deep, .int .i64 e.p.most, .int .i64 e.mode, .slice none 0 0, .int .u64 e.bits, .int .i64 e.have_, .int .i64 e.start, .int .i64 e.at_, .int .i64 e.field.number, .int .i64 e.field.kind, .bool e.field.rep, .bool e.field.packed, .int .i64 e.field.msg, .int .i64 e.wire, .int .i64 e.want, .int .i64 e.utf.want, .int .i64 e.utf.low, .int .i64 e.utf.high, .int .i64 e.end_.kind, .int .i64 e.end_.field, .int .u64 e.end_.bits, .int .i64 e.end_.len, .string e.end_.text, .int .i64 e.end_.code, .int .i64 e.end_.at_] 66 (0, 0)) := (hb5.block _ (by simp [size_setRow])).trans (hset_row (hset_new (o := .cells #[.slice none 0 0, .int .i64 0, .int .i64 0, .int .i64 0, .int .i64 0, .slice none 0 0, .int .u64 0, .int .i64 0, .int .i64 0, .int .i64 0, .int .i64 0, .int .i64 0, .bool false, .bool false, .int .i64 0, .int .i64 0, .int .i64 0, .int .i64 0, .int .i64 0, .int .i64 0, .int .i64 0, .int .i64 0, .int .u64 0, .int .i64 0, .string ⟨#[]⟩, .int .i64 0, .int .i64 0] 66) rfl))
      have hb5w : Below w3.heap.size w3 w5 := hb4.trans (hb5.mono hb4.size)
      have HS5 := Lib.hid (HO3.out.shs.keep hb5w)
      have hbw5 : Below w.heap.size w w5 := hbw3.trans (hb5w.mono hbw3.size)
      obtain ⟨DB, hDB⟩ : ∃ DB, w3.heap.size = DB := ⟨_, rfl⟩
      rw [hDB] at hD5
      have kD := box_cells hD5; have hlD := box_lt hD5
      clear hb4 hb5 hD5 hb5w k0 k1 k2 k3 hlP kP
      try simp only [hDB]
      clear hDB
      go_wp2_with (first | ((with_reducible show wpList _ _ _ (⟨_, Op.load 66 _, _, _, _, _⟩ :: _) _ _); refine wpList_load_want 66 _ rfl rfl DB 0 rfl (Dc.cl e (.slice a3 xs.length cap3) (.slice none 0 0)) _ (range_of_cells (by assumption)) Try.underlying66 rfl size_Dec ?_))
      refine (implDecOkL_any e a3 cap3 _ xs none 0 0 [] _ HS5.out (Sl.nil _) HMD.out hg.ok rfl rfl (by omega) hms (by omega)).mono ?_
      rintro r w6 ⟨rfl, hb6⟩
      rw [HDK.out]
      have HS6 := Lib.hid (HS5.out.keep hb6)
      have hbw6 : Below w.heap.size w w6 := hbw5.trans (hb6.mono hbw5.size)
      have kD' := box_next hb6 hlD kD; clear kD; have kD := kD'; clear kD'
      have hlD' := Nat.lt_of_lt_of_le hlD hb6.size; clear hlD; have hlD := hlD'; clear hlD'
      clear hb6 HS5 hbw5
      go_wp2_with (first | ((with_reducible show wpList _ _ _ (⟨_, Op.load 66 _, _, _, _, _⟩ :: _) _ _); refine wpList_load_want 66 _ rfl rfl DB 0 rfl (Dc.cl e (.slice a3 xs.length cap3) (.slice none 0 0)) _ (range_of_cells (by assumption)) Try.underlying66 rfl size_Dec ?_))
      refine (specDecOkL_any e a3 cap3 _ xs none 0 0 [] _ HS6.out (Sl.nil _) HMD.out hg.ok rfl rfl (by omega) hms (by omega)).mono ?_
      rintro r w7 ⟨rfl, hb7⟩
      rw [HDK.out]
      have HS7 := Lib.hid (HS6.out.keep hb7)
      have hbw7 : Below w.heap.size w w7 := hbw6.trans (hb7.mono hbw6.size)
      have kD' := box_next hb7 hlD kD; clear kD; have kD := kD'; clear kD'
      have hlD' := Nat.lt_of_lt_of_le hlD hb7.size; clear hlD; have hlD := hlD'; clear hlD'
      clear hb7 HS6 hbw6
      go_wp2_with (first | ((with_reducible show wpList _ _ _ (⟨_, Op.load 66 _, _, _, _, _⟩ :: _) _ _); refine wpList_load_want 66 _ rfl rfl DB 0 rfl (Dc.cl e (.slice a3 xs.length cap3) (.slice none 0 0)) _ (range_of_cells (by assumption)) Try.underlying66 rfl size_Dec ?_))
      refine (implAtBoundary_any e a3 cap3 _ xs none 0 0 [] _ HS7.out (Sl.nil _) HMD.out hg.ok rfl rfl (by omega) hms (by omega)).mono ?_
      rintro r w8 ⟨rfl, hb8⟩
      rw [HAT.out]
      have HS8 := Lib.hid (HS7.out.keep hb8)
      have hbw8 : Below w.heap.size w w8 := hbw7.trans (hb8.mono hbw7.size)
      have kD' := box_next hb8 hlD kD; clear kD; have kD := kD'; clear kD'
      have hlD' := Nat.lt_of_lt_of_le hlD hb8.size; clear hlD; have hlD := hlD'; clear hlD'
      clear hb8 HS7 hbw7
      go_wp2_with (first | ((with_reducible show wpList _ _ _ (⟨_, Op.load 66 _, _, _, _, _⟩ :: _) _ _); refine wpList_load_want 66 _ rfl rfl DB 0 rfl (Dc.cl e (.slice a3 xs.length cap3) (.slice none 0 0)) _ (range_of_cells (by assumption)) Try.underlying66 rfl size_Dec ?_))
      refine (implRetained_any e a3 cap3 _ xs none 0 0 [] _ HS8.out (Sl.nil _) HMD.out hg.ok rfl rfl (by omega) hms (by omega)).mono ?_
      rintro r w9 ⟨rfl, hb9⟩
      rw [HH.out]
      have HS9 := Lib.hid (HS8.out.keep hb9)
      have hbw9 : Below w.heap.size w w9 := hbw8.trans (hb9.mono hbw8.size)
      have kD' := box_next hb9 hlD kD; clear kD; have kD := kD'; clear kD'
      have hlD' := Nat.lt_of_lt_of_le hlD hb9.size; clear hlD; have hlD := hlD'; clear hlD'
      clear hb9 HS8 hbw8
      go_wp2_with (first | ((with_reducible show wpList _ _ _ (⟨_, Op.load 66 _, _, _, _, _⟩ :: _) _ _); refine wpList_load_want 66 _ rfl rfl DB 0 rfl (Dc.cl e (.slice a3 xs.length cap3) (.slice none 0 0)) _ (range_of_cells (by assumption)) Try.underlying66 rfl size_Dec ?_))
      refine (implLeftIn_any e a3 cap3 _ xs none 0 0 [] _ HS9.out (Sl.nil _) HMD.out hg.ok rfl rfl (by omega) hms (by omega)).mono ?_
      rintro r w10 ⟨rfl, hb10⟩
      rw [HLF.out]
      have HS10 := Lib.hid (HS9.out.keep hb10)
      have hbw10 : Below w.heap.size w w10 := hbw9.trans (hb10.mono hbw9.size)
      have kD' := box_next hb10 hlD kD; clear kD; have kD := kD'; clear kD'
      have hlD' := Nat.lt_of_lt_of_le hlD hb10.size; clear hlD; have hlD := hlD'; clear hlD'
      clear hb10 HS9 hbw9
      go_wp2
      go_ret
      exact ⟨rfl, hbw10⟩
set_option maxRecDepth 100000 in
theorem lifted (os : Os) (started : os.Started) (H : Type) (enc : TypeId × Value → H) :
    ReturnsInHanded {} Try.checked os 5 .any (Rows.fnNewSpec.pre6 enc Try.prog Try.f5 Rows.fnNewRow.domain false) (Rows.fnNewSpec.post enc Try.prog Try.f5 false true false false) := by
  refine returnsInHanded_of_change (C := Try.checked) own started (by kernel_rfl) Try.func5
    (ChangeSpec.witness6 (enc := enc) (C := Try.checked) false ⟨#[], #[.slice none 0 0], []⟩ 8 (by kernel_rfl) (by kernel_rfl) (by kernel_rfl) (by kernel_rfl)) ?_
  intro W base args ds gs before hval0 hW hcnd _
  have hval : ∀ (j : Nat) t v, Try.f5.params[j]? = some t → args[j]? = some v → Value.okWide Try.prog W .any base t v := hval0
  have hW' := hW
  obtain ⟨p, q, hA0, hV, rfl, hfz, hnd⟩ := hW
  have hA : DataW.TrodAll enc Try.prog W 0 (fun _ => true) true Try.f5.params.toList args.toList ds p := hA0
  rw [Try.params5] at hA hval
  obtain ⟨v0, vs0, d0, ds0, p0, q0, hargs, rfl, rfl, h0, r0⟩ := trodAll_cons hA
  obtain ⟨rfl, rfl, rfl⟩ := trodAll_nil r0
  obtain rfl : args = #[v0] := by cases args; simp_all
  obtain ⟨rfl, rfl⟩ := trodVars_none hV
  have k0 := h0
  have lt0 : ∀ x ∈ p0, x.block < W.heap.size := by obtain ⟨m, hm⟩ := k0; exact DataW.trod_lt m _ _ _ hm
  obtain ⟨x0, e0, w0⟩ := openBytes (hval 0 22 v0 rfl rfl) h0
  subst e0
  clear hA0 hval0
  refine (walk W x0 w0).mono fun e W' ⟨he, bel⟩ => ?_
  subst he
  exact ⟨_, rfl, _, _, _, [], _, [], hW', trodAll_mk1 (shut_bool Try.underlying4 _), (trodAll_cons_mk (Below.trod laidOut (by kernel_rfl) (of_decide_eq_true (by kernel_rfl)) k0 bel lt0) trodAll_mk0), rfl, bel.frame _, fun h => by cases h⟩

theorem over : Rows.fnNewRow.holds Try.pinned (OpenSpec.ofChange Rows.fnNewSpec) :=
  OpenClaim.holds_of_wide 5 Try.f5 rfl rfl rfl rfl rfl rfl rfl ⟨rfl, rfl, rfl, rfl, rfl⟩ rfl rfl rfl rfl rfl (by kernel_rfl) Try.func5 (by kernel_rfl)
    (of_decide_eq_true (by kernel_rfl)) (by unfold Func.isWrapper; first | (rw [if_pos (by decide +kernel)]; kernel_rfl) | (rw [if_neg (by decide +kernel)]; exact ⟨rfl, rfl⟩))
    (fun os started H enc _ => lifted os started H enc)

/-- The given statement. -/
theorem proved : Rows.FnNewSaid := over
end Go.Proofs.Ytbgejldjgkihaaa.fnNew
