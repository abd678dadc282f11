/- Copies of plans and decoders. -/
import Derived.Test.YtigmdaiecdoimaaCpyS
import Derived.Test.YtigmdaiecdoimaaToDec
import Derived.Test.YtigmdaiecdoimaaPlanOk
namespace Go.Proofs.Ytigmdaiecdoimaa
set_option linter.unusedSimpArgs false
set_option linter.unusedVariables false
open Go.ChangeShapes Go.WideShapes Go.ChangeAt Go.RowKit Go.BigFrame

theorem lvl_nil {w : World} {a : Option Addr} {cap : Nat} {ls : List Lvl} (h : Lvls w a ls) (hn : a = none → cap = 0) : a = none → ls.length = 0 ∧ cap = 0 := fun e => ⟨by rw [e] at h; rw [sl_none h]; rfl, hn e⟩
theorem sl_newsN {α : Type} {sz : Nat} {cs : α → List Value} {w : World} {a : Option Addr} {xs : List α} (hsz : 0 < sz) (hcs : ∀ x, (cs x).length = sz) (h : Sl sz cs w a xs) :
    ∀ (ad : Addr), a = some ad → ∀ (j : Nat) (u : Value), (xs.flatMap cs)[j]? = some u → w.cell? (ad.add j) = some u := fun ad e => sl_news hsz hcs (by rw [← e]; exact h)
theorem OwnShs.chain {w w' : World} {base B n : Nat} {T TF : TypeId} {v : Value} {rs : List ShR} {xs : List Shp} (h : OwnShs w base T TF v n rs xs) (hb : Below B w w') (hB : w.heap.size ≤ B) : OwnShs w' base T TF v n rs xs := h.below hb hB
set_option maxRecDepth 100000 in
set_option maxHeartbeats 4000000 in
theorem l14Copy_any (d : Dc) (a : Option Addr) (cap : Nat) (xs : List Shp) (sa : Option Addr) (scap : Nat) (ls : List Lvl) (w : World) (h : ShsC w a xs) (h' : Lvls w sa ls) (hn : xs.length ≤ 1048576) (hm : fldSum xs ≤ 1048576) (hm' : ls.length ≤ 1048576) (hnil : sa = none → scap = 0) :
    Calls Try.prog 99 #[d.val (.slice a xs.length cap) (.slice sa ls.length scap)] w (FreshDec w 38 40 131 d xs ls) := by
  have HSs := Lib.hid h; clear h
  have HSl := Lib.hid h'; clear h'
  have hnil2 := lvl_nil HSl.out hnil
  obtain ⟨i0, hi, hj0, hj1, hj2⟩ := info_parts info_Level
  go_enter Try.func99, Try.ntmps99
  go_wp2_with fail
  refine (l8Copy_any a cap xs.length xs _ (ShsC.keep HSs.out (by ((repeat (first | (with_reducible exact Below.refl _ _) | (with_reducible assumption) | (with_reducible refine Below.alloc ?_ ?_ _) | (with_reducible refine Below.setCell ?_ ?_ _) | (with_reducible refine Below.drew ?_) | (with_reducible refine below_setRow ?_ ?_ _) | (refine Below.trans ?_ (Below.mono (by assumption) ?_)))); all_goals (first | omega | (simp; done) | (simp; omega))))) rfl hn hm).mono ?_
  rintro r w1 ⟨a1, cap1, rs1, rfl, ho1, hb1⟩
  have P1 := Lib.hid (OwnShs.le ho1 (show w.heap.size + 1 + 1 ≤ _ by simp)); clear ho1
  have hz1 := hb1.size
  simp only [World.size_alloc] at hz1
  have hA_ : w1.heap[w.heap.size]? = some (.cells #[.slice a xs.length cap, .int .i64 d.p.root, .int .i64 d.p.deep, .int .i64 d.p.most, .int .i64 d.mode, .slice sa ls.length scap, .int .u64 d.bits, .int .i64 d.have_, .int .i64 d.start, .int .i64 d.at_, .int .i64 d.field.number, .int .i64 d.field.kind, .bool d.field.rep, .bool d.field.packed, .int .i64 d.field.msg, .int .i64 d.wire, .int .i64 d.want, .int .i64 d.utf.want, .int .i64 d.utf.low, .int .i64 d.utf.high, .int .i64 d.end_.kind, .int .i64 d.end_.field, .int .u64 d.end_.bits, .int .i64 d.end_.len, .string d.end_.text, .int .i64 d.end_.code, .int .i64 d.end_.at_] 69 (0, 0)) := (hb1.block _ (by simp; omega)).trans (hset_alloc (hset_new rfl))
  have hR_ : w1.heap[w.heap.size + 1]? = some (.cells #[.slice none 0 0, .int .i64 0, .int .i64 0, .int .i64 0, .int .i64 0, .slice none 0 0, .int .u64 0, .int .i64 0, .int .i64 0, .int .i64 0, .int .i64 0, .int .i64 0, .bool false, .bool false, .int .i64 0, .int .i64 0, .int .i64 0, .int .i64 0, .int .i64 0, .int .i64 0, .int .i64 0, .int .i64 0, .int .u64 0, .int .i64 0, .string ⟨#[]⟩, .int .i64 0, .int .i64 0] 69 (0, 0)) := (hb1.block _ (by simp)).trans (hset_new (by simp))
  have hb1b : Below w.heap.size w w1 := by ((repeat (first | (with_reducible exact Below.refl _ _) | (with_reducible assumption) | (with_reducible refine Below.alloc ?_ ?_ _) | (with_reducible refine Below.setCell ?_ ?_ _) | (with_reducible refine Below.drew ?_) | (with_reducible refine below_setRow ?_ ?_ _) | (refine Below.trans ?_ (Below.mono (by assumption) ?_)))); all_goals (first | omega | (simp; done) | (simp; omega)))
  have kA := box_cells hA_; have fA := box_frozen hA_; have hBA := box_lt hA_; have HA := Lib.hid hA_; clear hA_
  have HR := Lib.hid hR_; clear hR_
  clear hb1
  have HB : Hid (((w1.setCell ⟨w.heap.size, 0, none⟩ (.slice a1 xs.length cap1)).alloc (.cells #[] 131)).ownsRow w1.heap.size 131 2 (.slice (some ⟨w1.heap.size, 0, none⟩) 0 0) 0 []) := Lib.hid (by have h0 := own_built (w1.setCell ⟨w.heap.size, 0, none⟩ (.slice a1 xs.length cap1)) 131 2; rw [World.size_setCell] at h0; exact h0)
  have HN := Lib.hid (sl_newsN (w := (w1.setCell ⟨w.heap.size, 0, none⟩ (.slice a1 xs.length cap1)).alloc (.cells #[] 131)) (cs := Lvl.cs) (by omega) lvl_len (Sl.keep HSl.out (by ((repeat (first | (with_reducible exact Below.refl _ _) | (with_reducible assumption) | (with_reducible refine Below.alloc ?_ ?_ _) | (with_reducible refine Below.setCell ?_ ?_ _) | (with_reducible refine Below.drew ?_) | (with_reducible refine below_setRow ?_ ?_ _) | (refine Below.trans ?_ (Below.mono (by assumption) ?_)))); all_goals (first | omega | (simp; done) | (simp; omega))))))
  go_wp2_with (first
    | (at_builtin; refine wpList_append_any rfl _ _ 61 rfl w1.heap.size 131 i0 _ 2 16 Try.underlying61 hi hj0 hj1 hj2 rfl (by decide) _ 0 [] rfl HB.out sa ls.length scap (ls.flatMap Lvl.cs) rfl hnil2 (by rw [flatMap_len lvl_len]) HN.out (flat_one lvl_one _) (by unfold maxLen; omega) (by omega) (by simp) ?_; intro v2 w2 hown2 hgr2; obtain ⟨a2, cap2, rfl, _⟩ := own_sh hown2; have ho2 := hown2; simp only [Nat.zero_add, List.nil_append] at ho2; clear hown2; have P2 := Lib.hid (owns_le ho2 (show w.heap.size + 1 + 1 ≤ w1.heap.size by omega)); clear ho2; have hbg : Below w1.heap.size (w1.setCell ⟨w.heap.size, 0, none⟩ (.slice a1 xs.length cap1)) w2 := below_grown (by ((repeat (first | (with_reducible exact Below.refl _ _) | (with_reducible assumption) | (with_reducible refine Below.alloc ?_ ?_ _) | (with_reducible refine Below.setCell ?_ ?_ _) | (with_reducible refine Below.drew ?_) | (with_reducible refine below_setRow ?_ ?_ _) | (refine Below.trans ?_ (Below.mono (by assumption) ?_)))); all_goals (first | omega | (simp; done) | (simp; omega)))) hgr2 (fun g e => by have e' : w1.heap.size = g := Option.some.inj e; omega) (by simp); have hz2 := hbg.size; simp only [World.size_setCell] at hz2; have P1_ := Lib.hid ((P1.out.set (p := ⟨w.heap.size, 0, none⟩) (by simp; omega) (.slice a1 xs.length cap1)).chain hbg (by simp)); clear P1; have P1 := P1_; clear P1_; have hA_ : w2.heap[w.heap.size]? = some (.cells #[.slice a1 xs.length cap1, .int .i64 d.p.root, .int .i64 d.p.deep, .int .i64 d.p.most, .int .i64 d.mode, .slice sa ls.length scap, .int .u64 d.bits, .int .i64 d.have_, .int .i64 d.start, .int .i64 d.at_, .int .i64 d.field.number, .int .i64 d.field.kind, .bool d.field.rep, .bool d.field.packed, .int .i64 d.field.msg, .int .i64 d.wire, .int .i64 d.want, .int .i64 d.utf.want, .int .i64 d.utf.low, .int .i64 d.utf.high, .int .i64 d.end_.kind, .int .i64 d.end_.field, .int .u64 d.end_.bits, .int .i64 d.end_.len, .string d.end_.text, .int .i64 d.end_.code, .int .i64 d.end_.at_] 69 (0, 0)) := (hbg.block _ (by omega)).trans (hset_same HA.out rfl); have hR_ : w2.heap[w.heap.size + 1]? = some (.cells #[.slice none 0 0, .int .i64 0, .int .i64 0, .int .i64 0, .int .i64 0, .slice none 0 0, .int .u64 0, .int .i64 0, .int .i64 0, .int .i64 0, .int .i64 0, .int .i64 0, .bool false, .bool false, .int .i64 0, .int .i64 0, .int .i64 0, .int .i64 0, .int .i64 0, .int .i64 0, .int .i64 0, .int .i64 0, .int .u64 0, .int .i64 0, .string ⟨#[]⟩, .int .i64 0, .int .i64 0] 69 (0, 0)) := (hbg.block _ (by omega)).trans (hset_other HR.out (by simp)); have hb2 : Below w.heap.size w w2 := (hb1b.setCell (by simp) _).trans (hbg.mono (by omega)); clear kA fA HA HR hBA HB HN hgr2; have kA := box_cells hA_; have fA := box_frozen hA_; have hBA := box_lt hA_; have HA := Lib.hid hA_; clear hA_; have HR := Lib.hid hR_; clear hR_; simp only [Nat.zero_add])
    | (refine wpList_load_mid rfl 69 (.tmp 1) rfl w.heap.size 0 rfl [.slice a1 xs.length cap1, .int .i64 d.p.root, .int .i64 d.p.deep, .int .i64 d.p.most, .int .i64 d.mode, .slice a2 ls.length cap2, .int .u64 d.bits, .int .i64 d.have_, .int .i64 d.start, .int .i64 d.at_, .int .i64 d.field.number, .int .i64 d.field.kind, .bool d.field.rep, .bool d.field.packed, .int .i64 d.field.msg, .int .i64 d.wire, .int .i64 d.want, .int .i64 d.utf.want, .int .i64 d.utf.low, .int .i64 d.utf.high, .int .i64 d.end_.kind, .int .i64 d.end_.field, .int .u64 d.end_.bits, .int .i64 d.end_.len, .string d.end_.text, .int .i64 d.end_.code, .int .i64 d.end_.at_] _ (range_of_box (t := 69) (hset_same HA.out rfl)) Try.underlying69 rfl size_Dec ?_)
    | (refine wpList_store_row rfl 69 (.tmp 2) (.tmp 14) rfl (w.heap.size + 1) #[.slice a1 xs.length cap1, .int .i64 d.p.root, .int .i64 d.p.deep, .int .i64 d.p.most, .int .i64 d.mode, .slice a2 ls.length cap2, .int .u64 d.bits, .int .i64 d.have_, .int .i64 d.start, .int .i64 d.at_, .int .i64 d.field.number, .int .i64 d.field.kind, .bool d.field.rep, .bool d.field.packed, .int .i64 d.field.msg, .int .i64 d.wire, .int .i64 d.want, .int .i64 d.utf.want, .int .i64 d.utf.low, .int .i64 d.utf.high, .int .i64 d.end_.kind, .int .i64 d.end_.field, .int .u64 d.end_.bits, .int .i64 d.end_.len, .string d.end_.text, .int .i64 d.end_.code, .int .i64 d.end_.at_] rfl rfl 69 #[.slice none 0 0, .int .i64 0, .int .i64 0, .int .i64 0, .int .i64 0, .slice none 0 0, .int .u64 0, .int .i64 0, .int .i64 0, .int .i64 0, .int .i64 0, .int .i64 0, .bool false, .bool false, .int .i64 0, .int .i64 0, .int .i64 0, .int .i64 0, .int .i64 0, .int .i64 0, .int .i64 0, .int .i64 0, .int .u64 0, .int .i64 0, .string ⟨#[]⟩, .int .i64 0, .int .i64 0] (hset_other HR.out (by simp)) size_Dec rfl (one_Dec _ _ _ _ _ _ _) ?_))
  refine bodyPost_world ?_
  intro W hW
  have hR_ : W.heap[w.heap.size + 1]? = some (.cells #[.slice a1 xs.length cap1, .int .i64 d.p.root, .int .i64 d.p.deep, .int .i64 d.p.most, .int .i64 d.mode, .slice a2 ls.length cap2, .int .u64 d.bits, .int .i64 d.have_, .int .i64 d.start, .int .i64 d.at_, .int .i64 d.field.number, .int .i64 d.field.kind, .bool d.field.rep, .bool d.field.packed, .int .i64 d.field.msg, .int .i64 d.wire, .int .i64 d.want, .int .i64 d.utf.want, .int .i64 d.utf.low, .int .i64 d.utf.high, .int .i64 d.end_.kind, .int .i64 d.end_.field, .int .u64 d.end_.bits, .int .i64 d.end_.len, .string d.end_.text, .int .i64 d.end_.code, .int .i64 d.end_.at_] 69 (0, 0)) := by rw [hW]; exact hset_row (cs := #[.slice none 0 0, .int .i64 0, .int .i64 0, .int .i64 0, .int .i64 0, .slice none 0 0, .int .u64 0, .int .i64 0, .int .i64 0, .int .i64 0, .int .i64 0, .int .i64 0, .bool false, .bool false, .int .i64 0, .int .i64 0, .int .i64 0, .int .i64 0, .int .i64 0, .int .i64 0, .int .i64 0, .int .i64 0, .int .u64 0, .int .i64 0, .string ⟨#[]⟩, .int .i64 0, .int .i64 0]) (hset_other HR.out (by simp))
  have hbW : Below w.heap.size w W := by rw [hW]; ((repeat (first | (with_reducible exact Below.refl _ _) | (with_reducible assumption) | (with_reducible refine Below.alloc ?_ ?_ _) | (with_reducible refine Below.setCell ?_ ?_ _) | (with_reducible refine Below.drew ?_) | (with_reducible refine below_setRow ?_ ?_ _) | (refine Below.trans ?_ (Below.mono (by assumption) ?_)))); all_goals (first | omega | (simp; done) | (simp; omega)))
  have Q1 : OwnShs W (w.heap.size + 1 + 1) 38 40 (.slice a1 xs.length cap1) xs.length rs1 xs := by rw [hW]; exact OwnShs.setRow (P1.out.set (by simp; omega) _) (by omega) _
  have Q2 : W.ownsRow (w.heap.size + 1 + 1) 131 2 (.slice a2 ls.length cap2) ls.length (ls.flatMap Lvl.cs) := by rw [hW]; exact owns_setRow (owns_set P2.out (by simp; omega) _) (by omega) _
  exact bodyPost_ret (v := d.val (.slice a1 xs.length cap1) (.slice a2 ls.length cap2)) (results_cell Try.results99 rfl (run_loadVar_mid W (w.heap.size + 1) 0 69 [.slice a1 xs.length cap1, .int .i64 d.p.root, .int .i64 d.p.deep, .int .i64 d.p.most, .int .i64 d.mode, .slice a2 ls.length cap2, .int .u64 d.bits, .int .i64 d.have_, .int .i64 d.start, .int .i64 d.at_, .int .i64 d.field.number, .int .i64 d.field.kind, .bool d.field.rep, .bool d.field.packed, .int .i64 d.field.msg, .int .i64 d.wire, .int .i64 d.want, .int .i64 d.utf.want, .int .i64 d.utf.low, .int .i64 d.utf.high, .int .i64 d.end_.kind, .int .i64 d.end_.field, .int .u64 d.end_.bits, .int .i64 d.end_.len, .string d.end_.text, .int .i64 d.end_.code, .int .i64 d.end_.at_] _ (range_of_box hR_) Try.underlying69 rfl size_Dec)) rfl ⟨a1, cap1, rs1, a2, cap2, rfl, Q1.le (by omega), owns_le Q2 (by omega), hbW⟩
set_option maxRecDepth 100000 in
set_option maxHeartbeats 2000000 in
theorem copyPlan_any (p : Pl) (a : Option Addr) (cap n : Nat) (xs : List Shp) (w : World) (h : ShsC w a xs) (hx : xs.length = n) (hn : n ≤ 1048576) (hm : fldSum xs ≤ 1048576) :
    Calls Try.prog 74 #[p.val (.slice a n cap)] w (FreshPlan w 38 40 n p xs) := by
  have HX := Lib.hid hx; clear hx
  have HSs := Lib.hid h; clear h
  go_enter Try.func74, Try.ntmps74
  go_wp2_with fail
  refine (copySchema_any a cap n xs _ (HSs.out.keep (by ((repeat (first | (with_reducible exact Below.refl _ _) | (with_reducible assumption) | (with_reducible refine Below.alloc ?_ ?_ _) | (with_reducible refine Below.setCell ?_ ?_ _) | (with_reducible refine Below.drew ?_) | (with_reducible refine below_setRow ?_ ?_ _) | (refine Below.trans ?_ (Below.mono (by assumption) ?_)))); all_goals (first | omega | (simp; done) | (simp; omega))))) HX.out hn hm).mono ?_
  rintro r w1 ⟨a1, cap1, rs1, rfl, ho1, hb1⟩
  have hz1 := hb1.size
  simp only [World.size_alloc] at hz1
  have P1 := Lib.hid (OwnShs.le ho1 (show w.heap.size + 1 + 1 ≤ _ by simp)); clear ho1
  have hA_ : w1.heap[w.heap.size]? = some (.cells #[.slice a n cap, .int .i64 p.root, .int .i64 p.deep, .int .i64 p.most] 59 (0, 0)) := (hb1.block _ (by simp; omega)).trans (hset_alloc (hset_new rfl))
  have hR_ : w1.heap[w.heap.size + 1]? = some (.cells #[.slice none 0 0, .int .i64 0, .int .i64 0, .int .i64 0] 59 (0, 0)) := (hb1.block _ (by simp)).trans (hset_new (by simp))
  have hb1b : Below w.heap.size w w1 := by ((repeat (first | (with_reducible exact Below.refl _ _) | (with_reducible assumption) | (with_reducible refine Below.alloc ?_ ?_ _) | (with_reducible refine Below.setCell ?_ ?_ _) | (with_reducible refine Below.drew ?_) | (with_reducible refine below_setRow ?_ ?_ _) | (refine Below.trans ?_ (Below.mono (by assumption) ?_)))); all_goals (first | omega | (simp; done) | (simp; omega)))
  clear hb1
  have kA := box_cells hA_; have fA := box_frozen hA_; have hBA := box_lt hA_
  have kR := box_cells hR_; have fR := box_frozen hR_; have hBR := box_lt hR_
  have HR := Lib.hid hR_; clear hR_ hA_
  go_wp2
  have hW := hset_set (o := 3) (v := .int .i64 p.most) (hset_set (o := 2) (v := .int .i64 p.deep) (hset_set (o := 1) (v := .int .i64 p.root) (hset_set (o := 0) (v := .slice a1 n cap1) (hset_other (p := ⟨w.heap.size, 0, none⟩) (v := .slice a1 n cap1) HR.out (by simp)))))
  have kW := box_cells hW
  simp only [List.setIfInBounds_toArray, List.set_cons_zero, List.set_cons_succ] at kW
  refine bodyPost_ret (v := p.val (.slice a1 n cap1)) (by simp [results, Try.results74, go_sem, kW]) rfl ⟨a1, cap1, rs1, rfl, ?_, by ((repeat (first | (with_reducible exact Below.refl _ _) | (with_reducible assumption) | (with_reducible refine Below.alloc ?_ ?_ _) | (with_reducible refine Below.setCell ?_ ?_ _) | (with_reducible refine Below.drew ?_) | (with_reducible refine below_setRow ?_ ?_ _) | (refine Below.trans ?_ (Below.mono (by assumption) ?_)))); all_goals (first | omega | (simp; done) | (simp; omega)))⟩
  ((first | refine owns_le (base := ?_) ?_ ?_ | refine OwnShs.le (base := ?_) ?_ ?_); rotate_left; (repeat (first | (refine owns_set ?_ ?_ _) | (refine OwnShs.set ?_ ?_ _) | exact P1.out)); all_goals (first | omega | (simp; done) | (simp; omega)))
set_option maxRecDepth 100000 in
set_option maxHeartbeats 4000000 in
theorem copyDec_any (d : Dc) (a : Option Addr) (cap : Nat) (xs : List Shp) (sa : Option Addr) (scap : Nat) (ls : List Lvl) (w : World) (h : ShsC w a xs) (h' : Lvls w sa ls) (hn : xs.length ≤ 1048576) (hm : fldSum xs ≤ 1048576) (hm' : ls.length ≤ 1048576) (hnil : sa = none → scap = 0) :
    Calls Try.prog 162 #[d.val (.slice a xs.length cap) (.slice sa ls.length scap)] w (FreshDec w 38 40 131 d xs ls) := by
  have HSs := Lib.hid h; clear h
  have HSl := Lib.hid h'; clear h'
  go_enter Try.func162, Try.ntmps162
  go_wp2_with fail
  obtain ⟨w0, hw0⟩ : ∃ w0, w0 = (w.alloc (.cells #[.slice a xs.length cap, .int .i64 d.p.root, .int .i64 d.p.deep, .int .i64 d.p.most, .int .i64 d.mode, .slice sa ls.length scap, .int .u64 d.bits, .int .i64 d.have_, .int .i64 d.start, .int .i64 d.at_, .int .i64 d.field.number, .int .i64 d.field.kind, .bool d.field.rep, .bool d.field.packed, .int .i64 d.field.msg, .int .i64 d.wire, .int .i64 d.want, .int .i64 d.utf.want, .int .i64 d.utf.low, .int .i64 d.utf.high, .int .i64 d.end_.kind, .int .i64 d.end_.field, .int .u64 d.end_.bits, .int .i64 d.end_.len, .string d.end_.text, .int .i64 d.end_.code, .int .i64 d.end_.at_] 69)).alloc (.cells #[.slice none 0 0, .int .i64 0, .int .i64 0, .int .i64 0, .int .i64 0, .slice none 0 0, .int .u64 0, .int .i64 0, .int .i64 0, .int .i64 0, .int .i64 0, .int .i64 0, .bool false, .bool false, .int .i64 0, .int .i64 0, .int .i64 0, .int .i64 0, .int .i64 0, .int .i64 0, .int .i64 0, .int .i64 0, .int .u64 0, .int .i64 0, .string ⟨#[]⟩, .int .i64 0, .int .i64 0] 69) := ⟨_, rfl⟩
  rw [← hw0]
  have hA_ : w0.heap[w.heap.size]? = some (.cells #[.slice a xs.length cap, .int .i64 d.p.root, .int .i64 d.p.deep, .int .i64 d.p.most, .int .i64 d.mode, .slice sa ls.length scap, .int .u64 d.bits, .int .i64 d.have_, .int .i64 d.start, .int .i64 d.at_, .int .i64 d.field.number, .int .i64 d.field.kind, .bool d.field.rep, .bool d.field.packed, .int .i64 d.field.msg, .int .i64 d.wire, .int .i64 d.want, .int .i64 d.utf.want, .int .i64 d.utf.low, .int .i64 d.utf.high, .int .i64 d.end_.kind, .int .i64 d.end_.field, .int .u64 d.end_.bits, .int .i64 d.end_.len, .string d.end_.text, .int .i64 d.end_.code, .int .i64 d.end_.at_] 69 (0, 0)) := by rw [hw0]; exact hset_alloc (hset_new rfl)
  have hR_ : w0.heap[w.heap.size + 1]? = some (.cells #[.slice none 0 0, .int .i64 0, .int .i64 0, .int .i64 0, .int .i64 0, .slice none 0 0, .int .u64 0, .int .i64 0, .int .i64 0, .int .i64 0, .int .i64 0, .int .i64 0, .bool false, .bool false, .int .i64 0, .int .i64 0, .int .i64 0, .int .i64 0, .int .i64 0, .int .i64 0, .int .i64 0, .int .i64 0, .int .u64 0, .int .i64 0, .string ⟨#[]⟩, .int .i64 0, .int .i64 0] 69 (0, 0)) := by rw [hw0]; exact hset_new (by simp)
  have hb0 : Below w.heap.size w w0 := by rw [hw0]; ((repeat (first | (with_reducible exact Below.refl _ _) | (with_reducible assumption) | (with_reducible refine Below.alloc ?_ ?_ _) | (with_reducible refine Below.setCell ?_ ?_ _) | (with_reducible refine Below.drew ?_) | (with_reducible refine below_setRow ?_ ?_ _) | (refine Below.trans ?_ (Below.mono (by assumption) ?_)))); all_goals (first | omega | (simp; done) | (simp; omega)))
  have hz0 : w0.heap.size = w.heap.size + 1 + 1 := by rw [hw0]; simp
  clear hw0
  have kA := box_cells hA_
  refine wp_region_till (Cells [(⟨w.heap.size, 0, none⟩, .slice a xs.length cap), (⟨w.heap.size, 1, none⟩, .int .i64 d.p.root), (⟨w.heap.size, 2, none⟩, .int .i64 d.p.deep), (⟨w.heap.size, 3, none⟩, .int .i64 d.p.most), (⟨w.heap.size, 5, none⟩, .slice sa ls.length scap)]) (fun i => decide (7 ≤ i)) (by kernel_rfl) ?_
  have hS : Cells [(⟨w.heap.size, 0, none⟩, .slice a xs.length cap), (⟨w.heap.size, 1, none⟩, .int .i64 d.p.root), (⟨w.heap.size, 2, none⟩, .int .i64 d.p.deep), (⟨w.heap.size, 3, none⟩, .int .i64 d.p.most), (⟨w.heap.size, 5, none⟩, .slice sa ls.length scap)] w0.drew := cells_mk (kA 0) (cells_mk (kA 1) (cells_mk (kA 2) (cells_mk (kA 3) (cells_mk (kA 5) (cells_no _)))))
  clear kA
  have HA := Lib.hid hA_; clear hA_
  have HR := Lib.hid hR_; clear hR_
  refine wpTill_take (i := 0) (v := ?v0_1) rfl (by kernel_rfl) (by kernel_rfl) (by kernel_rfl) (by kernel_rfl) (fun _ _ _ h => h) (Or.inl ⟨by rfl, ?y0_1⟩) hS ?r0_1
  case y0_1 => (intro wq hq; (try simp only [cells_cons, cells_nil, and_true] at hq); first | (go_simp; done) | (go_simp; with_reducible rfl) | (obtain ⟨hq1, hq2⟩ := hq; go_simp; with_reducible rfl))
  try simp only [List.getElem_toArray, List.getElem_cons_succ, List.getElem_cons_zero, Act.put, List.setIfInBounds_toArray, List.set_cons_zero, List.set_cons_succ]
  refine wpTill_take (i := 1) (v := ?v1_2) rfl (by kernel_rfl) (by kernel_rfl) (by kernel_rfl) (by kernel_rfl) (fun _ _ _ h => h) (Or.inl ⟨by rfl, ?y1_2⟩) hS ?r1_2
  case y1_2 => (intro wq hq; (try simp only [cells_cons, cells_nil, and_true] at hq); first | (go_simp; done) | (go_simp; with_reducible rfl) | (obtain ⟨hq1, hq2⟩ := hq; go_simp; with_reducible rfl))
  try simp only [List.getElem_toArray, List.getElem_cons_succ, List.getElem_cons_zero, Act.put, List.setIfInBounds_toArray, List.set_cons_zero, List.set_cons_succ]
  refine wpTill_take (i := 3) (v := ?v3_3) rfl (by kernel_rfl) (by kernel_rfl) (by kernel_rfl) (by kernel_rfl) (fun _ _ _ h => h) (Or.inl ⟨by rfl, ?y3_3⟩) hS ?r3_3
  case y3_3 => (intro wq hq; (try simp only [cells_cons, cells_nil, and_true] at hq); first | (go_simp; done) | (go_simp; with_reducible rfl) | (obtain ⟨hq1, hq2⟩ := hq; go_simp; with_reducible rfl))
  try simp only [List.getElem_toArray, List.getElem_cons_succ, List.getElem_cons_zero, Act.put, List.setIfInBounds_toArray, List.set_cons_zero, List.set_cons_succ]
  refine wpTill_take (i := 4) (v := ?v4_4) rfl (by kernel_rfl) (by kernel_rfl) (by kernel_rfl) (by kernel_rfl) (fun _ _ _ h => h) (Or.inl ⟨by rfl, ?y4_4⟩) hS ?r4_4
  case y4_4 => (intro wq hq; (try simp only [cells_cons, cells_nil, and_true] at hq); first | (go_simp; done) | (go_simp; with_reducible rfl) | (obtain ⟨hq1, hq2⟩ := hq; go_simp; with_reducible rfl))
  try simp only [List.getElem_toArray, List.getElem_cons_succ, List.getElem_cons_zero, Act.put, List.setIfInBounds_toArray, List.set_cons_zero, List.set_cons_succ]
  refine wpTill_op (i := 2) (by kernel_rfl) rfl (fun K hK => ?_)
  go_simp
  refine (copyPlan_any d.p a cap xs.length xs _ (HSs.out.keep (by ((repeat (first | (with_reducible exact Below.refl _ _) | (with_reducible assumption) | (with_reducible refine Below.alloc ?_ ?_ _) | (with_reducible refine Below.setCell ?_ ?_ _) | (with_reducible refine Below.drew ?_) | (with_reducible refine below_setRow ?_ ?_ _) | (refine Below.trans ?_ (Below.mono (by assumption) ?_)))); all_goals (first | omega | (simp; done) | (simp; omega))))) rfl hn hm).mono ?_
  rintro r w1 ⟨a1, cap1, rs1, rfl, ho1, hb1⟩
  refine hK.out _ _ (fun _ => hS.below hb1) ?_
  have hS1 := hS.below hb1; clear hS; have hS := hS1; clear hS1
  clear hK K
  have hz1 := hb1.size
  simp only [World.size_drew] at hz1
  have P1 := Lib.hid (OwnShs.le ho1 (show w.heap.size + 1 + 1 ≤ _ by simp; omega)); clear ho1
  have hb01 : Below w0.heap.size w0 w1 := by ((repeat (first | (with_reducible exact Below.refl _ _) | (with_reducible assumption) | (with_reducible refine Below.alloc ?_ ?_ _) | (with_reducible refine Below.setCell ?_ ?_ _) | (with_reducible refine Below.drew ?_) | (with_reducible refine below_setRow ?_ ?_ _) | (refine Below.trans ?_ (Below.mono (by assumption) ?_)))); all_goals (first | omega | (simp; done) | (simp; omega)))
  try simp only [Act.put, List.setIfInBounds_toArray, List.set_cons_zero, List.set_cons_succ]
  refine wpTill_take (i := 6) (v := ?v6_5) rfl (by kernel_rfl) (by kernel_rfl) (by kernel_rfl) (by kernel_rfl) (fun _ _ _ h => h) (Or.inl ⟨by rfl, ?y6_5⟩) hS ?r6_5
  case y6_5 => (intro wq hq; (try simp only [cells_cons, cells_nil, and_true] at hq); first | (go_simp; done) | (go_simp; with_reducible rfl) | (obtain ⟨hq1, hq2⟩ := hq; go_simp; with_reducible rfl))
  try simp only [List.getElem_toArray, List.getElem_cons_succ, List.getElem_cons_zero, Act.put, List.setIfInBounds_toArray, List.set_cons_zero, List.set_cons_succ]
  refine wpTill_op (i := 5) (by kernel_rfl) rfl (fun K hK => ?_)
  go_simp
  refine (cloneLvl_any sa scap ls.length ls _ (Sl.keep HSl.out (hb0.trans (hb01.mono (by omega)))) rfl (by omega) hnil).mono ?_
  rintro r w2 ⟨a2, cap2, rfl, ho2, hb2⟩
  refine hK.out _ _ (fun _ => hS.below hb2) ?_
  have hS1 := hS.below hb2; clear hS; have hS := hS1; clear hS1
  clear hK K
  have P2 := Lib.hid (owns_le ho2 (show w.heap.size + 1 + 1 ≤ _ by omega)); clear ho2
  have P1_ := Lib.hid (P1.out.chain hb2 (Nat.le_refl _)); clear P1
  have P1 := P1_; clear P1_
  have hb02 : Below w0.heap.size w0 w2 := hb01.trans (hb2.mono hb01.size)
  have hz2 := hb02.size
  have hA_ : w2.heap[w.heap.size]? = some (.cells #[.slice a xs.length cap, .int .i64 d.p.root, .int .i64 d.p.deep, .int .i64 d.p.most, .int .i64 d.mode, .slice sa ls.length scap, .int .u64 d.bits, .int .i64 d.have_, .int .i64 d.start, .int .i64 d.at_, .int .i64 d.field.number, .int .i64 d.field.kind, .bool d.field.rep, .bool d.field.packed, .int .i64 d.field.msg, .int .i64 d.wire, .int .i64 d.want, .int .i64 d.utf.want, .int .i64 d.utf.low, .int .i64 d.utf.high, .int .i64 d.end_.kind, .int .i64 d.end_.field, .int .u64 d.end_.bits, .int .i64 d.end_.len, .string d.end_.text, .int .i64 d.end_.code, .int .i64 d.end_.at_] 69 (0, 0)) := (hb02.block _ (by omega)).trans HA.out
  have hR_ : w2.heap[w.heap.size + 1]? = some (.cells #[.slice none 0 0, .int .i64 0, .int .i64 0, .int .i64 0, .int .i64 0, .slice none 0 0, .int .u64 0, .int .i64 0, .int .i64 0, .int .i64 0, .int .i64 0, .int .i64 0, .bool false, .bool false, .int .i64 0, .int .i64 0, .int .i64 0, .int .i64 0, .int .i64 0, .int .i64 0, .int .i64 0, .int .i64 0, .int .u64 0, .int .i64 0, .string ⟨#[]⟩, .int .i64 0, .int .i64 0] 69 (0, 0)) := (hb02.block _ (by omega)).trans HR.out
  clear HA HR
  have kA := box_cells hA_; have fA := box_frozen hA_; have hBA := box_lt hA_; have HA := Lib.hid hA_; clear hA_
  have HR := Lib.hid hR_; clear hR_
  try simp only [Act.put, List.setIfInBounds_toArray, List.set_cons_zero, List.set_cons_succ]
  refine wpTill_op (i := 7) (by kernel_rfl) rfl (fun K hK => ?_)
  go_simp
  refine hK.out _ _ (fun e => by cases e) ?_
  clear hK K hS
  try simp only [Act.put, List.setIfInBounds_toArray, List.set_cons_zero, List.set_cons_succ]
  refine wpTill_op (i := 8) (by kernel_rfl) rfl (fun K hK => ?_)
  go_simp
  refine hK.out _ _ (fun e => by cases e) ?_
  clear hK K
  try simp only [Act.put, List.setIfInBounds_toArray, List.set_cons_zero, List.set_cons_succ]
  refine wpTill_op (i := 9) (by kernel_rfl) rfl (fun K hK => ?_)
  go_simp
  refine hK.out _ _ (fun e => by cases e) ?_
  clear hK K
  try simp only [Act.put, List.setIfInBounds_toArray, List.set_cons_zero, List.set_cons_succ]
  refine wpTill_done (by kernel_rfl) ?_ _
  obtain ⟨w3, hw3⟩ : ∃ w3, w3 = ((((w2.setCell ⟨w.heap.size, 0, none⟩ (.slice a1 xs.length cap1)).setCell ⟨w.heap.size, 1, none⟩ (.int .i64 d.p.root)).setCell ⟨w.heap.size, 2, none⟩ (.int .i64 d.p.deep)).setCell ⟨w.heap.size, 3, none⟩ (.int .i64 d.p.most)).setCell ⟨w.heap.size, 5, none⟩ (.slice a2 ls.length cap2) := ⟨_, rfl⟩
  rw [← hw3]
  have hA_ : w3.heap[w.heap.size]? = some (.cells #[.slice a1 xs.length cap1, .int .i64 d.p.root, .int .i64 d.p.deep, .int .i64 d.p.most, .int .i64 d.mode, .slice a2 ls.length cap2, .int .u64 d.bits, .int .i64 d.have_, .int .i64 d.start, .int .i64 d.at_, .int .i64 d.field.number, .int .i64 d.field.kind, .bool d.field.rep, .bool d.field.packed, .int .i64 d.field.msg, .int .i64 d.wire, .int .i64 d.want, .int .i64 d.utf.want, .int .i64 d.utf.low, .int .i64 d.utf.high, .int .i64 d.end_.kind, .int .i64 d.end_.field, .int .u64 d.end_.bits, .int .i64 d.end_.len, .string d.end_.text, .int .i64 d.end_.code, .int .i64 d.end_.at_] 69 (0, 0)) := by rw [hw3]; exact hset_same (hset_same (hset_same (hset_same (hset_same HA.out rfl) rfl) rfl) rfl) rfl
  have hR_ : w3.heap[w.heap.size + 1]? = some (.cells #[.slice none 0 0, .int .i64 0, .int .i64 0, .int .i64 0, .int .i64 0, .slice none 0 0, .int .u64 0, .int .i64 0, .int .i64 0, .int .i64 0, .int .i64 0, .int .i64 0, .bool false, .bool false, .int .i64 0, .int .i64 0, .int .i64 0, .int .i64 0, .int .i64 0, .int .i64 0, .int .i64 0, .int .i64 0, .int .u64 0, .int .i64 0, .string ⟨#[]⟩, .int .i64 0, .int .i64 0] 69 (0, 0)) := by rw [hw3]; exact hset_other (hset_other (hset_other (hset_other (hset_other HR.out (by simp)) (by simp)) (by simp)) (by simp)) (by simp)
  have hb3 : Below w.heap.size w w3 := by rw [hw3]; exact ((((((hb0.trans (hb02.mono (by omega))).setCell (by simp) _).setCell (by simp) _).setCell (by simp) _).setCell (by simp) _).setCell (by simp) _)
  have P1_ : OwnShs w3 (w.heap.size + 1 + 1) 38 40 (.slice a1 xs.length cap1) xs.length rs1 xs := by rw [hw3]; exact ((((P1.out.set (by simp; omega) _).set (by simp; omega) _).set (by simp; omega) _).set (by simp; omega) _).set (by simp; omega) _
  have P2_ : w3.ownsRow (w.heap.size + 1 + 1) 131 2 (.slice a2 ls.length cap2) ls.length (ls.flatMap Lvl.cs) := by rw [hw3]; exact owns_set (owns_set (owns_set (owns_set (owns_set P2.out (by simp; omega) _) (by simp; omega) _) (by simp; omega) _) (by simp; omega) _) (by simp; omega) _
  clear hw3 P1 P2 HA HR kA fA hBA
  have P1 := Lib.hid P1_; clear P1_
  have P2 := Lib.hid P2_; clear P2_
  have HA := Lib.hid hA_; clear hA_
  have HR := Lib.hid hR_; clear hR_
  go_wp2_with (first
    | (refine wpList_load_mid rfl 69 (.tmp 1) rfl w.heap.size 0 rfl [.slice a1 xs.length cap1, .int .i64 d.p.root, .int .i64 d.p.deep, .int .i64 d.p.most, .int .i64 d.mode, .slice a2 ls.length cap2, .int .u64 d.bits, .int .i64 d.have_, .int .i64 d.start, .int .i64 d.at_, .int .i64 d.field.number, .int .i64 d.field.kind, .bool d.field.rep, .bool d.field.packed, .int .i64 d.field.msg, .int .i64 d.wire, .int .i64 d.want, .int .i64 d.utf.want, .int .i64 d.utf.low, .int .i64 d.utf.high, .int .i64 d.end_.kind, .int .i64 d.end_.field, .int .u64 d.end_.bits, .int .i64 d.end_.len, .string d.end_.text, .int .i64 d.end_.code, .int .i64 d.end_.at_] _ (range_of_box (t := 69) HA.out) Try.underlying69 rfl size_Dec ?_)
    | (refine wpList_store_row rfl 69 (.tmp 2) (.tmp 11) rfl (w.heap.size + 1) #[.slice a1 xs.length cap1, .int .i64 d.p.root, .int .i64 d.p.deep, .int .i64 d.p.most, .int .i64 d.mode, .slice a2 ls.length cap2, .int .u64 d.bits, .int .i64 d.have_, .int .i64 d.start, .int .i64 d.at_, .int .i64 d.field.number, .int .i64 d.field.kind, .bool d.field.rep, .bool d.field.packed, .int .i64 d.field.msg, .int .i64 d.wire, .int .i64 d.want, .int .i64 d.utf.want, .int .i64 d.utf.low, .int .i64 d.utf.high, .int .i64 d.end_.kind, .int .i64 d.end_.field, .int .u64 d.end_.bits, .int .i64 d.end_.len, .string d.end_.text, .int .i64 d.end_.code, .int .i64 d.end_.at_] rfl rfl 69 #[.slice none 0 0, .int .i64 0, .int .i64 0, .int .i64 0, .int .i64 0, .slice none 0 0, .int .u64 0, .int .i64 0, .int .i64 0, .int .i64 0, .int .i64 0, .int .i64 0, .bool false, .bool false, .int .i64 0, .int .i64 0, .int .i64 0, .int .i64 0, .int .i64 0, .int .i64 0, .int .i64 0, .int .i64 0, .int .u64 0, .int .i64 0, .string ⟨#[]⟩, .int .i64 0, .int .i64 0] HR.out size_Dec rfl (one_Dec _ _ _ _ _ _ _) ?_))
  refine bodyPost_world ?_
  intro W hW
  have hR_ : W.heap[w.heap.size + 1]? = some (.cells #[.slice a1 xs.length cap1, .int .i64 d.p.root, .int .i64 d.p.deep, .int .i64 d.p.most, .int .i64 d.mode, .slice a2 ls.length cap2, .int .u64 d.bits, .int .i64 d.have_, .int .i64 d.start, .int .i64 d.at_, .int .i64 d.field.number, .int .i64 d.field.kind, .bool d.field.rep, .bool d.field.packed, .int .i64 d.field.msg, .int .i64 d.wire, .int .i64 d.want, .int .i64 d.utf.want, .int .i64 d.utf.low, .int .i64 d.utf.high, .int .i64 d.end_.kind, .int .i64 d.end_.field, .int .u64 d.end_.bits, .int .i64 d.end_.len, .string d.end_.text, .int .i64 d.end_.code, .int .i64 d.end_.at_] 69 (0, 0)) := by rw [hW]; exact hset_row (cs := #[.slice none 0 0, .int .i64 0, .int .i64 0, .int .i64 0, .int .i64 0, .slice none 0 0, .int .u64 0, .int .i64 0, .int .i64 0, .int .i64 0, .int .i64 0, .int .i64 0, .bool false, .bool false, .int .i64 0, .int .i64 0, .int .i64 0, .int .i64 0, .int .i64 0, .int .i64 0, .int .i64 0, .int .i64 0, .int .u64 0, .int .i64 0, .string ⟨#[]⟩, .int .i64 0, .int .i64 0]) HR.out
  have hbW : Below w.heap.size w W := by rw [hW]; ((repeat (first | (with_reducible exact Below.refl _ _) | (with_reducible assumption) | (with_reducible refine Below.alloc ?_ ?_ _) | (with_reducible refine Below.setCell ?_ ?_ _) | (with_reducible refine Below.drew ?_) | (with_reducible refine below_setRow ?_ ?_ _) | (refine Below.trans ?_ (Below.mono (by assumption) ?_)))); all_goals (first | omega | (simp; done) | (simp; omega)))
  have Q1 : OwnShs W (w.heap.size + 1 + 1) 38 40 (.slice a1 xs.length cap1) xs.length rs1 xs := by rw [hW]; exact OwnShs.setRow P1.out (by omega) _
  have Q2 : W.ownsRow (w.heap.size + 1 + 1) 131 2 (.slice a2 ls.length cap2) ls.length (ls.flatMap Lvl.cs) := by rw [hW]; exact owns_setRow P2.out (by omega) _
  exact bodyPost_ret (v := d.val (.slice a1 xs.length cap1) (.slice a2 ls.length cap2)) (results_cell Try.results162 rfl (run_loadVar_mid W (w.heap.size + 1) 0 69 [.slice a1 xs.length cap1, .int .i64 d.p.root, .int .i64 d.p.deep, .int .i64 d.p.most, .int .i64 d.mode, .slice a2 ls.length cap2, .int .u64 d.bits, .int .i64 d.have_, .int .i64 d.start, .int .i64 d.at_, .int .i64 d.field.number, .int .i64 d.field.kind, .bool d.field.rep, .bool d.field.packed, .int .i64 d.field.msg, .int .i64 d.wire, .int .i64 d.want, .int .i64 d.utf.want, .int .i64 d.utf.low, .int .i64 d.utf.high, .int .i64 d.end_.kind, .int .i64 d.end_.field, .int .u64 d.end_.bits, .int .i64 d.end_.len, .string d.end_.text, .int .i64 d.end_.code, .int .i64 d.end_.at_] _ (range_of_box hR_) Try.underlying69 rfl size_Dec)) rfl ⟨a1, cap1, rs1, a2, cap2, rfl, Q1.le (by omega), owns_le Q2 (by omega), hbW⟩
end Go.Proofs.Ytigmdaiecdoimaa
