/- The steps of a decoder, said plainly: the end of settling, a frame's length, a tag. -/
import Derived.Test.YtigmdaiecdoimaaGreatStl
import Derived.Test.YtigmdaiecdoimaaGreatFind
namespace Go.Proofs.YtigmdaiecdoimaaGreat
set_option linter.unusedSimpArgs false
set_option linter.unusedVariables false

theorem lvOk_le {d : Dc} {xs : List Shp} {ls : List Lvl} (h : lvOk d xs ls = true) : ls.length ≤ 8 := by
  have h1 : planOk d.p xs = true ∧ (ls.length : Int) ≤ d.p.deep := by
    simp only [lvOk, Bool.and_eq_true, decide_eq_true_eq] at h
    exact ⟨h.1, h.2.1⟩
  have h2 := h1.1
  simp only [planOk, inB, Bool.and_eq_true, decide_eq_true_eq] at h2
  omega
theorem msr_le (d : Dc) (ls : List Lvl) : msr d ls ≤ 2 * ls.length + 1 := by unfold msr; repeat (first | split | omega)
theorem settleF_len : ∀ (f : Nat) (d : Dc) (ls : List Lvl), (settleF f d ls).2.1.length ≤ ls.length ∧ (settleF f d ls).2.2.length ≤ f
  | 0, _, _ => ⟨Nat.le_refl _, Nat.le_refl _⟩
  | f + 1, d, ls => by
    simp only [settleF]
    cases hc : closeS d ls with
    | none => exact ⟨Nat.le_refl _, Nat.zero_le _⟩
    | some x =>
      obtain ⟨d', ls', es⟩ := x
      have h1 := closeS_len hc
      have h2 := settleF_len f d' ls'
      simp only [List.length_append]
      omega
theorem settle_len (d : Dc) (ls : List Lvl) : (settle d ls).2.1.length ≤ ls.length ∧ (settle d ls).2.2.length ≤ 2 * ls.length + 2 := by
  have h1 := settleF_len (msr d ls + 1) d ls
  have h2 := msr_le d ls
  unfold settle
  omega
theorem settleO_len (d : Dc) (xs : List Shp) (ls : List Lvl) (hl : ls.length ≤ 1048576) : (settleO d xs ls).2.1.length ≤ 1048576 ∧ (settleO d xs ls).2.2.length ≤ 1048576 := by
  unfold settleO
  split
  · rename_i h
    have h1 := lvOk_le h
    have h2 := settle_len d ls
    omega
  · exact ⟨hl, by simp⟩
def frameE (u : Int) : Ev := ⟨1, 0, 0, u, ⟨#[]⟩, 0, 0⟩
/-- A frame's length comes in. -/
def frameO (d : Dc) (xs : List Shp) (ls : List Lvl) (u : Int) : Outc :=
  if lvOk d xs ls = true then
    if d.p.most < u then failO (scan0 d) ls 7 d.start
    else behind [frameE u] (settle (modeD (scan0 d) 2) [⟨d.p.root, u⟩])
  else (d, ls, [])
theorem frameO_len (d : Dc) (xs : List Shp) (ls : List Lvl) (u : Int) (hl : ls.length ≤ 1048576) : (frameO d xs ls u).2.1.length ≤ 1048576 ∧ (frameO d xs ls u).2.2.length ≤ 1048576 := by
  unfold frameO failO behind
  split
  · split
    · simp [hl]
    · have h2 := settle_len (modeD (scan0 d) 2) [⟨d.p.root, u⟩]
      simp only [List.length_cons, List.length_nil, List.length_append] at h2 ⊢
      omega
  · simp [hl]
/-- Behind a frame's length the levels are right. -/
theorem lvOk_frame {d : Dc} {xs : List Shp} {ls : List Lvl} {u : Int} (h : lvOk d xs ls = true) (h0 : 0 ≤ u) (hu : ¬ d.p.most < u) : lvOk (modeD (scan0 d) 2) xs [⟨d.p.root, u⟩] = true := by
  have hp : planOk d.p xs = true := by simp only [lvOk, Bool.and_eq_true] at h; exact h.1
  have e : lvOk (modeD (scan0 d) 2) xs [⟨d.p.root, u⟩] = (planOk d.p xs && (decide (((1 : Nat) : Int) ≤ d.p.deep) && (inB d.p.root 0 (xs.length - 1) && inB u 0 2000 && true))) := rfl
  have h2 := hp
  simp only [planOk, Bool.and_eq_true] at h2
  obtain ⟨h1, h3, h4, h5⟩ := h2
  rw [e, hp, h3]
  simp only [inB, decide_eq_true_eq] at h4 h5
  have h6 : inB u 0 2000 = true := by simp only [inB, decide_eq_true_eq]; omega
  rw [h6]
  simp only [Bool.true_and, Bool.and_true, decide_eq_true_eq]
  omega
/-- A tag comes in. -/
def tagK (d : Dc) (f : Fld) (wi k : Int) : Dc := ⟨d.p, k, 0, 0, d.start, d.at_, f, wi, d.want, d.utf, d.end_⟩
def tagD (d : Dc) (f : Fld) (wi : Int) : Dc := tagK d f wi (if wi = 0 then 3 else if wi = 2 then 4 else 5)
def tagO (d : Dc) (xs : List Shp) (ls : List Lvl) (u : Int) : Outc :=
  if lvOk d xs ls = true then
    if u < 8 ∨ 536870911 < u / 8 ∨ ls = [] then failO (scan0 d) ls 2 d.start
    else if wireOk (u % 8) = false then failO (scan0 d) ls 3 d.start
    else if (fieldAt xs (((ls.getLast?).map Lvl.msg).getD 0) (u / 8)).2 = true ∧ allowed (fieldAt xs (((ls.getLast?).map Lvl.msg).getD 0) (u / 8)).1 (u % 8) = false then failO (scan0 d) ls 4 d.start
    else if topL ls < max (widthOf (u % 8)) 1 then failO (tagD d (fieldAt xs (((ls.getLast?).map Lvl.msg).getD 0) (u / 8)).1 (u % 8)) ls 9 d.at_
    else (tagD d (fieldAt xs (((ls.getLast?).map Lvl.msg).getD 0) (u / 8)).1 (u % 8), ls, [])
  else (d, ls, [])
theorem tagO_len (d : Dc) (xs : List Shp) (ls : List Lvl) (u : Int) (hl : ls.length ≤ 1048576) : (tagO d xs ls u).2.1.length ≤ 1048576 ∧ (tagO d xs ls u).2.2.length ≤ 1048576 := by
  unfold tagO failO
  repeat' split
  all_goals simp [hl]
section
variable {d : Dc} {xs : List Shp} {ls : List Lvl} {u : Int} {l : Lvl} {f : Fld} {kn : Bool}
theorem tagO_no (hok : lvOk d xs ls = false) : tagO d xs ls u = (d, ls, []) := by unfold tagO; rw [hok]; rfl
theorem tagO_bad (hok : lvOk d xs ls = true) (hb : u < 8 ∨ 536870911 < u / 8 ∨ ls = []) : tagO d xs ls u = failO (scan0 d) ls 2 d.start := by unfold tagO; rw [if_pos hok, if_pos hb]
theorem tagO_wire (hok : lvOk d xs ls = true) (hb : ¬ (u < 8 ∨ 536870911 < u / 8 ∨ ls = [])) (hw : wireOk (u % 8) = false) : tagO d xs ls u = failO (scan0 d) ls 3 d.start := by
  unfold tagO; rw [if_pos hok, if_neg hb, if_pos hw]
theorem tagO_kind (hok : lvOk d xs ls = true) (hb : ¬ (u < 8 ∨ 536870911 < u / 8 ∨ ls = [])) (hw : wireOk (u % 8) = true) (hl : ls.getLast? = some l) (hf : (f, kn) = fieldAt xs l.msg (u / 8)) (hk : kn = true) (ha : allowed f (u % 8) = false) : tagO d xs ls u = failO (scan0 d) ls 4 d.start := by
  unfold tagO
  rw [if_pos hok, if_neg hb, if_neg (by rw [hw]; simp)]
  simp only [hl, Option.map_some, Option.getD_some, ← hf]
  rw [if_pos ⟨hk, ha⟩]
theorem tagO_end (hok : lvOk d xs ls = true) (hb : ¬ (u < 8 ∨ 536870911 < u / 8 ∨ ls = [])) (hw : wireOk (u % 8) = true) (hl : ls.getLast? = some l) (hf : (f, kn) = fieldAt xs l.msg (u / 8)) (hk : ¬ (kn = true ∧ allowed f (u % 8) = false)) {k : Int} (hk2 : k = if u % 8 = 0 then 3 else if u % 8 = 2 then 4 else 5) (ht : topL ls < max (widthOf (u % 8)) 1) : tagO d xs ls u = failO (tagK d f (u % 8) k) ls 9 d.at_ := by
  unfold tagO
  rw [if_pos hok, if_neg hb, if_neg (by rw [hw]; simp)]
  simp only [hl, Option.map_some, Option.getD_some, ← hf]
  rw [if_neg hk, if_pos ht, tagD, hk2]
theorem tagO_ok (hok : lvOk d xs ls = true) (hb : ¬ (u < 8 ∨ 536870911 < u / 8 ∨ ls = [])) (hw : wireOk (u % 8) = true) (hl : ls.getLast? = some l) (hf : (f, kn) = fieldAt xs l.msg (u / 8)) (hk : ¬ (kn = true ∧ allowed f (u % 8) = false)) {k : Int} (hk2 : k = if u % 8 = 0 then 3 else if u % 8 = 2 then 4 else 5) (ht : ¬ topL ls < max (widthOf (u % 8)) 1) : tagO d xs ls u = (tagK d f (u % 8) k, ls, []) := by
  unfold tagO
  rw [if_pos hok, if_neg hb, if_neg (by rw [hw]; simp)]
  simp only [hl, Option.map_some, Option.getD_some, ← hf]
  rw [if_neg hk, if_neg ht, tagD, hk2]
end
/-- What a tag says. -/
def tagOk (u : Int) : Bool := decide (¬ (u < 8 ∨ 536870911 < u / 8))
def tagQ (u : Int) : Int := if tagOk u = true then u / 8 else 0
def tagV (u : Int) : Int := if tagOk u = true then u % 8 else 0
end Go.Proofs.YtigmdaiecdoimaaGreat
