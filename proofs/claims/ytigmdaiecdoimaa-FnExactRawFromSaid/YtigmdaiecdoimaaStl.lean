/- What failing, settling and the steps make of a decoder, said plainly. -/
import Derived.Test.YtigmdaiecdoimaaDoi
namespace Go.Proofs.Ytigmdaiecdoimaa
set_option linter.unusedSimpArgs false
set_option linter.unusedVariables false

/-- May a decoder be gone on with? -/
def lvOk (d : Dc) (xs : List Shp) (ls : List Lvl) : Bool := planOk d.p xs && (decide ((ls.length : Int) ≤ d.p.deep) && ls.all (lvlOk xs.length))
def evK (k : Int) : Ev := ⟨k, 0, 0, 0, ⟨#[]⟩, 0, 0⟩
def failE (c t : Int) : Ev := ⟨10, 0, 0, 0, ⟨#[]⟩, c, t⟩
def failD (d : Dc) (c t : Int) : Dc := ⟨d.p, 9, 0, 0, d.start, d.at_, d.field, d.wire, 0, d.utf, failE c t⟩
def modeD (d : Dc) (m : Int) : Dc := ⟨d.p, m, d.bits, d.have_, d.start, d.at_, d.field, d.wire, d.want, d.utf, d.end_⟩
def mode0 (d : Dc) (m : Int) : Dc := ⟨d.p, m, d.bits, d.have_, d.start, d.at_, d.field, d.wire, 0, d.utf, d.end_⟩
def shutD (d : Dc) : Dc := ⟨d.p, 2, d.bits, d.have_, d.start, d.at_, d.field, d.wire, 0, ⟨0, 0, 0⟩, d.end_⟩
def scan0 (d : Dc) : Dc := ⟨d.p, d.mode, 0, 0, d.start, d.at_, d.field, d.wire, d.want, d.utf, d.end_⟩
abbrev Outc := Dc × List Lvl × List Ev
/-- One step of settling, if there is one. -/
def closeS (d : Dc) (ls : List Lvl) : Option Outc :=
  if d.mode = 6 ∧ d.want < 1 then
    if 0 < d.utf.want then some (failD d 5 d.at_, ls, [failE 5 d.at_]) else some (shutD d, ls, [evK 5])
  else if (d.mode = 7 ∨ d.mode = 8 ∧ d.have_ = 0) ∧ d.want < 1 then some (mode0 d 2, ls, [])
  else if d.mode = 2 ∧ d.have_ = 0 ∧ 0 < ls.length ∧ topL ls = 0 then
    if ls.length = 1 then some (modeD d 1, [], [evK 8]) else some (d, ls.dropLast, [evK 7])
  else none
def msr (d : Dc) (ls : List Lvl) : Nat := 2 * ls.length + if d.mode = 2 then 0 else if d.mode = 1 then 0 else if d.mode = 9 then 0 else 1
theorem closeS_msr {d d' : Dc} {ls ls' : List Lvl} {es : List Ev} (h : closeS d ls = some (d', ls', es)) : msr d' ls' < msr d ls := by
  unfold closeS at h
  split at h
  · rename_i h1
    split at h <;> (simp only [Option.some.injEq, Prod.mk.injEq] at h; obtain ⟨rfl, rfl, rfl⟩ := h; simp [msr, failD, shutD, h1.1])
  · split at h
    · rename_i h1
      simp only [Option.some.injEq, Prod.mk.injEq] at h; obtain ⟨rfl, rfl, rfl⟩ := h
      rcases h1.1 with h2 | h2 <;> simp [msr, mode0, h2]
    · split at h
      · rename_i h1
        split at h
        · simp only [Option.some.injEq, Prod.mk.injEq] at h; obtain ⟨rfl, rfl, rfl⟩ := h
          simp [msr, modeD, h1.1]; omega
        · simp only [Option.some.injEq, Prod.mk.injEq] at h; obtain ⟨rfl, rfl, rfl⟩ := h
          simp [msr, h1.1]; omega
      · simp at h
theorem closeS_len {d d' : Dc} {ls ls' : List Lvl} {es : List Ev} (h : closeS d ls = some (d', ls', es)) : es.length ≤ 1 ∧ ls'.length ≤ ls.length := by
  unfold closeS at h
  split at h
  · split at h <;> (simp only [Option.some.injEq, Prod.mk.injEq] at h; obtain ⟨rfl, rfl, rfl⟩ := h; simp)
  · split at h
    · simp only [Option.some.injEq, Prod.mk.injEq] at h; obtain ⟨rfl, rfl, rfl⟩ := h
      simp
    · split at h
      · split at h <;> (simp only [Option.some.injEq, Prod.mk.injEq] at h; obtain ⟨rfl, rfl, rfl⟩ := h; simp)
      · simp at h
def settleF : Nat → Dc → List Lvl → Outc
  | 0, d, ls => (d, ls, [])
  | f + 1, d, ls => match closeS d ls with
    | none => (d, ls, [])
    | some (d', ls', es) => ((settleF f d' ls').1, (settleF f d' ls').2.1, es ++ (settleF f d' ls').2.2)
def settle (d : Dc) (ls : List Lvl) : Outc := settleF (msr d ls + 1) d ls
theorem settleF_eq : ∀ (f g : Nat) (d : Dc) (ls : List Lvl), msr d ls < f → msr d ls < g → settleF f d ls = settleF g d ls
  | 0, _, _, _, h, _ => by omega
  | _ + 1, 0, _, _, _, h => by omega
  | f + 1, g + 1, d, ls, h, h' => by
    simp only [settleF]
    cases hc : closeS d ls with
    | none => rfl
    | some x =>
      obtain ⟨d', ls', es⟩ := x
      have := closeS_msr hc
      simp only
      rw [settleF_eq f g d' ls' (by omega) (by omega)]
theorem settle_none {d : Dc} {ls : List Lvl} (h : closeS d ls = none) : settle d ls = (d, ls, []) := by simp [settle, settleF, h]
theorem settle_some {d d' : Dc} {ls ls' : List Lvl} {es : List Ev} (h : closeS d ls = some (d', ls', es)) :
    settle d ls = ((settle d' ls').1, (settle d' ls').2.1, es ++ (settle d' ls').2.2) := by
  have := closeS_msr h
  rw [settle, settleF, h]
  simp only
  rw [settleF_eq (msr d ls) (msr d' ls' + 1) d' ls' (by omega) (by omega), settle]
/-- What is told, put behind what was told before. -/
def behind (es : List Ev) (r : Outc) : Outc := (r.1, r.2.1, es ++ r.2.2)
theorem behind_behind (es fs : List Ev) (r : Outc) : behind es (behind fs r) = behind (es ++ fs) r := by simp [behind]
theorem behind_nil (r : Outc) : behind [] r = r := rfl
theorem settle_step {d d' : Dc} {ls ls' : List Lvl} {es fs : List Ev} {R : Outc} (h : closeS d ls = some (d', ls', fs)) (hR : behind es (settle d ls) = R) : behind (es ++ fs) (settle d' ls') = R := by
  rw [← hR, settle_some h]; simp [behind]
theorem settle_end {d : Dc} {ls : List Lvl} {es : List Ev} {R : Outc} (h : closeS d ls = none) (hR : behind es (settle d ls) = R) : (d, ls, es) = R := by
  rw [← hR, settle_none h]; simp [behind]

/-! ### the steps -/
def failO (d : Dc) (ls : List Lvl) (c t : Int) : Outc := (failD d c t, ls, [failE c t])
def failsO (d : Dc) (xs : List Shp) (ls : List Lvl) (c t : Int) : Outc := if lvOk d xs ls = true then failO d ls c t else (d, ls, [])
theorem failsO_len (d : Dc) (xs : List Shp) (ls : List Lvl) (c t : Int) (hl : ls.length ≤ 1048576) : (failsO d xs ls c t).2.1.length ≤ 1048576 ∧ (failsO d xs ls c t).2.2.length ≤ 1048576 := by
  unfold failsO failO; split <;> simp [hl]
def settleO (d : Dc) (xs : List Shp) (ls : List Lvl) : Outc := if lvOk d xs ls = true then settle d ls else (d, ls, [])
end Go.Proofs.Ytigmdaiecdoimaa
