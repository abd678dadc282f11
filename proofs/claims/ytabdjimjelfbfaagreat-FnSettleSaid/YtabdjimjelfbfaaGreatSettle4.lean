/- Texts that FnSettle leans on, part 4. (Put together by wip/tools/bundle.py.) -/
import Derived.Test.YtabdjimjelfbfaaGreatSettle1
import Derived.Test.YtabdjimjelfbfaaGreatSettle2
import Derived.Test.YtabdjimjelfbfaaGreatSettle3
namespace Go.Proofs.YtabdjimjelfbfaaGreat
set_option linter.unusedSimpArgs false
set_option linter.unusedVariables false
open Go.ChangeShapes Go.WideShapes Go.ChangeAt Go.RowKit Go.BigFrame
theorem own_blk {w : World} {base n size : Nat} {t : TypeId} {v : Value} {L : List Value} (h : w.ownsRow base t size v n L) {g : Nat} (hg : v.ownBlock = some g) : ∃ cur, w.heap[g]? = some (.cells cur t (0, 0)) := by
 rcases h.2 with ⟨rfl, _⟩ | ⟨g', cap, cur, rfl, _, hh, _⟩
 ·simp [Value.ownBlock] at hg
 ·simp only [Value.ownBlock, Option.some.injEq] at hg; subst hg; exact ⟨cur, hh⟩
def Other (w : World) (row : Option Nat) (t : TypeId) : Prop := ∀ g, row = some g → ∃ cur tt, w.heap[g]? = some (.cells cur tt (0, 0)) ∧ tt ≠ t
theorem owns_keep {w w' : World} {base n size : Nat} {t : TypeId} {v : Value} {L : List Value} {row : Option Nat} (h : w.ownsRow base t size v n L) (hg : w.grownBy w' row) (ho : Other w row t) : w'.ownsRow base t size v n L := by
 refine h.kept hg ?_
 cases hb : v.ownBlock with
 | none => exact .inl rfl
 | some g =>
  refine .inr (fun e => ?_)
  obtain ⟨cur, hc⟩ := own_blk h hb
  obtain ⟨cur', tt, hc', hne⟩ := ho g e.symm
  exact hne (typed_ne hc' hc)
theorem OwnShs.keepBy {w w' : World} {base n : Nat} {T TF : TypeId} {v : Value} {rs : List ShR} {xs : List Shp} {row : Option Nat} (h : OwnShs w base T TF v n rs xs) (hg : w.grownBy w' row) (h1 : Other w row T) (h2 : Other w row TF) : OwnShs w' base T TF v n rs xs :=
 ⟨h.len, h.lenx, owns_keep h.outer hg h1, fun k r x hr hx => ⟨(h.each k r x hr hx).1, (h.each k r x hr hx).2.1, owns_keep (h.each k r x hr hx).2.2 hg h2⟩, h.apart⟩
theorem other_box {w : World} {M : Nat} {cs : Array Value} {tt t : TypeId} (h : w.heap[M]? = some (.cells cs tt (0, 0))) (hne : tt ≠ t) : Other w (some M) t := fun g e => by
 obtain rfl := Option.some.inj e; exact ⟨cs, tt, h, hne⟩
theorem other_own {w : World} {base n size : Nat} {tt t : TypeId} {v : Value} {L : List Value} (h : w.ownsRow base tt size v n L) (hne : tt ≠ t) : Other w v.ownBlock t := fun g e => by
 obtain ⟨cur, hc⟩ := own_blk h e; exact ⟨cur, tt, hc, hne⟩
theorem only_set (w : World) (M o : Nat) (v : Value) : w.grownBy (w.setCell ⟨M, o, none⟩ v) (some M) :=
 ⟨rfl, rfl, rfl, by simp [World.setCell], fun k _ hk => Below.heap_setCell w ⟨M, o, none⟩ v k (by simp only; intro e; exact hk (by rw [e]))⟩
theorem only_refl (w : World) (row : Option Nat) : w.grownBy w row := ⟨rfl, rfl, rfl, Nat.le_refl _, fun _ _ _ => rfl⟩
theorem only_drew {w w' : World} {row : Option Nat} (h : w.grownBy w' row) : w.grownBy w'.drew row := ⟨h.os, h.tape, h.output, h.size, h.block⟩
theorem only_alloc {w w' : World} {row : Option Nat} (h : w.grownBy w' row) (o : Obj) : w.grownBy (w'.alloc o) row := h.trans (World.grownBy_alloc w' o row)
theorem only_cell {w w' : World} {M : Nat} (h : w.grownBy w' (some M)) (o : Nat) (v : Value) : w.grownBy (w'.setCell ⟨M, o, none⟩ v) (some M) := h.trans (only_set w' M o v)
theorem only_below {w w' : World} {row : Option Nat} (h : Below w.heap.size w w') : w.grownBy w' row := ⟨h.os, h.tape, h.output, h.size, fun k hk _ => h.block k hk⟩
structure MachI (base : Nat) (w0 w : World) (M : Nat) (d : Dc) (xs : List Shp) (ls : List Lvl) (es : List Ev) (a : Option Addr) (cap : Nat) (rs : List ShR) (sa : Option Addr) (scap : Nat) (ea : Option Addr) (ecap : Nat) : Prop where
 box : w.heap[M]? = some (.cells #[.slice a xs.length cap, .int .i64 d.p.root, .int .i64 d.p.deep, .int .i64 d.p.most, .int .i64 d.mode, .slice sa ls.length scap, .int .u64 d.bits, .int .i64 d.have_, .int .i64 d.start, .int .i64 d.at_, .int .i64 d.field.number, .int .i64 d.field.kind, .bool d.field.rep, .bool d.field.packed, .int .i64 d.field.msg, .int .i64 d.wire, .int .i64 d.want, .int .i64 d.utf.want, .int .i64 d.utf.low, .int .i64 d.utf.high, .int .i64 d.end_.kind, .int .i64 d.end_.field, .int .u64 d.end_.bits, .int .i64 d.end_.len, .string d.end_.text, .int .i64 d.end_.code, .int .i64 d.end_.at_, .slice ea es.length ecap] 88 (0, 0))
 sh : OwnShs w base 77 34 (.slice a xs.length cap) xs.length rs xs
 lv : w.ownsRow base 67 2 (.slice sa ls.length scap) ls.length (ls.flatMap Lvl.cs)
 ev : w.ownsRow base 38 7 (.slice ea es.length ecap) es.length (es.flatMap Ev.cs)
 bel : Below base w0 w
 le : base ≤ M
 bz : base ≤ w.heap.size
def Mach (base : Nat) (w0 w : World) (M : Nat) (d : Dc) (xs : List Shp) (ls : List Lvl) (es : List Ev) : Prop := ∃ a cap rs sa scap ea ecap, MachI base w0 w M d xs ls es a cap rs sa scap ea ecap
section
variable {base M : Nat} {w0 w w' : World} {d e : Dc} {xs : List Shp} {ls : List Lvl} {es : List Ev} {a sa ea : Option Addr} {cap scap ecap : Nat} {rs : List ShR}
theorem MachI.lt (h : MachI base w0 w M d xs ls es a cap rs sa scap ea ecap) : M < w.heap.size := box_lt h.box
theorem MachI.below' (h : MachI base w0 w M d xs ls es a cap rs sa scap ea ecap) {row : Option Nat} (hg : w.grownBy w' row) (hr : ∀ g, row = some g → base ≤ g) : Below base w0 w' := below_grown h.bel hg hr h.bz
theorem MachI.upd (h : MachI base w0 w M d xs ls es a cap rs sa scap ea ecap) (hg : w.grownBy w' (some M))
  (hb : w'.heap[M]? = some (.cells #[.slice a xs.length cap, .int .i64 e.p.root, .int .i64 e.p.deep, .int .i64 e.p.most, .int .i64 e.mode, .slice sa ls.length scap, .int .u64 e.bits, .int .i64 e.have_, .int .i64 e.start, .int .i64 e.at_, .int .i64 e.field.number, .int .i64 e.field.kind, .bool e.field.rep, .bool e.field.packed, .int .i64 e.field.msg, .int .i64 e.wire, .int .i64 e.want, .int .i64 e.utf.want, .int .i64 e.utf.low, .int .i64 e.utf.high, .int .i64 e.end_.kind, .int .i64 e.end_.field, .int .u64 e.end_.bits, .int .i64 e.end_.len, .string e.end_.text, .int .i64 e.end_.code, .int .i64 e.end_.at_, .slice ea es.length ecap] 88 (0, 0))) : MachI base w0 w' M e xs ls es a cap rs sa scap ea ecap where
 box := hb
 sh := h.sh.keepBy hg (other_box h.box (by decide)) (other_box h.box (by decide))
 lv := owns_keep h.lv hg (other_box h.box (by decide))
 ev := owns_keep h.ev hg (other_box h.box (by decide))
 bel := h.below' hg (fun g e => by obtain rfl := Option.some.inj e; exact h.le)
 le := h.le
 bz := Nat.le_trans h.bz hg.size
theorem MachI.keep (h : MachI base w0 w M d xs ls es a cap rs sa scap ea ecap) (hb : Below w.heap.size w w') : MachI base w0 w' M d xs ls es a cap rs sa scap ea ecap :=
 h.upd (only_below hb) ((hb.block M h.lt).trans h.box)
theorem MachI.emit (h : MachI base w0 w M d xs ls es a cap rs sa scap ea ecap) {w1 w2 : World} {x : Ev} {ea' : Option Addr} {ecap' : Nat} (h1 : Below w.heap.size w w1) (hg : w1.grownBy w2 (Value.slice ea es.length ecap).ownBlock)
  (ho : w2.ownsRow base 38 7 (.slice ea' (es.length + 1) ecap') (es.length + 1) (es.flatMap Ev.cs ++ x.cs)) : MachI base w0 (w2.setCell ⟨M, 27, none⟩ (.slice ea' (es.length + 1) ecap')) M d xs ls (es ++ [x]) a cap rs sa scap ea' ecap' := by
 have k := h.keep h1
 have hne : (Value.slice ea es.length ecap).ownBlock ≠ some M := fun e => by
  obtain ⟨cur, hc⟩ := own_blk k.ev e
  exact absurd (typed_ne hc k.box) (by decide)
 have hb2 : w2.heap[M]? = some (.cells #[.slice a xs.length cap, .int .i64 d.p.root, .int .i64 d.p.deep, .int .i64 d.p.most, .int .i64 d.mode, .slice sa ls.length scap, .int .u64 d.bits, .int .i64 d.have_, .int .i64 d.start, .int .i64 d.at_, .int .i64 d.field.number, .int .i64 d.field.kind, .bool d.field.rep, .bool d.field.packed, .int .i64 d.field.msg, .int .i64 d.wire, .int .i64 d.want, .int .i64 d.utf.want, .int .i64 d.utf.low, .int .i64 d.utf.high, .int .i64 d.end_.kind, .int .i64 d.end_.field, .int .u64 d.end_.bits, .int .i64 d.end_.len, .string d.end_.text, .int .i64 d.end_.code, .int .i64 d.end_.at_, .slice ea es.length ecap] 88 (0, 0)) := (hg.block M k.lt (fun e => hne e.symm)).trans k.box
 have hl : (es ++ [x]).length = es.length + 1 := by simp
 have hm : MachI base w0 w2 M d xs ls es a cap rs sa scap ea ecap → True := fun _ => trivial
 have s2 := k.sh.keepBy hg (other_own k.ev (by decide)) (other_own k.ev (by decide))
 have l2 := owns_keep k.lv hg (other_own k.ev (by decide))
 have hs := only_set w2 M 27 (.slice ea' (es.length + 1) ecap')
 have ob : ∀ t, 88 ≠ t → Other w2 (some M) t := fun t ht => other_box hb2 ht
 refine ⟨?_, s2.keepBy hs (ob _ (by decide)) (ob _ (by decide)), owns_keep l2 hs (ob _ (by decide)), ?_, ?_, h.le, ?_⟩
 ·rw [hl]; apply hset_eq (hset_set hb2); simp only [List.setIfInBounds_toArray, List.set_cons_zero, List.set_cons_succ]
 ·rw [hl, List.flatMap_append]; simpa using owns_keep ho hs (ob _ (by decide))
 ·have b2 : Below base w0 w2 := below_grown k.bel hg (fun g e => (k.ev.lt g e).1) k.bz
  exact below_grown b2 hs (fun g e => by obtain rfl := Option.some.inj e; exact h.le) (Nat.le_trans k.bz hg.size)
 ·have := hg.size; have := k.bz; simp; omega
end
theorem info_EvM : (Tryz.prog.info? 38).map (fun i => (i.zero, i.size, i.bytes)) = some (some (.agg #[.int .i64 0, .int .i64 0, .int .u64 0, .int .i64 0, .string ⟨#[]⟩, .int .i64 0, .int .i64 0]), 7, 64) := by kernel_rfl
theorem ev_one (e : Ev) : ∀ u ∈ e.cs, u.oneCell' = true := by
 intro u hu
 simp only [List.mem_cons, List.not_mem_nil, or_false] at hu
 rcases hu with rfl | rfl | rfl | rfl | rfl | rfl | rfl <;> rfl
set_option maxRecDepth 100000 in
set_option maxHeartbeats 1000000 in
theorem emit_any (base : Nat) (w0 w : World) (M : Nat) (d : Dc) (xs : List Shp) (ls : List Lvl) (es : List Ev) (x : Ev) (hm : Mach base w0 w M d xs ls es) (hes : es.length ≤ 1048576) :
  Calls Tryz.prog 66 #[.pointer (some ⟨M, 0, none⟩), x.val] w fun r w' => r = .returned (.tuple #[]) ∧ Mach base w0 w' M d xs ls (es ++ [x]) := by
 obtain ⟨a, cap, rs, sa, scap, ea, ecap, hm⟩ := hm
 have HM := Lib.hid hm
 have hlt := hm.lt
 have hM27 : w.cell? ⟨M, 27, none⟩ = some (.slice ea es.length ecap) := box_cells hm.box 27
 clear hm
 obtain ⟨i0, hi, hj0, hj1, hj2⟩ := info_parts info_EvM
 obtain ⟨xk, xf, xb, xl, xt, xc, xa⟩ := x
 go_enter Tryz.func66, Tryz.ntmps66
 go_wp2_with fail
 refine wp_region_till (Cells [(⟨M, 27, none⟩, .slice ea es.length ecap), (⟨w.heap.size, 0, none⟩, .int .i64 xk), (⟨w.heap.size, 1, none⟩, .int .i64 xf), (⟨w.heap.size, 2, none⟩, .int .u64 xb), (⟨w.heap.size, 3, none⟩, .int .i64 xl), (⟨w.heap.size, 4, none⟩, .string xt), (⟨w.heap.size, 5, none⟩, .int .i64 xc), (⟨w.heap.size, 6, none⟩, .int .i64 xa)]) (fun i => decide (10 ≤ i)) (by kernel_rfl) ?_
 have kx := box_cells (heap_nth0 w (.cells #[.int .i64 xk, .int .i64 xf, .int .u64 xb, .int .i64 xl, .string xt, .int .i64 xc, .int .i64 xa] 38))
 have hS : Cells [(⟨M, 27, none⟩, .slice ea es.length ecap), (⟨w.heap.size, 0, none⟩, .int .i64 xk), (⟨w.heap.size, 1, none⟩, .int .i64 xf), (⟨w.heap.size, 2, none⟩, .int .u64 xb), (⟨w.heap.size, 3, none⟩, .int .i64 xl), (⟨w.heap.size, 4, none⟩, .string xt), (⟨w.heap.size, 5, none⟩, .int .i64 xc), (⟨w.heap.size, 6, none⟩, .int .i64 xa)] (w.alloc (.cells #[.int .i64 xk, .int .i64 xf, .int .u64 xb, .int .i64 xl, .string xt, .int .i64 xc, .int .i64 xa] 38)).drew :=
  cells_mk (cell_alloc _ hM27) (cells_mk (kx 0) (cells_mk (kx 1) (cells_mk (kx 2) (cells_mk (kx 3) (cells_mk (kx 4) (cells_mk (kx 5) (cells_mk (kx 6) (cells_no _))))))))
 clear kx
 refine tk (i := 0) hS ?_
 refine tk (i := 1) hS ?_
 refine tk (i := 2) hS ?_
 refine tk (i := 3) hS ?_
 refine tk (i := 4) hS ?_
 refine tk (i := 5) hS ?_
 refine wpTill_op (i := 6) (by kernel_rfl) rfl (fun K hK => ?_)
 go_simp
 generalize hw1 : World.alloc _ _ = w1
 have hb1 : Below w.heap.size w w1.drew := by rw [← hw1]; exact bl
 have hz1 : w1.heap.size = w.heap.size + 1 + 1 := by rw [← hw1]; simp
 have hNW : ∀ j u, ((⟨xk, xf, xb, xl, xt, xc, xa⟩ : Ev).cs)[j]? = some u → w1.drew.cell? ((⟨w.heap.size + 1, 0, none⟩ : Addr).add j) = some u := by rw [← hw1]; exact World.news_of_block (cs := #[.int .i64 xk, .int .i64 xf, .int .u64 xb, .int .i64 xl, .string xt, .int .i64 xc, .int .i64 xa]) (t := 38) (fr := (0, 0)) (hset_new (by simp))
 have hS1 := (hS.alloc (.cells #[.int .i64 xk, .int .i64 xf, .int .u64 xb, .int .i64 xl, .string xt, .int .i64 xc, .int .i64 xa] 38))
 have hS2 : Cells [(⟨M, 27, none⟩, .slice ea es.length ecap), (⟨w.heap.size, 0, none⟩, .int .i64 xk), (⟨w.heap.size, 1, none⟩, .int .i64 xf), (⟨w.heap.size, 2, none⟩, .int .u64 xb), (⟨w.heap.size, 3, none⟩, .int .i64 xl), (⟨w.heap.size, 4, none⟩, .string xt), (⟨w.heap.size, 5, none⟩, .int .i64 xc), (⟨w.heap.size, 6, none⟩, .int .i64 xa)] w1.drew := by rw [← hw1]; exact hS1
 have hrow : ∀ q ∈ ([(⟨M, 27, none⟩, .slice ea es.length ecap), (⟨w.heap.size, 0, none⟩, .int .i64 xk), (⟨w.heap.size, 1, none⟩, .int .i64 xf), (⟨w.heap.size, 2, none⟩, .int .u64 xb), (⟨w.heap.size, 3, none⟩, .int .i64 xl), (⟨w.heap.size, 4, none⟩, .string xt), (⟨w.heap.size, 5, none⟩, .int .i64 xc), (⟨w.heap.size, 6, none⟩, .int .i64 xa)] : List (Addr × Value)), (Value.slice ea es.length ecap).ownBlock ≠ some q.1.block := by
  intro q hq
  simp only [List.mem_cons, List.not_mem_nil, or_false] at hq
  have hlt2 : ∀ k, (Value.slice ea es.length ecap).ownBlock = some k → k < w.heap.size := fun k e => (HM.out.ev.lt k e).2
  rcases hq with rfl | rfl | rfl | rfl | rfl | rfl | rfl | rfl
  ·intro e
   obtain ⟨cur, hc⟩ := own_blk HM.out.ev e
   exact absurd (typed_ne hc HM.out.box) (by decide)
  all_goals (intro e; exact absurd (hlt2 _ e) (by simp))
 refine hK.out _ _ (fun _ => hS2) ?_
 clear hK K hS hS1 hw1
 have HN := Lib.hid hNW; clear hNW
 have HE := Lib.hid ((HM.out.keep hb1).ev)
 try simp only [Act.put, List.setIfInBounds_toArray, List.set_cons_zero, List.set_cons_succ]
 refine wpTill_op (i := 7) (by kernel_rfl) rfl (fun K hK => ?_)
 refine step_append_own rfl _ _ 43 rfl base 38 i0 _ 7 64 Tryz.underlying43 hi hj0 hj1 hj2 rfl (by decide) _ es.length (es.flatMap Ev.cs) rfl HE.out ⟨w.heap.size + 1, 0, none⟩ 1 1 (⟨xk, xf, xb, xl, xt, xc, xa⟩ : Ev).cs rfl rfl HN.out (ev_one _) (by unfold maxLen; omega) (by omega) (HM.out.keep hb1).bz ?_
 intro v2 w2 hown2 hgr2 _
 obtain ⟨ea2, ecap2, rfl, _⟩ := own_sh hown2
 have hS := hS2.grown hgr2 hrow
 refine hK.out _ _ (fun _ => hS) ?_
 clear hK K hS2
 try simp only [Act.put, List.setIfInBounds_toArray, List.set_cons_zero, List.set_cons_succ]
 have hR := HM.out.emit hb1 hgr2 hown2
 have hbx : w2.heap[M]? = some (.cells #[.slice a xs.length cap, .int .i64 d.p.root, .int .i64 d.p.deep, .int .i64 d.p.most, .int .i64 d.mode, .slice sa ls.length scap, .int .u64 d.bits, .int .i64 d.have_, .int .i64 d.start, .int .i64 d.at_, .int .i64 d.field.number, .int .i64 d.field.kind, .bool d.field.rep, .bool d.field.packed, .int .i64 d.field.msg, .int .i64 d.wire, .int .i64 d.want, .int .i64 d.utf.want, .int .i64 d.utf.low, .int .i64 d.utf.high, .int .i64 d.end_.kind, .int .i64 d.end_.field, .int .u64 d.end_.bits, .int .i64 d.end_.len, .string d.end_.text, .int .i64 d.end_.code, .int .i64 d.end_.at_, .slice ea es.length ecap] 88 (0, 0)) := by
  have k := HM.out.keep hb1
  exact (hgr2.block M k.lt (fun e => by
   obtain ⟨cur, hc⟩ := own_blk k.ev e.symm
   exact absurd (typed_ne hc k.box) (by decide))).trans k.box
 have c27 : w2.cell? ⟨M, 27, none⟩ = some (.slice ea es.length ecap) := box_cells hbx 27
 have f27 := box_frozen hbx 27
 have HR := Lib.hid hR; clear hR hbx hgr2 hown2
 refine wpTill_op (i := 8) (by kernel_rfl) rfl (fun K hK => ?_)
 go_simp
 refine hK.out _ _ (fun _ => hS) ?_
 clear hK K
 try simp only [Act.put, List.setIfInBounds_toArray, List.set_cons_zero, List.set_cons_succ]
 refine wpTill_op (i := 9) (by kernel_rfl) rfl (fun K hK => ?_)
 go_simp
 refine hK.out _ _ (fun _ => hS) ?_
 clear hK K
 try simp only [Act.put, List.setIfInBounds_toArray, List.set_cons_zero, List.set_cons_succ]
 refine wpTill_op (i := 10) (by kernel_rfl) rfl (fun K hK => ?_)
 go_simp
 refine hK.out _ _ (fun e => by cases e) ?_
 clear hK K
 refine wpTill_done (by kernel_rfl) ?_ _
 go_wp2
 go_end0
 exact ⟨rfl, a, cap, rs, sa, scap, ea2, ecap2, HR.out⟩
theorem implFailE_any (c t : Int) (w : World) : Calls Tryz.prog 83 #[.int .i64 c, .int .i64 t] w fun r w' => r = .returned (failE c t).val ∧ Below w.heap.size w w' := by
 go_enter Tryz.func83, Tryz.ntmps83
 go_wp2
 exact bodyPost_ret (by simp [results, Tryz.results83, go_sem, failE]; try rfl) rfl ⟨rfl, by exact bl⟩
set_option maxRecDepth 100000 in
set_option maxHeartbeats 1000000 in
theorem fails_any (base : Nat) (w0 w : World) (M : Nat) (d : Dc) (xs : List Shp) (ls : List Lvl) (es : List Ev) (c t : Int) (hm : Mach base w0 w M d xs ls es) (hes : es.length ≤ 1048576) :
  Calls Tryz.prog 37 #[.pointer (some ⟨M, 0, none⟩), .int .i64 c, .int .i64 t] w fun r w' => r = .returned (.tuple #[]) ∧ Mach base w0 w' M (failD d c t) xs ls (es ++ [failE c t]) := by
 obtain ⟨a, cap, rs, sa, scap, ea, ecap, hm⟩ := hm
 have HM := Lib.hid hm; clear hm
 go_enter Tryz.func37, Tryz.ntmps37
 go_wp2_with fail
 refine (implFailE_any c t _).mono ?_
 rintro r w1 ⟨rfl, hb1⟩
 have H1 := Lib.hid (HM.out.keep hb1); clear hb1
 have kM := box_cells H1.out.box; have fM := box_frozen H1.out.box; have hBM := H1.out.lt
 simp only [failE]
 go_wp2_with fail
 generalize hw2 : World.setCell _ (⟨M, 16, none⟩ : Addr) (.int .i64 0) = w2
 have hB2 : w2.heap[M]? = some (.cells #[.slice a xs.length cap, .int .i64 d.p.root, .int .i64 d.p.deep, .int .i64 d.p.most, .int .i64 (9), .slice sa ls.length scap, .int .u64 (0), .int .i64 (0), .int .i64 d.start, .int .i64 d.at_, .int .i64 d.field.number, .int .i64 d.field.kind, .bool d.field.rep, .bool d.field.packed, .int .i64 d.field.msg, .int .i64 d.wire, .int .i64 (0), .int .i64 d.utf.want, .int .i64 d.utf.low, .int .i64 d.utf.high, .int .i64 (10), .int .i64 (0), .int .u64 (0), .int .i64 (0), .string (⟨#[]⟩), .int .i64 (c), .int .i64 (t), .slice ea es.length ecap] 88 (0, 0)) := by rw [← hw2]; apply hset_eq; (repeat (first | (with_reducible exact H1.out.box) | (with_reducible apply hset_set))); simp only [List.setIfInBounds_toArray, List.set_cons_zero, List.set_cons_succ]
 have hG2 : w1.grownBy w2 (some M) := by rw [← hw2]; (repeat (with_reducible refine only_cell ?_ _ _)); exact only_refl _ _
 clear hw2 kM fM hBM
 have H2 : MachI base w0 w2 M (failD d c t) xs ls es a cap rs sa scap ea ecap := H1.out.upd hG2 hB2
 refine (emit_any base w0 w2 M (failD d c t) xs ls es (failE c t) ⟨a, cap, rs, sa, scap, ea, ecap, H2⟩ hes).mono ?_
 rintro r w3 ⟨rfl, h3⟩
 have H3 := Lib.hid h3; clear h3
 go_wp2
 go_end0
 exact ⟨rfl, H3.out⟩
def Does (F : FuncId) (caps : Array Value) (w : World) (d : Dc) (xs : List Shp) (ls : List Lvl) (O : Outc) : Prop :=
 ∀ (base : Nat) (w0 w1 : World) (M : Nat), Below w.heap.size w w0 → w.heap.size ≤ base → base ≤ w0.heap.size → Mach base w0 w1 M d xs ls [] →
  Calls Tryz.prog F (#[.pointer (some ⟨M, 0, none⟩)] ++ caps) w1 fun r w' => r = .returned (.tuple #[]) ∧ Mach base w0 w' M O.1 xs O.2.1 O.2.2
set_option maxRecDepth 100000 in
set_option maxHeartbeats 1000000 in
theorem on_any (d : Dc) (a : Option Addr) (cap : Nat) (xs : List Shp) (sa : Option Addr) (scap : Nat) (ls : List Lvl) (F : FuncId) (caps : Array Value) (O : Outc) (w : World) (h : ShsC w a xs) (h' : Lvls w sa ls) (hn : xs.length ≤ 1048576) (hm : fldSum xs ≤ 1048576) (hm' : ls.length ≤ 1048576) (hnil : sa = none → scap = 0)
  (hF : ∀ (args : Array Value) (w : World), (callFunc F args).run Tryz.prog w = .ok (.enter F args) w) (hdo : lvOk d xs ls = true → Does F caps w d xs ls O) (hno : lvOk d xs ls = false → O = (d, ls, [])) :
  Calls Tryz.prog 35 #[d.val (.slice a xs.length cap) (.slice sa ls.length scap), .func (.func F) #[] caps] w (FreshDE w 77 34 67 38 xs O) := by
 have HSs := Lib.hid h; clear h
 have HSl := Lib.hid h'; clear h'
 have HDO := Lib.hid hdo; clear hdo
 go_enter Tryz.func35, Tryz.ntmps35
 go_wp2_with (first | (refine wlm w.heap.size (Dc.cl d (.slice a xs.length cap) (.slice sa ls.length scap)) (range_of_box (t := 40) (hset_alloc (hset_new rfl))) ?_))
 refine (copyDec_any d a cap xs sa scap ls _ (HSs.out.keep bl) (Sl.keep HSl.out bl) hn hm hm' hnil).mono ?_
 rintro r w1 ⟨a1, cap1, rs1, sa1, scap1, rfl, ho1, hp1, hb1⟩
 have hz1 := hb1.size
 simp only [World.size_alloc] at hz1
 have hA_ : w1.heap[w.heap.size]? = some (.cells (Dc.cl d (.slice a xs.length cap) (.slice sa ls.length scap)).toArray 40 (0, 0)) := (hb1.block _ (by simp; omega)).trans (hset_alloc (hset_new rfl))
 have hR_ : w1.heap[w.heap.size + 1]? = some (.cells dz0.toArray 40 (0, 0)) := (hb1.block _ (by simp)).trans (hset_new (by simp))
 have hb1b : Below w.heap.size w w1 := by exact bl
 have P1 := Lib.hid (OwnShs.le ho1 (show w.heap.size + 1 + 1 ≤ _ by simp)); clear ho1
 have P2 := Lib.hid (owns_le hp1 (show w.heap.size + 1 + 1 ≤ _ by simp)); clear hp1
 have HA := Lib.hid hA_; clear hA_
 have HR := Lib.hid hR_; clear hR_ hb1
 go_wp2_with (first | (refine wlm w.heap.size (Dc.cl d (.slice a xs.length cap) (.slice sa ls.length scap)) (range_of_box (t := 40) (hset_alloc HA.out)) ?_))
 have HSs2 := Lib.hid (ShsC.keep HSs.out hb1b); clear HSs
 have HSl2 := Lib.hid (Sl.keep HSl.out hb1b); clear HSl
 refine (levelsOk_any d a cap _ xs sa scap _ ls _ (HSs2.out.shs.keep bl) (Sl.keep HSl2.out bl) rfl rfl hn hm hm').mono ?_
 rintro r w2 ⟨rfl, hb2⟩
 have hb12 : Below w1.heap.size w1 w2 := by exact bl
 have H2_ : MachI (w.heap.size + 1 + 1) w1 w2 w1.heap.size d xs ls [] a1 cap1 rs1 sa1 scap1 none 0 :=
  { box := (hb2.block _ (by simp)).trans (hset_new rfl), sh := P1.out.chain hb12 (Nat.le_refl _), lv := owns_below P2.out hb12 (Nat.le_refl _), ev := World.ownsRow_nil _ _ _ _, bel := hb12.mono (by omega), le := by omega, bz := by have := hb12.size; omega }
 have H2 := Lib.hid H2_; clear H2_ P1 P2 hb2 HA
 have e0 : (planOk d.p xs && (decide ((ls.length : Int) ≤ d.p.deep) && ls.all (lvlOk xs.length))) = lvOk d xs ls := rfl
 rw [e0]
 cases hl : lvOk d xs ls
 ·have hO := hno hl
  obtain ⟨a3, ha3⟩ : ∃ x, x = a1 := ⟨_, rfl⟩
  obtain ⟨cap3, hcap3⟩ : ∃ x, x = cap1 := ⟨_, rfl⟩
  obtain ⟨sa3, hsa3⟩ : ∃ x, x = sa1 := ⟨_, rfl⟩
  obtain ⟨scap3, hscap3⟩ : ∃ x, x = scap1 := ⟨_, rfl⟩
  obtain ⟨ea3, hea3⟩ : ∃ x : Option Addr, x = none := ⟨_, rfl⟩
  obtain ⟨ecap3, hecap3⟩ : ∃ x, x = 0 := ⟨_, rfl⟩
  obtain ⟨rs3, hrs3⟩ : ∃ x, x = rs1 := ⟨_, rfl⟩
  obtain ⟨e, ms, es⟩ := O
  simp only [Prod.mk.injEq] at hO
  obtain ⟨rfl, rfl, rfl⟩ := hO
  rw [← ha3, ← hcap3, ← hsa3, ← hscap3, ← hea3, ← hecap3, ← hrs3] at H2
  clear ha3 hcap3 hsa3 hscap3 hea3 hecap3 hrs3
  obtain ⟨es, hes0⟩ : ∃ es : List Ev, es = [] := ⟨_, rfl⟩
  rw [← hes0] at H2
  have HE0 := Lib.hid hes0; clear hes0
  have hz2 := H2.out.bel.size
  have HRn := Lib.hid (show w2.heap[w.heap.size + 1]? = some (.cells dz0.toArray 40 (0, 0)) from (H2.out.bel.block _ (by omega)).trans HR.out)
  have kM := box_cells H2.out.box
  go_wp2_with fail
  refine wp_region_till (fun w' => ∀ i : Nat, w'.cell? ⟨w1.heap.size, i, none⟩ = (#[.slice a3 xs.length cap3, .int .i64 e.p.root, .int .i64 e.p.deep, .int .i64 e.p.most, .int .i64 e.mode, .slice sa3 ms.length scap3, .int .u64 e.bits, .int .i64 e.have_, .int .i64 e.start, .int .i64 e.at_, .int .i64 e.field.number, .int .i64 e.field.kind, .bool e.field.rep, .bool e.field.packed, .int .i64 e.field.msg, .int .i64 e.wire, .int .i64 e.want, .int .i64 e.utf.want, .int .i64 e.utf.low, .int .i64 e.utf.high, .int .i64 e.end_.kind, .int .i64 e.end_.field, .int .u64 e.end_.bits, .int .i64 e.end_.len, .string e.end_.text, .int .i64 e.end_.code, .int .i64 e.end_.at_, .slice ea3 es.length ecap3] : Array Value)[i]?) (fun _ => false) (by kernel_rfl) ?_
  have hS : (fun w' : World => ∀ i : Nat, w'.cell? ⟨w1.heap.size, i, none⟩ = (#[.slice a3 xs.length cap3, .int .i64 e.p.root, .int .i64 e.p.deep, .int .i64 e.p.most, .int .i64 e.mode, .slice sa3 ms.length scap3, .int .u64 e.bits, .int .i64 e.have_, .int .i64 e.start, .int .i64 e.at_, .int .i64 e.field.number, .int .i64 e.field.kind, .bool e.field.rep, .bool e.field.packed, .int .i64 e.field.msg, .int .i64 e.wire, .int .i64 e.want, .int .i64 e.utf.want, .int .i64 e.utf.low, .int .i64 e.utf.high, .int .i64 e.end_.kind, .int .i64 e.end_.field, .int .u64 e.end_.bits, .int .i64 e.end_.len, .string e.end_.text, .int .i64 e.end_.code, .int .i64 e.end_.at_, .slice ea3 es.length ecap3] : Array Value)[i]?) w2.drew := kM
  clear kM
  refine tk (i := 0) hS ?_
  refine tk (i := 1) hS ?_
  refine tk (i := 2) hS ?_
  refine' wpTill_take (i := 3) (oi := _) (v := _) rfl (by kernel_rfl) (by kernel_rfl) (by kernel_rfl) (by kernel_rfl) (fun _ _ _ h => h) (yieldsIf_load_mid (by rfl) _ _ rfl _ _ rfl (Dc.cl e (.slice a3 xs.length cap3) (.slice sa3 ms.length scap3)) _ (fun wq hq => fun j u hj => (hq (0 + j)).trans (by rw [Nat.zero_add, List.getElem?_toArray]; exact pre_at hj)) Tryz.underlying40 rfl size_Dec) hS ?_
  try simp only [List.getElem_toArray, List.getElem_cons_succ, List.getElem_cons_zero, Act.put, List.setIfInBounds_toArray, List.set_cons_zero, List.set_cons_succ]
  refine tk (i := 4) hS ?_
  refine tk (i := 5) hS ?_
  refine tk (i := 6) hS ?_
  refine tk (i := 7) hS ?_
  refine wpTill_op (i := 8) (by kernel_rfl) rfl (fun K hK => ?_)
  refine step_store_row rfl 40 (.tmp 4) (.tmp 19) rfl (w.heap.size + 1) (Dc.cl e (.slice a3 xs.length cap3) (.slice sa3 ms.length scap3)).toArray rfl rfl 40 dz0.toArray HRn.out size_Dec rfl (by simp [Value.oneCell']) ?_
  have hS1 : (fun w' : World => ∀ i : Nat, w'.cell? ⟨w1.heap.size, i, none⟩ = (#[.slice a3 xs.length cap3, .int .i64 e.p.root, .int .i64 e.p.deep, .int .i64 e.p.most, .int .i64 e.mode, .slice sa3 ms.length scap3, .int .u64 e.bits, .int .i64 e.have_, .int .i64 e.start, .int .i64 e.at_, .int .i64 e.field.number, .int .i64 e.field.kind, .bool e.field.rep, .bool e.field.packed, .int .i64 e.field.msg, .int .i64 e.wire, .int .i64 e.want, .int .i64 e.utf.want, .int .i64 e.utf.low, .int .i64 e.utf.high, .int .i64 e.end_.kind, .int .i64 e.end_.field, .int .u64 e.end_.bits, .int .i64 e.end_.len, .string e.end_.text, .int .i64 e.end_.code, .int .i64 e.end_.at_, .slice ea3 es.length ecap3] : Array Value)[i]?) (w2.drew.setRow (w.heap.size + 1) (Dc.cl e (.slice a3 xs.length cap3) (.slice sa3 ms.length scap3)).toArray) := fun i => (World.cell?_of_block (a := ⟨w1.heap.size, i, none⟩) (setRow_other _ _ _ _ (by simp; omega))).trans (hS i)
  refine hK.out _ _ (fun _ => hS1) ?_
  clear hK K
  try simp only [Act.put, List.setIfInBounds_toArray, List.set_cons_zero, List.set_cons_succ]
  refine wpTill_op (i := 9) (by kernel_rfl) rfl (fun K hK => ?_)
  go_simp
  refine hK.out _ _ (fun _ => hS1) ?_
  clear hK K
  refine wpTill_done (by kernel_rfl) ?_ _
  go_wp2
  rw [← HE0.out]
  refine finDE (w := w) (R := w.heap.size + 1) (base := w.heap.size + 1 + 1) (e := e) (ms := ms) (es := es) (rs := rs3) (a := a3) (cap := cap3) (sa := sa3) (scap := scap3) (ea := ea3) (ecap := ecap3) Tryz.results35 rfl rfl ?_ ?_ ?_ ?_ ?_ (by omega)
  ·exact hset_row (cs := dz0.toArray) HRn.out
  ·refine OwnShs.setRow (H2.out.sh.drew) ?_ _; omega
  ·refine owns_setRow (w := w2.drew) H2.out.lv ?_ _; omega
  ·refine owns_setRow (w := w2.drew) H2.out.ev ?_ _; omega
  ·have hbx : Below w.heap.size w w2 := hb1b.trans (H2.out.bel.mono (by omega))
   exact bl
 ·have hFF := hF (#[.pointer (some ⟨w1.heap.size, 0, none⟩)] ++ caps) w2
  go_wp2_with fail
  refine (HDO.out hl (w.heap.size + 1 + 1) w1 w2 w1.heap.size hb1b (by omega) hz1 ⟨_, _, _, _, _, _, _, H2.out⟩).mono ?_
  rintro r w3 ⟨rfl, h3⟩
  obtain ⟨e, ms, es⟩ := O
  obtain ⟨a3, cap3, rs3, sa3, scap3, ea3, ecap3, h3⟩ := h3
  simp only at h3
  have H3 := Lib.hid h3; clear h3 H2
  have hz3 := H3.out.bel.size
  have HRn := Lib.hid (show w3.heap[w.heap.size + 1]? = some (.cells dz0.toArray 40 (0, 0)) from (H3.out.bel.block _ (by omega)).trans HR.out)
  have kM := box_cells H3.out.box
  go_wp2_with fail
  refine wp_region_till (fun w' => ∀ i : Nat, w'.cell? ⟨w1.heap.size, i, none⟩ = (#[.slice a3 xs.length cap3, .int .i64 e.p.root, .int .i64 e.p.deep, .int .i64 e.p.most, .int .i64 e.mode, .slice sa3 ms.length scap3, .int .u64 e.bits, .int .i64 e.have_, .int .i64 e.start, .int .i64 e.at_, .int .i64 e.field.number, .int .i64 e.field.kind, .bool e.field.rep, .bool e.field.packed, .int .i64 e.field.msg, .int .i64 e.wire, .int .i64 e.want, .int .i64 e.utf.want, .int .i64 e.utf.low, .int .i64 e.utf.high, .int .i64 e.end_.kind, .int .i64 e.end_.field, .int .u64 e.end_.bits, .int .i64 e.end_.len, .string e.end_.text, .int .i64 e.end_.code, .int .i64 e.end_.at_, .slice ea3 es.length ecap3] : Array Value)[i]?) (fun _ => false) (by kernel_rfl) ?_
  have hS : (fun w' : World => ∀ i : Nat, w'.cell? ⟨w1.heap.size, i, none⟩ = (#[.slice a3 xs.length cap3, .int .i64 e.p.root, .int .i64 e.p.deep, .int .i64 e.p.most, .int .i64 e.mode, .slice sa3 ms.length scap3, .int .u64 e.bits, .int .i64 e.have_, .int .i64 e.start, .int .i64 e.at_, .int .i64 e.field.number, .int .i64 e.field.kind, .bool e.field.rep, .bool e.field.packed, .int .i64 e.field.msg, .int .i64 e.wire, .int .i64 e.want, .int .i64 e.utf.want, .int .i64 e.utf.low, .int .i64 e.utf.high, .int .i64 e.end_.kind, .int .i64 e.end_.field, .int .u64 e.end_.bits, .int .i64 e.end_.len, .string e.end_.text, .int .i64 e.end_.code, .int .i64 e.end_.at_, .slice ea3 es.length ecap3] : Array Value)[i]?) w3.drew := kM
  clear kM
  refine tk (i := 0) hS ?_
  refine tk (i := 1) hS ?_
  refine tk (i := 2) hS ?_
  refine' wpTill_take (i := 3) (oi := _) (v := _) rfl (by kernel_rfl) (by kernel_rfl) (by kernel_rfl) (by kernel_rfl) (fun _ _ _ h => h) (yieldsIf_load_mid (by rfl) _ _ rfl _ _ rfl (Dc.cl e (.slice a3 xs.length cap3) (.slice sa3 ms.length scap3)) _ (fun wq hq => fun j u hj => (hq (0 + j)).trans (by rw [Nat.zero_add, List.getElem?_toArray]; exact pre_at hj)) Tryz.underlying40 rfl size_Dec) hS ?_
  try simp only [List.getElem_toArray, List.getElem_cons_succ, List.getElem_cons_zero, Act.put, List.setIfInBounds_toArray, List.set_cons_zero, List.set_cons_succ]
  refine tk (i := 4) hS ?_
  refine tk (i := 5) hS ?_
  refine tk (i := 6) hS ?_
  refine tk (i := 7) hS ?_
  refine wpTill_op (i := 8) (by kernel_rfl) rfl (fun K hK => ?_)
  refine step_store_row rfl 40 (.tmp 4) (.tmp 19) rfl (w.heap.size + 1) (Dc.cl e (.slice a3 xs.length cap3) (.slice sa3 ms.length scap3)).toArray rfl rfl 40 dz0.toArray HRn.out size_Dec rfl (by simp [Value.oneCell']) ?_
  have hS1 : (fun w' : World => ∀ i : Nat, w'.cell? ⟨w1.heap.size, i, none⟩ = (#[.slice a3 xs.length cap3, .int .i64 e.p.root, .int .i64 e.p.deep, .int .i64 e.p.most, .int .i64 e.mode, .slice sa3 ms.length scap3, .int .u64 e.bits, .int .i64 e.have_, .int .i64 e.start, .int .i64 e.at_, .int .i64 e.field.number, .int .i64 e.field.kind, .bool e.field.rep, .bool e.field.packed, .int .i64 e.field.msg, .int .i64 e.wire, .int .i64 e.want, .int .i64 e.utf.want, .int .i64 e.utf.low, .int .i64 e.utf.high, .int .i64 e.end_.kind, .int .i64 e.end_.field, .int .u64 e.end_.bits, .int .i64 e.end_.len, .string e.end_.text, .int .i64 e.end_.code, .int .i64 e.end_.at_, .slice ea3 es.length ecap3] : Array Value)[i]?) (w3.drew.setRow (w.heap.size + 1) (Dc.cl e (.slice a3 xs.length cap3) (.slice sa3 ms.length scap3)).toArray) := fun i => (World.cell?_of_block (a := ⟨w1.heap.size, i, none⟩) (setRow_other _ _ _ _ (by simp; omega))).trans (hS i)
  refine hK.out _ _ (fun _ => hS1) ?_
  clear hK K
  try simp only [Act.put, List.setIfInBounds_toArray, List.set_cons_zero, List.set_cons_succ]
  refine wpTill_op (i := 9) (by kernel_rfl) rfl (fun K hK => ?_)
  go_simp
  refine hK.out _ _ (fun _ => hS1) ?_
  clear hK K
  refine wpTill_done (by kernel_rfl) ?_ _
  go_wp2
  refine finDE (w := w) (R := w.heap.size + 1) (base := w.heap.size + 1 + 1) (e := e) (ms := ms) (es := es) (rs := rs3) (a := a3) (cap := cap3) (sa := sa3) (scap := scap3) (ea := ea3) (ecap := ecap3) Tryz.results35 rfl rfl ?_ ?_ ?_ ?_ ?_ (by omega)
  ·exact hset_row (cs := dz0.toArray) HRn.out
  ·refine OwnShs.setRow (H3.out.sh.drew) ?_ _; omega
  ·refine owns_setRow (w := w3.drew) H3.out.lv ?_ _; omega
  ·refine owns_setRow (w := w3.drew) H3.out.ev ?_ _; omega
  ·have hbx : Below w.heap.size w w3 := hb1b.trans (H3.out.bel.mono (by omega))
   exact bl
end Go.Proofs.YtabdjimjelfbfaaGreat
