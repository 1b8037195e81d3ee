/-
  For all arguments the statement WalkOrder answers true, and its arguments read as before: the row, and the card that ties its table to the program's text. No condition.
-/
import Derived.Test.YtcnpkmdooekmgaaGreatDoorCards
import Derived.Test.YtcnpkmdooekmgaaGreatDoorTie
import Derived.Test.YtcnpkmdooekmgaaGreatDoorV6
import Derived.WalkKit
import Derived.ProofKit
import Derived.OpenShut
import Derived.ChangeOld
import Derived.ChangeSlices
import Derived.Below
import Derived.Carry
import Derived.Deep.Slices
import Derived.Sort.Row
import Derived.Deep.DeepHandedRow
import Derived.Lib.LaidTab
namespace Go.Proofs.YtcnpkmdooekmgaaGreatDoor.walkOrder
open Go.Proofs.YtcnpkmdooekmgaaGreatDoor Go.Proofs.YtcnpkmdooekmgaaGreatDoor.Sl
open Go.ChangeShapes Go.WideShapes Go.ChangeAt Go.RowKit
set_option linter.unusedVariables false

instance : Inhabited Opn := ⟨⟨0, 0, 0, 0, 0⟩⟩
theorem own : ownKnob Tryz.prog.godebug = none := by kernel_rfl
theorem laidOut : laidOutB Tryz.prog = true := by kernel_rfl
theorem gTab : Tryz.prog.globalNamed "math/bits.deBruijn64tab" = some 0 := by kernel_rfl
theorem gTabType : (Tryz.prog.globals[0]?).map (·.type) = some 174 := by kernel_rfl
theorem cells174 : Tryz.prog.cellsOf 174 = 64 := by kernel_rfl
theorem cells34 : Tryz.prog.cellsOf 34 = 5 := by kernel_rfl
theorem cells32 : Tryz.prog.cellsOf 32 = 1 := by kernel_rfl
theorem cells5 : Tryz.prog.cellsOf 5 = 1 := by kernel_rfl
theorem cells3 : Tryz.prog.cellsOf 3 = 1 := by kernel_rfl

/-- what the row's list gives: the table. -/
theorem table {W : World} (h : laidMetH Tryz.prog Rows.walkOrderRow.laid W) : Tab (Base.of W) := by
  have h1 : Lib.TabIs Tryz.prog W "math/bits.deBruijn64tab" .u8 (Lib.deBruijn64tab.map fun n : Nat => (n : Int)) :=
    Lib.tabIs_of_head (rest := []) gTab gTabType Tryz.underlying174 Tryz.underlying5 cells5 cells174 h
  unfold Lib.TabIs World.var? at h1
  rw [gTab] at h1
  simp only [Option.bind_some] at h1
  split at h1
  · rename_i cs t fr hc
    refine ⟨t, fr, ?_⟩
    show W.heap[0]? = _
    rw [hc, Option.some.inj h1]
    simp
  · cases h1
/-- cells that are there, as a row that never changes. -/
theorem isl_of {W : World} {a : Addr} {n cap s : Nat} {E : TypeId} {xs : List Value} (hs : 0 < s) (hl : xs.length = n * s) (hc : n ≤ cap) (h : ∀ j v, xs[j]? = some v → W.cell? (a.add j) = some v) :
    (isl (some a) n cap E s xs).sat (fun b => W.heap[b]?) Hp.emp := by
  refine ⟨hl, hc, ?_⟩
  rcases Nat.eq_zero_or_pos n with h0 | h0
  · exact .inl h0
  right
  have hpos : 0 < xs.length := by rw [hl]; exact Nat.mul_pos h0 hs
  obtain ⟨b, off, spot⟩ := a
  have e0 := h 0 xs[0] (List.getElem?_eq_getElem hpos)
  have hsp : spot = none := by
    unfold World.cell? at e0
    simp only [Addr.add, if_true] at e0
    split at e0
    · split at e0
      · cases e0
      · rename_i hn; simpa using hn
    · cases e0
  subst hsp
  have e0' : W.cell? ⟨b, off, none⟩ = some xs[0] := by simpa [Addr.add] using e0
  obtain ⟨c, e, fr, hb, _⟩ := Go.Sort.cells_of_cell? e0'
  refine ⟨b, off, c, e, fr, rfl, hb, fun j x hj => ?_⟩
  have e1 := h j x hj
  have e2 : W.cell? ⟨b, off + j, none⟩ = some x := by
    unfold Addr.add at e1
    split at e1
    · rename_i hz; subst hz; exact e1
    · exact e1
  obtain ⟨c', e', fr', hb', hc'⟩ := Go.Sort.cells_of_cell? e2
  rw [hb] at hb'
  cases hb'
  exact hc'
theorem five {α : Type} {l : List α} (h : l.length = 5) : ∃ a b c d e, l = [a, b, c, d, e] := by
  match l, h with
  | [a, b, c, d, e], _ => exact ⟨a, b, c, d, e, rfl⟩
theorem nat_of {k : IntKind} {z : Int} {m : Nat} (h : (Lit.int k z).wf = true) (h0 : k.min = 0) (h1 : k.max = (m : Int)) : ∃ n : Nat, n ≤ m ∧ z = (n : Int) := by
  simp only [Lit.wf, h0, h1, Bool.and_eq_true, decide_eq_true_eq] at h
  exact ⟨z.toNat, by omega, by omega⟩
theorem ops_of {H : Type} {enc : TypeId × Value → H} {W : World} {n : Nat} {v : Value} {x : DataW H × List MemPlace} (h : DataW.trod enc Tryz.prog W 0 (fun _ => true) true n 22 [v] = some x) :
    ∃ (a : Option Addr) (c : Nat) (os : List Opn), v = .slice a os.length c ∧ (∀ o ∈ os, o.wt) ∧ (isl a os.length c T.casematelaw15_Op 5 (os.flatMap ocells)).sat (fun b => W.heap[b]?) Hp.emp := by
  rcases Go.Deep.open_slice Tryz.underlying22 h with ⟨hcs, _⟩ | ⟨a, l, c, m, k, D, Pl, hcs, _, hl, hm, hmm, _, hx⟩
  · simp at hcs
    exact ⟨none, 0, [], hcs, (by intro o ho; cases ho), ⟨rfl, Nat.le_refl _, .inl rfl⟩⟩
  · simp at hcs
    have hlm : l ≤ m := by rw [hmm]; simpa using hl
    have each : ∀ i, i < l → ∃ o : Opn, o.wt ∧ W.cells? 0 (a.add (i * 5)) 5 = some (ocells o) := fun i hi => by
      obtain ⟨cs', h1, h2⟩ := hx i (by omega)
      rw [cells34] at h1
      obtain ⟨_, hlen, _⟩ := World.cells?_some h1
      obtain ⟨xs, k', hk, hxy, _, hxl, hf⟩ := DataW.trod_struct Tryz.underlying34 h2
      clear hx hlm hmm
      obtain ⟨y0, y1, y2, y3, y4, rfl⟩ : ∃ y0 y1 y2 y3 y4, xs = [y0, y1, y2, y3, y4] := five hxl
      obtain ⟨v0, v1, v2, v3, v4, rfl⟩ : ∃ y0 y1 y2 y3 y4, cs' = [y0, y1, y2, y3, y4] := five hlen
      · skip
        have g0 := hf 0 _ rfl
        have g1 := hf 1 _ rfl
        have g2 := hf 2 _ rfl
        have g3 := hf 3 _ rfl
        have g4 := hf 4 _ rfl
        simp [cells3, cells32, cells5] at g0 g1 g2 g3 g4
        obtain ⟨z0, e0, _, _⟩ := DataW.trod_int Tryz.underlying3 g0
        obtain ⟨z1, e1, _, w1⟩ := DataW.trod_int Tryz.underlying32 g1
        obtain ⟨z2, e2, _, w2⟩ := DataW.trod_int Tryz.underlying32 g2
        obtain ⟨z3, e3, _, w3⟩ := DataW.trod_int Tryz.underlying5 g3
        obtain ⟨z4, e4, _, _⟩ := DataW.trod_int Tryz.underlying3 g4
        obtain ⟨n1, b1, rfl⟩ := nat_of (m := 18446744073709551615) w1 rfl rfl
        obtain ⟨n2, b2, rfl⟩ := nat_of (m := 18446744073709551615) w2 rfl rfl
        obtain ⟨n3, b3, rfl⟩ := nat_of (m := 255) w3 rfl rfl
        simp only [List.cons.injEq, and_true] at e0 e1 e2 e3 e4
        refine ⟨⟨z0, n1, n2, n3, z4⟩, ⟨by dsimp only; omega, by dsimp only; omega, by dsimp only; omega⟩, ?_⟩
        rw [h1, e0, e1, e2, e3, e4]
    obtain ⟨q, hq⟩ := Go.Deep.choose_lt (α := Opn) each
    have hlen : ((List.range l).map q).length = l := by simp
    have hflen : (((List.range l).map q).flatMap ocells).length = l * 5 := by
      generalize hes : (List.range l).map q = es at *
      rw [← hlen]; clear hes hlen
      induction es with
      | nil => rfl
      | cons e es ih => rw [List.flatMap_cons, List.length_append, ih]; simp only [List.length_cons, List.length_nil]; omega
    refine ⟨some a, c, (List.range l).map q, by rw [hcs, hlen], fun o ho => ?_, ?_⟩
    · obtain ⟨i, hi, rfl⟩ := List.mem_map.1 ho
      exact (hq i (List.mem_range.1 hi)).1
    · rw [hlen]
      refine isl_of (by decide) hflen hl (fun j v hj => ?_)
      have hjl : j < l * 5 := by rw [← hflen]; exact (List.getElem?_eq_some_iff.1 hj).1
      have hil : j / 5 < l := by omega
      have hei : ((List.range l).map q)[j / 5]? = some (q (j / 5)) := by simp [List.getElem?_range hil]
      have hj2 : ((List.range l).map q).flatMap ocells = ((List.range l).map q).flatMap ocells := rfl
      have hjj : j / 5 * 5 + j % 5 = j := by omega
      have h5 : j % 5 < 5 := Nat.mod_lt _ (by decide)
      have hat := ocells_at hei (j % 5) ((ocells (q (j / 5)))[j % 5]'(by simpa using h5)) (List.getElem?_eq_getElem (by simpa using h5))
      rw [hjj, hj] at hat
      obtain ⟨_, _, hcell⟩ := World.cells?_some (hq (j / 5) hil).2
      have := hcell (j % 5) h5
      rw [Go.Deep.add_add, hjj] at this
      rw [this, List.getElem?_eq_getElem (by simpa using h5)]
      exact hat.symm
theorem holds_of {W : World} : ∀ (L : List Assn), (∀ A ∈ L, A.sat (fun b => W.heap[b]?) Hp.emp) → Holds (Base.of W) L W := by
  intro L h
  obtain ⟨im, hp, r, _⟩ := Holds.start W
  refine ⟨fun b => W.heap[b]?, Hp.emp, ⟨Hp.le_refl _, fun _ _ h => h, (fun _ _ h => by cases h), fun _ => .inr rfl, rfl, rfl, rfl⟩, ?_⟩
  clear r
  induction L with
  | nil => trivial
  | cons A L ih => exact ⟨Hp.emp, Hp.emp, Hp.le_refl _, Hp.le_refl _, Hp.emp_dis _, h A (by simp), ih (fun B hB => h B (by simp [hB]))⟩
theorem calls_in {P : Program} {w : World} {f : FuncId} {args : List Value} {α : Type} {q : α → Prop} {V : α → Value} {Pre : List Assn} {Post : α → List Assn} (h : Sl.Fn P (Base.of w) f args Pre q V Post) (hh : Holds (Base.of w) (Pre ++ []) w) :
    Calls P f args.toArray w fun e w' => ∃ x, q x ∧ e = .returned (V x) ∧ Below w.heap.size w w' :=
  (h [] w hh).mono fun _ _ ⟨x, hq, he, hb⟩ => ⟨x, hq, he, hb.below⟩

theorem cells83 : Tryz.prog.cellsOf 83 = 5 := by kernel_rfl
instance : Inhabited Op2 := ⟨⟨0, 0, 0, 0, 0⟩⟩
theorem ops2_of {H : Type} {enc : TypeId × Value → H} {W : World} {n : Nat} {v : Value} {x : DataW H × List MemPlace} (h : DataW.trod enc Tryz.prog W 0 (fun _ => true) true n 80 [v] = some x) :
    ∃ (a : Option Addr) (c : Nat) (os : List Op2), v = .slice a os.length c ∧ (∀ o ∈ os, o.wt) ∧ (isl a os.length c T.casematelaw16_Op 5 (os.flatMap o2cells)).sat (fun b => W.heap[b]?) Hp.emp := by
  rcases Go.Deep.open_slice Tryz.underlying80 h with ⟨hcs, _⟩ | ⟨a, l, c, m, k, D, Pl, hcs, _, hl, hm, hmm, _, hx⟩
  · simp at hcs
    exact ⟨none, 0, [], hcs, (by intro o ho; cases ho), ⟨rfl, Nat.le_refl _, .inl rfl⟩⟩
  · simp at hcs
    have hlm : l ≤ m := by rw [hmm]; simpa using hl
    have each : ∀ i, i < l → ∃ o : Op2, o.wt ∧ W.cells? 0 (a.add (i * 5)) 5 = some (o2cells o) := fun i hi => by
      obtain ⟨cs', h1, h2⟩ := hx i (by omega)
      rw [cells83] at h1
      obtain ⟨_, hlen, _⟩ := World.cells?_some h1
      obtain ⟨xs, k', hk, hxy, _, hxl, hf⟩ := DataW.trod_struct Tryz.underlying83 h2
      clear hx hlm hmm
      obtain ⟨y0, y1, y2, y3, y4, rfl⟩ : ∃ y0 y1 y2 y3 y4, xs = [y0, y1, y2, y3, y4] := five hxl
      obtain ⟨v0, v1, v2, v3, v4, rfl⟩ : ∃ y0 y1 y2 y3 y4, cs' = [y0, y1, y2, y3, y4] := five hlen
      · skip
        have g0 := hf 0 _ rfl
        have g1 := hf 1 _ rfl
        have g2 := hf 2 _ rfl
        have g3 := hf 3 _ rfl
        have g4 := hf 4 _ rfl
        simp [cells3, cells32, cells5] at g0 g1 g2 g3 g4
        obtain ⟨z0, e0, _, _⟩ := DataW.trod_int Tryz.underlying3 g0
        obtain ⟨z1, e1, _, w1⟩ := DataW.trod_int Tryz.underlying32 g1
        obtain ⟨z2, e2, _, w2⟩ := DataW.trod_int Tryz.underlying32 g2
        obtain ⟨z3, e3, _, _⟩ := DataW.trod_int Tryz.underlying3 g3
        obtain ⟨z4, e4, _, w4⟩ := DataW.trod_int Tryz.underlying5 g4
        obtain ⟨n1, b1, rfl⟩ := nat_of (m := 18446744073709551615) w1 rfl rfl
        obtain ⟨n2, b2, rfl⟩ := nat_of (m := 18446744073709551615) w2 rfl rfl
        obtain ⟨n4, b4, rfl⟩ := nat_of (m := 255) w4 rfl rfl
        simp only [List.cons.injEq, and_true] at e0 e1 e2 e3 e4
        refine ⟨⟨z0, n1, n2, z3, n4⟩, ⟨by dsimp only; omega, by dsimp only; omega, by dsimp only; omega⟩, ?_⟩
        rw [h1, e0, e1, e2, e3, e4]
    obtain ⟨q, hq⟩ := Go.Deep.choose_lt (α := Op2) each
    have hlen : ((List.range l).map q).length = l := by simp
    have hflen : (((List.range l).map q).flatMap o2cells).length = l * 5 := by
      generalize hes : (List.range l).map q = es at *
      rw [← hlen]; clear hes hlen
      induction es with
      | nil => rfl
      | cons e es ih => rw [List.flatMap_cons, List.length_append, ih]; simp only [List.length_cons, List.length_nil]; omega
    refine ⟨some a, c, (List.range l).map q, by rw [hcs, hlen], fun o ho => ?_, ?_⟩
    · obtain ⟨i, hi, rfl⟩ := List.mem_map.1 ho
      exact (hq i (List.mem_range.1 hi)).1
    · rw [hlen]
      refine isl_of (by decide) hflen hl (fun j v hj => ?_)
      have hjl : j < l * 5 := by rw [← hflen]; exact (List.getElem?_eq_some_iff.1 hj).1
      have hil : j / 5 < l := by omega
      have hei : ((List.range l).map q)[j / 5]? = some (q (j / 5)) := by simp [List.getElem?_range hil]
      have hj2 : ((List.range l).map q).flatMap o2cells = ((List.range l).map q).flatMap o2cells := rfl
      have hjj : j / 5 * 5 + j % 5 = j := by omega
      have h5 : j % 5 < 5 := Nat.mod_lt _ (by decide)
      have hat := o2cells_at hei (j % 5) ((o2cells (q (j / 5)))[j % 5]'(by simpa using h5)) (List.getElem?_eq_getElem (by simpa using h5))
      rw [hjj, hj] at hat
      obtain ⟨_, _, hcell⟩ := World.cells?_some (hq (j / 5) hil).2
      have := hcell (j % 5) h5
      rw [Go.Deep.add_add, hjj] at this
      rw [this, List.getElem?_eq_getElem (by simpa using h5)]
      exact hat.symm
set_option maxRecDepth 100000 in
set_option maxHeartbeats 1000000 in
theorem contract (H : Type) (enc : TypeId × Value → H) (W : World) (base : Nat) (args : Array Value) (ds gs : List (DataW H)) (before : List MemPlace)
    (hval : ∀ (j : Nat) t v, Tryz.f8.params[j]? = some t → args[j]? = some v → Value.okWide Tryz.prog W .any base t v)
    (hW : DataW.Whole enc Tryz.prog Tryz.f8.params.toList Rows.walkOrderSpec.vars false W args.toList ds gs before) (hL : laidMetH Tryz.prog Rows.walkOrderRow.laid W) :
    Calls Tryz.prog 8 args W fun e W' => ∃ v, e = .returned v ∧ Rows.walkOrderSpec.post enc Tryz.prog Tryz.f8 false true false false W args v W' := by
  have hW' := hW
  obtain ⟨p, q, hA0, hV, rfl, hfz, hnd⟩ := hW
  have hA : DataW.TrodAll enc Tryz.prog W 0 (fun _ => true) true Tryz.f8.params.toList args.toList ds p := hA0
  rw [Tryz.params8] at hA hval
  obtain ⟨v0, vs0, d0, ds0, p0, q0, hargs, rfl, rfl, h0, r0⟩ := trodAll_cons hA
  obtain ⟨v1, vs1, d1, ds1, p1, q1, rfl, rfl, rfl, h1, r1⟩ := trodAll_cons r0
  obtain ⟨rfl, rfl, rfl⟩ := trodAll_nil r1
  obtain rfl : args = #[v0, v1] := by cases args; simp_all
  obtain ⟨rfl, rfl⟩ := trodVars_none hV
  have k0 := h0
  have lt0 : ∀ x ∈ p0, x.block < W.heap.size := by obtain ⟨m, hm⟩ := k0; exact DataW.trod_lt m _ _ _ hm
  obtain ⟨b0, l0, c0, rfl⟩ := okWide_slice Tryz.underlying80 (hval 0 80 v0 rfl rfl)
  obtain ⟨n0, g0⟩ := h0
  obtain ⟨a0, e0, os0, hv0, how0, hs0⟩ := ops2_of (v := .slice b0 l0 c0) g0
  cases hv0
  have k1 := h1
  have lt1 : ∀ x ∈ p1, x.block < W.heap.size := by obtain ⟨m, hm⟩ := k1; exact DataW.trod_lt m _ _ _ hm
  obtain ⟨b1, l1, c1, rfl⟩ := okWide_slice Tryz.underlying22 (hval 1 22 v1 rfl rfl)
  obtain ⟨n1, g1⟩ := h1
  obtain ⟨a1, e1, os1, hv1, how1, hs1⟩ := ops_of (v := .slice b1 l1 c1) g1
  cases hv1
  clear hA0
  have hh : Holds (Base.of W) ([isl b0 os0.length c0 T.casematelaw16_Op 5 (os0.flatMap o2cells), isl b1 os1.length c1 T.casematelaw15_Op 5 (os1.flatMap ocells)] ++ []) W := by
    refine holds_of _ (fun A hA => ?_)
    simp only [List.append_nil, List.mem_cons, List.not_mem_nil, or_false] at hA
    rcases hA with rfl | rfl
    · exact hs0
    · exact hs1
  refine (calls_in (worder_l b0 c0 os0 how0 b1 c1 os1 how1 (Base.of W) (table hL)) hh).mono fun e W' ⟨_, _, he, bel⟩ => ?_
  subst he
  exact ⟨_, rfl, _, _, _, [], _, [], hW', trodAll_mk1 (shut_bool Tryz.underlying4 _), trodAll_cons_mk (Below.trod laidOut (by kernel_rfl) (of_decide_eq_true (by kernel_rfl)) k0 bel lt0) (trodAll_cons_mk (Below.trod laidOut (by kernel_rfl) (of_decide_eq_true (by kernel_rfl)) k1 bel lt1) (trodAll_mk0)), rfl, bel.frame _, fun h => by cases h⟩

/-- a world for the witness: the settled one, the table (block 0) holding what its initialiser lays. -/
noncomputable def laidWorld (os : Os) : World :=
  { World.holding Tryz.prog os ⟨#[], #[], []⟩ with heap := (World.holding Tryz.prog os ⟨#[], #[], []⟩).heap.modify 0 fun
      | .cells _ t frozen => .cells (Lib.deBruijn64tab.map u8).toArray t frozen
      | o => o }
theorem laid_met (os : Os) : laidMet Tryz.prog Rows.walkOrderRow.laid ((laidWorld os).forCall (fun _ _ => 0) ⟨#[], #[.slice none 0 0, .slice none 0 0], []⟩).memory :=
  laidMet_of_run' 8 (by kernel_rfl) (by kernel_rfl)
theorem reads (os : Os) {H : Type} (enc : TypeId × Value → H) : ∃ places, DataW.whole enc Tryz.prog ((laidWorld os).forCall (fun _ _ => 0) ⟨#[], #[.slice none 0 0, .slice none 0 0], []⟩).memory Tryz.f8.params.toList Rows.walkOrderSpec.vars false #[(.slice none 0 0 : Value), (.slice none 0 0 : Value)].toList 8 = some ([.nil, .nil], [], places) :=
  ⟨[], by kernel_rfl⟩

set_option maxRecDepth 100000 in
theorem lifted (os : Os) (started : os.Started) (H : Type) (enc : TypeId × Value → H) (F : Stop.Interp) :
    ReturnsInHanded {} Tryz.checked os 8 .any ((OpenSpec.ofChange Rows.walkOrderSpec).preRow enc Tryz.prog Tryz.f8 Rows.walkOrderRow.domain false Rows.walkOrderRow.laid) (((OpenSpec.ofChange Rows.walkOrderSpec).at F).post enc Tryz.prog Tryz.f8 false true false false) := by
  obtain ⟨places, hx⟩ := reads os enc
  refine returnsInHanded_of_row (C := Tryz.checked) (s := OpenSpec.ofChange Rows.walkOrderSpec) own started (by kernel_rfl) Tryz.func8
    (witness_row_at (enc := enc) (C := Tryz.checked) false (laidWorld os) #[.slice none 0 0, .slice none 0 0] rfl (by kernel_rfl) (by kernel_rfl) (by kernel_rfl)
      (OpenSpec.preRow_of_cond 8 hx (by kernel_rfl) (fun k hk => by cases hk) (by kernel_rfl) (laid_met os))) ?_
  intro W base args ds gs before hval hW _ _ _ hL _ _
  exact contract H enc W base args ds gs before hval hW hL

theorem facts1 : Tryz.pinned.checked.prog.funcNamed Rows.walkOrderRow.func = some 8 := by kernel_rfl
theorem fa : (Rows.walkOrderRow.inPlace == Tryz.pinned.checked.prog.inPlace 8) = true := by kernel_rfl
theorem fb : (Rows.walkOrderRow.unfollowed == Tryz.pinned.checked.prog.unfollowed 8) = true := by kernel_rfl
theorem fc : (Rows.walkOrderRow.recurses == Tryz.pinned.checked.prog.recurses 8) = true := by kernel_rfl
theorem fd : (Rows.walkOrderRow.named == Tryz.pinned.checked.prog.varsNamed 8) = true := by kernel_rfl
theorem facts2 : joinedFacts Tryz.pinned.checked.prog 8 Tryz.f8 (OpenSpec.ofChange Rows.walkOrderSpec).bare Rows.walkOrderRow = true := by
  unfold joinedFacts
  rw [fa, fb, fc, fd]
  kernel_rfl
theorem facts3 : Tryz.f8.isInstance Tryz.pinned.checked.prog Rows.walkOrderRow.origin Rows.walkOrderRow.targs := of_decide_eq_true (by kernel_rfl)
theorem facts4 : Tryz.f8.isWrapper Tryz.pinned.checked.prog Rows.walkOrderRow.wrapper Rows.walkOrderRow.mainSum := by unfold Func.isWrapper; first | (rw [if_pos (by decide +kernel)]; kernel_rfl) | (rw [if_neg (by decide +kernel)]; exact ⟨rfl, rfl⟩)
theorem said : Rows.WalkOrderSaid :=
  OpenClaim.holds_of_cond 8 Tryz.f8 rfl rfl rfl rfl rfl rfl rfl ⟨rfl, rfl, rfl, rfl, rfl⟩ rfl rfl rfl rfl rfl facts1 Tryz.func8 facts2 facts3 facts4
    (fun os started H enc _ F => by rw [OpenClaim.pre_eq_preRow]; exact lifted os started H enc F)

theorem plain (f : FuncId) (fn : Func) (hf : Tryz.pinned.checked.prog.funcNamed "casemate/casematelaw16.WalkOrder" = some f) (hfn : Tryz.pinned.checked.prog.funcs[f]? = some fn) :
    false = Tryz.pinned.checked.prog.looks [] ∧ ∀ (j : Nat) t, fn.params[j]? = some t → Tryz.pinned.checked.prog.wantsStandIn t = false := by
  obtain rfl : f = 8 := Option.some.inj ((show Tryz.prog.funcNamed "casemate/casematelaw16.WalkOrder" = some 8 by kernel_rfl).symm.trans hf) |>.symm
  obtain rfl : fn = Tryz.f8 := (Option.some.inj (Tryz.func8.symm.trans hfn)).symm
  refine ⟨by kernel_rfl, fun j t ht => ?_⟩
  rw [Tryz.params8] at ht
  have h : t = 80 ∨ t = 22 := by have := Array.mem_of_getElem? ht; simpa using this
  rcases h with rfl | rfl
  · exact (show Tryz.prog.wantsStandIn 80 = false by kernel_rfl)
  · exact (show Tryz.prog.wantsStandIn 22 = false by kernel_rfl)

theorem proved : Rows.WalkOrderCardSaid :=
  Claim7.holds_tied_plain_at .later [] _ _ _ _ said (fun _ h => by cases h) (by kernel_rfl) (fun _ h => by cases h) walkOrder_row_tie rfl ⟨rfl, rfl⟩ (by kernel_rfl) rfl plain (by kernel_rfl)
#print axioms proved
end Go.Proofs.YtcnpkmdooekmgaaGreatDoor.walkOrder
