/-
  For all arguments the statement WalkNobody answers true, and its arguments read as before: the row, and the card that ties its table to the program's text. No condition.
-/
import Derived.Test.YtcnpkmdooekmgaaGreatDoorCards
import Derived.Test.YtcnpkmdooekmgaaGreatDoorTie
import Derived.Test.YtcnpkmdooekmgaaGreatDoorR6
import Derived.WalkKit
import Derived.ProofKit
import Derived.OpenShut
import Derived.ChangeOld
import Derived.ChangeSlices
import Derived.Below
import Derived.Carry
import Derived.Deep.Slices
import Derived.Sort.Row
import Derived.Deep.DeepHandedRow
import Derived.Lib.LaidTab
namespace Go.Proofs.YtcnpkmdooekmgaaGreatDoor.walkNobody
open Go.Proofs.YtcnpkmdooekmgaaGreatDoor Go.Proofs.YtcnpkmdooekmgaaGreatDoor.Sl
open Go.ChangeShapes Go.WideShapes Go.ChangeAt Go.RowKit
set_option linter.unusedVariables false

instance : Inhabited Opn := ⟨⟨0, 0, 0, 0, 0⟩⟩
theorem own : ownKnob Tryz.prog.godebug = none := by kernel_rfl
theorem laidOut : laidOutB Tryz.prog = true := by kernel_rfl
theorem gTab : Tryz.prog.globalNamed "math/bits.deBruijn64tab" = some 0 := by kernel_rfl
theorem gTabType : (Tryz.prog.globals[0]?).map (·.type) = some 174 := by kernel_rfl
theorem cells174 : Tryz.prog.cellsOf 174 = 64 := by kernel_rfl
theorem cells34 : Tryz.prog.cellsOf 34 = 5 := by kernel_rfl
theorem cells32 : Tryz.prog.cellsOf 32 = 1 := by kernel_rfl
theorem cells5 : Tryz.prog.cellsOf 5 = 1 := by kernel_rfl
theorem cells3 : Tryz.prog.cellsOf 3 = 1 := by kernel_rfl

/-- what the row's list gives: the table. -/
theorem table {W : World} (h : laidMetH Tryz.prog Rows.walkNobodyRow.laid W) : Tab (Base.of W) := by
  have h1 : Lib.TabIs Tryz.prog W "math/bits.deBruijn64tab" .u8 (Lib.deBruijn64tab.map fun n : Nat => (n : Int)) :=
    Lib.tabIs_of_head (rest := []) gTab gTabType Tryz.underlying174 Tryz.underlying5 cells5 cells174 h
  unfold Lib.TabIs World.var? at h1
  rw [gTab] at h1
  simp only [Option.bind_some] at h1
  split at h1
  · rename_i cs t fr hc
    refine ⟨t, fr, ?_⟩
    show W.heap[0]? = _
    rw [hc, Option.some.inj h1]
    simp
  · cases h1
/-- cells that are there, as a row that never changes. -/
theorem isl_of {W : World} {a : Addr} {n cap s : Nat} {E : TypeId} {xs : List Value} (hs : 0 < s) (hl : xs.length = n * s) (hc : n ≤ cap) (h : ∀ j v, xs[j]? = some v → W.cell? (a.add j) = some v) :
    (isl (some a) n cap E s xs).sat (fun b => W.heap[b]?) Hp.emp := by
  refine ⟨hl, hc, ?_⟩
  rcases Nat.eq_zero_or_pos n with h0 | h0
  · exact .inl h0
  right
  have hpos : 0 < xs.length := by rw [hl]; exact Nat.mul_pos h0 hs
  obtain ⟨b, off, spot⟩ := a
  have e0 := h 0 xs[0] (List.getElem?_eq_getElem hpos)
  have hsp : spot = none := by
    unfold World.cell? at e0
    simp only [Addr.add, if_true] at e0
    split at e0
    · split at e0
      · cases e0
      · rename_i hn; simpa using hn
    · cases e0
  subst hsp
  have e0' : W.cell? ⟨b, off, none⟩ = some xs[0] := by simpa [Addr.add] using e0
  obtain ⟨c, e, fr, hb, _⟩ := Go.Sort.cells_of_cell? e0'
  refine ⟨b, off, c, e, fr, rfl, hb, fun j x hj => ?_⟩
  have e1 := h j x hj
  have e2 : W.cell? ⟨b, off + j, none⟩ = some x := by
    unfold Addr.add at e1
    split at e1
    · rename_i hz; subst hz; exact e1
    · exact e1
  obtain ⟨c', e', fr', hb', hc'⟩ := Go.Sort.cells_of_cell? e2
  rw [hb] at hb'
  cases hb'
  exact hc'
theorem five {α : Type} {l : List α} (h : l.length = 5) : ∃ a b c d e, l = [a, b, c, d, e] := by
  match l, h with
  | [a, b, c, d, e], _ => exact ⟨a, b, c, d, e, rfl⟩
theorem nat_of {k : IntKind} {z : Int} {m : Nat} (h : (Lit.int k z).wf = true) (h0 : k.min = 0) (h1 : k.max = (m : Int)) : ∃ n : Nat, n ≤ m ∧ z = (n : Int) := by
  simp only [Lit.wf, h0, h1, Bool.and_eq_true, decide_eq_true_eq] at h
  exact ⟨z.toNat, by omega, by omega⟩
theorem holds_of {W : World} : ∀ (L : List Assn), (∀ A ∈ L, A.sat (fun b => W.heap[b]?) Hp.emp) → Holds (Base.of W) L W := by
  intro L h
  obtain ⟨im, hp, r, _⟩ := Holds.start W
  refine ⟨fun b => W.heap[b]?, Hp.emp, ⟨Hp.le_refl _, fun _ _ h => h, (fun _ _ h => by cases h), fun _ => .inr rfl, rfl, rfl, rfl⟩, ?_⟩
  clear r
  induction L with
  | nil => trivial
  | cons A L ih => exact ⟨Hp.emp, Hp.emp, Hp.le_refl _, Hp.le_refl _, Hp.emp_dis _, h A (by simp), ih (fun B hB => h B (by simp [hB]))⟩
theorem calls_in {P : Program} {w : World} {f : FuncId} {args : List Value} {α : Type} {q : α → Prop} {V : α → Value} {Pre : List Assn} {Post : α → List Assn} (h : Sl.Fn P (Base.of w) f args Pre q V Post) (hh : Holds (Base.of w) (Pre ++ []) w) :
    Calls P f args.toArray w fun e w' => ∃ x, q x ∧ e = .returned (V x) ∧ Below w.heap.size w w' :=
  (h [] w hh).mono fun _ _ ⟨x, hq, he, hb⟩ => ⟨x, hq, he, hb.below⟩

set_option maxRecDepth 100000 in
set_option maxHeartbeats 1000000 in
theorem contract (H : Type) (enc : TypeId × Value → H) (W : World) (base : Nat) (args : Array Value) (ds gs : List (DataW H)) (before : List MemPlace)
    (hval : ∀ (j : Nat) t v, Tryz.f15.params[j]? = some t → args[j]? = some v → Value.okWide Tryz.prog W .any base t v)
    (hW : DataW.Whole enc Tryz.prog Tryz.f15.params.toList Rows.walkNobodySpec.vars false W args.toList ds gs before) (hL : laidMetH Tryz.prog Rows.walkNobodyRow.laid W) :
    Calls Tryz.prog 15 args W fun e W' => ∃ v, e = .returned v ∧ Rows.walkNobodySpec.post enc Tryz.prog Tryz.f15 false true false false W args v W' := by
  have hW' := hW
  obtain ⟨p, q, hA0, hV, rfl, hfz, hnd⟩ := hW
  have hA : DataW.TrodAll enc Tryz.prog W 0 (fun _ => true) true Tryz.f15.params.toList args.toList ds p := hA0
  rw [Tryz.params15] at hA hval
  obtain ⟨v0, vs0, d0, ds0, p0, q0, hargs, rfl, rfl, h0, r0⟩ := trodAll_cons hA
  obtain ⟨v1, vs1, d1, ds1, p1, q1, rfl, rfl, rfl, h1, r1⟩ := trodAll_cons r0
  obtain ⟨v2, vs2, d2, ds2, p2, q2, rfl, rfl, rfl, h2, r2⟩ := trodAll_cons r1
  obtain ⟨rfl, rfl, rfl⟩ := trodAll_nil r2
  obtain rfl : args = #[v0, v1, v2] := by cases args; simp_all
  obtain ⟨rfl, rfl⟩ := trodVars_none hV
  obtain ⟨z0, rfl, rfl, rfl, w0⟩ := open_int Tryz.underlying32 (hval 0 32 v0 rfl rfl) h0
  obtain ⟨y0, b0, rfl⟩ := nat_of (m := 18446744073709551615) w0 rfl rfl
  obtain ⟨z1, rfl, rfl, rfl, w1⟩ := open_int Tryz.underlying32 (hval 1 32 v1 rfl rfl) h1
  obtain ⟨y1, b1, rfl⟩ := nat_of (m := 18446744073709551615) w1 rfl rfl
  obtain ⟨z2, rfl, rfl, rfl, w2⟩ := open_int Tryz.underlying32 (hval 2 32 v2 rfl rfl) h2
  obtain ⟨y2, b2, rfl⟩ := nat_of (m := 18446744073709551615) w2 rfl rfl
  clear hA0
  have hh : Holds (Base.of W) ([] ++ []) W := holds_of _ (fun A hA => by cases hA)
  refine (calls_in (wnobody_l y0 y1 y2 (Base.of W) (table hL)) hh).mono fun e W' ⟨_, _, he, bel⟩ => ?_
  subst he
  exact ⟨_, rfl, _, _, _, [], _, [], hW', trodAll_mk1 (shut_bool Tryz.underlying4 _), trodAll_cons_mk (shut_int Tryz.underlying32 w0) (trodAll_cons_mk (shut_int Tryz.underlying32 w1) (trodAll_cons_mk (shut_int Tryz.underlying32 w2) (trodAll_mk0))), rfl, bel.frame _, fun h => by cases h⟩

/-- a world for the witness: the settled one, the table (block 0) holding what its initialiser lays. -/
noncomputable def laidWorld (os : Os) : World :=
  { World.holding Tryz.prog os ⟨#[], #[], []⟩ with heap := (World.holding Tryz.prog os ⟨#[], #[], []⟩).heap.modify 0 fun
      | .cells _ t frozen => .cells (Lib.deBruijn64tab.map u8).toArray t frozen
      | o => o }
theorem laid_met (os : Os) : laidMet Tryz.prog Rows.walkNobodyRow.laid ((laidWorld os).forCall (fun _ _ => 0) ⟨#[], #[.int .u64 0, .int .u64 0, .int .u64 0], []⟩).memory :=
  laidMet_of_run' 8 (by kernel_rfl) (by kernel_rfl)
theorem reads (os : Os) {H : Type} (enc : TypeId × Value → H) : ∃ places, DataW.whole enc Tryz.prog ((laidWorld os).forCall (fun _ _ => 0) ⟨#[], #[.int .u64 0, .int .u64 0, .int .u64 0], []⟩).memory Tryz.f15.params.toList Rows.walkNobodySpec.vars false #[(.int .u64 0 : Value), (.int .u64 0 : Value), (.int .u64 0 : Value)].toList 8 = some ([.lit (.int .u64 0), .lit (.int .u64 0), .lit (.int .u64 0)], [], places) :=
  ⟨[], by kernel_rfl⟩

set_option maxRecDepth 100000 in
theorem lifted (os : Os) (started : os.Started) (H : Type) (enc : TypeId × Value → H) (F : Stop.Interp) :
    ReturnsInHanded {} Tryz.checked os 15 .any ((OpenSpec.ofChange Rows.walkNobodySpec).preRow enc Tryz.prog Tryz.f15 Rows.walkNobodyRow.domain false Rows.walkNobodyRow.laid) (((OpenSpec.ofChange Rows.walkNobodySpec).at F).post enc Tryz.prog Tryz.f15 false true false false) := by
  obtain ⟨places, hx⟩ := reads os enc
  refine returnsInHanded_of_row (C := Tryz.checked) (s := OpenSpec.ofChange Rows.walkNobodySpec) own started (by kernel_rfl) Tryz.func15
    (witness_row_at (enc := enc) (C := Tryz.checked) false (laidWorld os) #[.int .u64 0, .int .u64 0, .int .u64 0] rfl (by kernel_rfl) (by kernel_rfl) (by kernel_rfl)
      (OpenSpec.preRow_of_cond 8 hx (by kernel_rfl) (fun k hk => by cases hk) (by kernel_rfl) (laid_met os))) ?_
  intro W base args ds gs before hval hW _ _ _ hL _ _
  exact contract H enc W base args ds gs before hval hW hL

theorem facts1 : Tryz.pinned.checked.prog.funcNamed Rows.walkNobodyRow.func = some 15 := by kernel_rfl
theorem fa : (Rows.walkNobodyRow.inPlace == Tryz.pinned.checked.prog.inPlace 15) = true := by kernel_rfl
theorem fb : (Rows.walkNobodyRow.unfollowed == Tryz.pinned.checked.prog.unfollowed 15) = true := by kernel_rfl
theorem fc : (Rows.walkNobodyRow.recurses == Tryz.pinned.checked.prog.recurses 15) = true := by kernel_rfl
theorem fd : (Rows.walkNobodyRow.named == Tryz.pinned.checked.prog.varsNamed 15) = true := by kernel_rfl
theorem facts2 : joinedFacts Tryz.pinned.checked.prog 15 Tryz.f15 (OpenSpec.ofChange Rows.walkNobodySpec).bare Rows.walkNobodyRow = true := by
  unfold joinedFacts
  rw [fa, fb, fc, fd]
  kernel_rfl
theorem facts3 : Tryz.f15.isInstance Tryz.pinned.checked.prog Rows.walkNobodyRow.origin Rows.walkNobodyRow.targs := of_decide_eq_true (by kernel_rfl)
theorem facts4 : Tryz.f15.isWrapper Tryz.pinned.checked.prog Rows.walkNobodyRow.wrapper Rows.walkNobodyRow.mainSum := by unfold Func.isWrapper; first | (rw [if_pos (by decide +kernel)]; kernel_rfl) | (rw [if_neg (by decide +kernel)]; exact ⟨rfl, rfl⟩)
theorem said : Rows.WalkNobodySaid :=
  OpenClaim.holds_of_cond 15 Tryz.f15 rfl rfl rfl rfl rfl rfl rfl ⟨rfl, rfl, rfl, rfl, rfl⟩ rfl rfl rfl rfl rfl facts1 Tryz.func15 facts2 facts3 facts4
    (fun os started H enc _ F => by rw [OpenClaim.pre_eq_preRow]; exact lifted os started H enc F)

theorem plain (f : FuncId) (fn : Func) (hf : Tryz.pinned.checked.prog.funcNamed "casemate/casematelaw16.WalkNobody" = some f) (hfn : Tryz.pinned.checked.prog.funcs[f]? = some fn) :
    false = Tryz.pinned.checked.prog.looks [] ∧ ∀ (j : Nat) t, fn.params[j]? = some t → Tryz.pinned.checked.prog.wantsStandIn t = false := by
  obtain rfl : f = 15 := Option.some.inj ((show Tryz.prog.funcNamed "casemate/casematelaw16.WalkNobody" = some 15 by kernel_rfl).symm.trans hf) |>.symm
  obtain rfl : fn = Tryz.f15 := (Option.some.inj (Tryz.func15.symm.trans hfn)).symm
  refine ⟨by kernel_rfl, fun j t ht => ?_⟩
  rw [Tryz.params15] at ht
  obtain rfl : t = 32 := by have := Array.mem_of_getElem? ht; simpa using this
  exact (show Tryz.prog.wantsStandIn 32 = false by kernel_rfl)

theorem proved : Rows.WalkNobodyCardSaid :=
  Claim7.holds_tied_plain_at .later [] _ _ _ _ said (fun _ h => by cases h) (by kernel_rfl) (fun _ h => by cases h) walkNobody_row_tie rfl ⟨rfl, rfl⟩ (by kernel_rfl) rfl plain (by kernel_rfl)
#print axioms proved
end Go.Proofs.YtcnpkmdooekmgaaGreatDoor.walkNobody
