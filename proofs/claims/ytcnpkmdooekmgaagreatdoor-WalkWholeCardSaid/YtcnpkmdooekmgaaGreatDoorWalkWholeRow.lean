/-
  For all arguments the statement WalkWhole answers true, and its arguments read as before: the row, and the card that ties its table to the program's text. No condition.
-/
import Derived.Test.YtcnpkmdooekmgaaGreatDoorCards
import Derived.Test.YtcnpkmdooekmgaaGreatDoorTie
import Derived.Test.YtcnpkmdooekmgaaGreatDoorR6
import Derived.WalkKit
import Derived.ProofKit
import Derived.OpenShut
import Derived.ChangeOld
import Derived.ChangeSlices
import Derived.Below
import Derived.Carry
import Derived.Deep.Slices
import Derived.Sort.Row
import Derived.Deep.DeepHandedRow
import Derived.Lib.LaidTab
namespace Go.Proofs.YtcnpkmdooekmgaaGreatDoor.walkWhole
open Go.Proofs.YtcnpkmdooekmgaaGreatDoor Go.Proofs.YtcnpkmdooekmgaaGreatDoor.Sl
open Go.ChangeShapes Go.WideShapes Go.ChangeAt Go.RowKit
set_option linter.unusedVariables false

instance : Inhabited Opn := ⟨⟨0, 0, 0, 0, 0⟩⟩
theorem own : ownKnob Tryz.prog.godebug = none := by kernel_rfl
theorem laidOut : laidOutB Tryz.prog = true := by kernel_rfl
theorem gTab : Tryz.prog.globalNamed "math/bits.deBruijn64tab" = some 0 := by kernel_rfl
theorem gTabType : (Tryz.prog.globals[0]?).map (·.type) = some 174 := by kernel_rfl
theorem cells174 : Tryz.prog.cellsOf 174 = 64 := by kernel_rfl
theorem cells34 : Tryz.prog.cellsOf 34 = 5 := by kernel_rfl
theorem cells32 : Tryz.prog.cellsOf 32 = 1 := by kernel_rfl
theorem cells5 : Tryz.prog.cellsOf 5 = 1 := by kernel_rfl
theorem cells3 : Tryz.prog.cellsOf 3 = 1 := by kernel_rfl

/-- what the row's list gives: the table. -/
theorem table {W : World} (h : laidMetH Tryz.prog Rows.walkWholeRow.laid W) : Tab (Base.of W) := by
  have h1 : Lib.TabIs Tryz.prog W "math/bits.deBruijn64tab" .u8 (Lib.deBruijn64tab.map fun n : Nat => (n : Int)) :=
    Lib.tabIs_of_head (rest := []) gTab gTabType Tryz.underlying174 Tryz.underlying5 cells5 cells174 h
  unfold Lib.TabIs World.var? at h1
  rw [gTab] at h1
  simp only [Option.bind_some] at h1
  split at h1
  · rename_i cs t fr hc
    refine ⟨t, fr, ?_⟩
    show W.heap[0]? = _
    rw [hc, Option.some.inj h1]
    simp
  · cases h1
/-- cells that are there, as a row that never changes. -/
theorem isl_of {W : World} {a : Addr} {n cap s : Nat} {E : TypeId} {xs : List Value} (hs : 0 < s) (hl : xs.length = n * s) (hc : n ≤ cap) (h : ∀ j v, xs[j]? = some v → W.cell? (a.add j) = some v) :
    (isl (some a) n cap E s xs).sat (fun b => W.heap[b]?) Hp.emp := by
  refine ⟨hl, hc, ?_⟩
  rcases Nat.eq_zero_or_pos n with h0 | h0
  · exact .inl h0
  right
  have hpos : 0 < xs.length := by rw [hl]; exact Nat.mul_pos h0 hs
  obtain ⟨b, off, spot⟩ := a
  have e0 := h 0 xs[0] (List.getElem?_eq_getElem hpos)
  have hsp : spot = none := by
    unfold World.cell? at e0
    simp only [Addr.add, if_true] at e0
    split at e0
    · split at e0
      · cases e0
      · rename_i hn; simpa using hn
    · cases e0
  subst hsp
  have e0' : W.cell? ⟨b, off, none⟩ = some xs[0] := by simpa [Addr.add] using e0
  obtain ⟨c, e, fr, hb, _⟩ := Go.Sort.cells_of_cell? e0'
  refine ⟨b, off, c, e, fr, rfl, hb, fun j x hj => ?_⟩
  have e1 := h j x hj
  have e2 : W.cell? ⟨b, off + j, none⟩ = some x := by
    unfold Addr.add at e1
    split at e1
    · rename_i hz; subst hz; exact e1
    · exact e1
  obtain ⟨c', e', fr', hb', hc'⟩ := Go.Sort.cells_of_cell? e2
  rw [hb] at hb'
  cases hb'
  exact hc'
theorem five {α : Type} {l : List α} (h : l.length = 5) : ∃ a b c d e, l = [a, b, c, d, e] := by
  match l, h with
  | [a, b, c, d, e], _ => exact ⟨a, b, c, d, e, rfl⟩
theorem nat_of {k : IntKind} {z : Int} {m : Nat} (h : (Lit.int k z).wf = true) (h0 : k.min = 0) (h1 : k.max = (m : Int)) : ∃ n : Nat, n ≤ m ∧ z = (n : Int) := by
  simp only [Lit.wf, h0, h1, Bool.and_eq_true, decide_eq_true_eq] at h
  exact ⟨z.toNat, by omega, by omega⟩
theorem holds_of {W : World} : ∀ (L : List Assn), (∀ A ∈ L, A.sat (fun b => W.heap[b]?) Hp.emp) → Holds (Base.of W) L W := by
  intro L h
  obtain ⟨im, hp, r, _⟩ := Holds.start W
  refine ⟨fun b => W.heap[b]?, Hp.emp, ⟨Hp.le_refl _, fun _ _ h => h, (fun _ _ h => by cases h), fun _ => .inr rfl, rfl, rfl, rfl⟩, ?_⟩
  clear r
  induction L with
  | nil => trivial
  | cons A L ih => exact ⟨Hp.emp, Hp.emp, Hp.le_refl _, Hp.le_refl _, Hp.emp_dis _, h A (by simp), ih (fun B hB => h B (by simp [hB]))⟩
theorem calls_in {P : Program} {w : World} {f : FuncId} {args : List Value} {α : Type} {q : α → Prop} {V : α → Value} {Pre : List Assn} {Post : α → List Assn} (h : Sl.Fn P (Base.of w) f args Pre q V Post) (hh : Holds (Base.of w) (Pre ++ []) w) :
    Calls P f args.toArray w fun e w' => ∃ x, q x ∧ e = .returned (V x) ∧ Below w.heap.size w w' :=
  (h [] w hh).mono fun _ _ ⟨x, hq, he, hb⟩ => ⟨x, hq, he, hb.below⟩

theorem okWide_arr {P : Program} {w : World} {r : Reach} {base : Nat} {t : TypeId} {v : Value} {n : Nat} {e : TypeId} (ht : P.underlying t = some (.array n e)) (h : Value.okWide P w r base t v) : ∃ cs, v = .agg cs ∧ cs.size = P.cellsOf t := by
  simp only [Value.okWide, ht] at h
  obtain ⟨cs, h1, h2, _⟩ := h
  exact ⟨cs, h1, h2⟩
theorem bytes_of {H : Type} {enc : TypeId × Value → H} {W : World} {k n : Nat} {t : TypeId} {cs : List Value} {x : DataW H × List MemPlace} (ht : Tryz.prog.underlying t = some (.array n 5)) (hc : Tryz.prog.cellsOf t = n) (h : DataW.trod enc Tryz.prog W 0 (fun _ => true) true k t cs = some x) :
    ∃ v : List Nat, bytes n v ∧ cs = v.map u8 := by
  obtain ⟨xs, m, _, _, hl, hx, hf⟩ := DataW.trod_array ht h
  rw [hc] at hl
  have each : ∀ i, i < n → ∃ z : Nat, z < 256 ∧ cs[i]? = some (u8 z) := fun i hi => by
    have g := hf i hi
    rw [cells5, Nat.mul_one, List.getElem?_eq_getElem (by omega)] at g
    obtain ⟨z, e, _, w⟩ := DataW.trod_int Tryz.underlying5 g
    obtain ⟨n1, b1, rfl⟩ := nat_of (m := 255) w rfl rfl
    refine ⟨n1, by omega, ?_⟩
    have hd : cs.drop i = cs[i]'(by omega) :: cs.drop (i + 1) := List.drop_eq_getElem_cons (by omega)
    rw [hd] at e
    simp only [List.take_succ_cons, List.take_zero, List.cons.injEq, and_true] at e
    rw [List.getElem?_eq_getElem (by omega), e]
  obtain ⟨q, hq⟩ := Go.Deep.choose_lt each
  refine ⟨(List.range n).map q, ⟨by simp, fun y hy => ?_⟩, ?_⟩
  · obtain ⟨i, hi, rfl⟩ := List.mem_map.1 hy
    exact (hq i (List.mem_range.1 hi)).1
  · refine List.ext_getElem? fun i => ?_
    by_cases hi : i < n
    · rw [(hq i hi).2]; simp [List.getElem?_range hi]
    · rw [List.getElem?_eq_none (by omega), List.getElem?_eq_none (by simp; omega)]
theorem cells51 : Tryz.prog.cellsOf 51 = 44 := by kernel_rfl
theorem cells90 : Tryz.prog.cellsOf 90 = 45 := by kernel_rfl
theorem pairs_of {H : Type} {enc : TypeId × Value → H} {W : World} {n : Nat} {v : Value} {x : DataW H × List MemPlace} (h : DataW.trod enc Tryz.prog W 0 (fun _ => true) true n 75 [v] = some x) :
    ∃ (a : Option Addr) (c : Nat) (xs : KV), v = .slice a xs.length c ∧ KVok xs ∧ (isl a xs.length c T.mtree_Pair 45 (xs.flatMap pcell)).sat (fun b => W.heap[b]?) Hp.emp := by
  rcases Go.Deep.open_slice Tryz.underlying75 h with ⟨hcs, _⟩ | ⟨a, l, c, m, k, D, Pl, hcs, _, hl, hm, hmm, _, hx⟩
  · simp at hcs
    exact ⟨none, 0, [], hcs, (by intro o ho; cases ho), ⟨rfl, Nat.le_refl _, .inl rfl⟩⟩
  · simp at hcs
    have hlm : l ≤ m := by rw [hmm]; simpa using hl
    have each : ∀ i, i < l → ∃ o : Nat × List Nat, (o.1 < 18446744073709551616 ∧ bytes 44 o.2) ∧ W.cells? 0 (a.add (i * 45)) 45 = some (pcell o) := fun i hi => by
      obtain ⟨cs', h1, h2⟩ := hx i (by omega)
      rw [cells90] at h1
      obtain ⟨_, hlen, _⟩ := World.cells?_some h1
      obtain ⟨xs, k', hk, hxy, _, hxl, hf⟩ := DataW.trod_struct Tryz.underlying90 h2
      clear hx hlm hmm
      obtain ⟨c0, cs, rfl⟩ : ∃ c cs, cs' = c :: cs := by
        cases cs' with
        | nil => simp at hlen
        | cons c cs => exact ⟨c, cs, rfl⟩
      have hl2 : cs.length = 44 := by simpa using hlen
      obtain ⟨x0, x1, rfl⟩ : ∃ x0 x1, xs = [x0, x1] := by
        match xs, (show xs.length = 2 from hxl) with
        | [x0, x1], _ => exact ⟨x0, x1, rfl⟩
      have g0 := hf 0 _ rfl
      have g1 := hf 1 _ rfl
      simp [cells32] at g0
      simp [cells51] at g1
      rw [List.take_of_length_le (by omega)] at g1
      obtain ⟨z, e, _, w⟩ := DataW.trod_int Tryz.underlying32 g0
      obtain ⟨n1, b1, rfl⟩ := nat_of (m := 18446744073709551615) w rfl rfl
      obtain ⟨v, hv, rfl⟩ := bytes_of Tryz.underlying51 cells51 g1
      simp only [List.cons.injEq, and_true] at e
      exact ⟨(n1, v), ⟨by dsimp only; omega, hv⟩, by rw [h1, e]⟩
    obtain ⟨q, hq⟩ := Go.Deep.choose_lt (α := Nat × List Nat) each
    have hlen : ((List.range l).map q).length = l := by simp
    have h44 : ∀ x ∈ (List.range l).map q, x.2.length = 44 := fun x hx => by
      obtain ⟨i, hi, rfl⟩ := List.mem_map.1 hx
      exact (hq i (List.mem_range.1 hi)).1.2.1
    have hflen := mix_len h44
    rw [hlen] at hflen
    refine ⟨some a, c, (List.range l).map q, by rw [hcs, hlen], fun o ho => ?_, ?_⟩
    · obtain ⟨i, hi, rfl⟩ := List.mem_map.1 ho
      exact (hq i (List.mem_range.1 hi)).1
    · rw [hlen]
      refine isl_of (by decide) hflen hl (fun j v hj => ?_)
      have hjl : j < l * 45 := by rw [← hflen]; exact (List.getElem?_eq_some_iff.1 hj).1
      have hil : j / 45 < l := by omega
      have hei : ((List.range l).map q)[j / 45]? = some (q (j / 45)) := by simp [List.getElem?_range hil]
      have hjj : j / 45 * 45 + j % 45 = j := by omega
      have h5 : j % 45 < 45 := Nat.mod_lt _ (by decide)
      have hpl : (pcell (q (j / 45))).length = 45 := by
        have := (hq (j / 45) hil).1.2.1
        simp [this]
      have hat := pcell_at h44 hei (j % 45) ((pcell (q (j / 45)))[j % 45]'(by rw [hpl]; exact h5)) (List.getElem?_eq_getElem (by rw [hpl]; exact h5))
      rw [hjj, hj] at hat
      obtain ⟨_, _, hcell⟩ := World.cells?_some (hq (j / 45) hil).2
      have := hcell (j % 45) h5
      rw [Go.Deep.add_add, hjj] at this
      rw [this, List.getElem?_eq_getElem (by rw [hpl]; exact h5)]
      exact hat.symm
set_option maxRecDepth 100000 in
set_option maxHeartbeats 1000000 in
theorem contract (H : Type) (enc : TypeId × Value → H) (W : World) (base : Nat) (args : Array Value) (ds gs : List (DataW H)) (before : List MemPlace)
    (hval : ∀ (j : Nat) t v, Tryz.f9.params[j]? = some t → args[j]? = some v → Value.okWide Tryz.prog W .any base t v)
    (hW : DataW.Whole enc Tryz.prog Tryz.f9.params.toList Rows.walkWholeSpec.vars false W args.toList ds gs before) (hL : laidMetH Tryz.prog Rows.walkWholeRow.laid W) :
    Calls Tryz.prog 9 args W fun e W' => ∃ v, e = .returned v ∧ Rows.walkWholeSpec.post enc Tryz.prog Tryz.f9 false true false false W args v W' := by
  have hW' := hW
  obtain ⟨p, q, hA0, hV, rfl, hfz, hnd⟩ := hW
  have hA : DataW.TrodAll enc Tryz.prog W 0 (fun _ => true) true Tryz.f9.params.toList args.toList ds p := hA0
  rw [Tryz.params9] at hA hval
  obtain ⟨v0, vs0, d0, ds0, p0, q0, hargs, rfl, rfl, h0, r0⟩ := trodAll_cons hA
  obtain ⟨v1, vs1, d1, ds1, p1, q1, rfl, rfl, rfl, h1, r1⟩ := trodAll_cons r0
  obtain ⟨v2, vs2, d2, ds2, p2, q2, rfl, rfl, rfl, h2, r2⟩ := trodAll_cons r1
  obtain ⟨v3, vs3, d3, ds3, p3, q3, rfl, rfl, rfl, h3, r3⟩ := trodAll_cons r2
  obtain ⟨rfl, rfl, rfl⟩ := trodAll_nil r3
  obtain rfl : args = #[v0, v1, v2, v3] := by cases args; simp_all
  obtain ⟨rfl, rfl⟩ := trodVars_none hV
  obtain ⟨z0, rfl, rfl, rfl, w0⟩ := open_int Tryz.underlying5 (hval 0 5 v0 rfl rfl) h0
  obtain ⟨y0, b0, rfl⟩ := nat_of (m := 255) w0 rfl rfl
  have k1 := h1
  have lt1 : ∀ x ∈ p1, x.block < W.heap.size := by obtain ⟨m, hm⟩ := k1; exact DataW.trod_lt m _ _ _ hm
  obtain ⟨b1, l1, c1, rfl⟩ := okWide_slice Tryz.underlying75 (hval 1 75 v1 rfl rfl)
  obtain ⟨n1, g1⟩ := h1
  obtain ⟨a1, e1, xs1, hv1, how1, hs1⟩ := pairs_of (v := .slice b1 l1 c1) g1
  cases hv1
  obtain ⟨z2, rfl, rfl, rfl, w2⟩ := open_int Tryz.underlying32 (hval 2 32 v2 rfl rfl) h2
  obtain ⟨y2, b2, rfl⟩ := nat_of (m := 18446744073709551615) w2 rfl rfl
  obtain ⟨z3, rfl, rfl, rfl, w3⟩ := open_int Tryz.underlying32 (hval 3 32 v3 rfl rfl) h3
  obtain ⟨y3, b3, rfl⟩ := nat_of (m := 18446744073709551615) w3 rfl rfl
  clear hA0
  have hh : Holds (Base.of W) ([isl b1 xs1.length c1 T.mtree_Pair 45 (xs1.flatMap pcell)] ++ []) W := by
    refine holds_of _ (fun A hA => ?_)
    simp only [List.append_nil, List.mem_cons, List.not_mem_nil, or_false] at hA
    subst hA
    exact hs1
  refine (calls_in (wwhole_l y0 (by omega) b1 c1 xs1 how1 y2 y3 (Base.of W) (table hL)) hh).mono fun e W' ⟨_, _, he, bel⟩ => ?_
  subst he
  exact ⟨_, rfl, _, _, _, [], _, [], hW', trodAll_mk1 (shut_bool Tryz.underlying4 _), trodAll_cons_mk (shut_int Tryz.underlying5 w0) (trodAll_cons_mk (Below.trod laidOut (by kernel_rfl) (of_decide_eq_true (by kernel_rfl)) k1 bel lt1) (trodAll_cons_mk (shut_int Tryz.underlying32 w2) (trodAll_cons_mk (shut_int Tryz.underlying32 w3) (trodAll_mk0)))), rfl, bel.frame _, fun h => by cases h⟩

/-- a world for the witness: the settled one, the table (block 0) holding what its initialiser lays. -/
noncomputable def laidWorld (os : Os) : World :=
  { World.holding Tryz.prog os ⟨#[], #[], []⟩ with heap := (World.holding Tryz.prog os ⟨#[], #[], []⟩).heap.modify 0 fun
      | .cells _ t frozen => .cells (Lib.deBruijn64tab.map u8).toArray t frozen
      | o => o }
theorem laid_met (os : Os) : laidMet Tryz.prog Rows.walkWholeRow.laid ((laidWorld os).forCall (fun _ _ => 0) ⟨#[], #[.int .u8 0, .slice none 0 0, .int .u64 0, .int .u64 0], []⟩).memory :=
  laidMet_of_run' 8 (by kernel_rfl) (by kernel_rfl)
theorem reads (os : Os) {H : Type} (enc : TypeId × Value → H) : ∃ places, DataW.whole enc Tryz.prog ((laidWorld os).forCall (fun _ _ => 0) ⟨#[], #[.int .u8 0, .slice none 0 0, .int .u64 0, .int .u64 0], []⟩).memory Tryz.f9.params.toList Rows.walkWholeSpec.vars false #[(.int .u8 0 : Value), (.slice none 0 0 : Value), (.int .u64 0 : Value), (.int .u64 0 : Value)].toList 8 = some ([.lit (.int .u8 0), .nil, .lit (.int .u64 0), .lit (.int .u64 0)], [], places) :=
  ⟨[], by kernel_rfl⟩

set_option maxRecDepth 100000 in
theorem lifted (os : Os) (started : os.Started) (H : Type) (enc : TypeId × Value → H) (F : Stop.Interp) :
    ReturnsInHanded {} Tryz.checked os 9 .any ((OpenSpec.ofChange Rows.walkWholeSpec).preRow enc Tryz.prog Tryz.f9 Rows.walkWholeRow.domain false Rows.walkWholeRow.laid) (((OpenSpec.ofChange Rows.walkWholeSpec).at F).post enc Tryz.prog Tryz.f9 false true false false) := by
  obtain ⟨places, hx⟩ := reads os enc
  refine returnsInHanded_of_row (C := Tryz.checked) (s := OpenSpec.ofChange Rows.walkWholeSpec) own started (by kernel_rfl) Tryz.func9
    (witness_row_at (enc := enc) (C := Tryz.checked) false (laidWorld os) #[.int .u8 0, .slice none 0 0, .int .u64 0, .int .u64 0] rfl (by kernel_rfl) (by kernel_rfl) (by kernel_rfl)
      (OpenSpec.preRow_of_cond 8 hx (by kernel_rfl) (fun k hk => by cases hk) (by kernel_rfl) (laid_met os))) ?_
  intro W base args ds gs before hval hW _ _ _ hL _ _
  exact contract H enc W base args ds gs before hval hW hL

theorem facts1 : Tryz.pinned.checked.prog.funcNamed Rows.walkWholeRow.func = some 9 := by kernel_rfl
theorem fa : (Rows.walkWholeRow.inPlace == Tryz.pinned.checked.prog.inPlace 9) = true := by kernel_rfl
theorem fb : (Rows.walkWholeRow.unfollowed == Tryz.pinned.checked.prog.unfollowed 9) = true := by kernel_rfl
theorem fc : (Rows.walkWholeRow.recurses == Tryz.pinned.checked.prog.recurses 9) = true := by kernel_rfl
theorem fd : (Rows.walkWholeRow.named == Tryz.pinned.checked.prog.varsNamed 9) = true := by kernel_rfl
theorem facts2 : joinedFacts Tryz.pinned.checked.prog 9 Tryz.f9 (OpenSpec.ofChange Rows.walkWholeSpec).bare Rows.walkWholeRow = true := by
  unfold joinedFacts
  rw [fa, fb, fc, fd]
  kernel_rfl
theorem facts3 : Tryz.f9.isInstance Tryz.pinned.checked.prog Rows.walkWholeRow.origin Rows.walkWholeRow.targs := of_decide_eq_true (by kernel_rfl)
theorem facts4 : Tryz.f9.isWrapper Tryz.pinned.checked.prog Rows.walkWholeRow.wrapper Rows.walkWholeRow.mainSum := by unfold Func.isWrapper; first | (rw [if_pos (by decide +kernel)]; kernel_rfl) | (rw [if_neg (by decide +kernel)]; exact ⟨rfl, rfl⟩)
theorem said : Rows.WalkWholeSaid :=
  OpenClaim.holds_of_cond 9 Tryz.f9 rfl rfl rfl rfl rfl rfl rfl ⟨rfl, rfl, rfl, rfl, rfl⟩ rfl rfl rfl rfl rfl facts1 Tryz.func9 facts2 facts3 facts4
    (fun os started H enc _ F => by rw [OpenClaim.pre_eq_preRow]; exact lifted os started H enc F)

theorem plain (f : FuncId) (fn : Func) (hf : Tryz.pinned.checked.prog.funcNamed "casemate/casematelaw16.WalkWhole" = some f) (hfn : Tryz.pinned.checked.prog.funcs[f]? = some fn) :
    false = Tryz.pinned.checked.prog.looks [] ∧ ∀ (j : Nat) t, fn.params[j]? = some t → Tryz.pinned.checked.prog.wantsStandIn t = false := by
  obtain rfl : f = 9 := Option.some.inj ((show Tryz.prog.funcNamed "casemate/casematelaw16.WalkWhole" = some 9 by kernel_rfl).symm.trans hf) |>.symm
  obtain rfl : fn = Tryz.f9 := (Option.some.inj (Tryz.func9.symm.trans hfn)).symm
  refine ⟨by kernel_rfl, fun j t ht => ?_⟩
  rw [Tryz.params9] at ht
  have h : t = 5 ∨ t = 75 ∨ t = 32 := by have := Array.mem_of_getElem? ht; simpa using this
  rcases h with rfl | rfl | rfl
  · exact (show Tryz.prog.wantsStandIn 5 = false by kernel_rfl)
  · exact (show Tryz.prog.wantsStandIn 75 = false by kernel_rfl)
  · exact (show Tryz.prog.wantsStandIn 32 = false by kernel_rfl)

theorem proved : Rows.WalkWholeCardSaid :=
  Claim7.holds_tied_plain_at .later [] _ _ _ _ said (fun _ h => by cases h) (by kernel_rfl) (fun _ h => by cases h) walkWhole_row_tie rfl ⟨rfl, rfl⟩ (by kernel_rfl) rfl plain (by kernel_rfl)
#print axioms proved
end Go.Proofs.YtcnpkmdooekmgaaGreatDoor.walkWhole
