/-
  For all arguments the statement MtreeNobody answers true, and its arguments read as before: the row, and the card that ties its table to the program's text. No condition.
-/
import Derived.Test.YtcnpkmdooekmgaaGreatDoorCards
import Derived.Test.YtcnpkmdooekmgaaGreatDoorTie
import Derived.Test.YtcnpkmdooekmgaaGreatDoorQ6
import Derived.WalkKit
import Derived.ProofKit
import Derived.OpenShut
import Derived.ChangeOld
import Derived.ChangeSlices
import Derived.Below
import Derived.Carry
import Derived.Deep.Slices
import Derived.Sort.Row
import Derived.Deep.DeepHandedRow
import Derived.Lib.LaidTab
namespace Go.Proofs.YtcnpkmdooekmgaaGreatDoor.mtreeNobody
open Go.Proofs.YtcnpkmdooekmgaaGreatDoor Go.Proofs.YtcnpkmdooekmgaaGreatDoor.Sl
open Go.ChangeShapes Go.WideShapes Go.ChangeAt Go.RowKit
set_option linter.unusedVariables false

instance : Inhabited Opn := ⟨⟨0, 0, 0, 0, 0⟩⟩
theorem own : ownKnob Tryz.prog.godebug = none := by kernel_rfl
theorem laidOut : laidOutB Tryz.prog = true := by kernel_rfl
theorem gTab : Tryz.prog.globalNamed "math/bits.deBruijn64tab" = some 0 := by kernel_rfl
theorem gTabType : (Tryz.prog.globals[0]?).map (·.type) = some 174 := by kernel_rfl
theorem cells174 : Tryz.prog.cellsOf 174 = 64 := by kernel_rfl
theorem cells34 : Tryz.prog.cellsOf 34 = 5 := by kernel_rfl
theorem cells32 : Tryz.prog.cellsOf 32 = 1 := by kernel_rfl
theorem cells5 : Tryz.prog.cellsOf 5 = 1 := by kernel_rfl
theorem cells3 : Tryz.prog.cellsOf 3 = 1 := by kernel_rfl

/-- what the row's list gives: the table. -/
theorem table {W : World} (h : laidMetH Tryz.prog Rows.mtreeNobodyRow.laid W) : Tab (Base.of W) := by
  have h1 : Lib.TabIs Tryz.prog W "math/bits.deBruijn64tab" .u8 (Lib.deBruijn64tab.map fun n : Nat => (n : Int)) :=
    Lib.tabIs_of_head (rest := []) gTab gTabType Tryz.underlying174 Tryz.underlying5 cells5 cells174 h
  unfold Lib.TabIs World.var? at h1
  rw [gTab] at h1
  simp only [Option.bind_some] at h1
  split at h1
  · rename_i cs t fr hc
    refine ⟨t, fr, ?_⟩
    show W.heap[0]? = _
    rw [hc, Option.some.inj h1]
    simp
  · cases h1
/-- cells that are there, as a row that never changes. -/
theorem isl_of {W : World} {a : Addr} {n cap s : Nat} {E : TypeId} {xs : List Value} (hs : 0 < s) (hl : xs.length = n * s) (hc : n ≤ cap) (h : ∀ j v, xs[j]? = some v → W.cell? (a.add j) = some v) :
    (isl (some a) n cap E s xs).sat (fun b => W.heap[b]?) Hp.emp := by
  refine ⟨hl, hc, ?_⟩
  rcases Nat.eq_zero_or_pos n with h0 | h0
  · exact .inl h0
  right
  have hpos : 0 < xs.length := by rw [hl]; exact Nat.mul_pos h0 hs
  obtain ⟨b, off, spot⟩ := a
  have e0 := h 0 xs[0] (List.getElem?_eq_getElem hpos)
  have hsp : spot = none := by
    unfold World.cell? at e0
    simp only [Addr.add, if_true] at e0
    split at e0
    · split at e0
      · cases e0
      · rename_i hn; simpa using hn
    · cases e0
  subst hsp
  have e0' : W.cell? ⟨b, off, none⟩ = some xs[0] := by simpa [Addr.add] using e0
  obtain ⟨c, e, fr, hb, _⟩ := Go.Sort.cells_of_cell? e0'
  refine ⟨b, off, c, e, fr, rfl, hb, fun j x hj => ?_⟩
  have e1 := h j x hj
  have e2 : W.cell? ⟨b, off + j, none⟩ = some x := by
    unfold Addr.add at e1
    split at e1
    · rename_i hz; subst hz; exact e1
    · exact e1
  obtain ⟨c', e', fr', hb', hc'⟩ := Go.Sort.cells_of_cell? e2
  rw [hb] at hb'
  cases hb'
  exact hc'
theorem five {α : Type} {l : List α} (h : l.length = 5) : ∃ a b c d e, l = [a, b, c, d, e] := by
  match l, h with
  | [a, b, c, d, e], _ => exact ⟨a, b, c, d, e, rfl⟩
theorem nat_of {k : IntKind} {z : Int} {m : Nat} (h : (Lit.int k z).wf = true) (h0 : k.min = 0) (h1 : k.max = (m : Int)) : ∃ n : Nat, n ≤ m ∧ z = (n : Int) := by
  simp only [Lit.wf, h0, h1, Bool.and_eq_true, decide_eq_true_eq] at h
  exact ⟨z.toNat, by omega, by omega⟩
theorem holds_of {W : World} : ∀ (L : List Assn), (∀ A ∈ L, A.sat (fun b => W.heap[b]?) Hp.emp) → Holds (Base.of W) L W := by
  intro L h
  obtain ⟨im, hp, r, _⟩ := Holds.start W
  refine ⟨fun b => W.heap[b]?, Hp.emp, ⟨Hp.le_refl _, fun _ _ h => h, (fun _ _ h => by cases h), fun _ => .inr rfl, rfl, rfl, rfl⟩, ?_⟩
  clear r
  induction L with
  | nil => trivial
  | cons A L ih => exact ⟨Hp.emp, Hp.emp, Hp.le_refl _, Hp.le_refl _, Hp.emp_dis _, h A (by simp), ih (fun B hB => h B (by simp [hB]))⟩
theorem calls_in {P : Program} {w : World} {f : FuncId} {args : List Value} {α : Type} {q : α → Prop} {V : α → Value} {Pre : List Assn} {Post : α → List Assn} (h : Sl.Fn P (Base.of w) f args Pre q V Post) (hh : Holds (Base.of w) (Pre ++ []) w) :
    Calls P f args.toArray w fun e w' => ∃ x, q x ∧ e = .returned (V x) ∧ Below w.heap.size w w' :=
  (h [] w hh).mono fun _ _ ⟨x, hq, he, hb⟩ => ⟨x, hq, he, hb.below⟩

theorem okWide_arr {P : Program} {w : World} {r : Reach} {base : Nat} {t : TypeId} {v : Value} {n : Nat} {e : TypeId} (ht : P.underlying t = some (.array n e)) (h : Value.okWide P w r base t v) : ∃ cs, v = .agg cs ∧ cs.size = P.cellsOf t := by
  simp only [Value.okWide, ht] at h
  obtain ⟨cs, h1, h2, _⟩ := h
  exact ⟨cs, h1, h2⟩
theorem bytes_of {H : Type} {enc : TypeId × Value → H} {W : World} {k n : Nat} {t : TypeId} {cs : List Value} {x : DataW H × List MemPlace} (ht : Tryz.prog.underlying t = some (.array n 5)) (hc : Tryz.prog.cellsOf t = n) (h : DataW.trod enc Tryz.prog W 0 (fun _ => true) true k t cs = some x) :
    ∃ v : List Nat, bytes n v ∧ cs = v.map u8 := by
  obtain ⟨xs, m, _, _, hl, hx, hf⟩ := DataW.trod_array ht h
  rw [hc] at hl
  have each : ∀ i, i < n → ∃ z : Nat, z < 256 ∧ cs[i]? = some (u8 z) := fun i hi => by
    have g := hf i hi
    rw [cells5, Nat.mul_one, List.getElem?_eq_getElem (by omega)] at g
    obtain ⟨z, e, _, w⟩ := DataW.trod_int Tryz.underlying5 g
    obtain ⟨n1, b1, rfl⟩ := nat_of (m := 255) w rfl rfl
    refine ⟨n1, by omega, ?_⟩
    have hd : cs.drop i = cs[i]'(by omega) :: cs.drop (i + 1) := List.drop_eq_getElem_cons (by omega)
    rw [hd] at e
    simp only [List.take_succ_cons, List.take_zero, List.cons.injEq, and_true] at e
    rw [List.getElem?_eq_getElem (by omega), e]
  obtain ⟨q, hq⟩ := Go.Deep.choose_lt each
  refine ⟨(List.range n).map q, ⟨by simp, fun y hy => ?_⟩, ?_⟩
  · obtain ⟨i, hi, rfl⟩ := List.mem_map.1 hy
    exact (hq i (List.mem_range.1 hi)).1
  · refine List.ext_getElem? fun i => ?_
    by_cases hi : i < n
    · rw [(hq i hi).2]; simp [List.getElem?_range hi]
    · rw [List.getElem?_eq_none (by omega), List.getElem?_eq_none (by simp; omega)]
theorem cells39 : Tryz.prog.cellsOf 39 = 33 := by kernel_rfl
theorem cells37 : Tryz.prog.cellsOf 37 = 32 := by kernel_rfl
theorem cells35 : Tryz.prog.cellsOf 35 = 1 := by kernel_rfl
theorem cells51 : Tryz.prog.cellsOf 51 = 44 := by kernel_rfl
theorem ref_of {H : Type} {enc : TypeId × Value → H} {W : World} {k : Nat} {cs : List Value} {x : DataW H × List MemPlace} (h : DataW.trod enc Tryz.prog W 0 (fun _ => true) true k 39 cs = some x) : ∃ r : Rf, r.wt ∧ cs = rcells r := by
  obtain ⟨xs, m, _, _, hl, hx, hf⟩ := DataW.trod_struct Tryz.underlying39 h
  rw [cells39] at hl
  obtain ⟨c, cs, rfl⟩ : ∃ c cs', cs = c :: cs' := by
    cases cs with
    | nil => simp at hl
    | cons c cs => exact ⟨c, cs, rfl⟩
  have hl2 : cs.length = 32 := by simpa using hl
  obtain ⟨x0, x1, rfl⟩ : ∃ x0 x1, xs = [x0, x1] := by
    match xs, (show xs.length = 2 from hx) with
    | [x0, x1], _ => exact ⟨x0, x1, rfl⟩
  have g0 := hf 0 _ rfl
  have g1 := hf 1 _ rfl
  simp [cells35] at g0
  simp [cells37] at g1
  rw [List.take_of_length_le (by omega)] at g1
  obtain ⟨z, e, _, w⟩ := DataW.trod_int Tryz.underlying35 g0
  obtain ⟨n1, b1, rfl⟩ := nat_of (m := 4294967295) w rfl rfl
  obtain ⟨v, hv, rfl⟩ := bytes_of Tryz.underlying37 cells37 g1
  simp only [List.cons.injEq, and_true] at e
  exact ⟨⟨n1, v⟩, ⟨by dsimp only; omega, hv⟩, by rw [e]⟩
set_option maxRecDepth 100000 in
set_option maxHeartbeats 1000000 in
theorem contract (H : Type) (enc : TypeId × Value → H) (W : World) (base : Nat) (args : Array Value) (ds gs : List (DataW H)) (before : List MemPlace)
    (hval : ∀ (j : Nat) t v, Tryz.f7.params[j]? = some t → args[j]? = some v → Value.okWide Tryz.prog W .any base t v)
    (hW : DataW.Whole enc Tryz.prog Tryz.f7.params.toList Rows.mtreeNobodySpec.vars false W args.toList ds gs before) (hL : laidMetH Tryz.prog Rows.mtreeNobodyRow.laid W) :
    Calls Tryz.prog 7 args W fun e W' => ∃ v, e = .returned v ∧ Rows.mtreeNobodySpec.post enc Tryz.prog Tryz.f7 false true false false W args v W' := by
  have hW' := hW
  obtain ⟨p, q, hA0, hV, rfl, hfz, hnd⟩ := hW
  have hA : DataW.TrodAll enc Tryz.prog W 0 (fun _ => true) true Tryz.f7.params.toList args.toList ds p := hA0
  rw [Tryz.params7] at hA hval
  obtain ⟨v0, vs0, d0, ds0, p0, q0, hargs, rfl, rfl, h0, r0⟩ := trodAll_cons hA
  obtain ⟨v1, vs1, d1, ds1, p1, q1, rfl, rfl, rfl, h1, r1⟩ := trodAll_cons r0
  obtain ⟨v2, vs2, d2, ds2, p2, q2, rfl, rfl, rfl, h2, r2⟩ := trodAll_cons r1
  obtain ⟨rfl, rfl, rfl⟩ := trodAll_nil r2
  obtain rfl : args = #[v0, v1, v2] := by cases args; simp_all
  obtain ⟨rfl, rfl⟩ := trodVars_none hV
  obtain ⟨z0, rfl, rfl, rfl, w0⟩ := open_int Tryz.underlying32 (hval 0 32 v0 rfl rfl) h0
  obtain ⟨y0, b0, rfl⟩ := nat_of (m := 18446744073709551615) w0 rfl rfl
  have k1 := h1
  have lt1 : ∀ x ∈ p1, x.block < W.heap.size := by obtain ⟨m, hm⟩ := k1; exact DataW.trod_lt m _ _ _ hm
  obtain ⟨cs1, rfl, _⟩ := okWide_arr Tryz.underlying51 (hval 1 51 v1 rfl rfl)
  obtain ⟨n1, g1⟩ := h1
  obtain ⟨y1, hy1, he1⟩ := bytes_of Tryz.underlying51 cells51 (cs := cs1.toList) g1
  obtain rfl : cs1 = (y1.map u8).toArray := by rw [← he1]
  have k2 := h2
  have lt2 : ∀ x ∈ p2, x.block < W.heap.size := by obtain ⟨m, hm⟩ := k2; exact DataW.trod_lt m _ _ _ hm
  obtain ⟨cs2, rfl, _⟩ := okWide_struct Tryz.underlying39 (hval 2 39 v2 rfl rfl)
  obtain ⟨n2, g2⟩ := h2
  obtain ⟨y2, hy2, he2⟩ := ref_of (cs := cs2.toList) g2
  obtain rfl : cs2 = (rcells y2).toArray := by rw [← he2]
  clear hA0
  have hh : Holds (Base.of W) ([] ++ []) W := holds_of _ (fun A hA => by cases hA)
  refine (calls_in (nobody_c y0 y1 y2 (by omega) hy1 hy2 (Base.of W) (table hL)) hh).mono fun e W' ⟨_, _, he, bel⟩ => ?_
  subst he
  exact ⟨_, rfl, _, _, _, [], _, [], hW', trodAll_mk1 (shut_bool Tryz.underlying4 _), trodAll_cons_mk (shut_int Tryz.underlying32 w0) (trodAll_cons_mk (Below.trod laidOut (by kernel_rfl) (of_decide_eq_true (by kernel_rfl)) k1 bel lt1) (trodAll_cons_mk (Below.trod laidOut (by kernel_rfl) (of_decide_eq_true (by kernel_rfl)) k2 bel lt2) (trodAll_mk0))), rfl, bel.frame _, fun h => by cases h⟩

/-- a world for the witness: the settled one, the table (block 0) holding what its initialiser lays. -/
noncomputable def laidWorld (os : Os) : World :=
  { World.holding Tryz.prog os ⟨#[], #[], []⟩ with heap := (World.holding Tryz.prog os ⟨#[], #[], []⟩).heap.modify 0 fun
      | .cells _ t frozen => .cells (Lib.deBruijn64tab.map u8).toArray t frozen
      | o => o }
theorem laid_met (os : Os) : laidMet Tryz.prog Rows.mtreeNobodyRow.laid ((laidWorld os).forCall (fun _ _ => 0) ⟨#[], #[.int .u64 0, .agg (Array.replicate 44 (Value.int .u8 0)), .agg (#[Value.int .u32 0] ++ Array.replicate 32 (Value.int .u8 0))], []⟩).memory :=
  laidMet_of_run' 8 (by kernel_rfl) (by kernel_rfl)
theorem reads (os : Os) {H : Type} (enc : TypeId × Value → H) : ∃ places, DataW.whole enc Tryz.prog ((laidWorld os).forCall (fun _ _ => 0) ⟨#[], #[.int .u64 0, .agg (Array.replicate 44 (Value.int .u8 0)), .agg (#[Value.int .u32 0] ++ Array.replicate 32 (Value.int .u8 0))], []⟩).memory Tryz.f7.params.toList Rows.mtreeNobodySpec.vars false #[(.int .u64 0 : Value), (.agg (Array.replicate 44 (Value.int .u8 0)) : Value), (.agg (#[Value.int .u32 0] ++ Array.replicate 32 (Value.int .u8 0)) : Value)].toList 8 = some ([.lit (.int .u64 0), .agg (List.replicate 44 (.lit (.int .u8 0))), .agg [.lit (.int .u32 0), .agg (List.replicate 32 (.lit (.int .u8 0)))]], [], places) :=
  ⟨[], by kernel_rfl⟩

set_option maxRecDepth 100000 in
theorem lifted (os : Os) (started : os.Started) (H : Type) (enc : TypeId × Value → H) (F : Stop.Interp) :
    ReturnsInHanded {} Tryz.checked os 7 .any ((OpenSpec.ofChange Rows.mtreeNobodySpec).preRow enc Tryz.prog Tryz.f7 Rows.mtreeNobodyRow.domain false Rows.mtreeNobodyRow.laid) (((OpenSpec.ofChange Rows.mtreeNobodySpec).at F).post enc Tryz.prog Tryz.f7 false true false false) := by
  obtain ⟨places, hx⟩ := reads os enc
  refine returnsInHanded_of_row (C := Tryz.checked) (s := OpenSpec.ofChange Rows.mtreeNobodySpec) own started (by kernel_rfl) Tryz.func7
    (witness_row_at (enc := enc) (C := Tryz.checked) false (laidWorld os) #[.int .u64 0, .agg (Array.replicate 44 (Value.int .u8 0)), .agg (#[Value.int .u32 0] ++ Array.replicate 32 (Value.int .u8 0))] rfl (by kernel_rfl) (by kernel_rfl) (by kernel_rfl)
      (OpenSpec.preRow_of_cond 8 hx (by kernel_rfl) (fun k hk => by cases hk) (by kernel_rfl) (laid_met os))) ?_
  intro W base args ds gs before hval hW _ _ _ hL _ _
  exact contract H enc W base args ds gs before hval hW hL

theorem facts1 : Tryz.pinned.checked.prog.funcNamed Rows.mtreeNobodyRow.func = some 7 := by kernel_rfl
theorem fa : (Rows.mtreeNobodyRow.inPlace == Tryz.pinned.checked.prog.inPlace 7) = true := by kernel_rfl
theorem fb : (Rows.mtreeNobodyRow.unfollowed == Tryz.pinned.checked.prog.unfollowed 7) = true := by kernel_rfl
theorem fc : (Rows.mtreeNobodyRow.recurses == Tryz.pinned.checked.prog.recurses 7) = true := by kernel_rfl
theorem fd : (Rows.mtreeNobodyRow.named == Tryz.pinned.checked.prog.varsNamed 7) = true := by kernel_rfl
theorem facts2 : joinedFacts Tryz.pinned.checked.prog 7 Tryz.f7 (OpenSpec.ofChange Rows.mtreeNobodySpec).bare Rows.mtreeNobodyRow = true := by
  unfold joinedFacts
  rw [fa, fb, fc, fd]
  kernel_rfl
theorem facts3 : Tryz.f7.isInstance Tryz.pinned.checked.prog Rows.mtreeNobodyRow.origin Rows.mtreeNobodyRow.targs := of_decide_eq_true (by kernel_rfl)
theorem facts4 : Tryz.f7.isWrapper Tryz.pinned.checked.prog Rows.mtreeNobodyRow.wrapper Rows.mtreeNobodyRow.mainSum := by unfold Func.isWrapper; first | (rw [if_pos (by decide +kernel)]; kernel_rfl) | (rw [if_neg (by decide +kernel)]; exact ⟨rfl, rfl⟩)
theorem said : Rows.MtreeNobodySaid :=
  OpenClaim.holds_of_cond 7 Tryz.f7 rfl rfl rfl rfl rfl rfl rfl ⟨rfl, rfl, rfl, rfl, rfl⟩ rfl rfl rfl rfl rfl facts1 Tryz.func7 facts2 facts3 facts4
    (fun os started H enc _ F => by rw [OpenClaim.pre_eq_preRow]; exact lifted os started H enc F)

theorem plain (f : FuncId) (fn : Func) (hf : Tryz.pinned.checked.prog.funcNamed "casemate/casematelaw15.MtreeNobody" = some f) (hfn : Tryz.pinned.checked.prog.funcs[f]? = some fn) :
    false = Tryz.pinned.checked.prog.looks [] ∧ ∀ (j : Nat) t, fn.params[j]? = some t → Tryz.pinned.checked.prog.wantsStandIn t = false := by
  obtain rfl : f = 7 := Option.some.inj ((show Tryz.prog.funcNamed "casemate/casematelaw15.MtreeNobody" = some 7 by kernel_rfl).symm.trans hf) |>.symm
  obtain rfl : fn = Tryz.f7 := (Option.some.inj (Tryz.func7.symm.trans hfn)).symm
  refine ⟨by kernel_rfl, fun j t ht => ?_⟩
  rw [Tryz.params7] at ht
  have h : t = 32 ∨ t = 51 ∨ t = 39 := by have := Array.mem_of_getElem? ht; simpa using this
  rcases h with rfl | rfl | rfl
  · exact (show Tryz.prog.wantsStandIn 32 = false by kernel_rfl)
  · exact (show Tryz.prog.wantsStandIn 51 = false by kernel_rfl)
  · exact (show Tryz.prog.wantsStandIn 39 = false by kernel_rfl)

theorem proved : Rows.MtreeNobodyCardSaid :=
  Claim7.holds_tied_plain_at .later [] _ _ _ _ said (fun _ h => by cases h) (by kernel_rfl) (fun _ h => by cases h) mtreeNobody_row_tie rfl ⟨rfl, rfl⟩ (by kernel_rfl) rfl plain (by kernel_rfl)
#print axioms proved
end Go.Proofs.YtcnpkmdooekmgaaGreatDoor.mtreeNobody
