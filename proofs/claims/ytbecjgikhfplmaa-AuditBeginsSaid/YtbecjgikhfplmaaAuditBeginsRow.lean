/-
  For all entries the statement AuditBegins answers true, and each argument reads as before. No condition.
-/
import Derived.Test.YtbecjgikhfplmaaRows
import Derived.Test.YtbecjgikhfplmaaAud19
import Derived.WalkKit
import Derived.ProofKit
import Derived.OpenShut
import Derived.ChangeOld
import Derived.ChangeSlices
import Derived.Below
import Derived.Carry
import Derived.Deep.SlicePairs
import Derived.Sort.Row
namespace Go.Proofs.Ytbecjgikhfplmaa.auditBegins
open Go.Proofs.Ytbecjgikhfplmaa Go.Proofs.Ytbecjgikhfplmaa.Sl
open Go.ChangeShapes Go.WideShapes Go.ChangeAt Go.RowKit
set_option linter.unusedVariables false

theorem own : ownKnob Try.prog.godebug = none := by kernel_rfl
theorem laidOut : laidOutB Try.prog = true := by kernel_rfl
theorem cells28 : Try.prog.cellsOf 28 = 1 := by kernel_rfl
theorem cells30 : Try.prog.cellsOf 30 = 2 := by kernel_rfl
theorem cells5 : Try.prog.cellsOf 5 = 1 := by kernel_rfl

/-- cells that are there, as a row that never changes. -/
theorem isl_of {W : World} {a : Addr} {n cap s : Nat} {E : TypeId} {xs : List Value} (hs : 0 < s) (hl : xs.length = n * s) (hc : n ≤ cap) (h : ∀ j v, xs[j]? = some v → W.cell? (a.add j) = some v) :
    (isl (some a) n cap E s xs).sat (fun b => W.heap[b]?) Hp.emp := by
  refine ⟨hl, hc, ?_⟩
  rcases Nat.eq_zero_or_pos n with h0 | h0
  · exact .inl h0
  right
  have hpos : 0 < xs.length := by rw [hl]; exact Nat.mul_pos h0 hs
  obtain ⟨b, off, spot⟩ := a
  have e0 := h 0 xs[0] (List.getElem?_eq_getElem hpos)
  have hsp : spot = none := by
    unfold World.cell? at e0
    simp only [Addr.add, if_true] at e0
    split at e0
    · split at e0
      · cases e0
      · rename_i hn; simpa using hn
    · cases e0
  subst hsp
  have e0' : W.cell? ⟨b, off, none⟩ = some xs[0] := by simpa [Addr.add] using e0
  obtain ⟨c, e, fr, hb, _⟩ := Go.Sort.cells_of_cell? e0'
  refine ⟨b, off, c, e, fr, rfl, hb, fun j x hj => ?_⟩
  have e1 := h j x hj
  have e2 : W.cell? ⟨b, off + j, none⟩ = some x := by
    unfold Addr.add at e1
    split at e1
    · rename_i hz; subst hz; exact e1
    · exact e1
  obtain ⟨c', e', fr', hb', hc'⟩ := Go.Sort.cells_of_cell? e2
  rw [hb] at hb'
  cases hb'
  exact hc'
theorem bytes_of {H : Type} {enc : TypeId × Value → H} {W : World} {n : Nat} {v : Value} {x : DataW H × List MemPlace} (h : DataW.trod enc Try.prog W 0 (fun _ => true) true n 28 [v] = some x) :
    ∃ r : Option Addr × Nat × List Nat, v = .slice r.1 r.2.2.length r.2.1 ∧ r.2.2.length ≤ 9223372036854775807 ∧ (∀ y ∈ r.2.2, y < 256) ∧ (brow r.1 r.2.2.length r.2.1 r.2.2).sat (fun b => W.heap[b]?) Hp.emp := by
  rcases open_ints Try.underlying28 Try.underlying5 cells5 h with ⟨hcs, _⟩ | ⟨a, l, c, zs, hcs, _, hl, hm, hz, _, hcell, hwz⟩
  · simp at hcs
    exact ⟨(none, 0, []), hcs, by decide, (by intro y hy; cases hy), ⟨rfl, Nat.le_refl _, .inl rfl⟩⟩
  · simp at hcs
    have hz : zs.length = c := by simpa using hz
    have hb : ∀ z ∈ zs, 0 ≤ z ∧ z < 256 := fun z hz => by
      have := hwz z hz
      simp [Lit.wf, IntKind.min, IntKind.max, IntKind.signed, IntKind.bits] at this
      omega
    have hlen : ((zs.take l).map Int.toNat).length = l := by rw [List.length_map, List.length_take]; omega
    refine ⟨(some a, c, (zs.take l).map Int.toNat), by rw [hcs]; dsimp only; rw [hlen], by dsimp only; rw [hlen]; exact Nat.le_trans hl (Nat.le_trans hm (by decide)), ?_, ?_⟩
    · intro y hy
      obtain ⟨z, hz1, rfl⟩ := List.mem_map.1 hy
      have := hb z (List.mem_of_mem_take hz1)
      omega
    · dsimp only
      rw [hlen]
      refine isl_of (by decide) (by rw [List.length_map, hlen, Nat.mul_one]) hl (fun j v hj => ?_)
      rw [List.getElem?_map, List.getElem?_map] at hj
      have hjl : j < l := by
        rcases Nat.lt_or_ge j l with h | h
        · exact h
        · rw [List.getElem?_eq_none (by rw [List.length_take]; omega)] at hj; cases hj
      rw [List.getElem?_take, if_pos hjl, List.getElem?_eq_getElem (by omega)] at hj
      simp only [Option.map_some, Option.some.injEq] at hj
      have h1 := hcell j (by omega)
      rw [h1, ← hj, List.getD_eq_getElem?_getD, List.getElem?_eq_getElem (by omega)]
      have := hb _ (List.getElem_mem (l := zs) (n := j) (by omega))
      simp only [Option.getD_some, u8, Option.some.injEq, Value.int.injEq, true_and]
      omega
theorem entries_of {H : Type} {enc : TypeId × Value → H} {W : World} {n : Nat} {v : Value} {x : DataW H × List MemPlace} (h : DataW.trod enc Try.prog W 0 (fun _ => true) true n 22 [v] = some x) :
    ∃ (a : Option Addr) (c : Nat) (es : List En), v = .slice a es.length c ∧ es.length ≤ 9223372036854775807 ∧ Given es ∧ (isl a es.length c T.audit_Entry 2 (es.flatMap ecells)).sat (fun b => W.heap[b]?) Hp.emp ∧ (ents es).sat (fun b => W.heap[b]?) Hp.emp := by
  rcases Go.Deep.open_slice_pairs Try.underlying22 Try.underlying30 cells30 rfl rfl cells28 cells28 h with ⟨hcs, _⟩ | ⟨a, l, c, m, k, V0, V1, _, _, _, _, hcs, _, hl, hm, hmm, _, hx⟩
  · simp at hcs
    exact ⟨none, 0, [], hcs, by decide, (by intro e he; cases he), ⟨rfl, Nat.le_refl _, .inl rfl⟩, (by intro e he; cases he)⟩
  · simp at hcs
    have hlm : l ≤ m := by rw [hmm]; simpa using hl
    have each : ∀ i, i < l → ∃ e : En, ecells e = [V0 i, V1 i] ∧ (e.rq.length ≤ 9223372036854775807 ∧ e.rp.length ≤ 9223372036854775807 ∧ (∀ x ∈ e.rq, x < 256) ∧ ∀ x ∈ e.rp, x < 256) ∧
        (brow e.1.1 e.rq.length e.1.2.1 e.rq).sat (fun b => W.heap[b]?) Hp.emp ∧ (brow e.2.1 e.rp.length e.2.2.1 e.rp).sat (fun b => W.heap[b]?) Hp.emp := fun i hi => by
      obtain ⟨_, _, t0, t1⟩ := hx i (by omega)
      obtain ⟨r0, hv0, a0, b0, s0⟩ := bytes_of t0
      obtain ⟨r1, hv1, a1, b1, s1⟩ := bytes_of t1
      exact ⟨(r0, r1), by rw [hv0, hv1], ⟨a0, a1, b0, b1⟩, s0, s1⟩
    obtain ⟨q, hq⟩ := Go.Deep.choose_lt each
    have hlen : ((List.range l).map q).length = l := by simp
    have hmem : ∀ e ∈ (List.range l).map q, ∃ i, i < l ∧ q i = e := fun e he => by
      obtain ⟨i, hi, rfl⟩ := List.mem_map.1 he
      exact ⟨i, List.mem_range.1 hi, rfl⟩
    have hfl : ((List.range l).map q).flatMap ecells = (List.range l).flatMap fun i => ecells (q i) := by rw [List.flatMap_map]
    have hflen : (((List.range l).map q).flatMap ecells).length = l * 2 := by
      generalize hes : (List.range l).map q = es at *
      rw [← hlen]; clear hfl hmem hes hlen
      induction es with
      | nil => rfl
      | cons e es ih => rw [List.flatMap_cons, List.length_append, ih]; simp only [List.length_cons, List.length_nil]; omega
    refine ⟨some a, c, (List.range l).map q, by rw [hcs, hlen], by rw [hlen]; exact Nat.le_trans hl (Nat.le_trans hm (by decide)), fun e he => ?_, ?_, fun e he => ?_⟩
    · obtain ⟨i, hi, rfl⟩ := hmem e he
      exact (hq i hi).2.1
    · rw [hlen]
      refine isl_of (by decide) hflen hl (fun j v hj => ?_)
      have hjl : j < l * 2 := by rw [← hflen]; exact (List.getElem?_eq_some_iff.1 hj).1
      have hil : j / 2 < l := by omega
      have hei : ((List.range l).map q)[j / 2]? = some (q (j / 2)) := by simp [List.getElem?_range hil]
      have hat := ecells_at _ (j / 2) _ hei
      obtain ⟨hc0, hc1, _, _⟩ := hx (j / 2) (by omega)
      have hec := (hq (j / 2) hil).1
      rcases Nat.mod_two_eq_zero_or_one j with hr | hr
      · have h1 := hat 0 (V0 (j / 2)) (by rw [hec]; rfl)
        rw [show 2 * (j / 2) + 0 = j by omega, hj] at h1
        rw [show j / 2 * 2 = j by omega] at hc0
        rw [hc0, ← h1]
      · have h1 := hat 1 (V1 (j / 2)) (by rw [hec]; rfl)
        rw [show 2 * (j / 2) + 1 = j by omega, hj] at h1
        rw [show j / 2 * 2 + 1 = j by omega] at hc1
        rw [hc1, ← h1]
    · obtain ⟨i, hi, rfl⟩ := hmem e he
      exact (hq i hi).2.2
theorem holds_of {W : World} : ∀ (L : List Assn), (∀ A ∈ L, A.sat (fun b => W.heap[b]?) Hp.emp) → Holds (Base.of W) L W := by
  intro L h
  obtain ⟨im, hp, r, _⟩ := Holds.start W
  refine ⟨fun b => W.heap[b]?, Hp.emp, ⟨Hp.le_refl _, fun _ _ h => h, (fun _ _ h => by cases h), fun _ => .inr rfl, rfl, rfl, rfl⟩, ?_⟩
  clear r
  induction L with
  | nil => trivial
  | cons A L ih => exact ⟨Hp.emp, Hp.emp, Hp.le_refl _, Hp.le_refl _, Hp.emp_dis _, h A (by simp), ih (fun B hB => h B (by simp [hB]))⟩

set_option maxRecDepth 100000 in
theorem lifted (os : Os) (started : os.Started) (H : Type) (enc : TypeId × Value → H) :
    ReturnsInHanded {} Try.checked os 3 .any (Rows.auditBeginsSpec.pre6 enc Try.prog Try.f3 Rows.auditBeginsRow.domain false) (Rows.auditBeginsSpec.post enc Try.prog Try.f3 false true false false) := by
  refine returnsInHanded_of_change (C := Try.checked) own started (by kernel_rfl) Try.func3
    (ChangeSpec.witness6 (enc := enc) (C := Try.checked) false ⟨#[], #[.int .i64 0, .slice none 0 0, .slice none 0 0, .int .i64 0], []⟩ 8 (by kernel_rfl) (by kernel_rfl) (by kernel_rfl) (by kernel_rfl)) ?_
  intro W base args ds gs before hval0 hW hcnd _
  have hval : ∀ (j : Nat) t v, Try.f3.params[j]? = some t → args[j]? = some v → Value.okWide Try.prog W .any base t v := hval0
  have hW' := hW
  obtain ⟨p, q, hA0, hV, rfl, hfz, hnd⟩ := hW
  have hA : DataW.TrodAll enc Try.prog W 0 (fun _ => true) true Try.f3.params.toList args.toList ds p := hA0
  rw [Try.params3] at hA hval
  obtain ⟨v0, vs0, d0, ds0, p0, q0, hargs, rfl, rfl, h0, r0⟩ := trodAll_cons hA
  obtain ⟨v1, vs1, d1, ds1, p1, q1, rfl, rfl, rfl, h1, r1⟩ := trodAll_cons r0
  obtain ⟨v2, vs2, d2, ds2, p2, q2, rfl, rfl, rfl, h2, r2⟩ := trodAll_cons r1
  obtain ⟨v3, vs3, d3, ds3, p3, q3, rfl, rfl, rfl, h3, r3⟩ := trodAll_cons r2
  obtain ⟨rfl, rfl, rfl⟩ := trodAll_nil r3
  obtain rfl : args = #[v0, v1, v2, v3] := by cases args; simp_all
  obtain ⟨rfl, rfl⟩ := trodVars_none hV
  obtain ⟨a0, rfl, rfl, rfl, w0⟩ := open_int Try.underlying3 (hval 0 3 v0 rfl rfl) h0
  obtain ⟨a3, rfl, rfl, rfl, w3⟩ := open_int Try.underlying3 (hval 3 3 v3 rfl rfl) h3
  obtain ⟨b1, l1, c1, rfl⟩ := okWide_slice Try.underlying22 (hval 1 22 v1 rfl rfl)
  obtain ⟨b2, l2, c2, rfl⟩ := okWide_slice Try.underlying22 (hval 2 22 v2 rfl rfl)
  have k1 := h1
  have k2 := h2
  have lt1 : ∀ x ∈ p1, x.block < W.heap.size := by obtain ⟨m, hm⟩ := k1; exact DataW.trod_lt m _ _ _ hm
  have lt2 : ∀ x ∈ p2, x.block < W.heap.size := by obtain ⟨m, hm⟩ := k2; exact DataW.trod_lt m _ _ _ hm
  obtain ⟨n1, g1⟩ := h1
  obtain ⟨n2, g2⟩ := h2
  obtain ⟨x1, e1, es, hv1, m1, s1, t1, u1⟩ := entries_of (v := .slice b1 l1 c1) g1
  obtain ⟨x2, e2, ms, hv2, m2, s2, t2, u2⟩ := entries_of (v := .slice b2 l2 c2) g2
  cases hv1
  cases hv2
  clear hA0 hval0
  have hh : Holds (Base.of W) ([isl b1 es.length c1 T.audit_Entry 2 (es.flatMap ecells), ents es, isl b2 ms.length c2 T.audit_Entry 2 (ms.flatMap ecells), ents ms] ++ []) W := by
    refine holds_of _ (fun A hA => ?_)
    simp only [List.append_nil, List.mem_cons, List.not_mem_nil, or_false] at hA
    rcases hA with rfl | rfl | rfl | rfl
    · exact t1
    · exact u1
    · exact t2
    · exact u2
  refine (calls_in (begins_c a0 b1 c1 es b2 c2 ms a3 m1 m2 s1 s2 (Base.of W)) hh).mono fun e W' ⟨_, _, he, bel⟩ => ?_
  subst he
  exact ⟨_, rfl, _, _, _, [], _, [], hW', trodAll_mk1 (shut_bool Try.underlying4 _), (trodAll_cons_mk (shut_int Try.underlying3 w0) (trodAll_cons_mk (Below.trod laidOut (by kernel_rfl) (of_decide_eq_true (by kernel_rfl)) k1 bel lt1) (trodAll_cons_mk (Below.trod laidOut (by kernel_rfl) (of_decide_eq_true (by kernel_rfl)) k2 bel lt2) (trodAll_cons_mk (shut_int Try.underlying3 w3) trodAll_mk0)))), rfl, bel.frame _, fun h => by cases h⟩

theorem over : Rows.auditBeginsRow.holds Try.pinned (OpenSpec.ofChange Rows.auditBeginsSpec) :=
  OpenClaim.holds_of_wide 3 Try.f3 rfl rfl rfl rfl rfl rfl rfl ⟨rfl, rfl, rfl, rfl, rfl⟩ rfl rfl rfl rfl rfl (by kernel_rfl) Try.func3 (by kernel_rfl)
    (of_decide_eq_true (by kernel_rfl)) (by unfold Func.isWrapper; first | (rw [if_pos (by decide +kernel)]; kernel_rfl) | (rw [if_neg (by decide +kernel)]; exact ⟨rfl, rfl⟩))
    (fun os started H enc _ => lifted os started H enc)

theorem proved : Rows.AuditBeginsSaid := over
#print axioms proved
end Go.Proofs.Ytbecjgikhfplmaa.auditBegins
