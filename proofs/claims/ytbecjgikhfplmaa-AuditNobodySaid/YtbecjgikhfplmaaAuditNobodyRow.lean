/-
  For all entries the statement AuditNobody answers true, and the argument reads as before. No condition.
-/
import Derived.Test.YtbecjgikhfplmaaRows
import Derived.Test.YtbecjgikhfplmaaAud18
import Derived.WalkKit
import Derived.ProofKit
import Derived.OpenShut
import Derived.ChangeOld
import Derived.Below
import Derived.Carry
import Derived.Deep.SlicePairs
import Derived.Lib.SmallJoins
namespace Go.Proofs.Ytbecjgikhfplmaa.auditNobody
open Go.Proofs.Ytbecjgikhfplmaa Go.Proofs.Ytbecjgikhfplmaa.Sl
open Go.ChangeShapes Go.WideShapes Go.ChangeAt Go.RowKit
set_option linter.unusedVariables false

theorem own : ownKnob Try.prog.godebug = none := by kernel_rfl
theorem laidOut : laidOutB Try.prog = true := by kernel_rfl

theorem walk (a : Option Addr) (n c : Nat) (a' : Option Addr) (n' c' : Nat) (h : n ≤ 9223372036854775807) (h' : n' ≤ 9223372036854775807) (w : World) :
    Calls Try.prog 4 #[.agg #[.slice a n c, .slice a' n' c']] w fun e w' => e = .returned (.bool true) ∧ Below w.heap.size w w' := by
  have hc := nobody_c ((a, c, List.replicate n 0), (a', c', List.replicate n' 0)) (by simpa [En.rq] using h) (by simpa [En.rp] using h') (Base.of w)
  simp only [ecells, En.rq, En.rp, List.length_replicate] at hc
  exact hc.calls.mono fun e w' ⟨_, _, he, hb⟩ => ⟨he, hb⟩

theorem slice_len {H : Type} {enc : TypeId × Value → H} {W : World} {n : Nat} {v : Value} {x : DataW H × List MemPlace} (h : DataW.trod enc Try.prog W 0 (fun _ => true) true n 28 [v] = some x) : ∃ a l c, v = .slice a l c ∧ l ≤ 9223372036854775807 := by
  rcases Go.Deep.open_slice Try.underlying28 h with ⟨hcs, _⟩ | ⟨a, l, c, m, _, _, _, hcs, _, hl, hm, _⟩
  · simp at hcs; exact ⟨none, 0, 0, hcs, by decide⟩
  · simp at hcs
    exact ⟨some a, l, c, hcs, Nat.le_trans hl (Nat.le_trans hm (by decide))⟩

set_option maxRecDepth 100000 in
theorem lifted (os : Os) (started : os.Started) (H : Type) (enc : TypeId × Value → H) :
    ReturnsInHanded {} Try.checked os 4 .any (Rows.auditNobodySpec.pre6 enc Try.prog Try.f4 Rows.auditNobodyRow.domain false) (Rows.auditNobodySpec.post enc Try.prog Try.f4 false true false false) := by
  refine returnsInHanded_of_change (C := Try.checked) own started (by kernel_rfl) Try.func4
    (ChangeSpec.witness6 (enc := enc) (C := Try.checked) false ⟨#[], #[.agg #[.slice none 0 0, .slice none 0 0]], []⟩ 8 (by kernel_rfl) (by kernel_rfl) (by kernel_rfl) (by kernel_rfl)) ?_
  intro W base args ds gs before hval0 hW hcnd _
  have hval : ∀ (j : Nat) t v, Try.f4.params[j]? = some t → args[j]? = some v → Value.okWide Try.prog W .any base t v := hval0
  have hW' := hW
  obtain ⟨p, q, hA0, hV, rfl, hfz, hnd⟩ := hW
  have hA : DataW.TrodAll enc Try.prog W 0 (fun _ => true) true Try.f4.params.toList args.toList ds p := hA0
  rw [Try.params4] at hA hval
  obtain ⟨v0, vs0, d0, ds0, p0, q0, hargs, rfl, rfl, h0, r0⟩ := trodAll_cons hA
  obtain ⟨rfl, rfl, rfl⟩ := trodAll_nil r0
  obtain rfl : args = #[v0] := by cases args; simp_all
  obtain ⟨rfl, rfl⟩ := trodVars_none hV
  have k0 := h0
  have lt0 : ∀ x ∈ p0, x.block < W.heap.size := by obtain ⟨m, hm⟩ := k0; exact DataW.trod_lt m _ _ _ hm
  obtain ⟨c0, c1, y0, y1, n, rfl, _, _, g0, g1⟩ := Go.Joins.open_agg2 Try.underlying30 (by kernel_rfl) (by kernel_rfl) (hval 0 30 v0 rfl rfl) h0
  obtain ⟨a, l, c, rfl, hl⟩ := slice_len g0
  obtain ⟨a', l', c', rfl, hl'⟩ := slice_len g1
  clear hA0 hval0
  refine (walk a l c a' l' c' hl hl' W).mono fun e W' ⟨he, bel⟩ => ?_
  subst he
  exact ⟨_, rfl, _, _, _, [], _, [], hW', trodAll_mk1 (shut_bool Try.underlying4 _), (trodAll_cons_mk (Below.trod laidOut (by kernel_rfl) (of_decide_eq_true (by kernel_rfl)) k0 bel lt0) trodAll_mk0), rfl, bel.frame _, fun h => by cases h⟩

theorem over : Rows.auditNobodyRow.holds Try.pinned (OpenSpec.ofChange Rows.auditNobodySpec) :=
  OpenClaim.holds_of_wide 4 Try.f4 rfl rfl rfl rfl rfl rfl rfl ⟨rfl, rfl, rfl, rfl, rfl⟩ rfl rfl rfl rfl rfl (by kernel_rfl) Try.func4 (by kernel_rfl)
    (of_decide_eq_true (by kernel_rfl)) (by unfold Func.isWrapper; first | (rw [if_pos (by decide +kernel)]; kernel_rfl) | (rw [if_neg (by decide +kernel)]; exact ⟨rfl, rfl⟩))
    (fun os started H enc _ => lifted os started H enc)

theorem proved : Rows.AuditNobodySaid := over
#print axioms proved
end Go.Proofs.Ytbecjgikhfplmaa.auditNobody
