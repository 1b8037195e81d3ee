/-
  The statements of the audit, as contracts. For each input.
-/
import Derived.Test.YtbecjgikhfplmaaAud17
namespace Go.Proofs.Ytbecjgikhfplmaa
open Go Sl
theorem judgeL_spec : ∀ (l : List (List Nat × List Nat)) (B : Bk) (i : Nat),
    (judgeL B i l = (((i + l.length : Nat) : Int), 0) ∧ ∃ B', ∀ m, judgeL B i (l ++ m) = judgeL B' (i + l.length) m) ∨
    ((i : Int) ≤ (judgeL B i l).1 ∧ (judgeL B i l).1 < ((i + l.length : Nat) : Int) ∧ (judgeL B i l).2 ≠ 0 ∧ ∀ m, judgeL B i (l ++ m) = judgeL B i l)
  | [], B, i => .inl ⟨rfl, B, fun m => rfl⟩
  | x :: l, B, i => by
    by_cases hv : (hearM B x.1 x.2).2 ≠ 0
    · have e : ∀ m, judgeL B i (x :: (l ++ m)) = ((i : Int), (hearM B x.1 x.2).2) := fun m => by rw [judgeL, if_pos hv]
      have e0 : judgeL B i (x :: l) = ((i : Int), (hearM B x.1 x.2).2) := by rw [judgeL, if_pos hv]
      refine .inr ⟨by rw [e0]; exact Int.le_refl _, by rw [e0]; simp only [List.length_cons]; omega, by rw [e0]; exact hv, fun m => by rw [List.cons_append, e, e0]⟩
    · have e : ∀ m, judgeL B i (x :: (l ++ m)) = judgeL (hearM B x.1 x.2).1 (i + 1) (l ++ m) := fun m => by rw [judgeL, if_neg hv]
      have e0 : judgeL B i (x :: l) = judgeL (hearM B x.1 x.2).1 (i + 1) l := by rw [judgeL, if_neg hv]
      have en : i + (x :: l).length = i + 1 + l.length := by simp only [List.length_cons]; omega
      rw [e0, en]
      rcases judgeL_spec l (hearM B x.1 x.2).1 (i + 1) with ⟨h1, B', h2⟩ | ⟨h1, h2, h3, h4⟩
      · exact .inl ⟨h1, B', fun m => by rw [List.cons_append, e, h2]⟩
      · exact .inr ⟨by omega, h2, h3, fun m => by rw [List.cons_append, e, h4]⟩
theorem judgeL_ge (l : List (List Nat × List Nat)) (B : Bk) (i : Nat) : (i : Int) ≤ (judgeL B i l).1 := by
  rcases judgeL_spec l B i with ⟨h, _⟩ | ⟨h, _⟩
  · rw [h]; dsimp only; omega
  · exact h
/-- a beginning of what fits fits. -/
theorem judge_take (t : Int) (ht : 1 ≤ t ∧ t ≤ 8) (l : List (List Nat × List Nat)) (k : Nat) (hk : k ≤ l.length) :
    ((k : Int) ≤ (judgeM t l).1 ∧ judgeM t (l.take k) = ((k : Int), 0)) ∨ ((judgeM t l).1 < (k : Int) ∧ judgeM t (l.take k) = judgeM t l) := by
  have hn : ¬ (t < 1 ∨ 8 < t) := by omega
  simp only [judgeM, if_neg hn]
  have hl : (l.take k).length = k := by rw [List.length_take]; omega
  have he : l.take k ++ l.drop k = l := List.take_append_drop k l
  rcases judgeL_spec (l.take k) (Bk.new t) 0 with ⟨h1, B', h2⟩ | ⟨h1, h2, h3, h4⟩
  · have h5 := h2 (l.drop k)
    rw [he, hl, Nat.zero_add] at h5
    rw [hl, Nat.zero_add] at h1
    refine .inl ⟨?_, h1⟩
    rw [h5]
    exact judgeL_ge _ _ _
  · have h5 := h4 (l.drop k)
    rw [he] at h5
    rw [hl, Nat.zero_add] at h2
    exact .inr ⟨by rw [h5]; exact h2, h5.symm⟩
/-- what does not fit at a place does not, whatever stands behind. -/
theorem judge_more (t : Int) (ht : 1 ≤ t ∧ t ≤ 8) (l m : List (List Nat × List Nat)) :
    ((judgeM t l).1 = (l.length : Int) ∧ (l.length : Int) ≤ (judgeM t (l ++ m)).1) ∨ ((judgeM t l).1 < (l.length : Int) ∧ judgeM t (l ++ m) = judgeM t l) := by
  have hn : ¬ (t < 1 ∨ 8 < t) := by omega
  simp only [judgeM, if_neg hn]
  rcases judgeL_spec l (Bk.new t) 0 with ⟨h1, B', h2⟩ | ⟨h1, h2, h3, h4⟩
  · rw [Nat.zero_add] at h1 h2
    refine .inl ⟨by rw [h1], ?_⟩
    rw [h2 m]
    exact judgeL_ge _ _ _
  · rw [Nat.zero_add] at h2
    exact .inr ⟨h2, h4 m⟩
attribute [local irreducible] cw sw J Exit.then Exit.inBlock Exit.noGoto bodyPost swG swL permL
theorem greatB_c (la : Option Addr) (lc n : Nat) (xs : List Value) (es : List En) (hv : xs = es.flatMap ecells) (hn : es.length = n) (hl : n ≤ 9223372036854775807) (hx : ∀ e ∈ es, e.rq.length ≤ 9223372036854775807 ∧ e.rp.length ≤ 9223372036854775807) (Φ : Base) :
    Sl.Fn Try.prog Φ F.casematelaw34_Great [.slice la n lc] [isl la n lc T.audit_Entry 2 xs] (fun _ : Unit => True)
      (fun _ => .bool (!decide (Small es))) (fun _ => []) := by
  subst hn hv
  exact great_c la lc es hl hx Φ
set_option maxRecDepth 100000 in
set_option maxHeartbeats 2000000 in
theorem nobody_c (e : En) (h1 : e.rq.length ≤ 9223372036854775807) (h2 : e.rp.length ≤ 9223372036854775807) (Φ : Base) :
    Sl.Fn Try.prog Φ F.casematelaw34_AuditNobody [.agg (ecells e).toArray] [] (fun _ : Unit => True) (fun _ => .bool true) (fun _ => []) := by
  refine fn_of rfl rfl (fun F => ?_)
  dsimp only [argEnv, List.cons_append, List.nil_append, Nat.zero_add, Nat.reduceAdd]
  repeat refine s1 ?_
  refine r_box (cs := ecells e) rfl rfl rfl rfl (fun p1 => ?_)
  repeat refine s1 ?_
  refine r_build2s [.tmp 9] [pairOf e] rfl rfl (by simp) rfl rfl rfl (fun b => ?_)
  refine j_freezeV (some ⟨b, 0, none⟩) 1 1 T.audit_Entry 2 ([pairOf e].flatMap fun v => [v.1, v.2]) ?_
  refine r_call rfl (blt_some rfl) rfl (greatB_c (some ⟨b, 0, none⟩) 1 1 ([pairOf e].flatMap fun v => [v.1, v.2]) [e] rfl rfl (by decide) (fun x hx => by rw [List.mem_singleton.1 hx]; exact ⟨h1, h2⟩) Φ) ?_
  intro _ _; dsimp only [bnd, List.cons_append, List.nil_append]
  repeat refine s1 ?_
  refine t_condSN rfl (fun hs => ?_) (fun hs => ?_)
  · repeat refine s1 ?_
    refine r_call rfl (blt_some rfl) rfl (alive_c Φ) ?_
    intro _ _; dsimp only [bnd, List.cons_append, List.nil_append]
    repeat refine s1 ?_
    refine j_fin rfl (.cons (rv_tmp rfl) .nil) () (by rfl) (by trivial)
  repeat refine s1 ?_
  refine r_alloc (cs := blankC) rfl rfl rfl (fun p4 => ?_)
  repeat refine s1 ?_
  refine j_ent (show Ent (pt p4 (.cells blankC.toArray T.audit_Book (0, 0)) :: _) (blank p4 :: _) from Ent.refl _) ?_
  refine r_call rfl (blt_some rfl) rfl (hearN_c _ (ecells e) rfl rfl Φ) ?_
  intro _ _; dsimp only [bnd, List.cons_append, List.nil_append]
  repeat refine s1 ?_
  refine r_call rfl (blt_some rfl) rfl (hear0_c p4 _ (ecells e) rfl rfl Φ) ?_
  intro _ _; dsimp only [bnd, List.cons_append, List.nil_append]
  repeat refine s2 ?_
  refine r_call rfl (blt_some rfl) rfl (alive_c Φ) ?_
  intro _ _; dsimp only [bnd, List.cons_append, List.nil_append]
  repeat refine s2 ?_
  refine r_call rfl (blt_some rfl) rfl (crashN_c Φ) ?_
  intro _ _; dsimp only [bnd, List.cons_append, List.nil_append]
  repeat refine s2 ?_
  refine r_call rfl (blt_some rfl) rfl (crash0_c p4 Φ) ?_
  intro _ _; dsimp only [bnd, List.cons_append, List.nil_append]
  repeat refine s2 ?_
  refine r_call rfl (blt_some rfl) rfl (chargeN_c Φ) ?_
  intro _ _; dsimp only [bnd, List.cons_append, List.nil_append]
  repeat refine s2 ?_
  refine r_call rfl (blt_some rfl) rfl (charge0_c p4 Φ) ?_
  intro _ _; dsimp only [bnd, List.cons_append, List.nil_append]
  repeat refine s2 ?_
  refine r_addI rfl rfl (by decide) rfl ?_
  repeat refine s2 ?_
  refine r_call rfl (blt_some rfl) rfl (heardN_c Φ) ?_
  intro _ _; dsimp only [bnd, List.cons_append, List.nil_append]
  repeat refine s2 ?_
  refine r_addI rfl rfl (by decide) rfl ?_
  repeat refine s2 ?_
  refine r_call rfl (blt_some rfl) rfl (heard0_c p4 Φ) ?_
  intro _ _; dsimp only [bnd, List.cons_append, List.nil_append]
  repeat refine s2 ?_
  refine r_addI rfl rfl (by decide) rfl ?_
  repeat refine s2 ?_
  refine j_fin rfl (.cons (rv_tmp rfl) .nil) () (by rfl) (by trivial)
end Go.Proofs.Ytbecjgikhfplmaa
