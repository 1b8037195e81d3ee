/-
  Row literals of elements of two cells.
-/
import Derived.Test.YtbecjgikhfplmaaAud15
namespace Go.Proofs.Ytbecjgikhfplmaa.Sl
open Go Go.Proofs.Ytbecjgikhfplmaa.Sl
theorem fill_two : ∀ (vs : List (Value × Value)) (place : Nat → Option (Nat × Nat)) (k : Nat) (cells : Array Value), (∀ i, place i = some (i * 2, 2)) → cells.size = 2 * k + 2 * vs.length →
    ∃ cs, Instr.fill place cells ((vs.zipIdx k).map fun p => (p.2, Value.agg #[p.1.1, p.1.2])) = some cs ∧ cs.size = cells.size ∧ (∀ j, j < 2 * k → cs[j]? = cells[j]?) ∧ ∀ j, j < 2 * vs.length → cs[2 * k + j]? = (vs.flatMap fun v => [v.1, v.2])[j]?
  | [], _, _, cells, _, _ => ⟨cells, rfl, rfl, fun _ _ => rfl, fun j hj => absurd hj (Nat.not_lt_zero j)⟩
  | v :: vs, place, k, cells, hp, hs => by
    have hc : (Value.agg #[v.1, v.2]).cells = #[v.1, v.2] := rfl
    simp only [List.length_cons] at hs
    obtain ⟨cs, e, es, el, ev⟩ := fill_two vs place (k + 1) ((cells.setIfInBounds (2 * k) v.1).setIfInBounds (2 * k + 1) v.2) hp (by simp; omega)
    refine ⟨cs, ?_, by simpa using es, fun j hj => ?_, fun j hj => ?_⟩
    · simp only [List.zipIdx_cons, List.map_cons, Instr.fill, hp, hc]
      rw [if_neg (by simp; omega)]
      have : (#[v.1, v.2].zipIdx.foldl (fun cs (x : Value × Nat) => cs.setIfInBounds (k * 2 + x.2) x.1) cells) = (cells.setIfInBounds (2 * k) v.1).setIfInBounds (2 * k + 1) v.2 := by
        rw [Nat.mul_comm]; simp
      simpa [this, Nat.mul_comm] using e
    · rw [el j (by omega), Array.getElem?_setIfInBounds_ne (by omega), Array.getElem?_setIfInBounds_ne (by omega)]
    · simp only [List.flatMap_cons]
      match j, hj with
      | 0, _ =>
        have hk : 2 * k < cells.size := by omega
        rw [Nat.add_zero, el (2 * k) (by omega), Array.getElem?_setIfInBounds_ne (by omega)]
        simp [Array.getElem?_setIfInBounds, hk]
      | 1, _ =>
        have hk : 2 * k + 1 < cells.size := by omega
        rw [el (2 * k + 1) (by omega)]
        simp [Array.getElem?_setIfInBounds, hk]
      | j + 2, hj =>
        have := ev j (by simp only [List.length_cons] at hj; omega)
        rw [show 2 * k + (j + 2) = 2 * (k + 1) + j by omega, this]
        simp
theorem run_buildTwos {P : Program} {t E : TypeId} {by_ : Nat} {z : Value} [tu : TUnd P t (.slice E)] [te : TElem P E 2 by_ z] (vs : List (Value × Value)) (hn : 2 * vs.length ≤ 16777216) (w : World) :
    (Instr.buildSlice t vs.length (vs.zipIdx.map fun p => (p.2, Value.agg #[p.1.1, p.1.2])).toArray).run P w = .ok (.slice (some ⟨w.heap.size, 0, none⟩) vs.length vs.length) { w with heap := w.heap.push (.cells (vs.flatMap fun v => [v.1, v.2]).toArray E) } := by
  obtain ⟨i, hi, hs, hb, hz⟩ := te.ex
  have hfl : (vs.flatMap fun v => [v.1, v.2]).length = 2 * vs.length := by
    clear hn; induction vs with
    | nil => rfl
    | cons v vs ih => simp only [List.flatMap_cons, List.length_append, ih, List.length_cons, List.length_nil]; omega
  have key : ∀ zero : Array Value, Instr.fill (fun i => some (i * 2, 2)) ((Array.range (vs.length * 2)).map (zero[· % zero.size]!)) (vs.zipIdx.map fun p => (p.2, Value.agg #[p.1.1, p.1.2])) = some (vs.flatMap fun v => [v.1, v.2]).toArray := fun zero => by
    obtain ⟨cs, e, es, _, ev⟩ := fill_two vs (fun i => some (i * 2, 2)) 0 ((Array.range (vs.length * 2)).map (zero[· % zero.size]!)) (fun _ => rfl) (by simp; omega)
    rw [e]
    congr 1
    apply Array.ext'
    apply List.ext_getElem?
    intro j
    by_cases hj : j < 2 * vs.length
    · have := ev j hj
      simpa using this
    · have h2 : cs.size = vs.length * 2 := by simpa using es
      rw [List.getElem?_eq_none (by simp; omega), List.getElem?_eq_none (by simp [hfl]; omega)]
  have hsz : ∀ w, (sizeOf E).run P w = .ok 2 w := fun w => by simp [sizeOf, typeInfo, hi, hs, go_sem]
  have hzv : ∀ w, (zeroValue E).run P w = .ok z w := fun w => by simp [zeroValue, typeInfo, hi, hz, go_sem]
  simp only [Instr.buildSlice, Sem.run_bind, tu.run, Result.andThen_ok, hsz]
  rw [if_neg (by omega)]
  by_cases h0 : vs.length * 2 = 0
  · simp only [h0, if_true, Sem.run_bind, Sem.run_pure, Result.andThen_ok]
    have := key #[]
    rw [h0] at this
    simp only [Sem.run_pure, Sem.run_bind, Result.andThen_ok, this]
    rfl
  · simp only [h0, if_false, Sem.run_bind, Sem.run_pure, Result.andThen_ok, hzv, key]
    rfl
section
variable {X : Cx} {e : Env} {L L1 F : List Assn} {A : List Assn} {S : List Nat} {ops : Array Oper} {k : Nat} {l : List Oper} {R : Act → World → Prop} {G : Act → World → Prop}
variable {d : Nat} {T : TypeId} {pos : String} {af : Array Edge}
theorem r_build2s {t E : TypeId} {len : Nat} {parts : Array (Nat × Operand)} {by_ : Nat} {z : Value} [tu : TUnd X.P t (.slice E)] [te : TElem X.P E 2 by_ z] (os : List Operand) (vs : List (Value × Value)) (hp : parts = (os.zipIdx.map fun p => (p.2, p.1)).toArray) (hvs : evL e os = some (vs.map fun v => .agg #[v.1, v.2]))
    (hn : 2 * vs.length ≤ 16777216) (hlen : vs.length = len) (hs : S.contains k = false) (hd : Nat.blt d X.n = true) [st : ∀ b, Stay A (pt b (.cells (vs.flatMap fun v => [v.1, v.2]).toArray E (0, 0)) :: L)]
    (h : ∀ b, J X ((d, .slice (some ⟨b, 0, none⟩) len len) :: e) (vec (some ⟨b, 0, none⟩) len len E 2 (vs.flatMap fun v => [v.1, v.2]) :: L) (sw X.P (Holds X.Φ A) S ops R (k + 1) l)) :
    J X e L (sw X.P (Holds X.Φ A) S ops R k (⟨some d, .buildSlice t len parts, T, pos, af, none⟩ :: l)) :=
  r_buildS (cells := vs.flatMap fun v => [v.1, v.2]) (s := 2) hs hd (by
    subst hlen; clear hvs h hn st; induction vs with
    | nil => rfl
    | cons v vs ih => simp only [List.flatMap_cons, List.length_append, ih, List.length_cons, List.length_nil]; omega) (fun a w m => by
    have e1 : (parts.map fun (i, x) => (i, a.eval x)) = (vs.zipIdx.map fun p => (p.2, Value.agg #[p.1.1, p.1.2])).toArray := by
      have h2 := m.evL hvs
      have h3 : (os.map a.eval).zipIdx = (vs.map fun v => Value.agg #[v.1, v.2]).zipIdx := by rw [h2]
      rw [List.zipIdx_map, List.zipIdx_map] at h3
      have h4 := congrArg (List.map fun p : Value × Nat => (p.2, p.1)) h3
      rw [List.map_map, List.map_map] at h4
      rw [hp]
      simp only [List.map_toArray, List.map_map]
      congr 1
    rw [e1, ← hlen]
    exact run_buildTwos vs hn w) h
end
end Go.Proofs.Ytbecjgikhfplmaa.Sl
