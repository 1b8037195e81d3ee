/-
  Rules on whole numbers that are none below 0, and on where a row lies. No condition.
-/
import Derived.Test.YtppdeeniljameaaSl
namespace Go.Proofs.Ytppdeeniljameaa.Sl
open Go.RowKit (Below)
theorem i64_nat {n : Nat} (h : n ≤ 9223372036854775807) : IntKind.i64.wrap (n : Int) = (n : Int) := IntWalk.i64_in _ (by omega)
theorem bits_i64 (op : BinOp) (f : Nat → Nat → Nat) {x y : Nat} (hx : x ≤ 9223372036854775807) (hy : y ≤ 9223372036854775807) (hf : f x y ≤ 9223372036854775807)
    (hop : Go.bits op .i64 (x : Int) (y : Int) = IntKind.i64.wrap ((f x y : Nat) : Int)) : Go.bits op .i64 (x : Int) (y : Int) = ((f x y : Nat) : Int) := by rw [hop, i64_nat hf]
theorem ofInt_toNat {n : Nat} (h : n ≤ 9223372036854775807) : (BitVec.ofInt 64 (n : Int)).toNat = n := by simp; omega
theorem xor_i64 {x y : Nat} (hx : x < 2 ^ 63) (hy : y < 2 ^ 63) : Go.bits .xor .i64 (x : Int) (y : Int) = ((x ^^^ y : Nat) : Int) := by
  have := Nat.xor_lt_two_pow hx hy
  show IntKind.i64.wrap ((BitVec.ofInt 64 (x : Int) ^^^ BitVec.ofInt 64 (y : Int)).toNat : Int) = _
  rw [BitVec.toNat_xor, ofInt_toNat (by omega), ofInt_toNat (by omega), i64_nat (by omega)]
theorem fill_one : ∀ (vs : List Value) (place : Nat → Option (Nat × Nat)) (k : Nat) (cells : Array Value), (∀ v ∈ vs, v.oneCell' = true) → (∀ i, place i = some (i * 1, 1)) → cells.size = k + vs.length →
    ∃ cs, Instr.fill place cells ((vs.zipIdx k).map fun p => (p.2, p.1)) = some cs ∧ cs.size = cells.size ∧ (∀ j, j < k → cs[j]? = cells[j]?) ∧ ∀ j, j < vs.length → cs[k + j]? = vs[j]?
  | [], _, _, cells, _, _, _ => ⟨cells, rfl, rfl, fun _ _ => rfl, fun j hj => absurd hj (Nat.not_lt_zero j)⟩
  | v :: vs, place, k, cells, h1, hp, hs => by
    have hc : v.cells = #[v] := by have := h1 v (by simp); cases v <;> first | rfl | (simp [Value.oneCell'] at this; done)
    simp only [List.length_cons] at hs
    obtain ⟨cs, e, es, el, ev⟩ := fill_one vs place (k + 1) (cells.setIfInBounds k v) (fun u hu => h1 u (by simp [hu])) hp (by rw [Array.size_setIfInBounds]; omega)
    refine ⟨cs, ?_, by simpa using es, fun j hj => ?_, fun j hj => ?_⟩
    · simp only [List.zipIdx_cons, List.map_cons, Instr.fill, hp, hc]
      rw [if_neg (by simp; omega)]
      simpa using e
    · rw [el j (by omega), Array.getElem?_setIfInBounds_ne (by omega)]
    · cases j with
      | zero =>
        have hk : k < cells.size := by omega
        rw [Nat.add_zero, el k (by omega)]; simp [Array.getElem?_setIfInBounds, hk]
      | succ j =>
        have := ev j (by simpa using hj)
        rw [show k + (j + 1) = k + 1 + j from by omega, this]; simp
theorem run_buildOnes {P : Program} {t E : TypeId} {by_ : Nat} {z : Value} [tu : TUnd P t (.slice E)] [te : TElem P E 1 by_ z] (vs : List Value) (h1 : ∀ v ∈ vs, v.oneCell' = true) (hn : vs.length ≤ 16777216) (w : World) :
    (Instr.buildSlice t vs.length (vs.zipIdx.map fun p => (p.2, p.1)).toArray).run P w = .ok (.slice (some ⟨w.heap.size, 0, none⟩) vs.length vs.length) { w with heap := w.heap.push (.cells vs.toArray E) } := by
  obtain ⟨i, hi, hs, hb, hz⟩ := te.ex
  have key : ∀ zero : Array Value, Instr.fill (fun i => some (i * 1, 1)) ((Array.range (vs.length * 1)).map (zero[· % zero.size]!)) (vs.zipIdx.map fun p => (p.2, p.1)) = some vs.toArray := fun zero => by
    obtain ⟨cs, e, es, _, ev⟩ := fill_one vs (fun i => some (i * 1, 1)) 0 ((Array.range (vs.length * 1)).map (zero[· % zero.size]!)) h1 (fun _ => rfl) (by simp)
    rw [e]
    congr 1
    apply Array.ext'
    apply List.ext_getElem?
    intro j
    by_cases hj : j < vs.length
    · have := ev j hj
      simpa using this
    · have h2 : cs.size = vs.length := by simpa using es
      rw [List.getElem?_eq_none (by simp; omega), List.getElem?_eq_none (by simp; omega)]
  have hsz : ∀ w, (sizeOf E).run P w = .ok 1 w := fun w => by simp [sizeOf, typeInfo, hi, hs, go_sem]
  have hzv : ∀ w, (zeroValue E).run P w = .ok z w := fun w => by simp [zeroValue, typeInfo, hi, hz, go_sem]
  simp only [Instr.buildSlice, Sem.run_bind, tu.run, Result.andThen_ok, hsz]
  rw [if_neg (by omega)]
  by_cases h0 : vs.length * 1 = 0
  · simp only [h0, if_true, Sem.run_bind, Sem.run_pure, Result.andThen_ok]
    have := key #[]
    rw [h0] at this
    simp only [Sem.run_pure, Sem.run_bind, Result.andThen_ok, this]
    rfl
  · simp only [h0, if_false, Sem.run_bind, Sem.run_pure, Result.andThen_ok, hzv, key]
    rfl
section
variable {X : Cx} {e : Env} {L L1 F : List Assn} {A : List Assn} {S : List Nat} {ops : Array Oper} {k : Nat} {l : List Oper} {R : Act → World → Prop} {G : Act → World → Prop}
variable {d : Nat} {T : TypeId} {pos : String} {af : Array Edge}
theorem r_addN {t u : TypeId} {x y : Operand} {m n : Nat} (hx : ev e x = some (.int .i64 (m : Int))) (hy : ev e y = some (.int .i64 (n : Int))) (hr : m + n ≤ 9223372036854775807)
    (hd : Nat.blt d X.n = true) (h : J X ((d, .int .i64 ((m + n : Nat) : Int)) :: e) L (sw X.P (Holds X.Φ A) S ops R (k + 1) l)) :
    J X e L (sw X.P (Holds X.Φ A) S ops R k (⟨some d, .binOp .add t x y u, T, pos, af, none⟩ :: l)) :=
  r_iop hx hy (by simp only [iop]; rw [show (m : Int) + (n : Int) = ((m + n : Nat) : Int) from rfl, i64_nat hr]) hd h
theorem r_subN {t u : TypeId} {x y : Operand} {m n : Nat} (hx : ev e x = some (.int .i64 (m : Int))) (hy : ev e y = some (.int .i64 (n : Int))) (hn : n ≤ m) (hr : m ≤ 9223372036854775807)
    (hd : Nat.blt d X.n = true) (h : J X ((d, .int .i64 ((m - n : Nat) : Int)) :: e) L (sw X.P (Holds X.Φ A) S ops R (k + 1) l)) :
    J X e L (sw X.P (Holds X.Φ A) S ops R k (⟨some d, .binOp .sub t x y u, T, pos, af, none⟩ :: l)) :=
  r_iop hx hy (by simp only [iop]; rw [show (m : Int) - (n : Int) = ((m - n : Nat) : Int) from by omega, i64_nat (by omega)]) hd h
theorem r_mulN {t u : TypeId} {x y : Operand} {m n : Nat} (hx : ev e x = some (.int .i64 (m : Int))) (hy : ev e y = some (.int .i64 (n : Int))) (hr : m * n ≤ 9223372036854775807)
    (hd : Nat.blt d X.n = true) (h : J X ((d, .int .i64 ((m * n : Nat) : Int)) :: e) L (sw X.P (Holds X.Φ A) S ops R (k + 1) l)) :
    J X e L (sw X.P (Holds X.Φ A) S ops R k (⟨some d, .binOp .mul t x y u, T, pos, af, none⟩ :: l)) :=
  r_iop hx hy (by simp only [iop]; rw [show (m : Int) * (n : Int) = ((m * n : Nat) : Int) from by simp, i64_nat hr]) hd h
theorem r_quoN {t u : TypeId} {x y : Operand} {ki : IntKind} {m n : Nat} (hx : ev e x = some (.int ki (m : Int))) (hy : ev e y = some (.int ki (n : Int))) (h0 : n ≠ 0) (hw : ki.wrap ((m / n : Nat) : Int) = ((m / n : Nat) : Int))
    (hd : Nat.blt d X.n = true) (h : J X ((d, .int ki ((m / n : Nat) : Int)) :: e) L (sw X.P (Holds X.Φ A) S ops R (k + 1) l)) :
    J X e L (sw X.P (Holds X.Φ A) S ops R k (⟨some d, .binOp .quo t x y u, T, pos, af, none⟩ :: l)) :=
  r_quo hx hy (by omega) hd (by
    have e1 : (m : Int).tdiv (n : Int) = ((m / n : Nat) : Int) := by rw [Int.tdiv_eq_ediv_of_nonneg (by omega)]; rfl
    rw [e1, hw]; exact h)
theorem r_remN {t u : TypeId} {x y : Operand} {ki : IntKind} {m n : Nat} (hx : ev e x = some (.int ki (m : Int))) (hy : ev e y = some (.int ki (n : Int))) (h0 : n ≠ 0)
    (hd : Nat.blt d X.n = true) (h : J X ((d, .int ki ((m % n : Nat) : Int)) :: e) L (sw X.P (Holds X.Φ A) S ops R (k + 1) l)) :
    J X e L (sw X.P (Holds X.Φ A) S ops R k (⟨some d, .binOp .rem t x y u, T, pos, af, none⟩ :: l)) :=
  r_rem hx hy (by omega) hd (by
    have e1 : (m : Int).tmod (n : Int) = ((m % n : Nat) : Int) := by rw [Int.tmod_eq_emod_of_nonneg (by omega)]; rfl
    rw [e1]; exact h)
/-- a row's literal of elements of one cell. -/
theorem r_build1s {t E : TypeId} {len : Nat} {parts : Array (Nat × Operand)} {by_ : Nat} {z : Value} [tu : TUnd X.P t (.slice E)] [te : TElem X.P E 1 by_ z] (as : List Operand) (vs : List Value) (hp : parts = (as.zipIdx.map fun p => (p.2, p.1)).toArray) (hvs : evL e as = some vs)
    (h1 : ∀ v ∈ vs, v.oneCell' = true) (hn : vs.length ≤ 16777216) (hlen : vs.length = len) (hs : S.contains k = false) (hd : Nat.blt d X.n = true) [st : ∀ b, Stay A (pt b (.cells vs.toArray E (0, 0)) :: L)]
    (h : ∀ b, J X ((d, .slice (some ⟨b, 0, none⟩) len len) :: e) (vec (some ⟨b, 0, none⟩) len len E 1 vs :: L) (sw X.P (Holds X.Φ A) S ops R (k + 1) l)) :
    J X e L (sw X.P (Holds X.Φ A) S ops R k (⟨some d, .buildSlice t len parts, T, pos, af, none⟩ :: l)) :=
  r_buildS (cells := vs) (s := 1) hs hd (by omega) (fun a w m => by
    have e1 : (parts.map fun (i, x) => (i, a.eval x)) = (vs.zipIdx.map fun p => (p.2, p.1)).toArray := by
      rw [hp, ← m.evL hvs, List.zipIdx_map]; simp [Function.comp_def]
    rw [e1, ← hlen]
    exact run_buildOnes vs h1 hn w) h
/-- where a row lies that is not empty. -/
theorem j_at (a : Option Addr) (n cap : Nat) (E : TypeId) (s : Nat) (xs : List Value) {M : List Assn} [f : Find (vec a n cap E s xs) L M] (hn : 0 < n ∨ a ≠ none) (h : ∀ b off, a = some ⟨b, off, none⟩ → xs.length = n * s → n ≤ cap → J X e L G) : J X e L G := fun act w m hh => by
  have hh1 := hh.ent f.ent
  obtain ⟨im, hp, r, h1, h2, pa, pb, pc, ⟨hl, hc, hd⟩, st⟩ := hh1
  rcases hd with ⟨rfl, rfl, rfl⟩ | ⟨b, off, pre, post, rfl, _⟩
  · rcases hn with hn | hn
    · exact absurd hn (Nat.lt_irrefl _)
    · exact absurd rfl hn
  · exact h b off rfl hl hc act w m hh
end
end Go.Proofs.Ytppdeeniljameaa.Sl
