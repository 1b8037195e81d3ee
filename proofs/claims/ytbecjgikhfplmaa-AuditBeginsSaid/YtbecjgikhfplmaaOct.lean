/-
  The contracts of the functions on numbers as bytes. For each input.
-/
import Derived.Test.YtbecjgikhfplmaaStep
namespace Go.Proofs.Ytbecjgikhfplmaa
open Go Sl
attribute [local irreducible] cw sw J Exit.then Exit.inBlock Exit.noGoto bodyPost swG swL permL
abbrev Pure (f : FuncId) (args : List Value) (v : Value) : Prop := ∀ Φ : Base, Sl.Fn Try.prog Φ f args [] (fun _ : Unit => True) (fun _ => v) (fun _ => [])
theorem wrapU8 {n : Nat} (h : n < 256) : IntKind.u8.wrap (n : Int) = (n : Int) := by
  simp [IntKind.wrap, IntKind.signed, IntKind.bits]; omega
theorem wrapM8 (n : Nat) : IntKind.u8.wrap (n : Int) = ((n % 256 : Nat) : Int) := by
  simp [IntKind.wrap, IntKind.signed, IntKind.bits]
theorem wrapU16 {n : Nat} (h : n < 65536) : IntKind.u16.wrap (n : Int) = (n : Int) := by
  simp [IntKind.wrap, IntKind.signed, IntKind.bits]; omega
theorem wrapM16 (n : Nat) : IntKind.u16.wrap (n : Int) = ((n % 65536 : Nat) : Int) := by
  simp [IntKind.wrap, IntKind.signed, IntKind.bits]
theorem wrapU32 {n : Nat} (h : n < 4294967296) : IntKind.u32.wrap (n : Int) = (n : Int) := by
  simp [IntKind.wrap, IntKind.signed, IntKind.bits]; omega
theorem wrapM32 (n : Nat) : IntKind.u32.wrap (n : Int) = ((n % 4294967296 : Nat) : Int) := by
  simp [IntKind.wrap, IntKind.signed, IntKind.bits]
theorem wrapU64 {n : Nat} (h : n < 18446744073709551616) : IntKind.u64.wrap (n : Int) = (n : Int) := by
  simp [IntKind.wrap, IntKind.signed, IntKind.bits]; omega
theorem wrapM64 (n : Nat) : IntKind.u64.wrap (n : Int) = ((n % 18446744073709551616 : Nat) : Int) := by
  simp [IntKind.wrap, IntKind.signed, IntKind.bits]
theorem width16_c : Pure F.octet_width_uint16 [] (i64 2) := by
  intro Φ
  refine fn_of rfl rfl (fun F => ?_)
  dsimp only [argEnv, List.cons_append, List.nil_append, Nat.zero_add, Nat.reduceAdd]
  repeat refine s1 ?_
  refine r_cpl rfl rfl ?_
  repeat refine s1 ?_
  refine t_loop (σ := Nat) (fun i => [(1, i64 i), (2, .int .u16 ((65535 / 256 ^ i : Nat) : Int))]) (fun _ => F) (fun i => i ≤ 2) (fun i => 2 - i) 0 (by decide) ⟨rfl, rfl, trivial⟩ (Ent.refl _) ?_
  intro i hi
  repeat refine s1 ?_
  refine r_iop rfl rfl rfl rfl ?_
  repeat refine s1 ?_
  have hw : 65535 / 256 ^ i / 256 = 65535 / 256 ^ (i + 1) := by rw [Nat.div_div_eq_div_mul, Nat.pow_succ]
  have hle : 65535 / 256 ^ i ≤ 65535 := Nat.div_le_self _ _
  have hle1 : 65535 / 256 ^ (i + 1) ≤ 65535 := Nat.div_le_self _ _
  refine t_condN rfl (fun h => ?_) (fun h => ?_)
  · have hi2 : i < 2 := by
      rcases Nat.lt_or_ge i 2 with h2 | h2
      · exact h2
      · exfalso; apply h
        have : i = 2 := by omega
        subst this; rfl
    repeat refine s1 ?_
    rw [wrapU64 (n := 65535 / 256 ^ i) (by omega)]
    refine r_shr rfl rfl (by decide) (by decide) rfl ?_
    refine j_val (.int .u64 ((65535 / 256 ^ (i + 1) : Nat) : Int)) (by rw [← hw]; simp) ?_
    repeat refine s1 ?_
    rw [wrapU16 (n := 65535 / 256 ^ (i + 1)) (by omega)]
    exact j_again (i + 1) (by omega) (by omega) ⟨rfl, rfl, trivial⟩ (Ent.refl _)
  · have hi2 : i = 2 := by
      rcases Nat.lt_or_ge i 2 with h2 | h2
      · exfalso
        have h3 : 65535 / 256 ^ i = 0 := by omega
        have h4 : 256 ^ i ≤ 256 ^ 1 := Nat.pow_le_pow_right (by decide) (by omega)
        have h5 := Nat.div_eq_zero_iff.1 h3
        have h6 : (256 ^ 1 : Nat) ≤ 65535 := by decide
        rcases h5 with h5 | h5
        · exact absurd h5 (Nat.ne_of_gt (Nat.pow_pos (by decide)))
        · omega
      · omega
    subst hi2
    repeat refine s1 ?_
    refine j_fin rfl (.cons (rv_tmp rfl) .nil) () (by rfl) (by trivial)
theorem width8_c : Pure F.octet_width_uint8 [] (i64 1) := by
  intro Φ
  refine fn_of rfl rfl (fun F => ?_)
  dsimp only [argEnv, List.cons_append, List.nil_append, Nat.zero_add, Nat.reduceAdd]
  repeat refine s1 ?_
  refine r_cpl rfl rfl ?_
  repeat refine s1 ?_
  refine t_loop (σ := Nat) (fun i => [(1, i64 i), (2, .int .u8 ((255 / 256 ^ i : Nat) : Int))]) (fun _ => F) (fun i => i ≤ 1) (fun i => 1 - i) 0 (by decide) ⟨rfl, rfl, trivial⟩ (Ent.refl _) ?_
  intro i hi
  repeat refine s1 ?_
  refine r_iop rfl rfl rfl rfl ?_
  repeat refine s1 ?_
  have hw : 255 / 256 ^ i / 256 = 255 / 256 ^ (i + 1) := by rw [Nat.div_div_eq_div_mul, Nat.pow_succ]
  have hle : 255 / 256 ^ i ≤ 255 := Nat.div_le_self _ _
  have hle1 : 255 / 256 ^ (i + 1) ≤ 255 := Nat.div_le_self _ _
  refine t_condN rfl (fun h => ?_) (fun h => ?_)
  · have hi2 : i < 1 := by
      rcases Nat.lt_or_ge i 1 with h2 | h2
      · exact h2
      · exfalso; apply h
        have : i = 1 := by omega
        subst this; rfl
    repeat refine s1 ?_
    rw [wrapU64 (n := 255 / 256 ^ i) (by omega)]
    refine r_shr rfl rfl (by decide) (by decide) rfl ?_
    refine j_val (.int .u64 ((255 / 256 ^ (i + 1) : Nat) : Int)) (by rw [← hw]; simp) ?_
    repeat refine s1 ?_
    rw [wrapU8 (n := 255 / 256 ^ (i + 1)) (by omega)]
    exact j_again (i + 1) (by omega) (by omega) ⟨rfl, rfl, trivial⟩ (Ent.refl _)
  · have hi2 : i = 1 := by
      rcases Nat.lt_or_ge i 1 with h2 | h2
      · exfalso
        have h3 : 255 / 256 ^ i = 0 := by omega
        have h4 : 256 ^ i ≤ 256 ^ 0 := Nat.pow_le_pow_right (by decide) (by omega)
        have h5 := Nat.div_eq_zero_iff.1 h3
        have h6 : (256 ^ 0 : Nat) ≤ 255 := by decide
        rcases h5 with h5 | h5
        · exact absurd h5 (Nat.ne_of_gt (Nat.pow_pos (by decide)))
        · omega
      · omega
    subst hi2
    repeat refine s1 ?_
    refine j_fin rfl (.cons (rv_tmp rfl) .nil) () (by rfl) (by trivial)
theorem width32_c : Pure F.octet_width_uint32 [] (i64 4) := by
  intro Φ
  refine fn_of rfl rfl (fun F => ?_)
  dsimp only [argEnv, List.cons_append, List.nil_append, Nat.zero_add, Nat.reduceAdd]
  repeat refine s1 ?_
  refine r_cpl rfl rfl ?_
  repeat refine s1 ?_
  refine t_loop (σ := Nat) (fun i => [(1, i64 i), (2, .int .u32 ((4294967295 / 256 ^ i : Nat) : Int))]) (fun _ => F) (fun i => i ≤ 4) (fun i => 4 - i) 0 (by decide) ⟨rfl, rfl, trivial⟩ (Ent.refl _) ?_
  intro i hi
  repeat refine s1 ?_
  refine r_iop rfl rfl rfl rfl ?_
  repeat refine s1 ?_
  have hw : 4294967295 / 256 ^ i / 256 = 4294967295 / 256 ^ (i + 1) := by rw [Nat.div_div_eq_div_mul, Nat.pow_succ]
  have hle : 4294967295 / 256 ^ i ≤ 4294967295 := Nat.div_le_self _ _
  have hle1 : 4294967295 / 256 ^ (i + 1) ≤ 4294967295 := Nat.div_le_self _ _
  refine t_condN rfl (fun h => ?_) (fun h => ?_)
  · have hi2 : i < 4 := by
      rcases Nat.lt_or_ge i 4 with h2 | h2
      · exact h2
      · exfalso; apply h
        have : i = 4 := by omega
        subst this; rfl
    repeat refine s1 ?_
    rw [wrapU64 (n := 4294967295 / 256 ^ i) (by omega)]
    refine r_shr rfl rfl (by decide) (by decide) rfl ?_
    refine j_val (.int .u64 ((4294967295 / 256 ^ (i + 1) : Nat) : Int)) (by rw [← hw]; simp) ?_
    repeat refine s1 ?_
    rw [wrapU32 (n := 4294967295 / 256 ^ (i + 1)) (by omega)]
    exact j_again (i + 1) (by omega) (by omega) ⟨rfl, rfl, trivial⟩ (Ent.refl _)
  · have hi2 : i = 4 := by
      rcases Nat.lt_or_ge i 4 with h2 | h2
      · exfalso
        have h3 : 4294967295 / 256 ^ i = 0 := by omega
        have h4 : 256 ^ i ≤ 256 ^ 3 := Nat.pow_le_pow_right (by decide) (by omega)
        have h5 := Nat.div_eq_zero_iff.1 h3
        have h6 : (256 ^ 3 : Nat) ≤ 4294967295 := by decide
        rcases h5 with h5 | h5
        · exact absurd h5 (Nat.ne_of_gt (Nat.pow_pos (by decide)))
        · omega
      · omega
    subst hi2
    repeat refine s1 ?_
    refine j_fin rfl (.cons (rv_tmp rfl) .nil) () (by rfl) (by trivial)
theorem Ent.unvec0 {b n cap : Nat} {E : TypeId} {s : Nat} {xs : List Value} (hc : cap = n) (L : List Assn) : Ent (Sl.vec (some ⟨b, 0, none⟩) n cap E s xs :: L) (pt b (.cells xs.toArray E (0, 0)) :: L) := fun _ _ ⟨p1, p2, pa, pb, pc, ⟨hl, hn, hd⟩, st⟩ => by
  rcases hd with ⟨h, _⟩ | ⟨b', off, pre, post, h, h1, h2, h3⟩
  · cases h
  · cases h
    subst hc
    have e1 : pre = [] := List.eq_nil_of_length_eq_zero h1
    have e2 : post = [] := List.eq_nil_of_length_eq_zero (by rw [h2, Nat.sub_self, Nat.zero_mul])
    subst e1 e2
    exact ⟨p1, p2, pa, pb, pc, by show p1 b = _; simpa using h3, st⟩
/-- a number as so many bytes, the great ones first. -/
def be (n v : Nat) : List Nat := (List.range n).map fun i => v / 256 ^ (n - 1 - i) % 256
theorem be_len (n v : Nat) : (be n v).length = n := by simp [be]
theorem be_at {n v i : Nat} (h : i < n) : (be n v)[i]? = some (v / 256 ^ (n - 1 - i) % 256) := by simp [be, h]
theorem be_lt (n v : Nat) : ∀ x ∈ be n v, x < 256 := fun x hx => by
  obtain ⟨i, _, rfl⟩ := List.mem_map.1 hx
  exact Nat.mod_lt _ (by decide)
theorem put16_c (v : Nat) (hv : v < 2 ^ 16) (Φ : Base) : Sl.Fn Try.prog Φ F.octet_Put_uint16 [.int .u16 (v : Int)] [] (fun _ : Nat => True) (fun b => .slice (some ⟨b, 0, none⟩) 2 2) (fun b => [vec (some ⟨b, 0, none⟩) 2 2 T.uint8 1 ((be 2 v).map u8)]) := by
  refine fn_of rfl rfl (fun F => ?_)
  dsimp only [argEnv, List.cons_append, List.nil_append, Nat.zero_add, Nat.reduceAdd]
  repeat refine s1 ?_
  refine r_call rfl (blt_some rfl) rfl (width16_c Φ) ?_
  intro _ _; dsimp only [bnd, List.cons_append, List.nil_append]
  repeat refine s1 ?_
  refine r_makeSlice (n := 2) (c := 2) rfl rfl (by decide) (by decide) (by decide) rfl rfl rfl (fun b => ?_)
  refine j_ent (Ent.unvec0 rfl _) ?_
  repeat refine s1 ?_
  refine t_loop (σ := Nat × List Nat) (fun s => [(10, i64 s.1), (9, i64 2), (3, i64 2), (4, .slice (some ⟨b, 0, none⟩) 2 2), (0, .int .u16 (v : Int))]) (fun s => pt b (.cells (s.2.map u8).toArray T.uint8 (0, 0)) :: F)
    (fun s => s.1 ≤ 2 ∧ s.2.length = 2 ∧ ∀ j, j < s.1 → s.2[j]? = some (v / 256 ^ (2 - 1 - j) % 256)) (fun s => 2 - s.1) (0, List.replicate 2 0) ⟨by show 0 ≤ 2; decide, rfl, fun j hj => absurd hj (Nat.not_lt_zero j)⟩ ⟨rfl, rfl, rfl, rfl, rfl, trivial⟩ (Ent.refl _) ?_
  rintro ⟨i, xs⟩ ⟨hi, hl, hx⟩
  dsimp only at *
  repeat refine s1 ?_
  refine r_iop rfl rfl rfl rfl ?_
  repeat refine s1 ?_
  refine t_condD rfl (fun h => ?_) (fun h => ?_)
  · repeat refine s1 ?_
    rw [wrapU64 (n := v) (by omega)]
    refine r_subN (n := 1) rfl rfl (by decide) (by decide) rfl ?_
    repeat refine s1 ?_
    refine r_subN rfl rfl (by omega) (by decide) rfl ?_
    refine r_mulN (m := 8) rfl rfl (by omega) rfl ?_
    refine r_shr rfl rfl (by omega) (by simp [IntKind.bits]; omega) rfl ?_
    refine j_val (.int .u64 ((v / 256 ^ (2 - 1 - i) : Nat) : Int)) (by
      have e : (256 : Nat) ^ (2 - 1 - i) = 2 ^ (8 * (2 - 1 - i)) := by rw [Nat.pow_mul]
      rw [e, Int.toNat_natCast]; simp) ?_
    repeat refine s1 ?_
    rw [wrapM8 (v / 256 ^ (2 - 1 - i))]
    refine r_idx rfl rfl (by omega) (by omega) rfl ?_
    refine r_store1 rfl rfl (by simp [hl]; omega) rfl rfl ?_
    repeat refine s1 ?_
    refine j_again (i + 1, xs.set i (v / 256 ^ (2 - 1 - i) % 256)) ⟨by show i + 1 ≤ 2; omega, by simpa using hl, fun j hj => ?_⟩ (by show 2 - (i + 1) < 2 - i; omega) ⟨rfl, rfl, rfl, rfl, rfl, trivial⟩ ?_
    · by_cases e : j = i
      · subst e; exact List.getElem?_set_self (by omega)
      · show (xs.set i _)[j]? = _
        rw [List.getElem?_set_ne (Ne.symm e)]
        exact hx j (by have : j < i + 1 := hj; omega)
    · have e1 : (xs.map u8).set (0 + (i : Int).toNat * 1) (u8 (v / 256 ^ (2 - 1 - i) % 256)) = (xs.set i (v / 256 ^ (2 - 1 - i) % 256)).map u8 := by simp [List.map_set]
      rw [e1]
      exact Ent.refl _
  · have e : i = 2 := by omega
    subst e
    have hxs : xs = be 2 v := by
      apply List.ext_getElem?
      intro j
      by_cases hj : j < 2
      · rw [hx j hj, be_at hj]
      · rw [List.getElem?_eq_none (by omega), List.getElem?_eq_none (by rw [be_len]; omega)]
    subst hxs
    repeat refine s1 ?_
    refine j_ent (Ent.vec0 (n := 2) (s := 1) (by simp [be_len]) _) ?_
    refine j_fin rfl (.cons (rv_tmp rfl) .nil) b (by rfl) (by trivial)
theorem put32_c (v : Nat) (hv : v < 2 ^ 32) (Φ : Base) : Sl.Fn Try.prog Φ F.octet_Put_uint32 [.int .u32 (v : Int)] [] (fun _ : Nat => True) (fun b => .slice (some ⟨b, 0, none⟩) 4 4) (fun b => [vec (some ⟨b, 0, none⟩) 4 4 T.uint8 1 ((be 4 v).map u8)]) := by
  refine fn_of rfl rfl (fun F => ?_)
  dsimp only [argEnv, List.cons_append, List.nil_append, Nat.zero_add, Nat.reduceAdd]
  repeat refine s1 ?_
  refine r_call rfl (blt_some rfl) rfl (width32_c Φ) ?_
  intro _ _; dsimp only [bnd, List.cons_append, List.nil_append]
  repeat refine s1 ?_
  refine r_makeSlice (n := 4) (c := 4) rfl rfl (by decide) (by decide) (by decide) rfl rfl rfl (fun b => ?_)
  refine j_ent (Ent.unvec0 rfl _) ?_
  repeat refine s1 ?_
  refine t_loop (σ := Nat × List Nat) (fun s => [(10, i64 s.1), (9, i64 4), (3, i64 4), (4, .slice (some ⟨b, 0, none⟩) 4 4), (0, .int .u32 (v : Int))]) (fun s => pt b (.cells (s.2.map u8).toArray T.uint8 (0, 0)) :: F)
    (fun s => s.1 ≤ 4 ∧ s.2.length = 4 ∧ ∀ j, j < s.1 → s.2[j]? = some (v / 256 ^ (4 - 1 - j) % 256)) (fun s => 4 - s.1) (0, List.replicate 4 0) ⟨by show 0 ≤ 4; decide, rfl, fun j hj => absurd hj (Nat.not_lt_zero j)⟩ ⟨rfl, rfl, rfl, rfl, rfl, trivial⟩ (Ent.refl _) ?_
  rintro ⟨i, xs⟩ ⟨hi, hl, hx⟩
  dsimp only at *
  repeat refine s1 ?_
  refine r_iop rfl rfl rfl rfl ?_
  repeat refine s1 ?_
  refine t_condD rfl (fun h => ?_) (fun h => ?_)
  · repeat refine s1 ?_
    rw [wrapU64 (n := v) (by omega)]
    refine r_subN (n := 1) rfl rfl (by decide) (by decide) rfl ?_
    repeat refine s1 ?_
    refine r_subN rfl rfl (by omega) (by decide) rfl ?_
    refine r_mulN (m := 8) rfl rfl (by omega) rfl ?_
    refine r_shr rfl rfl (by omega) (by simp [IntKind.bits]; omega) rfl ?_
    refine j_val (.int .u64 ((v / 256 ^ (4 - 1 - i) : Nat) : Int)) (by
      have e : (256 : Nat) ^ (4 - 1 - i) = 2 ^ (8 * (4 - 1 - i)) := by rw [Nat.pow_mul]
      rw [e, Int.toNat_natCast]; simp) ?_
    repeat refine s1 ?_
    rw [wrapM8 (v / 256 ^ (4 - 1 - i))]
    refine r_idx rfl rfl (by omega) (by omega) rfl ?_
    refine r_store1 rfl rfl (by simp [hl]; omega) rfl rfl ?_
    repeat refine s1 ?_
    refine j_again (i + 1, xs.set i (v / 256 ^ (4 - 1 - i) % 256)) ⟨by show i + 1 ≤ 4; omega, by simpa using hl, fun j hj => ?_⟩ (by show 4 - (i + 1) < 4 - i; omega) ⟨rfl, rfl, rfl, rfl, rfl, trivial⟩ ?_
    · by_cases e : j = i
      · subst e; exact List.getElem?_set_self (by omega)
      · show (xs.set i _)[j]? = _
        rw [List.getElem?_set_ne (Ne.symm e)]
        exact hx j (by have : j < i + 1 := hj; omega)
    · have e1 : (xs.map u8).set (0 + (i : Int).toNat * 1) (u8 (v / 256 ^ (4 - 1 - i) % 256)) = (xs.set i (v / 256 ^ (4 - 1 - i) % 256)).map u8 := by simp [List.map_set]
      rw [e1]
      exact Ent.refl _
  · have e : i = 4 := by omega
    subst e
    have hxs : xs = be 4 v := by
      apply List.ext_getElem?
      intro j
      by_cases hj : j < 4
      · rw [hx j hj, be_at hj]
      · rw [List.getElem?_eq_none (by omega), List.getElem?_eq_none (by rw [be_len]; omega)]
    subst hxs
    repeat refine s1 ?_
    refine j_ent (Ent.vec0 (n := 4) (s := 1) (by simp [be_len]) _) ?_
    refine j_fin rfl (.cons (rv_tmp rfl) .nil) b (by rfl) (by trivial)
/-- a row of bytes that nobody turns. -/
abbrev brow (a : Option Addr) (n cap : Nat) (xs : List Nat) : Assn := isl a n cap T.uint8 1 (xs.map u8)
theorem equal_c (a a2 : Option Addr) (n cap n2 cap2 : Nat) (xs ys : List Nat) (hx : ∀ x ∈ xs, x < 256) (hy : ∀ y ∈ ys, y < 256) (Φ : Base) :
    Sl.Fn Try.prog Φ F.bytes_Equal [.slice a n cap, .slice a2 n2 cap2] [brow a n cap xs, brow a2 n2 cap2 ys] (fun _ : Unit => True) (fun _ => .bool (decide (xs = ys))) (fun _ => []) := by
  refine fn_of rfl rfl (fun F => ?_)
  dsimp only [argEnv, List.cons_append, List.nil_append, Nat.zero_add, Nat.reduceAdd]
  repeat refine s1 ?_
  refine r_toStr xs rfl rfl rfl rfl ?_
  repeat refine s1 ?_
  refine r_toStr ys rfl rfl rfl rfl ?_
  repeat refine s1 ?_
  refine r_streq rfl rfl rfl ?_
  repeat refine s1 ?_
  refine j_fin rfl (.cons (rv_tmp rfl) .nil) () (by simp only [pack]; rw [bstr_beq hx hy]) (by trivial)
theorem clone_c (a : Option Addr) (n cap : Nat) (vs : List Value) (h1 : ∀ v ∈ vs, v.oneCell' = true) (hb : n ≤ 140737488355328) (Φ : Base) :
    Sl.Fn Try.prog Φ F.slices_Clone_byte_byte [.slice a n cap] [isl a n cap T.uint8 1 vs] (fun _ : Option Addr × Nat => True) (fun p => .slice p.1 n p.2) (fun p => [vec p.1 n p.2 T.uint8 1 vs]) := by
  refine fn_of rfl rfl (fun F => ?_)
  dsimp only [argEnv, List.cons_append, List.nil_append, Nat.zero_add, Nat.reduceAdd]
  refine j_leni (fun hl hc ha => ?_)
  repeat refine s1 ?_
  refine r_seq rfl rfl rfl ?_
  repeat refine s1 ?_
  cases a with
  | none =>
    have hn : n = 0 := by
      rcases Nat.eq_zero_or_pos n with h | h
      · exact h
      · obtain ⟨b, off, h⟩ := ha h; cases h
    subst hn
    have hv : vs = [] := List.eq_nil_of_length_eq_zero (by simpa using hl)
    subst hv
    refine t_condT rfl rfl ?_
    repeat refine s1 ?_
    refine j_ent (Ent.vecNil (E := T.uint8) (s := 1) _) ?_
    refine j_fin rfl (.cons (rv_tmp rfl) .nil) (none, 0) (by rfl) (by trivial)
  | some ad =>
    refine t_condF rfl rfl ?_
    repeat refine s1 ?_
    refine r_build1s [] [] rfl rfl (by simp) (by simp) rfl rfl rfl (fun b => ?_)
    repeat refine s1 ?_
    refine r_append (s := 1) (xs := []) (ys := vs) rfl rfl (by decide) (by rfl) h1 (by omega) (by omega) rfl rfl (fun a' cap' hn => ?_)
    repeat refine s1 ?_
    rw [Nat.zero_add, List.nil_append]
    refine j_fin rfl (.cons (rv_tmp rfl) .nil) (a', cap') (by rfl) (by trivial)
/-- a reader of bytes: what is left; none: it was short. -/
def rdr (p : Nat) : Option (List Nat) → Assn
  | some bs => ex fun q : Option Addr × Nat => all [pt p (.cells #[.slice q.1 bs.length q.2, .bool false] T.octet_Reader (0, 0)), brow q.1 bs.length q.2 bs]
  | none => ex fun q : Option Addr × Nat × Nat => pt p (.cells #[.slice q.1 q.2.1 q.2.2, .bool true] T.octet_Reader (0, 0))
theorem ent_rdr {p : Nat} {a : Option Addr} {cap : Nat} {bs : List Nat} {L : List Assn} : Ent (pt p (.cells #[.slice a bs.length cap, .bool false] T.octet_Reader (0, 0)) :: brow a bs.length cap bs :: L) (rdr p (some bs) :: L) :=
  (Ent.unall [pt p (.cells #[.slice a bs.length cap, .bool false] T.octet_Reader (0, 0)), brow a bs.length cap bs] L).trans (Ent.mkEx (f := fun q : Option Addr × Nat => all [pt p (.cells #[.slice q.1 bs.length q.2, .bool false] T.octet_Reader (0, 0)), brow q.1 bs.length q.2 bs]) (a, cap))
theorem ent_rdrN {p : Nat} {a : Option Addr} {n cap : Nat} {L : List Assn} : Ent (pt p (.cells #[.slice a n cap, .bool true] T.octet_Reader (0, 0)) :: L) (rdr p none :: L) :=
  Ent.mkEx (f := fun q : Option Addr × Nat × Nat => pt p (.cells #[.slice q.1 q.2.1 q.2.2, .bool true] T.octet_Reader (0, 0))) (a, n, cap)
theorem j_rdr {X : Cx} {e : Env} {L : List Assn} {G : Act → World → Prop} {p : Nat} {bs : List Nat} (h : ∀ a cap, J X e (pt p (.cells #[.slice a bs.length cap, .bool false] T.octet_Reader (0, 0)) :: brow a bs.length cap bs :: L) G) : J X e (rdr p (some bs) :: L) G :=
  j_ex fun q => j_ent (Ent.all [pt p (.cells #[.slice q.1 bs.length q.2, .bool false] T.octet_Reader (0, 0)), brow q.1 bs.length q.2 bs] L) (h q.1 q.2)
theorem j_rdrN {X : Cx} {e : Env} {L : List Assn} {G : Act → World → Prop} {p : Nat} (h : ∀ a n cap, J X e (pt p (.cells #[.slice a n cap, .bool true] T.octet_Reader (0, 0)) :: L) G) : J X e (rdr p none :: L) G :=
  j_ex fun q => h q.1 q.2.1 q.2.2
theorem read_c (a : Option Addr) (n cap : Nat) (bs : List Nat) (hb : n ≤ 140737488355328) (hn : bs.length = n) (Φ : Base) :
    Sl.Fn Try.prog Φ F.octet_Read [.slice a n cap] [brow a n cap bs] (fun _ : Nat => True) (fun p => .pointer (some ⟨p, 0, none⟩)) (fun p => [rdr p (some bs)]) := by
  subst hn
  refine fn_of rfl rfl (fun F => ?_)
  dsimp only [argEnv, List.cons_append, List.nil_append, Nat.zero_add, Nat.reduceAdd]
  repeat refine s1 ?_
  refine r_call rfl (blt_some rfl) rfl (clone_c a bs.length cap (bs.map u8) (fun v hv => by obtain ⟨x, _, rfl⟩ := List.mem_map.1 hv; rfl) hb Φ) ?_
  rintro ⟨a', cap'⟩ _
  dsimp only [bnd, List.cons_append, List.nil_append]
  repeat refine s1 ?_
  refine r_build (cells := [.slice a' bs.length cap', .bool false]) rfl rfl rfl ?_
  repeat refine s1 ?_
  refine r_box (cs := [.slice a' bs.length cap', .bool false]) rfl rfl rfl rfl (fun p => ?_)
  repeat refine s1 ?_
  refine j_freezeV a' bs.length cap' T.uint8 1 (bs.map u8) ?_
  refine j_ent ((Ent.swap _ _ _).trans ent_rdr) ?_
  refine j_fin rfl (.cons (rv_tmp rfl) .nil) p (by rfl) (by trivial)
theorem j_split {X : Cx} {e : Env} {L R : List Assn} {G : Act → World → Prop} (A : List Assn) [sp : Split A L R] (h : J X e (A ++ R) G) : J X e L G := j_ent sp.ent h
theorem bytes_c (p k : Nat) (bs : List Nat) (hk : k ≤ bs.length) (Φ : Base) :
    Sl.Fn Try.prog Φ F.octet_Reader_Bytes [.pointer (some ⟨p, 0, none⟩), i64 k] [rdr p (some bs)] (fun _ : Option Addr => True) (fun a => .slice a k k) (fun a => [rdr p (some (bs.drop k)), brow a k k (bs.take k)]) := by
  refine fn_of rfl rfl (fun F => ?_)
  dsimp only [argEnv, List.cons_append, List.nil_append, Nat.zero_add, Nat.reduceAdd]
  refine j_rdr (fun a cap => ?_)
  refine j_ent (Ent.swap _ _ _) ?_
  refine j_leni (fun hl hc ha => ?_)
  repeat refine s1 ?_
  refine r_cmpF rfl rfl rfl (by simp) rfl ?_
  repeat refine s1 ?_
  refine r_cmpF rfl rfl rfl (by simp; omega) rfl ?_
  repeat refine s1 ?_
  refine r_piece 0 k k rfl (.inl ⟨rfl, rfl⟩) (.inr ⟨.i64, rfl⟩) (.inr ⟨.i64, rfl⟩) (by omega) (by omega) (by omega) rfl ?_
  repeat refine s1 ?_
  refine r_piece k bs.length cap rfl (.inr ⟨.i64, rfl⟩) (.inl ⟨rfl, rfl, rfl⟩) (.inl ⟨rfl, rfl⟩) (by omega) (by omega) (by omega) rfl ?_
  repeat refine s1 ?_
  refine r_store1 rfl rfl (by simp) rfl rfl ?_
  repeat refine s1 ?_
  have e1 : ((bs.map u8).drop (0 * 1)).take ((k - 0) * 1) = (bs.take k).map u8 := by simp [List.map_take]
  have e2 : ((bs.map u8).drop (k * 1)).take ((bs.length - k) * 1) = (bs.drop k).map u8 := by
    rw [Nat.mul_one, Nat.mul_one, List.take_of_length_le (by simp), List.map_drop]
  have e3 : bs.length - k = (bs.drop k).length := by simp
  have P1 := Ent.piece (a := a) (n := bs.length) (cap := cap) (lo := 0) (hi := k) (mx := k) (E := T.uint8) (s := 1) (xs := bs.map u8) (by omega) hk (by omega) rfl
  have P2 := Ent.piece (a := a) (n := bs.length) (cap := cap) (lo := k) (hi := bs.length) (mx := cap) (E := T.uint8) (s := 1) (xs := bs.map u8) hk (Nat.le_refl _) hc rfl
  rw [e1] at P1
  rw [e2] at P2
  refine j_ent (P1 _) ?_
  refine j_ent (Ent.swap _ _ _) ?_
  refine j_ent (P2 _) ?_
  generalize (if k = 0 then a else a.map (·.add (0 * 1))) = a1
  generalize (if cap = k then a else a.map (·.add (k * 1))) = a2
  rw [e3, Nat.sub_zero]
  refine j_split [pt p (.cells #[.slice a2 (bs.drop k).length (cap - k), .bool false] T.octet_Reader (0, 0)), brow a2 (bs.drop k).length (cap - k) (bs.drop k)] ?_
  dsimp only [List.cons_append, List.nil_append]
  refine j_ent ent_rdr ?_
  refine j_fin rfl (.cons (rv_tmp rfl) .nil) a1 (by rfl) (by trivial)
theorem bytesS_c (p k : Nat) (bs : List Nat) (hk : bs.length < k) (Φ : Base) :
    Sl.Fn Try.prog Φ F.octet_Reader_Bytes [.pointer (some ⟨p, 0, none⟩), i64 k] [rdr p (some bs)] (fun _ : Unit => True) (fun _ => .slice none 0 0) (fun _ => [rdr p none]) := by
  refine fn_of rfl rfl (fun F => ?_)
  dsimp only [argEnv, List.cons_append, List.nil_append, Nat.zero_add, Nat.reduceAdd]
  refine j_rdr (fun a cap => ?_)
  repeat refine s1 ?_
  refine r_cmpF rfl rfl rfl (by simp) rfl ?_
  repeat refine s1 ?_
  refine r_cmpT rfl rfl rfl (by simp; omega) rfl ?_
  repeat refine s1 ?_
  refine r_store1 rfl rfl (by simp) rfl rfl ?_
  repeat refine s1 ?_
  refine j_ent ent_rdrN ?_
  refine j_fin rfl (.cons (rv_tmp rfl) .nil) () (by rfl) (by trivial)
theorem bytesN_c (p k : Nat) (Φ : Base) :
    Sl.Fn Try.prog Φ F.octet_Reader_Bytes [.pointer (some ⟨p, 0, none⟩), i64 k] [rdr p none] (fun _ : Unit => True) (fun _ => .slice none 0 0) (fun _ => [rdr p none]) := by
  refine fn_of rfl rfl (fun F => ?_)
  dsimp only [argEnv, List.cons_append, List.nil_append, Nat.zero_add, Nat.reduceAdd]
  refine j_rdrN (fun a n cap => ?_)
  repeat refine s1 ?_
  refine r_store1 rfl rfl (by simp) rfl rfl ?_
  repeat refine s1 ?_
  refine j_ent ent_rdrN ?_
  refine j_fin rfl (.cons (rv_tmp rfl) .nil) () (by rfl) (by trivial)
/-- what 'Rest' gives. -/
theorem rest_c (p : Nat) (bs : List Nat) (hb : bs.length ≤ 9223372036854775807) (Φ : Base) :
    Sl.Fn Try.prog Φ F.octet_Reader_Rest [.pointer (some ⟨p, 0, none⟩)] [rdr p (some bs)] (fun _ : Option Addr => True) (fun a => .slice a bs.length bs.length) (fun a => [rdr p (some []), brow a bs.length bs.length bs]) := by
  refine fn_of rfl rfl (fun F => ?_)
  dsimp only [argEnv, List.cons_append, List.nil_append, Nat.zero_add, Nat.reduceAdd]
  refine j_rdr (fun a cap => ?_)
  repeat refine s1 ?_
  refine j_ent ent_rdr ?_
  refine r_call rfl (blt_some rfl) rfl (bytes_c p bs.length bs (Nat.le_refl _) Φ) ?_
  intro a1 _
  dsimp only [bnd, List.cons_append, List.nil_append]
  rw [List.drop_length, List.take_length]
  repeat refine s1 ?_
  refine j_fin rfl (.cons (rv_tmp rfl) .nil) a1 (by rfl) (by trivial)
theorem restN_c (p : Nat) (Φ : Base) :
    Sl.Fn Try.prog Φ F.octet_Reader_Rest [.pointer (some ⟨p, 0, none⟩)] [rdr p none] (fun _ : Unit => True) (fun _ => .slice none 0 0) (fun _ => [rdr p none]) := by
  refine fn_of rfl rfl (fun F => ?_)
  dsimp only [argEnv, List.cons_append, List.nil_append, Nat.zero_add, Nat.reduceAdd]
  refine j_rdrN (fun a n cap => ?_)
  repeat refine s1 ?_
  refine j_ent ent_rdrN ?_
  refine j_fin rfl (.cons (rv_tmp rfl) .nil) () (by rfl) (by trivial)
/-- bytes as a number. -/
def num (bs : List Nat) : Nat := bs.foldl (fun v c => v * 256 + c) 0
theorem num_snoc (bs : List Nat) (c : Nat) : num (bs ++ [c]) = num bs * 256 + c := by simp [num]
theorem num_lt : ∀ (n : Nat) (bs : List Nat), bs.length = n → (∀ x ∈ bs, x < 256) → num bs < 256 ^ n
  | 0, bs, h, _ => by have : bs = [] := List.eq_nil_of_length_eq_zero h; subst this; decide
  | n + 1, bs, h, hx => by
    obtain ⟨b, c, rfl⟩ : ∃ b c, bs = b ++ [c] := ⟨bs.dropLast, bs.getLast (by intro e; rw [e] at h; cases h), (List.dropLast_concat_getLast _).symm⟩
    have h1 := num_lt n b (by simpa using h) (fun x hx' => hx x (by simp [hx']))
    have h2 := hx c (by simp)
    rw [num_snoc, Nat.pow_succ]
    omega
theorem or_u64 {x c : Nat} (hx : x < 2 ^ 56) (hc : c < 256) : Go.bits .or .u64 ((x * 256 : Nat) : Int) (c : Int) = ((x * 256 + c : Nat) : Int) := by
  show IntKind.u64.wrap ((BitVec.ofInt 64 ((x * 256 : Nat) : Int) ||| BitVec.ofInt 64 (c : Int)).toNat : Int) = _
  have e1 : (BitVec.ofInt 64 ((x * 256 : Nat) : Int)).toNat = x * 256 := by simp; omega
  have e2 : (BitVec.ofInt 64 (c : Int)).toNat = c := by simp; omega
  have e3 : x * 256 ||| c = x * 256 + c := by
    have := Nat.shiftLeft_add_eq_or_of_lt (show c < 2 ^ 8 by omega) x
    rw [Nat.shiftLeft_eq] at this
    exact this.symm
  rw [BitVec.toNat_or, e1, e2, e3, wrapU64 (by omega)]
theorem get16_c (a : Option Addr) (cap : Nat) (bs : List Nat) (hl : bs.length = 2) (hx : ∀ x ∈ bs, x < 256) (Φ : Base) :
    Sl.Fn Try.prog Φ F.octet_Get_uint16 [.slice a 2 cap, i64 0] [brow a 2 cap bs] (fun _ : Unit => True) (fun _ => .tuple #[.int .u16 (num bs : Int), i64 0]) (fun _ => []) := by
  refine fn_of rfl rfl (fun F => ?_)
  dsimp only [argEnv, List.cons_append, List.nil_append, Nat.zero_add, Nat.reduceAdd]
  refine j_leni (fun hll hc ha => ?_)
  obtain ⟨b, off, hab⟩ := ha (by decide)
  subst hab
  repeat refine s1 ?_
  refine r_call rfl (blt_some rfl) rfl (width16_c Φ) ?_
  intro _ _; dsimp only [bnd, List.cons_append, List.nil_append]
  repeat refine s1 ?_
  refine r_cmpF rfl rfl rfl (by decide) rfl ?_
  repeat refine s1 ?_
  refine r_cmpF rfl rfl rfl (by decide) rfl ?_
  repeat refine s1 ?_
  refine r_subN (m := 2) (n := 0) rfl rfl (by decide) (by decide) rfl ?_
  repeat refine s1 ?_
  refine r_cmpF rfl rfl rfl (by decide) rfl ?_
  repeat refine s1 ?_
  refine r_addN (m := 0) (n := 2) rfl rfl (by decide) rfl ?_
  refine r_piece 0 2 cap rfl (.inr ⟨.i64, rfl⟩) (.inr ⟨.i64, rfl⟩) (.inl ⟨rfl, rfl⟩) (by decide) (by omega) (by omega) rfl ?_
  have e : (if cap = 0 then (some ⟨b, off, none⟩ : Option Addr) else (some ⟨b, off, none⟩ : Option Addr).map (·.add (0 * 1))) = some ⟨b, off, none⟩ := by rw [if_neg (by omega)]; simp [add_at]
  rw [e]
  repeat refine s1 ?_
  have hlt := num_lt
  refine t_loop (σ := Nat) (fun i => [(34, i64 i), (33, i64 2), (32, .slice (some ⟨b, off, none⟩) 2 cap), (7, .int .u64 (num (bs.take i) : Int))]) (fun _ => brow (some ⟨b, off, none⟩) 2 cap bs :: F)
    (fun i => i ≤ 2) (fun i => 2 - i) 0 (by decide) ⟨rfl, rfl, rfl, rfl, trivial⟩ (Ent.refl _) ?_
  intro i hi
  dsimp only at *
  repeat refine s1 ?_
  refine r_iop rfl rfl rfl rfl ?_
  repeat refine s1 ?_
  refine t_condD rfl (fun h => ?_) (fun h => ?_)
  · have hi2 : i < bs.length := by omega
    have hv : num (bs.take i) < 256 ^ 1 := Nat.lt_of_lt_of_le (num_lt i _ (by simp; omega) (fun x hx' => hx x (List.mem_of_mem_take hx'))) (Nat.pow_le_pow_right (by decide) (by omega))
    have hp : (256 : Nat) ^ 1 ≤ 2 ^ 24 := by decide
    repeat refine s1 ?_
    refine r_idx rfl rfl (by omega) (by omega) rfl ?_
    refine r_loadI (n := 2) (cap := cap) (E := T.uint8) (s := 1) (xs := bs.map u8) (off := off) rfl (j := i) (v := u8 bs[i]) (by omega) (by simp [List.getElem?_eq_getElem hi2]) rfl rfl ?_
    repeat refine s1 ?_
    refine r_shl rfl rfl (by decide) rfl ?_
    refine j_val (.int .u64 ((num (bs.take i) * 256 : Nat) : Int)) (by
      have e8 : IntKind.u64.wrap ((num (bs.take i) : Int) * 2 ^ min (8 : Int).toNat IntKind.u64.bits) = ((num (bs.take i) * 256 : Nat) : Int) := by
        have : (num (bs.take i) : Int) * 2 ^ min (8 : Int).toNat IntKind.u64.bits = ((num (bs.take i) * 256 : Nat) : Int) := by simp [IntKind.bits]
        rw [this, wrapU64 (by omega)]
      rw [e8]) ?_
    repeat refine s1 ?_
    have hb8 := hx bs[i] (List.getElem_mem hi2)
    rw [wrapU64 (n := bs[i]) (by omega)]
    refine r_iop rfl rfl rfl rfl ?_
    refine j_val (.int .u64 ((num (bs.take i) * 256 + bs[i] : Nat) : Int)) (by rw [or_u64 (by omega) hb8]) ?_
    repeat refine s1 ?_
    have ht : bs.take (i + 1) = bs.take i ++ [bs[i]] := by rw [List.take_add_one, List.getElem?_eq_getElem hi2]; rfl
    exact j_again (i + 1) (by omega) (by omega) ⟨rfl, rfl, rfl, by rw [ht, num_snoc]; rfl, trivial⟩ (Ent.refl _)
  · have e : i = 2 := by omega
    subst e
    have hv : num bs < 2 ^ 16 := Nat.lt_of_lt_of_le (num_lt 2 bs hl hx) (by decide)
    repeat refine s1 ?_
    rw [List.take_of_length_le (by omega), wrapU16 (n := num bs) (by omega)]
    refine j_fin rfl (.cons (rv_tmp rfl) (.cons (rv_tmp rfl) .nil)) () (by rfl) (by trivial)
theorem get8_c (a : Option Addr) (cap : Nat) (bs : List Nat) (hl : bs.length = 1) (hx : ∀ x ∈ bs, x < 256) (Φ : Base) :
    Sl.Fn Try.prog Φ F.octet_Get_uint8 [.slice a 1 cap, i64 0] [brow a 1 cap bs] (fun _ : Unit => True) (fun _ => .tuple #[.int .u8 (num bs : Int), i64 0]) (fun _ => []) := by
  refine fn_of rfl rfl (fun F => ?_)
  dsimp only [argEnv, List.cons_append, List.nil_append, Nat.zero_add, Nat.reduceAdd]
  refine j_leni (fun hll hc ha => ?_)
  obtain ⟨b, off, hab⟩ := ha (by decide)
  subst hab
  repeat refine s1 ?_
  refine r_call rfl (blt_some rfl) rfl (width8_c Φ) ?_
  intro _ _; dsimp only [bnd, List.cons_append, List.nil_append]
  repeat refine s1 ?_
  refine r_cmpF rfl rfl rfl (by decide) rfl ?_
  repeat refine s1 ?_
  refine r_cmpF rfl rfl rfl (by decide) rfl ?_
  repeat refine s1 ?_
  refine r_subN (m := 1) (n := 0) rfl rfl (by decide) (by decide) rfl ?_
  repeat refine s1 ?_
  refine r_cmpF rfl rfl rfl (by decide) rfl ?_
  repeat refine s1 ?_
  refine r_addN (m := 0) (n := 1) rfl rfl (by decide) rfl ?_
  refine r_piece 0 1 cap rfl (.inr ⟨.i64, rfl⟩) (.inr ⟨.i64, rfl⟩) (.inl ⟨rfl, rfl⟩) (by decide) (by omega) (by omega) rfl ?_
  have e : (if cap = 0 then (some ⟨b, off, none⟩ : Option Addr) else (some ⟨b, off, none⟩ : Option Addr).map (·.add (0 * 1))) = some ⟨b, off, none⟩ := by rw [if_neg (by omega)]; simp [add_at]
  rw [e]
  repeat refine s1 ?_
  have hlt := num_lt
  refine t_loop (σ := Nat) (fun i => [(34, i64 i), (33, i64 1), (32, .slice (some ⟨b, off, none⟩) 1 cap), (7, .int .u64 (num (bs.take i) : Int))]) (fun _ => brow (some ⟨b, off, none⟩) 1 cap bs :: F)
    (fun i => i ≤ 1) (fun i => 1 - i) 0 (by decide) ⟨rfl, rfl, rfl, rfl, trivial⟩ (Ent.refl _) ?_
  intro i hi
  dsimp only at *
  repeat refine s1 ?_
  refine r_iop rfl rfl rfl rfl ?_
  repeat refine s1 ?_
  refine t_condD rfl (fun h => ?_) (fun h => ?_)
  · have hi2 : i < bs.length := by omega
    have hv : num (bs.take i) < 256 ^ 0 := Nat.lt_of_lt_of_le (num_lt i _ (by simp; omega) (fun x hx' => hx x (List.mem_of_mem_take hx'))) (Nat.pow_le_pow_right (by decide) (by omega))
    have hp : (256 : Nat) ^ 0 ≤ 2 ^ 24 := by decide
    repeat refine s1 ?_
    refine r_idx rfl rfl (by omega) (by omega) rfl ?_
    refine r_loadI (n := 1) (cap := cap) (E := T.uint8) (s := 1) (xs := bs.map u8) (off := off) rfl (j := i) (v := u8 bs[i]) (by omega) (by simp [List.getElem?_eq_getElem hi2]) rfl rfl ?_
    repeat refine s1 ?_
    refine r_shl rfl rfl (by decide) rfl ?_
    refine j_val (.int .u64 ((num (bs.take i) * 256 : Nat) : Int)) (by
      have e8 : IntKind.u64.wrap ((num (bs.take i) : Int) * 2 ^ min (8 : Int).toNat IntKind.u64.bits) = ((num (bs.take i) * 256 : Nat) : Int) := by
        have : (num (bs.take i) : Int) * 2 ^ min (8 : Int).toNat IntKind.u64.bits = ((num (bs.take i) * 256 : Nat) : Int) := by simp [IntKind.bits]
        rw [this, wrapU64 (by omega)]
      rw [e8]) ?_
    repeat refine s1 ?_
    have hb8 := hx bs[i] (List.getElem_mem hi2)
    rw [wrapU64 (n := bs[i]) (by omega)]
    refine r_iop rfl rfl rfl rfl ?_
    refine j_val (.int .u64 ((num (bs.take i) * 256 + bs[i] : Nat) : Int)) (by rw [or_u64 (by omega) hb8]) ?_
    repeat refine s1 ?_
    have ht : bs.take (i + 1) = bs.take i ++ [bs[i]] := by rw [List.take_add_one, List.getElem?_eq_getElem hi2]; rfl
    exact j_again (i + 1) (by omega) (by omega) ⟨rfl, rfl, rfl, by rw [ht, num_snoc]; rfl, trivial⟩ (Ent.refl _)
  · have e : i = 1 := by omega
    subst e
    have hv : num bs < 2 ^ 8 := Nat.lt_of_lt_of_le (num_lt 1 bs hl hx) (by decide)
    repeat refine s1 ?_
    rw [List.take_of_length_le (by omega), wrapU8 (n := num bs) (by omega)]
    refine j_fin rfl (.cons (rv_tmp rfl) (.cons (rv_tmp rfl) .nil)) () (by rfl) (by trivial)
theorem get32_c (a : Option Addr) (cap : Nat) (bs : List Nat) (hl : bs.length = 4) (hx : ∀ x ∈ bs, x < 256) (Φ : Base) :
    Sl.Fn Try.prog Φ F.octet_Get_uint32 [.slice a 4 cap, i64 0] [brow a 4 cap bs] (fun _ : Unit => True) (fun _ => .tuple #[.int .u32 (num bs : Int), i64 0]) (fun _ => []) := by
  refine fn_of rfl rfl (fun F => ?_)
  dsimp only [argEnv, List.cons_append, List.nil_append, Nat.zero_add, Nat.reduceAdd]
  refine j_leni (fun hll hc ha => ?_)
  obtain ⟨b, off, hab⟩ := ha (by decide)
  subst hab
  repeat refine s1 ?_
  refine r_call rfl (blt_some rfl) rfl (width32_c Φ) ?_
  intro _ _; dsimp only [bnd, List.cons_append, List.nil_append]
  repeat refine s1 ?_
  refine r_cmpF rfl rfl rfl (by decide) rfl ?_
  repeat refine s1 ?_
  refine r_cmpF rfl rfl rfl (by decide) rfl ?_
  repeat refine s1 ?_
  refine r_subN (m := 4) (n := 0) rfl rfl (by decide) (by decide) rfl ?_
  repeat refine s1 ?_
  refine r_cmpF rfl rfl rfl (by decide) rfl ?_
  repeat refine s1 ?_
  refine r_addN (m := 0) (n := 4) rfl rfl (by decide) rfl ?_
  refine r_piece 0 4 cap rfl (.inr ⟨.i64, rfl⟩) (.inr ⟨.i64, rfl⟩) (.inl ⟨rfl, rfl⟩) (by decide) (by omega) (by omega) rfl ?_
  have e : (if cap = 0 then (some ⟨b, off, none⟩ : Option Addr) else (some ⟨b, off, none⟩ : Option Addr).map (·.add (0 * 1))) = some ⟨b, off, none⟩ := by rw [if_neg (by omega)]; simp [add_at]
  rw [e]
  repeat refine s1 ?_
  have hlt := num_lt
  refine t_loop (σ := Nat) (fun i => [(34, i64 i), (33, i64 4), (32, .slice (some ⟨b, off, none⟩) 4 cap), (7, .int .u64 (num (bs.take i) : Int))]) (fun _ => brow (some ⟨b, off, none⟩) 4 cap bs :: F)
    (fun i => i ≤ 4) (fun i => 4 - i) 0 (by decide) ⟨rfl, rfl, rfl, rfl, trivial⟩ (Ent.refl _) ?_
  intro i hi
  dsimp only at *
  repeat refine s1 ?_
  refine r_iop rfl rfl rfl rfl ?_
  repeat refine s1 ?_
  refine t_condD rfl (fun h => ?_) (fun h => ?_)
  · have hi2 : i < bs.length := by omega
    have hv : num (bs.take i) < 256 ^ 3 := Nat.lt_of_lt_of_le (num_lt i _ (by simp; omega) (fun x hx' => hx x (List.mem_of_mem_take hx'))) (Nat.pow_le_pow_right (by decide) (by omega))
    have hp : (256 : Nat) ^ 3 ≤ 2 ^ 24 := by decide
    repeat refine s1 ?_
    refine r_idx rfl rfl (by omega) (by omega) rfl ?_
    refine r_loadI (n := 4) (cap := cap) (E := T.uint8) (s := 1) (xs := bs.map u8) (off := off) rfl (j := i) (v := u8 bs[i]) (by omega) (by simp [List.getElem?_eq_getElem hi2]) rfl rfl ?_
    repeat refine s1 ?_
    refine r_shl rfl rfl (by decide) rfl ?_
    refine j_val (.int .u64 ((num (bs.take i) * 256 : Nat) : Int)) (by
      have e8 : IntKind.u64.wrap ((num (bs.take i) : Int) * 2 ^ min (8 : Int).toNat IntKind.u64.bits) = ((num (bs.take i) * 256 : Nat) : Int) := by
        have : (num (bs.take i) : Int) * 2 ^ min (8 : Int).toNat IntKind.u64.bits = ((num (bs.take i) * 256 : Nat) : Int) := by simp [IntKind.bits]
        rw [this, wrapU64 (by omega)]
      rw [e8]) ?_
    repeat refine s1 ?_
    have hb8 := hx bs[i] (List.getElem_mem hi2)
    rw [wrapU64 (n := bs[i]) (by omega)]
    refine r_iop rfl rfl rfl rfl ?_
    refine j_val (.int .u64 ((num (bs.take i) * 256 + bs[i] : Nat) : Int)) (by rw [or_u64 (by omega) hb8]) ?_
    repeat refine s1 ?_
    have ht : bs.take (i + 1) = bs.take i ++ [bs[i]] := by rw [List.take_add_one, List.getElem?_eq_getElem hi2]; rfl
    exact j_again (i + 1) (by omega) (by omega) ⟨rfl, rfl, rfl, by rw [ht, num_snoc]; rfl, trivial⟩ (Ent.refl _)
  · have e : i = 4 := by omega
    subst e
    have hv : num bs < 2 ^ 32 := Nat.lt_of_lt_of_le (num_lt 4 bs hl hx) (by decide)
    repeat refine s1 ?_
    rw [List.take_of_length_le (by omega), wrapU32 (n := num bs) (by omega)]
    refine j_fin rfl (.cons (rv_tmp rfl) (.cons (rv_tmp rfl) .nil)) () (by rfl) (by trivial)
/-- a number read: its value, and what is left. -/
def rdU (w : Nat) : Option (List Nat) → Nat × Option (List Nat)
  | some bs => if w ≤ bs.length then (num (bs.take w), some (bs.drop w)) else (0, none)
  | none => (0, none)
theorem getN8_c (Φ : Base) : Sl.Fn Try.prog Φ F.octet_Get_uint8 [.slice none 0 0, i64 0] [] (fun _ : Unit => True) (fun _ => .tuple #[.int .u8 0, i64 10]) (fun _ => []) := by
  refine fn_of rfl rfl (fun F => ?_)
  dsimp only [argEnv, List.cons_append, List.nil_append, Nat.zero_add, Nat.reduceAdd]
  repeat refine s1 ?_
  refine r_call rfl (blt_some rfl) rfl (width8_c Φ) ?_
  intro _ _; dsimp only [bnd, List.cons_append, List.nil_append]
  repeat refine s1 ?_
  refine r_cmpF rfl rfl rfl (by decide) rfl ?_
  repeat refine s1 ?_
  refine r_cmpF rfl rfl rfl (by decide) rfl ?_
  repeat refine s1 ?_
  refine r_subN (m := 0) (n := 0) rfl rfl (by decide) (by decide) rfl ?_
  repeat refine s1 ?_
  refine r_cmpT rfl rfl rfl (by decide) rfl ?_
  repeat refine s1 ?_
  refine j_fin rfl (.cons (rv_tmp rfl) (.cons (rv_tmp rfl) .nil)) () (by rfl) (by trivial)
theorem next8_c (p : Nat) (s : Option (List Nat)) (hs : ∀ bs, s = some bs → ∀ x ∈ bs, x < 256) (Φ : Base) : Sl.Fn Try.prog Φ F.octet_next_uint8 [.pointer (some ⟨p, 0, none⟩)] [rdr p s] (fun _ : Unit => True) (fun _ => .int .u8 ((rdU 1 s).1 : Int)) (fun _ => [rdr p (rdU 1 s).2]) := by
  refine fn_of rfl rfl (fun F => ?_)
  dsimp only [argEnv, List.cons_append, List.nil_append, Nat.zero_add, Nat.reduceAdd]
  repeat refine s1 ?_
  refine r_call rfl (blt_some rfl) rfl (width8_c Φ) ?_
  intro _ _; dsimp only [bnd, List.cons_append, List.nil_append]
  cases s with
  | none =>
    have e : rdU 1 none = (0, none) := rfl
    rw [e]
    refine r_call rfl (blt_some rfl) rfl (bytesN_c p 1 Φ) ?_
    intro _ _; dsimp only [bnd, List.cons_append, List.nil_append]
    refine r_call rfl (blt_some rfl) rfl (getN8_c Φ) ?_
    intro _ _; dsimp only [bnd, List.cons_append, List.nil_append]
    repeat refine s1 ?_
    refine j_fin rfl (.cons (rv_tmp rfl) .nil) () (by rfl) (by trivial)
  | some bs =>
    by_cases h : 1 ≤ bs.length
    · have e : rdU 1 (some bs) = (num (bs.take 1), some (bs.drop 1)) := by simp only [rdU]; rw [if_pos h]
      rw [e]
      refine r_call rfl (blt_some rfl) rfl (bytes_c p 1 bs h Φ) ?_
      intro a _
      dsimp only [bnd, List.cons_append, List.nil_append]
      refine r_call rfl (blt_some rfl) rfl (get8_c a 1 (bs.take 1) (by simp; omega) (fun x hx => hs bs rfl x (List.mem_of_mem_take hx)) Φ) ?_
      intro _ _; dsimp only [bnd, List.cons_append, List.nil_append]
      repeat refine s1 ?_
      refine j_fin rfl (.cons (rv_tmp rfl) .nil) () (by rfl) (by trivial)
    · have e : rdU 1 (some bs) = (0, none) := by simp only [rdU]; rw [if_neg h]
      rw [e]
      refine r_call rfl (blt_some rfl) rfl (bytesS_c p 1 bs (by omega) Φ) ?_
      intro _ _; dsimp only [bnd, List.cons_append, List.nil_append]
      refine r_call rfl (blt_some rfl) rfl (getN8_c Φ) ?_
      intro _ _; dsimp only [bnd, List.cons_append, List.nil_append]
      repeat refine s1 ?_
      refine j_fin rfl (.cons (rv_tmp rfl) .nil) () (by rfl) (by trivial)
theorem U8_c (p : Nat) (s : Option (List Nat)) (hs : ∀ bs, s = some bs → ∀ x ∈ bs, x < 256) (Φ : Base) : Sl.Fn Try.prog Φ F.octet_Reader_U8 [.pointer (some ⟨p, 0, none⟩)] [rdr p s] (fun _ : Unit => True) (fun _ => .int .u8 ((rdU 1 s).1 : Int)) (fun _ => [rdr p (rdU 1 s).2]) := by
  refine fn_of rfl rfl (fun F => ?_)
  dsimp only [argEnv, List.cons_append, List.nil_append, Nat.zero_add, Nat.reduceAdd]
  repeat refine s1 ?_
  refine r_call rfl (blt_some rfl) rfl (next8_c p s hs Φ) ?_
  intro _ _; dsimp only [bnd, List.cons_append, List.nil_append]
  repeat refine s1 ?_
  refine j_fin rfl (.cons (rv_tmp rfl) .nil) () (by rfl) (by trivial)
theorem getN16_c (Φ : Base) : Sl.Fn Try.prog Φ F.octet_Get_uint16 [.slice none 0 0, i64 0] [] (fun _ : Unit => True) (fun _ => .tuple #[.int .u16 0, i64 10]) (fun _ => []) := by
  refine fn_of rfl rfl (fun F => ?_)
  dsimp only [argEnv, List.cons_append, List.nil_append, Nat.zero_add, Nat.reduceAdd]
  repeat refine s1 ?_
  refine r_call rfl (blt_some rfl) rfl (width16_c Φ) ?_
  intro _ _; dsimp only [bnd, List.cons_append, List.nil_append]
  repeat refine s1 ?_
  refine r_cmpF rfl rfl rfl (by decide) rfl ?_
  repeat refine s1 ?_
  refine r_cmpF rfl rfl rfl (by decide) rfl ?_
  repeat refine s1 ?_
  refine r_subN (m := 0) (n := 0) rfl rfl (by decide) (by decide) rfl ?_
  repeat refine s1 ?_
  refine r_cmpT rfl rfl rfl (by decide) rfl ?_
  repeat refine s1 ?_
  refine j_fin rfl (.cons (rv_tmp rfl) (.cons (rv_tmp rfl) .nil)) () (by rfl) (by trivial)
theorem next16_c (p : Nat) (s : Option (List Nat)) (hs : ∀ bs, s = some bs → ∀ x ∈ bs, x < 256) (Φ : Base) : Sl.Fn Try.prog Φ F.octet_next_uint16 [.pointer (some ⟨p, 0, none⟩)] [rdr p s] (fun _ : Unit => True) (fun _ => .int .u16 ((rdU 2 s).1 : Int)) (fun _ => [rdr p (rdU 2 s).2]) := by
  refine fn_of rfl rfl (fun F => ?_)
  dsimp only [argEnv, List.cons_append, List.nil_append, Nat.zero_add, Nat.reduceAdd]
  repeat refine s1 ?_
  refine r_call rfl (blt_some rfl) rfl (width16_c Φ) ?_
  intro _ _; dsimp only [bnd, List.cons_append, List.nil_append]
  cases s with
  | none =>
    have e : rdU 2 none = (0, none) := rfl
    rw [e]
    refine r_call rfl (blt_some rfl) rfl (bytesN_c p 2 Φ) ?_
    intro _ _; dsimp only [bnd, List.cons_append, List.nil_append]
    refine r_call rfl (blt_some rfl) rfl (getN16_c Φ) ?_
    intro _ _; dsimp only [bnd, List.cons_append, List.nil_append]
    repeat refine s1 ?_
    refine j_fin rfl (.cons (rv_tmp rfl) .nil) () (by rfl) (by trivial)
  | some bs =>
    by_cases h : 2 ≤ bs.length
    · have e : rdU 2 (some bs) = (num (bs.take 2), some (bs.drop 2)) := by simp only [rdU]; rw [if_pos h]
      rw [e]
      refine r_call rfl (blt_some rfl) rfl (bytes_c p 2 bs h Φ) ?_
      intro a _
      dsimp only [bnd, List.cons_append, List.nil_append]
      refine r_call rfl (blt_some rfl) rfl (get16_c a 2 (bs.take 2) (by simp; omega) (fun x hx => hs bs rfl x (List.mem_of_mem_take hx)) Φ) ?_
      intro _ _; dsimp only [bnd, List.cons_append, List.nil_append]
      repeat refine s1 ?_
      refine j_fin rfl (.cons (rv_tmp rfl) .nil) () (by rfl) (by trivial)
    · have e : rdU 2 (some bs) = (0, none) := by simp only [rdU]; rw [if_neg h]
      rw [e]
      refine r_call rfl (blt_some rfl) rfl (bytesS_c p 2 bs (by omega) Φ) ?_
      intro _ _; dsimp only [bnd, List.cons_append, List.nil_append]
      refine r_call rfl (blt_some rfl) rfl (getN16_c Φ) ?_
      intro _ _; dsimp only [bnd, List.cons_append, List.nil_append]
      repeat refine s1 ?_
      refine j_fin rfl (.cons (rv_tmp rfl) .nil) () (by rfl) (by trivial)
theorem U16_c (p : Nat) (s : Option (List Nat)) (hs : ∀ bs, s = some bs → ∀ x ∈ bs, x < 256) (Φ : Base) : Sl.Fn Try.prog Φ F.octet_Reader_U16 [.pointer (some ⟨p, 0, none⟩)] [rdr p s] (fun _ : Unit => True) (fun _ => .int .u16 ((rdU 2 s).1 : Int)) (fun _ => [rdr p (rdU 2 s).2]) := by
  refine fn_of rfl rfl (fun F => ?_)
  dsimp only [argEnv, List.cons_append, List.nil_append, Nat.zero_add, Nat.reduceAdd]
  repeat refine s1 ?_
  refine r_call rfl (blt_some rfl) rfl (next16_c p s hs Φ) ?_
  intro _ _; dsimp only [bnd, List.cons_append, List.nil_append]
  repeat refine s1 ?_
  refine j_fin rfl (.cons (rv_tmp rfl) .nil) () (by rfl) (by trivial)
theorem getN32_c (Φ : Base) : Sl.Fn Try.prog Φ F.octet_Get_uint32 [.slice none 0 0, i64 0] [] (fun _ : Unit => True) (fun _ => .tuple #[.int .u32 0, i64 10]) (fun _ => []) := by
  refine fn_of rfl rfl (fun F => ?_)
  dsimp only [argEnv, List.cons_append, List.nil_append, Nat.zero_add, Nat.reduceAdd]
  repeat refine s1 ?_
  refine r_call rfl (blt_some rfl) rfl (width32_c Φ) ?_
  intro _ _; dsimp only [bnd, List.cons_append, List.nil_append]
  repeat refine s1 ?_
  refine r_cmpF rfl rfl rfl (by decide) rfl ?_
  repeat refine s1 ?_
  refine r_cmpF rfl rfl rfl (by decide) rfl ?_
  repeat refine s1 ?_
  refine r_subN (m := 0) (n := 0) rfl rfl (by decide) (by decide) rfl ?_
  repeat refine s1 ?_
  refine r_cmpT rfl rfl rfl (by decide) rfl ?_
  repeat refine s1 ?_
  refine j_fin rfl (.cons (rv_tmp rfl) (.cons (rv_tmp rfl) .nil)) () (by rfl) (by trivial)
theorem next32_c (p : Nat) (s : Option (List Nat)) (hs : ∀ bs, s = some bs → ∀ x ∈ bs, x < 256) (Φ : Base) : Sl.Fn Try.prog Φ F.octet_next_uint32 [.pointer (some ⟨p, 0, none⟩)] [rdr p s] (fun _ : Unit => True) (fun _ => .int .u32 ((rdU 4 s).1 : Int)) (fun _ => [rdr p (rdU 4 s).2]) := by
  refine fn_of rfl rfl (fun F => ?_)
  dsimp only [argEnv, List.cons_append, List.nil_append, Nat.zero_add, Nat.reduceAdd]
  repeat refine s1 ?_
  refine r_call rfl (blt_some rfl) rfl (width32_c Φ) ?_
  intro _ _; dsimp only [bnd, List.cons_append, List.nil_append]
  cases s with
  | none =>
    have e : rdU 4 none = (0, none) := rfl
    rw [e]
    refine r_call rfl (blt_some rfl) rfl (bytesN_c p 4 Φ) ?_
    intro _ _; dsimp only [bnd, List.cons_append, List.nil_append]
    refine r_call rfl (blt_some rfl) rfl (getN32_c Φ) ?_
    intro _ _; dsimp only [bnd, List.cons_append, List.nil_append]
    repeat refine s1 ?_
    refine j_fin rfl (.cons (rv_tmp rfl) .nil) () (by rfl) (by trivial)
  | some bs =>
    by_cases h : 4 ≤ bs.length
    · have e : rdU 4 (some bs) = (num (bs.take 4), some (bs.drop 4)) := by simp only [rdU]; rw [if_pos h]
      rw [e]
      refine r_call rfl (blt_some rfl) rfl (bytes_c p 4 bs h Φ) ?_
      intro a _
      dsimp only [bnd, List.cons_append, List.nil_append]
      refine r_call rfl (blt_some rfl) rfl (get32_c a 4 (bs.take 4) (by simp; omega) (fun x hx => hs bs rfl x (List.mem_of_mem_take hx)) Φ) ?_
      intro _ _; dsimp only [bnd, List.cons_append, List.nil_append]
      repeat refine s1 ?_
      refine j_fin rfl (.cons (rv_tmp rfl) .nil) () (by rfl) (by trivial)
    · have e : rdU 4 (some bs) = (0, none) := by simp only [rdU]; rw [if_neg h]
      rw [e]
      refine r_call rfl (blt_some rfl) rfl (bytesS_c p 4 bs (by omega) Φ) ?_
      intro _ _; dsimp only [bnd, List.cons_append, List.nil_append]
      refine r_call rfl (blt_some rfl) rfl (getN32_c Φ) ?_
      intro _ _; dsimp only [bnd, List.cons_append, List.nil_append]
      repeat refine s1 ?_
      refine j_fin rfl (.cons (rv_tmp rfl) .nil) () (by rfl) (by trivial)
theorem U32_c (p : Nat) (s : Option (List Nat)) (hs : ∀ bs, s = some bs → ∀ x ∈ bs, x < 256) (Φ : Base) : Sl.Fn Try.prog Φ F.octet_Reader_U32 [.pointer (some ⟨p, 0, none⟩)] [rdr p s] (fun _ : Unit => True) (fun _ => .int .u32 ((rdU 4 s).1 : Int)) (fun _ => [rdr p (rdU 4 s).2]) := by
  refine fn_of rfl rfl (fun F => ?_)
  dsimp only [argEnv, List.cons_append, List.nil_append, Nat.zero_add, Nat.reduceAdd]
  repeat refine s1 ?_
  refine r_call rfl (blt_some rfl) rfl (next32_c p s hs Φ) ?_
  intro _ _; dsimp only [bnd, List.cons_append, List.nil_append]
  repeat refine s1 ?_
  refine j_fin rfl (.cons (rv_tmp rfl) .nil) () (by rfl) (by trivial)
end Go.Proofs.Ytbecjgikhfplmaa
