/-
  The contract of alive. For each input.
-/
import Derived.Test.YtbecjgikhfplmaaAud16
namespace Go.Proofs.Ytbecjgikhfplmaa
open Go Sl
attribute [local irreducible] cw sw J Exit.then Exit.inBlock Exit.noGoto bodyPost swG swL permL
def aq1 : Rq := ⟨[14, 0, 1, 0, 0, 0, 0, 5, 5], List.replicate 128 0, rfl, rfl⟩
def aq2 : Rq := ⟨[1, 0, 1, 0, 0, 0, 0, 0, 0], List.replicate 128 0, rfl, rfl⟩
def aq3 : Rq := ⟨[6, 1, 0, 1, 0, 4, 0, 0, 0], List.replicate 128 0, rfl, rfl⟩
def aq4 : Rq := ⟨[3, 1, 0, 1, 0, 1, 0, 0, 0], List.replicate 128 0, rfl, rfl⟩
def ar1 : Rp := ⟨0, 0, []⟩
def ar2 : Rp := ⟨0, 1, []⟩
def z511 : List Nat := List.replicate 511 0
def ar4 : Rp := ⟨0, 1, z511⟩
def aliveL : List (List Nat × List Nat) := [((encM aq1 []).getD [], (repEnc 0 0 []).getD []), ((encM aq2 []).getD [], (repEnc 0 1 []).getD []), ((encM aq3 []).getD [], (repEnc 0 0 []).getD []), ((encM aq4 []).getD [], (repEnc 0 1 z511).getD [])]
theorem alive_ok : ∀ p ∈ aliveL, p.1.length ≤ 1000000 ∧ p.2.length ≤ 1000000 ∧ (∀ x ∈ p.1, x < 256) ∧ ∀ x ∈ p.2, x < 256 := by decide +kernel
set_option maxRecDepth 100000 in
theorem alive_judge : judgeM 1 aliveL = (3, 2) := by kernel_rfl
theorem z511_map : z511.map u8 = List.replicate 511 (Value.int .u8 0) := by rw [z511, List.map_replicate]; rfl
theorem z511_len : z511.length = 511 := by rw [z511, List.length_replicate]
theorem judgeB_c (t : Int) (la : Option Addr) (lc n : Nat) (vs : List (Value × Value)) (es : List En) (hv : (vs.flatMap fun v => [v.1, v.2]) = es.flatMap ecells) (hn : es.length = n) (hl : n ≤ 100) (hk : EnOk es) (Φ : Base) :
    Sl.Fn Try.prog Φ F.audit_Judge [.int .i64 t, .slice la n lc] [isl la n lc T.audit_Entry 2 (vs.flatMap fun v => [v.1, v.2]), ents es] (fun _ : Unit => True)
      (fun _ => .tuple #[.int .i64 (judgeM t (texts es)).1, .int .i64 (judgeM t (texts es)).2]) (fun _ => []) := by
  subst hn
  rw [hv]
  exact judge_c t la lc es hl hk Φ
theorem judge0_c (Φ : Base) : Sl.Fn Try.prog Φ F.audit_Judge [.int .i64 1, .slice none 0 0] [isl none 0 0 T.audit_Entry 2 [], ents []] (fun _ : Unit => True) (fun _ => .tuple #[i64 0, i64 0]) (fun _ => []) :=
  judgeB_c 1 none 0 0 [] [] rfl rfl (by decide) (fun e he => by cases he) Φ
theorem ok_of_texts {es : List En} {l : List (List Nat × List Nat)} (h : texts es = l) (hl : ∀ p ∈ l, p.1.length ≤ 1000000 ∧ p.2.length ≤ 1000000 ∧ (∀ x ∈ p.1, x < 256) ∧ ∀ x ∈ p.2, x < 256) : EnOk es := fun e he => by
  subst h
  exact hl (e.rq, e.rp) (List.mem_map.2 ⟨e, he, rfl⟩)
abbrev pairOf (e : En) : Value × Value := (.slice e.1.1 e.rq.length e.1.2.1, .slice e.2.1 e.rp.length e.2.2.1)
theorem entryA_c (q : Rq) (e n : Int) (da : Option Addr) (m dc : Nat) (d : List Nat) (hm : d.length = m) (Φ : Base) :
    Sl.Fn Try.prog Φ F.casematelaw34_entry [.agg (q.cells (.slice none 0 0)).toArray, .agg [.int .i64 e, .int .i64 n, .slice da m dc].toArray] [brow none 0 0 [], brow da m dc d] (fun _ : (Option Addr × Nat) × (Option Addr × Nat) => True)
      (fun x => .agg (ecells (encE q [] ⟨e, n, d⟩ x)).toArray) (fun x => [ents [encE q [] ⟨e, n, d⟩ x]]) := by
  subst hm
  exact entry_c q none 0 [] ⟨e, n, d⟩ da dc (by decide) (by simp) Φ
set_option maxRecDepth 100000 in
set_option maxHeartbeats 2000000 in
theorem alive_c : Pure F.casematelaw34_alive [] (.bool true) := by
  intro Φ
  refine fn_of rfl rfl (fun F => ?_)
  dsimp only [argEnv, List.cons_append, List.nil_append, Nat.zero_add, Nat.reduceAdd]
  repeat refine s1 ?_
  refine r_build (cells := aq1.cells (.slice none 0 0)) rfl (by rfl) rfl ?_
  refine r_build (cells := [.int .i64 0, .int .i64 0, .slice none 0 0]) rfl (by rfl) rfl ?_
  refine j_ent (Ent.brow0 _) ?_
  refine j_ent (Ent.brow0 _) ?_
  refine r_call rfl (blt_some rfl) rfl (entryA_c aq1 0 0 none 0 0 [] rfl Φ) ?_
  intro x1 _
  dsimp only [bnd, List.cons_append, List.nil_append]
  refine r_alloc (cs := [.slice none 0 0, .slice none 0 0]) rfl rfl rfl (fun p1 => ?_)
  refine r_storeW (vs := ecells (encE aq1 [] ⟨0, 0, []⟩ x1)) rfl rfl (by rfl) (by rfl) (by simp [Value.oneCell']) rfl ?_
  repeat refine s1 ?_
  refine r_build (cells := aq2.cells (.slice none 0 0)) rfl (by rfl) rfl ?_
  refine r_build (cells := [.int .i64 0, .int .i64 1, .slice none 0 0]) rfl (by rfl) rfl ?_
  refine j_ent (Ent.brow0 _) ?_
  refine j_ent (Ent.brow0 _) ?_
  refine r_call rfl (blt_some rfl) rfl (entryA_c aq2 0 1 none 0 0 [] rfl Φ) ?_
  intro x2 _
  dsimp only [bnd, List.cons_append, List.nil_append]
  refine r_alloc (cs := [.slice none 0 0, .slice none 0 0]) rfl rfl rfl (fun p2 => ?_)
  refine r_storeW (vs := ecells (encE aq2 [] ⟨0, 1, []⟩ x2)) rfl rfl (by rfl) (by rfl) (by simp [Value.oneCell']) rfl ?_
  repeat refine s1 ?_
  refine r_build (cells := aq3.cells (.slice none 0 0)) rfl (by rfl) rfl ?_
  refine r_build (cells := [.int .i64 0, .int .i64 0, .slice none 0 0]) rfl (by rfl) rfl ?_
  refine j_ent (Ent.brow0 _) ?_
  refine j_ent (Ent.brow0 _) ?_
  refine r_call rfl (blt_some rfl) rfl (entryA_c aq3 0 0 none 0 0 [] rfl Φ) ?_
  intro x3 _
  dsimp only [bnd, List.cons_append, List.nil_append]
  refine r_alloc (cs := [.slice none 0 0, .slice none 0 0]) rfl rfl rfl (fun p3 => ?_)
  refine r_storeW (vs := ecells (encE aq3 [] ⟨0, 0, []⟩ x3)) rfl rfl (by rfl) (by rfl) (by simp [Value.oneCell']) rfl ?_
  repeat refine s1 ?_
  refine r_build (cells := aq4.cells (.slice none 0 0)) rfl (by rfl) rfl ?_
  refine r_makeSlice (n := 511) (c := 511) rfl rfl (by decide) (by decide) (by decide) rfl rfl rfl (fun ba => ?_)
  rw [← z511_map]
  refine j_freezeV (some ⟨ba, 0, none⟩) 511 511 T.uint8 1 (z511.map u8) ?_
  refine r_build (cells := [.int .i64 0, .int .i64 1, .slice (some ⟨ba, 0, none⟩) 511 511]) rfl (by rfl) rfl ?_
  refine j_ent (Ent.brow0 _) ?_
  refine r_call rfl (blt_some rfl) rfl (entryA_c aq4 0 1 (some ⟨ba, 0, none⟩) 511 511 z511 z511_len Φ) ?_
  intro x4 _
  dsimp only [bnd, List.cons_append, List.nil_append]
  refine r_alloc (cs := [.slice none 0 0, .slice none 0 0]) rfl rfl rfl (fun p4 => ?_)
  refine r_storeW (vs := ecells (encE aq4 [] ⟨0, 1, z511⟩ x4)) rfl rfl (by rfl) (by rfl) (by simp [Value.oneCell']) rfl ?_
  repeat refine s1 ?_
  have ht : texts [encE aq1 [] ⟨0, 0, []⟩ x1, encE aq2 [] ⟨0, 1, []⟩ x2, encE aq3 [] ⟨0, 0, []⟩ x3, encE aq4 [] ⟨0, 1, z511⟩ x4] = aliveL := rfl
  generalize encE aq1 [] ⟨0, 0, []⟩ x1 = e1 at *
  generalize encE aq2 [] ⟨0, 1, []⟩ x2 = e2 at *
  generalize encE aq3 [] ⟨0, 0, []⟩ x3 = e3 at *
  generalize encE aq4 [] ⟨0, 1, z511⟩ x4 = e4 at *
  refine r_build2s [.tmp 25, .tmp 26, .tmp 27, .tmp 28] [pairOf e1, pairOf e2, pairOf e3, pairOf e4] rfl rfl (by simp) rfl rfl rfl (fun b => ?_)
  refine j_freezeV (some ⟨b, 0, none⟩) 4 4 T.audit_Entry 2 ([pairOf e1, pairOf e2, pairOf e3, pairOf e4].flatMap fun v => [v.1, v.2]) ?_
  refine j_heads [ents [e1], ents [e2]] ?_
  dsimp only [List.cons_append, List.nil_append]
  refine j_ent (Ent.entsApp _) ?_
  dsimp only [List.cons_append, List.nil_append]
  refine j_heads [ents [e1, e2], ents [e3]] ?_
  dsimp only [List.cons_append, List.nil_append]
  refine j_ent (Ent.entsApp _) ?_
  dsimp only [List.cons_append, List.nil_append]
  refine j_heads [ents [e1, e2, e3], ents [e4]] ?_
  dsimp only [List.cons_append, List.nil_append]
  refine j_ent (Ent.entsApp _) ?_
  dsimp only [List.cons_append, List.nil_append]
  have hjc := judgeB_c 1 (some ⟨b, 0, none⟩) 4 4 [pairOf e1, pairOf e2, pairOf e3, pairOf e4] [e1, e2, e3, e4] rfl rfl (by decide) (ok_of_texts ht alive_ok) Φ
  rw [show texts [e1, e2, e3, e4] = aliveL from ht, alive_judge] at hjc
  refine r_call rfl (blt_some rfl) rfl hjc ?_
  intro _ _; dsimp only [bnd, List.cons_append, List.nil_append]
  repeat refine s2 ?_
  refine j_ent (Ent.islNil (E := T.audit_Entry) (s := 2) (cap := 0) (a := none) _) ?_
  refine j_ent (Ent.entsNil _) ?_
  refine r_call rfl (blt_some rfl) rfl (judge0_c Φ) ?_
  intro _ _; dsimp only [bnd, List.cons_append, List.nil_append]
  repeat refine s2 ?_
  refine r_call rfl (blt_some rfl) rfl (new_c 9 Φ) ?_
  intro p9 _
  dsimp only [bnd]
  simp only [show (9 : Int) < 1 ∨ (8 : Int) < 9 from .inr (by decide), if_true]
  dsimp only [List.nil_append]
  repeat refine s2 ?_
  refine j_fin rfl (.cons (rv_tmp rfl) .nil) () (by rfl) (by trivial)
end Go.Proofs.Ytbecjgikhfplmaa
