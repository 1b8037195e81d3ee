/-
  The statement AuditBegins, as a contract. For each input.
-/
import Derived.Test.YtbecjgikhfplmaaAud18
namespace Go.Proofs.Ytbecjgikhfplmaa
open Go Sl
theorem calls_in {P : Program} {w : World} {f : FuncId} {args : List Value} {α : Type} {q : α → Prop} {V : α → Value} {Pre : List Assn} {Post : α → List Assn} (h : Sl.Fn P (Base.of w) f args Pre q V Post) (hp : Holds (Base.of w) (Pre ++ []) w) :
    Calls P f args.toArray w fun e w' => ∃ x, q x ∧ e = .returned (V x) ∧ RowKit.Below w.heap.size w w' :=
  (h [] w hp).mono fun _ _ ⟨x, hq, he, hh⟩ => ⟨x, hq, he, hh.below⟩
attribute [local irreducible] cw sw J Exit.then Exit.inBlock Exit.noGoto bodyPost swG swL permL
theorem flat_take (es : List En) (k : Nat) (hk : k ≤ es.length) : ((es.flatMap ecells).drop (0 * 2)).take ((k - 0) * 2) = (es.take k).flatMap ecells := by
  rw [Nat.zero_mul, List.drop_zero, Nat.sub_zero]
  induction es generalizing k with
  | nil => simp
  | cons e es ih =>
    cases k with
    | zero => simp
    | succ k =>
      rw [List.flatMap_cons, List.take_succ_cons, List.flatMap_cons, ← ih k (by simpa using hk)]
      rw [show (k + 1) * 2 = k * 2 + 1 + 1 by omega]
      rfl
theorem judgeX_c (t : Int) (la : Option Addr) (lc n : Nat) (xs : List Value) (es : List En) (hv : xs = es.flatMap ecells) (hn : es.length = n) (hl : n ≤ 100) (hk : EnOk es) (Φ : Base) :
    Sl.Fn Try.prog Φ F.audit_Judge [.int .i64 t, .slice la n lc] [isl la n lc T.audit_Entry 2 xs, ents es] (fun _ : Unit => True)
      (fun _ => .tuple #[.int .i64 (judgeM t (texts es)).1, .int .i64 (judgeM t (texts es)).2]) (fun _ => []) := by
  subst hn hv
  exact judge_c t la lc es hl hk Φ
theorem ecells_one (es : List En) : ∀ u ∈ es.flatMap ecells, u.oneCell' = true := fun u hu => by
  obtain ⟨e, _, he⟩ := List.mem_flatMap.1 hu
  simp only [ecells, List.mem_cons, List.not_mem_nil, or_false] at he
  rcases he with rfl | rfl <;> rfl
def Given (es : List En) : Prop := ∀ e ∈ es, e.rq.length ≤ 9223372036854775807 ∧ e.rp.length ≤ 9223372036854775807 ∧ (∀ x ∈ e.rq, x < 256) ∧ ∀ x ∈ e.rp, x < 256
theorem small_ok {es : List En} (h : Small es) (g : Given es) : EnOk es ∧ es.length ≤ 30 := by
  rcases h with rfl | ⟨h1, h2⟩
  · exact ⟨(fun e he => by cases he), by decide⟩
  · exact ⟨fun e he => ⟨by have := (h2 e he).1; omega, by have := (h2 e he).2; omega, (g e he).2.2.1, (g e he).2.2.2⟩, h1⟩
set_option maxRecDepth 100000 in
set_option maxHeartbeats 4000000 in
theorem begins_c (t : Int) (la : Option Addr) (lc : Nat) (es : List En) (ma : Option Addr) (mc : Nat) (ms : List En) (kk : Int) (h1 : es.length ≤ 9223372036854775807) (h2 : ms.length ≤ 9223372036854775807) (g1 : Given es) (g2 : Given ms) (Φ : Base) :
    Sl.Fn Try.prog Φ F.casematelaw34_AuditBegins [.int .i64 t, .slice la es.length lc, .slice ma ms.length mc, .int .i64 kk]
      [isl la es.length lc T.audit_Entry 2 (es.flatMap ecells), ents es, isl ma ms.length mc T.audit_Entry 2 (ms.flatMap ecells), ents ms] (fun _ : Unit => True) (fun _ => .bool true) (fun _ => []) := by
  refine fn_of rfl rfl (fun F => ?_)
  dsimp only [argEnv, List.cons_append, List.nil_append, Nat.zero_add, Nat.reduceAdd]
  repeat refine s1 ?_
  refine r_call rfl (blt_some rfl) rfl (great_c la lc es h1 (fun e he => ⟨(g1 e he).1, (g1 e he).2.1⟩) Φ) ?_
  intro _ _; dsimp only [bnd, List.cons_append, List.nil_append]
  repeat refine s1 ?_
  have alv : ∀ {p : Prop}, p → p := fun h => h
  by_cases hs1 : Small es
  rotate_left
  · simp only [hs1, decide_false, Bool.not_false]
    repeat refine s2 ?_
    refine r_call rfl (blt_some rfl) rfl (alive_c Φ) ?_
    intro _ _; dsimp only [bnd, List.cons_append, List.nil_append]
    repeat refine s1 ?_
    refine j_fin rfl (.cons (rv_tmp rfl) .nil) () (by rfl) (by trivial)
  simp only [hs1, decide_true, Bool.not_true]
  repeat refine s1 ?_
  refine r_call rfl (blt_some rfl) rfl (great_c ma mc ms h2 (fun e he => ⟨(g2 e he).1, (g2 e he).2.1⟩) Φ) ?_
  intro _ _; dsimp only [bnd, List.cons_append, List.nil_append]
  repeat refine s1 ?_
  by_cases hs2 : Small ms
  rotate_left
  · simp only [hs2, decide_false, Bool.not_false]
    repeat refine s2 ?_
    refine r_call rfl (blt_some rfl) rfl (alive_c Φ) ?_
    intro _ _; dsimp only [bnd, List.cons_append, List.nil_append]
    repeat refine s1 ?_
    refine j_fin rfl (.cons (rv_tmp rfl) .nil) () (by rfl) (by trivial)
  simp only [hs2, decide_true, Bool.not_true]
  obtain ⟨o1, l1⟩ := small_ok hs1 g1
  obtain ⟨o2, l2⟩ := small_ok hs2 g2
  by_cases hbad : kk < 0 ∨ (es.length : Int) < kk ∨ t < 1 ∨ 8 < t
  · repeat' (first | refine r_nil ?_ | (refine k_move ?_; refine r_move rfl rfl ?_) | (refine k_assign ?_; refine r_assign rfl rfl ?_) | (refine k_nck ?_; first | refine r_nck rfl rfl ?_ | refine r_nckf rfl rfl ?_) | (refine k_fld ?_; first | refine r_fld0 rfl rfl ?_ | refine r_fld rfl rfl ?_) | (refine k_load ?_; first | refine r_load1L rfl rfl rfl ?_ | refine s_load1L rfl rfl rfl ?_ | refine r_load1 rfl rfl rfl rfl ?_ | refine r_loadW rfl rfl rfl rfl ?_ | refine s_loadW rfl rfl rfl rfl ?_) | (refine k_ext ?_; first | refine r_extL rfl rfl ?_ | refine r_ext rfl rfl rfl ?_) | (refine k_len ?_; refine r_lenS rfl rfl ?_) | (refine k_un ?_; first | refine r_notT rfl (by with_reducible rfl) rfl ?_ | refine r_notF rfl (by with_reducible rfl) rfl ?_ | refine r_not rfl rfl ?_) | (refine k_sl0 ?_; refine r_sliceA rfl (by decide) rfl ?_) | (refine k_conv ?_; refine r_conv rfl rfl ?_) | (refine k_pick ?_; first | refine r_pickT rfl (by with_reducible rfl) rfl rfl ?_ | refine r_pickF rfl (by with_reducible rfl) rfl rfl ?_) | (refine k_inc ?_; refine r_inc rfl (by omega) rfl ?_) | (refine k_bin ?_; first | refine r_icmpT rfl rfl rfl rfl ?_ | refine r_icmpF rfl rfl rfl rfl ?_ | refine r_icmp rfl rfl rfl rfl ?_) | (refine k_eql ?_; first | refine r_peqS rfl rfl rfl ?_ | refine r_peqN rfl rfl rfl ?_ | refine r_meqS rfl rfl rfl ?_ | refine r_meqN rfl rfl rfl ?_ | refine r_peq rfl rfl rfl ?_) | (refine k_neq ?_; first | refine r_pneS rfl rfl rfl ?_ | refine r_pneN rfl rfl rfl ?_ | refine r_mneS rfl rfl rfl ?_ | refine r_mneN rfl rfl rfl ?_ | refine r_pne rfl rfl rfl ?_) | (refine g_mark ?_; first | refine gg_pass rfl rfl (by with_reducible rfl) ?_ | refine gg_skipT rfl rfl (by with_reducible rfl) (blt_any rfl) ?_ | refine gg_skipF rfl rfl (by with_reducible rfl) (blt_any rfl) ?_ | refine gg_skipU rfl rfl (by with_reducible rfl) (blt_any rfl) ?_ | refine gg_splitD rfl rfl (fun _ => ?_) (fun _ => ?_) | refine gg_splitN rfl rfl (fun _ => ?_) (fun _ => ?_) | refine gg_split rfl rfl (fun _ => ?_) (fun _ => ?_)) | refine t_seq ?_ | refine t_perm rfl ?_ | refine t_permE ?_ | refine j_then ?_ | refine t_region ?_ | refine t_draw [] [] mixed (by decide +kernel) ?_ | (refine k_cond ?_; first | refine t_condT rfl (by with_reducible rfl) ?_ | refine t_condF rfl (by with_reducible rfl) ?_ | refine t_condS rfl (fun _ => ?_) (fun _ => ?_) | refine t_condSN rfl (fun _ => ?_) (fun _ => ?_) | refine t_condSB rfl (fun _ => ?_) (fun _ => ?_)) | refine t_block ?_ | refine j_in ?_ | refine t_skip ?_ | refine t_ret ?_ | refine j_then_ret ?_ | refine j_in_ret ?_ | refine t_exit ?_ | refine j_then_exit ?_ | refine j_in_exit ?_ | refine j_in_other rfl ?_ | refine t_scope ?_ | refine t_label ?_ | refine j_ng ?_ | refine j_ng_ret ?_ | refine j_ng_exit ?_)
    all_goals first
      | (exfalso; omega)
      | (refine r_call rfl (blt_some rfl) rfl (alive_c Φ) ?_
         intro _ _; dsimp only [bnd, List.cons_append, List.nil_append]
         repeat refine s1 ?_
         refine j_fin rfl (.cons (rv_tmp rfl) .nil) () (by rfl) (by trivial))
  obtain ⟨kn, rfl⟩ : ∃ n : Nat, kk = (n : Int) := ⟨kk.toNat, by omega⟩
  have hkl : kn ≤ es.length := by omega
  have ht : 1 ≤ t ∧ t ≤ 8 := by omega
  repeat refine s1 ?_
  refine r_cmpF rfl rfl rfl (by simp) rfl ?_
  repeat refine s1 ?_
  refine r_cmpF rfl rfl rfl (by simp; omega) rfl ?_
  repeat refine s1 ?_
  refine r_cmpF rfl rfl rfl (by simp; omega) rfl ?_
  repeat refine s1 ?_
  refine r_cmpF rfl rfl rfl (by simp; omega) rfl ?_
  repeat refine s1 ?_
  refine r_call rfl (blt_some rfl) rfl (judge_c t la lc es (by omega) o1 Φ) ?_
  intro _ _; dsimp only [bnd, List.cons_append, List.nil_append]
  repeat refine s1 ?_
  refine j_head (isl la es.length lc T.audit_Entry 2 (es.flatMap ecells)) ?_
  refine j_leni (fun hfl hc ha => ?_)
  refine r_piece 0 kn lc rfl (.inl ⟨rfl, rfl⟩) (.inr ⟨.i64, rfl⟩) (.inl ⟨rfl, rfl⟩) (Nat.zero_le _) (Nat.le_trans hkl hc) (Nat.le_refl _) rfl ?_
  refine j_ent (Ent.piece (lo := 0) (hi := kn) (mx := lc) (Nat.zero_le _) hkl (Nat.le_trans hkl hc) rfl _) ?_
  rw [flat_take es kn hkl]
  refine j_head (ents es) ?_
  refine j_ent (Ent.entsSub (es' := es.take kn) (fun e he => List.mem_of_mem_take he) _) ?_
  refine r_call rfl (blt_some rfl) rfl (judgeX_c t _ (lc - 0) (kn - 0) ((es.take kn).flatMap ecells) (es.take kn) rfl (by rw [List.length_take]; omega) (by omega) (fun e he => o1 e (List.mem_of_mem_take he)) Φ) ?_
  intro _ _; dsimp only [bnd, List.cons_append, List.nil_append]
  repeat refine s1 ?_
  refine r_build2s [] [] rfl rfl (by simp) rfl rfl rfl (fun b => ?_)
  repeat refine s1 ?_
  refine r_append (s := 2) (xs := ([] : List (Value × Value)).flatMap fun v => [v.1, v.2]) (ys := es.flatMap ecells) rfl rfl (by decide) (by rfl) (ecells_one es) (by omega) (by omega) rfl rfl (fun a1 c1 _ => ?_)
  rw [List.flatMap_nil, List.nil_append, Nat.zero_add]
  repeat refine s1 ?_
  refine r_append (s := 2) (xs := es.flatMap ecells) (ys := ms.flatMap ecells) rfl rfl (by decide) (by rfl) (ecells_one ms) (by omega) (by omega) rfl rfl (fun a2 c2 _ => ?_)
  refine j_freezeV a2 (es.length + ms.length) c2 T.audit_Entry 2 (es.flatMap ecells ++ ms.flatMap ecells) ?_
  refine j_heads [ents es, ents ms] ?_
  dsimp only [List.cons_append, List.nil_append]
  refine j_ent (Ent.entsApp _) ?_
  refine r_call rfl (blt_some rfl) rfl (judgeX_c t a2 c2 (es.length + ms.length) (es.flatMap ecells ++ ms.flatMap ecells) (es ++ ms) (by rw [List.flatMap_append]) (by rw [List.length_append]) (by omega) (fun e he => (List.mem_append.1 he).elim (o1 e) (o2 e)) Φ) ?_
  intro _ _; dsimp only [bnd, List.cons_append, List.nil_append]
  repeat refine s1 ?_
  have q1 := judge_take t ht (texts es) kn (by rw [List.length_map]; exact hkl)
  have q2 := judge_more t ht (texts es) (texts ms)
  rw [show texts (es.take kn) = (texts es).take kn from List.map_take, show texts (es ++ ms) = texts es ++ texts ms from List.map_append]
  rw [show (texts es).length = es.length from List.length_map _] at q2
  generalize judgeM t (texts es) = J1 at *
  generalize judgeM t ((texts es).take kn) = J2 at *
  generalize judgeM t (texts es ++ texts ms) = J3 at *
  obtain ⟨x1, y1⟩ := J1
  obtain ⟨x2, y2⟩ := J2
  obtain ⟨x3, y3⟩ := J3
  simp only [Prod.mk.injEq] at q1 q2
  dsimp only
  repeat' (first | refine r_nil ?_ | (refine k_move ?_; refine r_move rfl rfl ?_) | (refine k_assign ?_; refine r_assign rfl rfl ?_) | (refine k_nck ?_; first | refine r_nck rfl rfl ?_ | refine r_nckf rfl rfl ?_) | (refine k_fld ?_; first | refine r_fld0 rfl rfl ?_ | refine r_fld rfl rfl ?_) | (refine k_load ?_; first | refine r_load1L rfl rfl rfl ?_ | refine s_load1L rfl rfl rfl ?_ | refine r_load1 rfl rfl rfl rfl ?_ | refine r_loadW rfl rfl rfl rfl ?_ | refine s_loadW rfl rfl rfl rfl ?_) | (refine k_ext ?_; first | refine r_extL rfl rfl ?_ | refine r_ext rfl rfl rfl ?_) | (refine k_len ?_; refine r_lenS rfl rfl ?_) | (refine k_un ?_; first | refine r_notT rfl (by with_reducible rfl) rfl ?_ | refine r_notF rfl (by with_reducible rfl) rfl ?_ | refine r_not rfl rfl ?_) | (refine k_sl0 ?_; refine r_sliceA rfl (by decide) rfl ?_) | (refine k_conv ?_; refine r_conv rfl rfl ?_) | (refine k_pick ?_; first | refine r_pickT rfl (by with_reducible rfl) rfl rfl ?_ | refine r_pickF rfl (by with_reducible rfl) rfl rfl ?_) | (refine k_inc ?_; refine r_inc rfl (by omega) rfl ?_) | (refine k_bin ?_; first | refine r_icmpT rfl rfl rfl rfl ?_ | refine r_icmpF rfl rfl rfl rfl ?_ | refine r_icmp rfl rfl rfl rfl ?_) | (refine k_eql ?_; first | refine r_peqS rfl rfl rfl ?_ | refine r_peqN rfl rfl rfl ?_ | refine r_meqS rfl rfl rfl ?_ | refine r_meqN rfl rfl rfl ?_ | refine r_peq rfl rfl rfl ?_) | (refine k_neq ?_; first | refine r_pneS rfl rfl rfl ?_ | refine r_pneN rfl rfl rfl ?_ | refine r_mneS rfl rfl rfl ?_ | refine r_mneN rfl rfl rfl ?_ | refine r_pne rfl rfl rfl ?_) | (refine g_mark ?_; first | refine gg_pass rfl rfl (by with_reducible rfl) ?_ | refine gg_skipT rfl rfl (by with_reducible rfl) (blt_any rfl) ?_ | refine gg_skipF rfl rfl (by with_reducible rfl) (blt_any rfl) ?_ | refine gg_skipU rfl rfl (by with_reducible rfl) (blt_any rfl) ?_ | refine gg_splitD rfl rfl (fun _ => ?_) (fun _ => ?_) | refine gg_splitN rfl rfl (fun _ => ?_) (fun _ => ?_) | refine gg_split rfl rfl (fun _ => ?_) (fun _ => ?_)) | refine t_seq ?_ | refine t_perm rfl ?_ | refine t_permE ?_ | refine j_then ?_ | refine t_region ?_ | refine t_draw [] [] mixed (by decide +kernel) ?_ | (refine k_cond ?_; first | refine t_condT rfl (by with_reducible rfl) ?_ | refine t_condF rfl (by with_reducible rfl) ?_ | refine t_condS rfl (fun _ => ?_) (fun _ => ?_) | refine t_condSN rfl (fun _ => ?_) (fun _ => ?_) | refine t_condSB rfl (fun _ => ?_) (fun _ => ?_)) | refine t_block ?_ | refine j_in ?_ | refine t_skip ?_ | refine t_ret ?_ | refine j_then_ret ?_ | refine j_in_ret ?_ | refine t_exit ?_ | refine j_then_exit ?_ | refine j_in_exit ?_ | refine j_in_other rfl ?_ | refine t_scope ?_ | refine t_label ?_ | refine j_ng ?_ | refine j_ng_ret ?_ | refine j_ng_exit ?_)
  all_goals try (exfalso; omega)
  all_goals (refine r_call rfl (blt_some rfl) rfl (alive_c Φ) ?_; (intro _ _; dsimp only [bnd, List.cons_append, List.nil_append]); (repeat' (first | refine r_nil ?_ | (refine k_move ?_; refine r_move rfl rfl ?_) | (refine k_assign ?_; refine r_assign rfl rfl ?_) | (refine k_nck ?_; first | refine r_nck rfl rfl ?_ | refine r_nckf rfl rfl ?_) | (refine k_fld ?_; first | refine r_fld0 rfl rfl ?_ | refine r_fld rfl rfl ?_) | (refine k_load ?_; first | refine r_load1L rfl rfl rfl ?_ | refine s_load1L rfl rfl rfl ?_ | refine r_load1 rfl rfl rfl rfl ?_ | refine r_loadW rfl rfl rfl rfl ?_ | refine s_loadW rfl rfl rfl rfl ?_) | (refine k_ext ?_; first | refine r_extL rfl rfl ?_ | refine r_ext rfl rfl rfl ?_) | (refine k_len ?_; refine r_lenS rfl rfl ?_) | (refine k_un ?_; first | refine r_notT rfl (by with_reducible rfl) rfl ?_ | refine r_notF rfl (by with_reducible rfl) rfl ?_ | refine r_not rfl rfl ?_) | (refine k_sl0 ?_; refine r_sliceA rfl (by decide) rfl ?_) | (refine k_conv ?_; refine r_conv rfl rfl ?_) | (refine k_pick ?_; first | refine r_pickT rfl (by with_reducible rfl) rfl rfl ?_ | refine r_pickF rfl (by with_reducible rfl) rfl rfl ?_) | (refine k_inc ?_; refine r_inc rfl (by omega) rfl ?_) | (refine k_bin ?_; first | refine r_icmpT rfl rfl rfl rfl ?_ | refine r_icmpF rfl rfl rfl rfl ?_ | refine r_icmp rfl rfl rfl rfl ?_) | (refine k_eql ?_; first | refine r_peqS rfl rfl rfl ?_ | refine r_peqN rfl rfl rfl ?_ | refine r_meqS rfl rfl rfl ?_ | refine r_meqN rfl rfl rfl ?_ | refine r_peq rfl rfl rfl ?_) | (refine k_neq ?_; first | refine r_pneS rfl rfl rfl ?_ | refine r_pneN rfl rfl rfl ?_ | refine r_mneS rfl rfl rfl ?_ | refine r_mneN rfl rfl rfl ?_ | refine r_pne rfl rfl rfl ?_) | (refine g_mark ?_; first | refine gg_pass rfl rfl (by with_reducible rfl) ?_ | refine gg_skipT rfl rfl (by with_reducible rfl) (blt_any rfl) ?_ | refine gg_skipF rfl rfl (by with_reducible rfl) (blt_any rfl) ?_ | refine gg_skipU rfl rfl (by with_reducible rfl) (blt_any rfl) ?_ | refine gg_splitD rfl rfl (fun _ => ?_) (fun _ => ?_) | refine gg_splitN rfl rfl (fun _ => ?_) (fun _ => ?_) | refine gg_split rfl rfl (fun _ => ?_) (fun _ => ?_)) | refine t_seq ?_ | refine t_perm rfl ?_ | refine t_permE ?_ | refine j_then ?_ | refine t_region ?_ | refine t_draw [] [] mixed (by decide +kernel) ?_ | (refine k_cond ?_; first | refine t_condT rfl (by with_reducible rfl) ?_ | refine t_condF rfl (by with_reducible rfl) ?_ | refine t_condS rfl (fun _ => ?_) (fun _ => ?_) | refine t_condSN rfl (fun _ => ?_) (fun _ => ?_) | refine t_condSB rfl (fun _ => ?_) (fun _ => ?_)) | refine t_block ?_ | refine j_in ?_ | refine t_skip ?_ | refine t_ret ?_ | refine j_then_ret ?_ | refine j_in_ret ?_ | refine t_exit ?_ | refine j_then_exit ?_ | refine j_in_exit ?_ | refine j_in_other rfl ?_ | refine t_scope ?_ | refine t_label ?_ | refine j_ng ?_ | refine j_ng_ret ?_ | refine j_ng_exit ?_)))
  all_goals first
    | (exfalso; omega)
    | (refine j_fin rfl (.cons (rv_tmp rfl) .nil) () (by rfl) (by trivial))
    | (refine j_fin rfl (.cons (rv_tmp rfl) .nil) () (by simp [pack]; omega) (by trivial))
end Go.Proofs.Ytbecjgikhfplmaa
