/-
  The contracts of what the statements of the audit call: Great, entry, alive. For each input.
-/
import Derived.Test.YtbecjgikhfplmaaTwo
namespace Go.Proofs.Ytbecjgikhfplmaa
open Go Sl
attribute [local irreducible] cw sw J Exit.then Exit.inBlock Exit.noGoto bodyPost swG swL permL
def fineEn (e : En) : Prop := e.rq.length ≤ 5000 ∧ e.rp.length ≤ 5000
/-- what is not too much. -/
def Small (es : List En) : Prop := es = [] ∨ (es.length ≤ 30 ∧ ∀ e ∈ es, fineEn e)
instance (es : List En) : Decidable (Small es) := by unfold Small fineEn; infer_instance
set_option maxHeartbeats 1000000 in
theorem great_c (la : Option Addr) (lc : Nat) (es : List En) (hl : es.length ≤ 9223372036854775807) (hx : ∀ e ∈ es, e.rq.length ≤ 9223372036854775807 ∧ e.rp.length ≤ 9223372036854775807) (Φ : Base) :
    Sl.Fn Try.prog Φ F.casematelaw34_Great [.slice la es.length lc] [isl la es.length lc T.audit_Entry 2 (es.flatMap ecells)] (fun _ : Unit => True)
      (fun _ => .bool (!decide (Small es))) (fun _ => []) := by
  refine fn_of rfl rfl (fun F => ?_)
  dsimp only [argEnv, List.cons_append, List.nil_append, Nat.zero_add, Nat.reduceAdd]
  repeat refine s1 ?_
  refine j_leni (fun hfl hc ha => ?_)
  refine t_loop (σ := Nat) (fun i => [(3, i64 i), (0, .slice la es.length lc)])
    (fun _ => isl la es.length lc T.audit_Entry 2 (es.flatMap ecells) :: F)
    (fun i => i ≤ es.length ∧ (0 < i → es.length ≤ 30) ∧ ∀ j e, j < i → es[j]? = some e → fineEn e) (fun i => es.length - i)
    0 ⟨Nat.zero_le _, fun h => absurd h (Nat.lt_irrefl _), fun j e h => absurd h (Nat.not_lt_zero _)⟩ ⟨rfl, rfl, trivial⟩ Le.ent ?_
  rintro i ⟨hi, h30, hj⟩
  dsimp only at hi h30 hj ⊢
  repeat refine s1 ?_
  refine r_icmp rfl rfl rfl rfl ?_
  repeat refine s1 ?_
  refine t_condS rfl (fun h => ?_) (fun h => ?_)
  · have hlt : i < es.length := by omega
    obtain ⟨b, off, rfl⟩ := ha (by omega)
    have hat : es[i]? = some es[i] := List.getElem?_eq_getElem hlt
    have hmem : es[i] ∈ es := List.getElem_mem hlt
    generalize es[i] = en at *
    obtain ⟨k1, k2⟩ := hx en hmem
    have big : (30 < es.length ∨ 5000 < en.rq.length ∨ 5000 < en.rp.length) → ¬ Small es := fun hb hs => by
      rcases hs with hs | hs
      · rw [hs] at hlt; exact Nat.not_lt_zero _ hlt
      · have h1 := hs.1
        have h2 := hs.2 en hmem
        unfold fineEn at h2
        omega
    repeat refine s1 ?_
    refine r_icmp rfl rfl rfl rfl ?_
    repeat' (first | refine r_nil ?_ | (refine k_move ?_; refine r_move rfl rfl ?_) | (refine k_assign ?_; refine r_assign rfl rfl ?_) | (refine k_nck ?_; first | refine r_nck rfl rfl ?_ | refine r_nckf rfl rfl ?_) | (refine k_fld ?_; first | refine r_fld0 rfl rfl ?_ | refine r_fld rfl rfl ?_) | (refine k_load ?_; first | refine r_load1L rfl rfl rfl ?_ | refine s_load1L rfl rfl rfl ?_ | refine r_load1 rfl rfl rfl rfl ?_ | refine r_loadW rfl rfl rfl rfl ?_ | refine s_loadW rfl rfl rfl rfl ?_) | (refine k_ext ?_; first | refine r_extL rfl rfl ?_ | refine r_ext rfl rfl rfl ?_) | (refine k_len ?_; refine r_lenS rfl rfl ?_) | (refine k_un ?_; first | refine r_notT rfl (by with_reducible rfl) rfl ?_ | refine r_notF rfl (by with_reducible rfl) rfl ?_ | refine r_not rfl rfl ?_) | (refine k_sl0 ?_; refine r_sliceA rfl (by decide) rfl ?_) | (refine k_conv ?_; refine r_conv rfl rfl ?_) | (refine k_pick ?_; first | refine r_pickT rfl (by with_reducible rfl) rfl rfl ?_ | refine r_pickF rfl (by with_reducible rfl) rfl rfl ?_) | (refine k_inc ?_; refine r_inc rfl (by omega) rfl ?_) | (refine k_bin ?_; first | refine r_icmpT rfl rfl rfl rfl ?_ | refine r_icmpF rfl rfl rfl rfl ?_ | refine r_icmp rfl rfl rfl rfl ?_) | (refine k_eql ?_; first | refine r_peqS rfl rfl rfl ?_ | refine r_peqN rfl rfl rfl ?_ | refine r_meqS rfl rfl rfl ?_ | refine r_meqN rfl rfl rfl ?_ | refine r_peq rfl rfl rfl ?_) | (refine k_neq ?_; first | refine r_pneS rfl rfl rfl ?_ | refine r_pneN rfl rfl rfl ?_ | refine r_mneS rfl rfl rfl ?_ | refine r_mneN rfl rfl rfl ?_ | refine r_pne rfl rfl rfl ?_) | (refine g_mark ?_; first | refine gg_pass rfl rfl (by with_reducible rfl) ?_ | refine gg_skipT rfl rfl (by with_reducible rfl) (blt_any rfl) ?_ | refine gg_skipF rfl rfl (by with_reducible rfl) (blt_any rfl) ?_ | refine gg_skipU rfl rfl (by with_reducible rfl) (blt_any rfl) ?_ | refine gg_splitD rfl rfl (fun _ => ?_) (fun _ => ?_) | refine gg_splitN rfl rfl (fun _ => ?_) (fun _ => ?_) | refine gg_split rfl rfl (fun _ => ?_) (fun _ => ?_)) | refine t_seq ?_ | refine t_perm rfl ?_ | refine t_permE ?_ | refine j_then ?_ | refine t_region ?_ | refine t_draw [] [] mixed (by decide +kernel) ?_ | (refine k_cond ?_; first | refine t_condT rfl (by with_reducible rfl) ?_ | refine t_condF rfl (by with_reducible rfl) ?_ | refine t_condS rfl (fun _ => ?_) (fun _ => ?_) | refine t_condSN rfl (fun _ => ?_) (fun _ => ?_) | refine t_condSB rfl (fun _ => ?_) (fun _ => ?_)) | refine t_block ?_ | refine j_in ?_ | refine t_skip ?_ | refine t_ret ?_ | refine j_then_ret ?_ | refine j_in_ret ?_ | refine t_exit ?_ | refine j_then_exit ?_ | refine j_in_exit ?_ | refine j_in_other rfl ?_ | refine t_scope ?_ | refine t_label ?_ | refine j_ng ?_ | refine j_ng_ret ?_ | refine j_ng_exit ?_)
    · have hM := big (.inl (by omega))
      refine j_fin rfl (.cons (rv_tmp rfl) .nil) () (by simp [pack, hM]) (by trivial)
    refine r_idx rfl rfl (by omega) (by omega) rfl ?_
    repeat' (first | refine r_nil ?_ | (refine k_move ?_; refine r_move rfl rfl ?_) | (refine k_assign ?_; refine r_assign rfl rfl ?_) | (refine k_nck ?_; first | refine r_nck rfl rfl ?_ | refine r_nckf rfl rfl ?_) | (refine k_fld ?_; first | refine r_fld0 rfl rfl ?_ | refine r_fld rfl rfl ?_) | (refine k_load ?_; first | refine r_load1L rfl rfl rfl ?_ | refine s_load1L rfl rfl rfl ?_ | refine r_load1 rfl rfl rfl rfl ?_ | refine r_loadW rfl rfl rfl rfl ?_ | refine s_loadW rfl rfl rfl rfl ?_) | (refine k_ext ?_; first | refine r_extL rfl rfl ?_ | refine r_ext rfl rfl rfl ?_) | (refine k_len ?_; refine r_lenS rfl rfl ?_) | (refine k_un ?_; first | refine r_notT rfl (by with_reducible rfl) rfl ?_ | refine r_notF rfl (by with_reducible rfl) rfl ?_ | refine r_not rfl rfl ?_) | (refine k_sl0 ?_; refine r_sliceA rfl (by decide) rfl ?_) | (refine k_conv ?_; refine r_conv rfl rfl ?_) | (refine k_pick ?_; first | refine r_pickT rfl (by with_reducible rfl) rfl rfl ?_ | refine r_pickF rfl (by with_reducible rfl) rfl rfl ?_) | (refine k_inc ?_; refine r_inc rfl (by omega) rfl ?_) | (refine k_bin ?_; first | refine r_icmpT rfl rfl rfl rfl ?_ | refine r_icmpF rfl rfl rfl rfl ?_ | refine r_icmp rfl rfl rfl rfl ?_) | (refine k_eql ?_; first | refine r_peqS rfl rfl rfl ?_ | refine r_peqN rfl rfl rfl ?_ | refine r_meqS rfl rfl rfl ?_ | refine r_meqN rfl rfl rfl ?_ | refine r_peq rfl rfl rfl ?_) | (refine k_neq ?_; first | refine r_pneS rfl rfl rfl ?_ | refine r_pneN rfl rfl rfl ?_ | refine r_mneS rfl rfl rfl ?_ | refine r_mneN rfl rfl rfl ?_ | refine r_pne rfl rfl rfl ?_) | (refine g_mark ?_; first | refine gg_pass rfl rfl (by with_reducible rfl) ?_ | refine gg_skipT rfl rfl (by with_reducible rfl) (blt_any rfl) ?_ | refine gg_skipF rfl rfl (by with_reducible rfl) (blt_any rfl) ?_ | refine gg_skipU rfl rfl (by with_reducible rfl) (blt_any rfl) ?_ | refine gg_splitD rfl rfl (fun _ => ?_) (fun _ => ?_) | refine gg_splitN rfl rfl (fun _ => ?_) (fun _ => ?_) | refine gg_split rfl rfl (fun _ => ?_) (fun _ => ?_)) | refine t_seq ?_ | refine t_perm rfl ?_ | refine t_permE ?_ | refine j_then ?_ | refine t_region ?_ | refine t_draw [] [] mixed (by decide +kernel) ?_ | (refine k_cond ?_; first | refine t_condT rfl (by with_reducible rfl) ?_ | refine t_condF rfl (by with_reducible rfl) ?_ | refine t_condS rfl (fun _ => ?_) (fun _ => ?_) | refine t_condSN rfl (fun _ => ?_) (fun _ => ?_) | refine t_condSB rfl (fun _ => ?_) (fun _ => ?_)) | refine t_block ?_ | refine j_in ?_ | refine t_skip ?_ | refine t_ret ?_ | refine j_then_ret ?_ | refine j_in_ret ?_ | refine t_exit ?_ | refine j_then_exit ?_ | refine j_in_exit ?_ | refine j_in_other rfl ?_ | refine t_scope ?_ | refine t_label ?_ | refine j_ng ?_ | refine j_ng_ret ?_ | refine j_ng_exit ?_)
    refine r_loadI (off := off) (n := es.length) (cap := lc) (E := T.audit_Entry) (s := 2) (xs := es.flatMap ecells) (j := 2 * i + 0) rfl (by simp; omega) (ecells_at es i en hat 0 _ rfl) rfl rfl ?_
    repeat' (first | refine r_nil ?_ | (refine k_move ?_; refine r_move rfl rfl ?_) | (refine k_assign ?_; refine r_assign rfl rfl ?_) | (refine k_nck ?_; first | refine r_nck rfl rfl ?_ | refine r_nckf rfl rfl ?_) | (refine k_fld ?_; first | refine r_fld0 rfl rfl ?_ | refine r_fld rfl rfl ?_) | (refine k_load ?_; first | refine r_load1L rfl rfl rfl ?_ | refine s_load1L rfl rfl rfl ?_ | refine r_load1 rfl rfl rfl rfl ?_ | refine r_loadW rfl rfl rfl rfl ?_ | refine s_loadW rfl rfl rfl rfl ?_) | (refine k_ext ?_; first | refine r_extL rfl rfl ?_ | refine r_ext rfl rfl rfl ?_) | (refine k_len ?_; refine r_lenS rfl rfl ?_) | (refine k_un ?_; first | refine r_notT rfl (by with_reducible rfl) rfl ?_ | refine r_notF rfl (by with_reducible rfl) rfl ?_ | refine r_not rfl rfl ?_) | (refine k_sl0 ?_; refine r_sliceA rfl (by decide) rfl ?_) | (refine k_conv ?_; refine r_conv rfl rfl ?_) | (refine k_pick ?_; first | refine r_pickT rfl (by with_reducible rfl) rfl rfl ?_ | refine r_pickF rfl (by with_reducible rfl) rfl rfl ?_) | (refine k_inc ?_; refine r_inc rfl (by omega) rfl ?_) | (refine k_bin ?_; first | refine r_icmpT rfl rfl rfl rfl ?_ | refine r_icmpF rfl rfl rfl rfl ?_ | refine r_icmp rfl rfl rfl rfl ?_) | (refine k_eql ?_; first | refine r_peqS rfl rfl rfl ?_ | refine r_peqN rfl rfl rfl ?_ | refine r_meqS rfl rfl rfl ?_ | refine r_meqN rfl rfl rfl ?_ | refine r_peq rfl rfl rfl ?_) | (refine k_neq ?_; first | refine r_pneS rfl rfl rfl ?_ | refine r_pneN rfl rfl rfl ?_ | refine r_mneS rfl rfl rfl ?_ | refine r_mneN rfl rfl rfl ?_ | refine r_pne rfl rfl rfl ?_) | (refine g_mark ?_; first | refine gg_pass rfl rfl (by with_reducible rfl) ?_ | refine gg_skipT rfl rfl (by with_reducible rfl) (blt_any rfl) ?_ | refine gg_skipF rfl rfl (by with_reducible rfl) (blt_any rfl) ?_ | refine gg_skipU rfl rfl (by with_reducible rfl) (blt_any rfl) ?_ | refine gg_splitD rfl rfl (fun _ => ?_) (fun _ => ?_) | refine gg_splitN rfl rfl (fun _ => ?_) (fun _ => ?_) | refine gg_split rfl rfl (fun _ => ?_) (fun _ => ?_)) | refine t_seq ?_ | refine t_perm rfl ?_ | refine t_permE ?_ | refine j_then ?_ | refine t_region ?_ | refine t_draw [] [] mixed (by decide +kernel) ?_ | (refine k_cond ?_; first | refine t_condT rfl (by with_reducible rfl) ?_ | refine t_condF rfl (by with_reducible rfl) ?_ | refine t_condS rfl (fun _ => ?_) (fun _ => ?_) | refine t_condSN rfl (fun _ => ?_) (fun _ => ?_) | refine t_condSB rfl (fun _ => ?_) (fun _ => ?_)) | refine t_block ?_ | refine j_in ?_ | refine t_skip ?_ | refine t_ret ?_ | refine j_then_ret ?_ | refine j_in_ret ?_ | refine t_exit ?_ | refine j_then_exit ?_ | refine j_in_exit ?_ | refine j_in_other rfl ?_ | refine t_scope ?_ | refine t_label ?_ | refine j_ng ?_ | refine j_ng_ret ?_ | refine j_ng_exit ?_)
    · have hM := big (.inr (.inl (by omega)))
      refine j_fin rfl (.cons (rv_tmp rfl) .nil) () (by simp [pack, hM]) (by trivial)
    refine r_idx rfl rfl (by omega) (by omega) rfl ?_
    repeat' (first | refine r_nil ?_ | (refine k_move ?_; refine r_move rfl rfl ?_) | (refine k_assign ?_; refine r_assign rfl rfl ?_) | (refine k_nck ?_; first | refine r_nck rfl rfl ?_ | refine r_nckf rfl rfl ?_) | (refine k_fld ?_; first | refine r_fld0 rfl rfl ?_ | refine r_fld rfl rfl ?_) | (refine k_load ?_; first | refine r_load1L rfl rfl rfl ?_ | refine s_load1L rfl rfl rfl ?_ | refine r_load1 rfl rfl rfl rfl ?_ | refine r_loadW rfl rfl rfl rfl ?_ | refine s_loadW rfl rfl rfl rfl ?_) | (refine k_ext ?_; first | refine r_extL rfl rfl ?_ | refine r_ext rfl rfl rfl ?_) | (refine k_len ?_; refine r_lenS rfl rfl ?_) | (refine k_un ?_; first | refine r_notT rfl (by with_reducible rfl) rfl ?_ | refine r_notF rfl (by with_reducible rfl) rfl ?_ | refine r_not rfl rfl ?_) | (refine k_sl0 ?_; refine r_sliceA rfl (by decide) rfl ?_) | (refine k_conv ?_; refine r_conv rfl rfl ?_) | (refine k_pick ?_; first | refine r_pickT rfl (by with_reducible rfl) rfl rfl ?_ | refine r_pickF rfl (by with_reducible rfl) rfl rfl ?_) | (refine k_inc ?_; refine r_inc rfl (by omega) rfl ?_) | (refine k_bin ?_; first | refine r_icmpT rfl rfl rfl rfl ?_ | refine r_icmpF rfl rfl rfl rfl ?_ | refine r_icmp rfl rfl rfl rfl ?_) | (refine k_eql ?_; first | refine r_peqS rfl rfl rfl ?_ | refine r_peqN rfl rfl rfl ?_ | refine r_meqS rfl rfl rfl ?_ | refine r_meqN rfl rfl rfl ?_ | refine r_peq rfl rfl rfl ?_) | (refine k_neq ?_; first | refine r_pneS rfl rfl rfl ?_ | refine r_pneN rfl rfl rfl ?_ | refine r_mneS rfl rfl rfl ?_ | refine r_mneN rfl rfl rfl ?_ | refine r_pne rfl rfl rfl ?_) | (refine g_mark ?_; first | refine gg_pass rfl rfl (by with_reducible rfl) ?_ | refine gg_skipT rfl rfl (by with_reducible rfl) (blt_any rfl) ?_ | refine gg_skipF rfl rfl (by with_reducible rfl) (blt_any rfl) ?_ | refine gg_skipU rfl rfl (by with_reducible rfl) (blt_any rfl) ?_ | refine gg_splitD rfl rfl (fun _ => ?_) (fun _ => ?_) | refine gg_splitN rfl rfl (fun _ => ?_) (fun _ => ?_) | refine gg_split rfl rfl (fun _ => ?_) (fun _ => ?_)) | refine t_seq ?_ | refine t_perm rfl ?_ | refine t_permE ?_ | refine j_then ?_ | refine t_region ?_ | refine t_draw [] [] mixed (by decide +kernel) ?_ | (refine k_cond ?_; first | refine t_condT rfl (by with_reducible rfl) ?_ | refine t_condF rfl (by with_reducible rfl) ?_ | refine t_condS rfl (fun _ => ?_) (fun _ => ?_) | refine t_condSN rfl (fun _ => ?_) (fun _ => ?_) | refine t_condSB rfl (fun _ => ?_) (fun _ => ?_)) | refine t_block ?_ | refine j_in ?_ | refine t_skip ?_ | refine t_ret ?_ | refine j_then_ret ?_ | refine j_in_ret ?_ | refine t_exit ?_ | refine j_then_exit ?_ | refine j_in_exit ?_ | refine j_in_other rfl ?_ | refine t_scope ?_ | refine t_label ?_ | refine j_ng ?_ | refine j_ng_ret ?_ | refine j_ng_exit ?_)
    refine r_loadI (off := off) (n := es.length) (cap := lc) (E := T.audit_Entry) (s := 2) (xs := es.flatMap ecells) (j := 2 * i + 1) rfl (by simp; omega) (ecells_at es i en hat 1 _ rfl) rfl rfl ?_
    repeat' (first | refine r_nil ?_ | (refine k_move ?_; refine r_move rfl rfl ?_) | (refine k_assign ?_; refine r_assign rfl rfl ?_) | (refine k_nck ?_; first | refine r_nck rfl rfl ?_ | refine r_nckf rfl rfl ?_) | (refine k_fld ?_; first | refine r_fld0 rfl rfl ?_ | refine r_fld rfl rfl ?_) | (refine k_load ?_; first | refine r_load1L rfl rfl rfl ?_ | refine s_load1L rfl rfl rfl ?_ | refine r_load1 rfl rfl rfl rfl ?_ | refine r_loadW rfl rfl rfl rfl ?_ | refine s_loadW rfl rfl rfl rfl ?_) | (refine k_ext ?_; first | refine r_extL rfl rfl ?_ | refine r_ext rfl rfl rfl ?_) | (refine k_len ?_; refine r_lenS rfl rfl ?_) | (refine k_un ?_; first | refine r_notT rfl (by with_reducible rfl) rfl ?_ | refine r_notF rfl (by with_reducible rfl) rfl ?_ | refine r_not rfl rfl ?_) | (refine k_sl0 ?_; refine r_sliceA rfl (by decide) rfl ?_) | (refine k_conv ?_; refine r_conv rfl rfl ?_) | (refine k_pick ?_; first | refine r_pickT rfl (by with_reducible rfl) rfl rfl ?_ | refine r_pickF rfl (by with_reducible rfl) rfl rfl ?_) | (refine k_inc ?_; refine r_inc rfl (by omega) rfl ?_) | (refine k_bin ?_; first | refine r_icmpT rfl rfl rfl rfl ?_ | refine r_icmpF rfl rfl rfl rfl ?_ | refine r_icmp rfl rfl rfl rfl ?_) | (refine k_eql ?_; first | refine r_peqS rfl rfl rfl ?_ | refine r_peqN rfl rfl rfl ?_ | refine r_meqS rfl rfl rfl ?_ | refine r_meqN rfl rfl rfl ?_ | refine r_peq rfl rfl rfl ?_) | (refine k_neq ?_; first | refine r_pneS rfl rfl rfl ?_ | refine r_pneN rfl rfl rfl ?_ | refine r_mneS rfl rfl rfl ?_ | refine r_mneN rfl rfl rfl ?_ | refine r_pne rfl rfl rfl ?_) | (refine g_mark ?_; first | refine gg_pass rfl rfl (by with_reducible rfl) ?_ | refine gg_skipT rfl rfl (by with_reducible rfl) (blt_any rfl) ?_ | refine gg_skipF rfl rfl (by with_reducible rfl) (blt_any rfl) ?_ | refine gg_skipU rfl rfl (by with_reducible rfl) (blt_any rfl) ?_ | refine gg_splitD rfl rfl (fun _ => ?_) (fun _ => ?_) | refine gg_splitN rfl rfl (fun _ => ?_) (fun _ => ?_) | refine gg_split rfl rfl (fun _ => ?_) (fun _ => ?_)) | refine t_seq ?_ | refine t_perm rfl ?_ | refine t_permE ?_ | refine j_then ?_ | refine t_region ?_ | refine t_draw [] [] mixed (by decide +kernel) ?_ | (refine k_cond ?_; first | refine t_condT rfl (by with_reducible rfl) ?_ | refine t_condF rfl (by with_reducible rfl) ?_ | refine t_condS rfl (fun _ => ?_) (fun _ => ?_) | refine t_condSN rfl (fun _ => ?_) (fun _ => ?_) | refine t_condSB rfl (fun _ => ?_) (fun _ => ?_)) | refine t_block ?_ | refine j_in ?_ | refine t_skip ?_ | refine t_ret ?_ | refine j_then_ret ?_ | refine j_in_ret ?_ | refine t_exit ?_ | refine j_then_exit ?_ | refine j_in_exit ?_ | refine j_in_other rfl ?_ | refine t_scope ?_ | refine t_label ?_ | refine j_ng ?_ | refine j_ng_ret ?_ | refine j_ng_exit ?_)
    · have hM := big (.inr (.inr (by omega)))
      refine j_fin rfl (.cons (rv_tmp rfl) .nil) () (by simp [pack, hM]) (by trivial)
    refine j_again (i + 1) ⟨by omega, fun _ => by omega, fun j e hji hje => ?_⟩ (by omega) ⟨rfl, rfl, trivial⟩ Le.ent
    by_cases hij : j = i
    · subst hij; rw [hat] at hje; cases hje; exact ⟨by omega, by omega⟩
    · exact hj j e (by omega) hje
  · have : i = es.length := by omega
    subst this
    have hM : Small es := by
      rcases Nat.eq_zero_or_pos es.length with h0 | h0
      · exact .inl (List.eq_nil_of_length_eq_zero h0)
      · refine .inr ⟨h30 h0, fun e he => ?_⟩
        obtain ⟨j, hje⟩ := List.getElem?_of_mem he
        exact hj j e (List.getElem?_eq_some_iff.1 hje).1 hje
    repeat refine s1 ?_
    refine j_fin rfl (.cons (rv_tmp rfl) .nil) () (by simp [pack, hM]) (by trivial)
/-- an entry of a request and a reply. -/
def encE (q : Rq) (ds : List Nat) (r : Rp) (x : (Option Addr × Nat) × (Option Addr × Nat)) : En :=
  ((x.1.1, x.1.2, (encM q ds).getD []), (x.2.1, x.2.2, (repEnc r.e r.n r.d).getD []))
theorem entry_c (q : Rq) (qa : Option Addr) (qc : Nat) (ds : List Nat) (r : Rp) (da : Option Addr) (dc : Nat) (hb : ds.length ≤ 1000000000) (hds : ∀ x ∈ ds, x < 256) (Φ : Base) :
    Sl.Fn Try.prog Φ F.casematelaw34_entry [.agg (q.cells (.slice qa ds.length qc)).toArray, .agg (rcells r da dc).toArray] [brow qa ds.length qc ds, brow da r.d.length dc r.d] (fun _ : (Option Addr × Nat) × (Option Addr × Nat) => True)
      (fun x => .agg (ecells (encE q ds r x)).toArray) (fun x => [ents [encE q ds r x]]) := by
  refine fn_of rfl rfl (fun F => ?_)
  dsimp only [argEnv, List.cons_append, List.nil_append, Nat.zero_add, Nat.reduceAdd]
  repeat refine s1 ?_
  refine r_box (cs := q.cells (.slice qa ds.length qc)) rfl rfl rfl rfl (fun p2 => ?_)
  refine r_box (cs := rcells r da dc) rfl rfl rfl rfl (fun p3 => ?_)
  refine r_alloc (cs := [.slice none 0 0, .slice none 0 0]) rfl rfl rfl (fun p4 => ?_)
  repeat refine s1 ?_
  refine r_loadW rfl (q.len _) rfl rfl ?_
  repeat refine s1 ?_
  refine r_call rfl (blt_some rfl) rfl (encode_c q qa ds.length qc ds rfl hb hds Φ) ?_
  rintro ⟨wa, wc⟩ _
  dsimp only [bnd]
  rcases he : encM q ds with _ | w
  · dsimp only [List.cons_append, List.nil_append]
    repeat refine s1 ?_
    refine r_call rfl (blt_some rfl) rfl (repEncode_c r.e r.n da r.d.length dc r.d rfl Φ) ?_
    rintro ⟨va, vc⟩ _
    dsimp only [bnd]
    rcases hv : repEnc r.e r.n r.d with _ | v
    · dsimp only [List.cons_append, List.nil_append]
      repeat refine s1 ?_
      have hM : encE q ds r ((none, 0), (none, 0)) = ((none, 0, []), (none, 0, [])) := by rw [encE, he, hv]; rfl
      refine r_build (cells := [.slice none 0 0, .slice none 0 0]) rfl (by rfl) rfl ?_
      refine r_storeW (vs := [.slice none 0 0, .slice none 0 0]) rfl rfl (by rfl) (by rfl) (by simp [Value.oneCell']) rfl ?_
      repeat refine s1 ?_
      refine j_ent (Ent.brow0 _) ?_
      refine j_ent (Ent.brow0 _) ?_
      refine j_ent (Ent.entsCons (e := ((none, 0, []), (none, 0, []))) _) ?_
      rw [← hM]
      refine j_fin rfl (.cons (rv_agg (l := [.slice none 0 0, .slice none 0 0]) (U := T.audit_Entry) (fr := (0, 0)) rfl (by rfl)) .nil) ((none, 0), (none, 0)) (by rw [hM]; rfl) (by trivial)
    · dsimp only [List.cons_append, List.nil_append]
      repeat refine s1 ?_
      have hM : encE q ds r ((none, 0), (va, vc)) = ((none, 0, []), (va, vc, v)) := by rw [encE, he, hv]; rfl
      refine r_build (cells := [.slice none 0 0, .slice va v.length vc]) rfl (by rfl) rfl ?_
      refine r_storeW (vs := [.slice none 0 0, .slice va v.length vc]) rfl rfl (by rfl) (by rfl) (by simp [Value.oneCell']) rfl ?_
      repeat refine s1 ?_
      refine j_freezeV va v.length vc T.uint8 1 (v.map u8) ?_
      refine j_ent (Ent.brow0 _) ?_
      refine j_ent (Ent.entsCons (e := ((none, 0, []), (va, vc, v))) _) ?_
      rw [← hM]
      refine j_fin rfl (.cons (rv_agg (l := [.slice none 0 0, .slice va v.length vc]) (U := T.audit_Entry) (fr := (0, 0)) rfl (by rfl)) .nil) ((none, 0), (va, vc)) (by rw [hM]; rfl) (by trivial)
  · dsimp only [List.cons_append, List.nil_append]
    repeat refine s1 ?_
    refine r_call rfl (blt_some rfl) rfl (repEncode_c r.e r.n da r.d.length dc r.d rfl Φ) ?_
    rintro ⟨va, vc⟩ _
    dsimp only [bnd]
    rcases hv : repEnc r.e r.n r.d with _ | v
    · dsimp only [List.cons_append, List.nil_append]
      repeat refine s1 ?_
      have hM : encE q ds r ((wa, wc), (none, 0)) = ((wa, wc, w), (none, 0, [])) := by rw [encE, he, hv]; rfl
      refine r_build (cells := [.slice wa w.length wc, .slice none 0 0]) rfl (by rfl) rfl ?_
      refine r_storeW (vs := [.slice wa w.length wc, .slice none 0 0]) rfl rfl (by rfl) (by rfl) (by simp [Value.oneCell']) rfl ?_
      repeat refine s1 ?_
      refine j_ent (Ent.brow0 _) ?_
      refine j_freezeV wa w.length wc T.uint8 1 (w.map u8) ?_
      refine j_ent (Ent.entsCons (e := ((wa, wc, w), (none, 0, []))) _) ?_
      rw [← hM]
      refine j_fin rfl (.cons (rv_agg (l := [.slice wa w.length wc, .slice none 0 0]) (U := T.audit_Entry) (fr := (0, 0)) rfl (by rfl)) .nil) ((wa, wc), (none, 0)) (by rw [hM]; rfl) (by trivial)
    · dsimp only [List.cons_append, List.nil_append]
      repeat refine s1 ?_
      have hM : encE q ds r ((wa, wc), (va, vc)) = ((wa, wc, w), (va, vc, v)) := by rw [encE, he, hv]; rfl
      refine r_build (cells := [.slice wa w.length wc, .slice va v.length vc]) rfl (by rfl) rfl ?_
      refine r_storeW (vs := [.slice wa w.length wc, .slice va v.length vc]) rfl rfl (by rfl) (by rfl) (by simp [Value.oneCell']) rfl ?_
      repeat refine s1 ?_
      refine j_freezeV va v.length vc T.uint8 1 (v.map u8) ?_
      refine j_freezeV wa w.length wc T.uint8 1 (w.map u8) ?_
      refine j_ent (Ent.entsCons (e := ((wa, wc, w), (va, vc, v))) _) ?_
      rw [← hM]
      refine j_fin rfl (.cons (rv_agg (l := [.slice wa w.length wc, .slice va v.length vc]) (U := T.audit_Entry) (fr := (0, 0)) rfl (by rfl)) .nil) ((wa, wc), (va, vc)) (by rw [hM]; rfl) (by trivial)
end Go.Proofs.Ytbecjgikhfplmaa
