/-
  The contracts of Decode and Blocks of requests. For each input.
-/
import Derived.Test.YtbecjgikhfplmaaReq3
namespace Go.Proofs.Ytbecjgikhfplmaa
open Go Sl
attribute [local irreducible] cw sw J Exit.then Exit.inBlock Exit.noGoto bodyPost swG swL permL
theorem blocks_c (q : Rq) (a : Option Addr) (n cap : Nat) (hn : n ≤ 9223372036854775807) : Pure F.req_Blocks [.agg (q.cells (.slice a n cap)).toArray] (.int .i64 (if q.num 0 = 3 ∨ q.num 0 = 5 then q.num 5 else if q.num 0 = 4 then ((n / 512 : Nat) : Int) else 0)) := by
  intro Φ
  refine fn_of rfl rfl (fun F => ?_)
  dsimp only [argEnv, List.cons_append, List.nil_append, Nat.zero_add, Nat.reduceAdd]
  repeat refine s1 ?_
  refine r_box (cs := q.cells (.slice a n cap)) rfl rfl rfl rfl (fun p => ?_)
  repeat' (first | refine r_nil ?_ | (refine k_move ?_; refine r_move rfl rfl ?_) | (refine k_assign ?_; refine r_assign rfl rfl ?_) | (refine k_nck ?_; first | refine r_nck rfl rfl ?_ | refine r_nckf rfl rfl ?_) | (refine k_fld ?_; first | refine r_fld0 rfl rfl ?_ | refine r_fld rfl rfl ?_) | (refine k_load ?_; first | refine r_load1L rfl rfl rfl ?_ | refine s_load1L rfl rfl rfl ?_ | refine r_load1 rfl rfl rfl rfl ?_ | refine r_loadW rfl rfl rfl rfl ?_ | refine s_loadW rfl rfl rfl rfl ?_) | (refine k_ext ?_; first | refine r_extL rfl rfl ?_ | refine r_ext rfl rfl rfl ?_) | (refine k_len ?_; refine r_lenS rfl rfl ?_) | (refine k_un ?_; first | refine r_notT rfl (by with_reducible rfl) rfl ?_ | refine r_notF rfl (by with_reducible rfl) rfl ?_ | refine r_not rfl rfl ?_) | (refine k_sl0 ?_; refine r_sliceA rfl (by decide) rfl ?_) | (refine k_conv ?_; refine r_conv rfl rfl ?_) | (refine k_pick ?_; first | refine r_pickT rfl (by with_reducible rfl) rfl rfl ?_ | refine r_pickF rfl (by with_reducible rfl) rfl rfl ?_) | (refine k_inc ?_; refine r_inc rfl (by omega) rfl ?_) | (refine k_bin ?_; first | refine r_icmpT rfl rfl rfl rfl ?_ | refine r_icmpF rfl rfl rfl rfl ?_ | refine r_icmp rfl rfl rfl rfl ?_) | (refine k_eql ?_; first | refine r_peqS rfl rfl rfl ?_ | refine r_peqN rfl rfl rfl ?_ | refine r_meqS rfl rfl rfl ?_ | refine r_meqN rfl rfl rfl ?_ | refine r_peq rfl rfl rfl ?_) | (refine k_neq ?_; first | refine r_pneS rfl rfl rfl ?_ | refine r_pneN rfl rfl rfl ?_ | refine r_mneS rfl rfl rfl ?_ | refine r_mneN rfl rfl rfl ?_ | refine r_pne rfl rfl rfl ?_) | (refine g_mark ?_; first | refine gg_pass rfl rfl (by with_reducible rfl) ?_ | refine gg_skipT rfl rfl (by with_reducible rfl) (blt_any rfl) ?_ | refine gg_skipF rfl rfl (by with_reducible rfl) (blt_any rfl) ?_ | refine gg_skipU rfl rfl (by with_reducible rfl) (blt_any rfl) ?_ | refine gg_splitD rfl rfl (fun _ => ?_) (fun _ => ?_) | refine gg_splitN rfl rfl (fun _ => ?_) (fun _ => ?_) | refine gg_split rfl rfl (fun _ => ?_) (fun _ => ?_)) | refine t_seq ?_ | refine t_perm rfl ?_ | refine t_permE ?_ | refine j_then ?_ | refine t_region ?_ | refine t_draw [] [] mixed (by decide +kernel) ?_ | (refine k_cond ?_; first | refine t_condT rfl (by with_reducible rfl) ?_ | refine t_condF rfl (by with_reducible rfl) ?_ | refine t_condS rfl (fun _ => ?_) (fun _ => ?_) | refine t_condSN rfl (fun _ => ?_) (fun _ => ?_) | refine t_condSB rfl (fun _ => ?_) (fun _ => ?_)) | refine t_block ?_ | refine j_in ?_ | refine t_skip ?_ | refine t_ret ?_ | refine j_then_ret ?_ | refine j_in_ret ?_ | refine t_exit ?_ | refine j_then_exit ?_ | refine j_in_exit ?_ | refine j_in_other rfl ?_ | refine t_scope ?_ | refine t_label ?_ | refine j_ng ?_ | refine j_ng_ret ?_ | refine j_ng_exit ?_)
  all_goals try (refine j_fin rfl (.cons (rv_tmp rfl) .nil) () (by simp [pack, *] <;> omega) (by trivial))
  refine r_quoN (n := 512) rfl rfl (by decide) (i64_nat (by omega)) rfl ?_
  repeat' (first | refine r_nil ?_ | (refine k_move ?_; refine r_move rfl rfl ?_) | (refine k_assign ?_; refine r_assign rfl rfl ?_) | (refine k_nck ?_; first | refine r_nck rfl rfl ?_ | refine r_nckf rfl rfl ?_) | (refine k_fld ?_; first | refine r_fld0 rfl rfl ?_ | refine r_fld rfl rfl ?_) | (refine k_load ?_; first | refine r_load1L rfl rfl rfl ?_ | refine s_load1L rfl rfl rfl ?_ | refine r_load1 rfl rfl rfl rfl ?_ | refine r_loadW rfl rfl rfl rfl ?_ | refine s_loadW rfl rfl rfl rfl ?_) | (refine k_ext ?_; first | refine r_extL rfl rfl ?_ | refine r_ext rfl rfl rfl ?_) | (refine k_len ?_; refine r_lenS rfl rfl ?_) | (refine k_un ?_; first | refine r_notT rfl (by with_reducible rfl) rfl ?_ | refine r_notF rfl (by with_reducible rfl) rfl ?_ | refine r_not rfl rfl ?_) | (refine k_sl0 ?_; refine r_sliceA rfl (by decide) rfl ?_) | (refine k_conv ?_; refine r_conv rfl rfl ?_) | (refine k_pick ?_; first | refine r_pickT rfl (by with_reducible rfl) rfl rfl ?_ | refine r_pickF rfl (by with_reducible rfl) rfl rfl ?_) | (refine k_inc ?_; refine r_inc rfl (by omega) rfl ?_) | (refine k_bin ?_; first | refine r_icmpT rfl rfl rfl rfl ?_ | refine r_icmpF rfl rfl rfl rfl ?_ | refine r_icmp rfl rfl rfl rfl ?_) | (refine k_eql ?_; first | refine r_peqS rfl rfl rfl ?_ | refine r_peqN rfl rfl rfl ?_ | refine r_meqS rfl rfl rfl ?_ | refine r_meqN rfl rfl rfl ?_ | refine r_peq rfl rfl rfl ?_) | (refine k_neq ?_; first | refine r_pneS rfl rfl rfl ?_ | refine r_pneN rfl rfl rfl ?_ | refine r_mneS rfl rfl rfl ?_ | refine r_mneN rfl rfl rfl ?_ | refine r_pne rfl rfl rfl ?_) | (refine g_mark ?_; first | refine gg_pass rfl rfl (by with_reducible rfl) ?_ | refine gg_skipT rfl rfl (by with_reducible rfl) (blt_any rfl) ?_ | refine gg_skipF rfl rfl (by with_reducible rfl) (blt_any rfl) ?_ | refine gg_skipU rfl rfl (by with_reducible rfl) (blt_any rfl) ?_ | refine gg_splitD rfl rfl (fun _ => ?_) (fun _ => ?_) | refine gg_splitN rfl rfl (fun _ => ?_) (fun _ => ?_) | refine gg_split rfl rfl (fun _ => ?_) (fun _ => ?_)) | refine t_seq ?_ | refine t_perm rfl ?_ | refine t_permE ?_ | refine j_then ?_ | refine t_region ?_ | refine t_draw [] [] mixed (by decide +kernel) ?_ | (refine k_cond ?_; first | refine t_condT rfl (by with_reducible rfl) ?_ | refine t_condF rfl (by with_reducible rfl) ?_ | refine t_condS rfl (fun _ => ?_) (fun _ => ?_) | refine t_condSN rfl (fun _ => ?_) (fun _ => ?_) | refine t_condSB rfl (fun _ => ?_) (fun _ => ?_)) | refine t_block ?_ | refine j_in ?_ | refine t_skip ?_ | refine t_ret ?_ | refine j_then_ret ?_ | refine j_in_ret ?_ | refine t_exit ?_ | refine j_then_exit ?_ | refine j_in_exit ?_ | refine j_in_other rfl ?_ | refine t_scope ?_ | refine t_label ?_ | refine j_ng ?_ | refine j_ng_ret ?_ | refine j_ng_exit ?_)
  refine j_fin rfl (.cons (rv_tmp rfl) .nil) () (by simp only [pack]; rw [if_neg (by omega), if_pos ‹_›]) (by trivial)
theorem dstep_bytes {s : Option (List Nat) × Rq × List Nat} {c : Nat} {N : Nat} (h1 : ∀ bs, s.1 = some bs → ∀ x ∈ bs, x < 256) (h2 : ∀ x ∈ s.2.2, x < 256) (h3 : (left s.1).length ≤ N) (h4 : s.2.2.length ≤ N) (h5 : ∀ x ∈ s.2.1.ks, x < 256) :
    (∀ bs, (dstep s c).1 = some bs → ∀ x ∈ bs, x < 256) ∧ (∀ x ∈ (dstep s c).2.2, x < 256) ∧ (left (dstep s c).1).length ≤ N ∧ (dstep s c).2.2.length ≤ N ∧ (∀ x ∈ (dstep s c).2.1.ks, x < 256) := by
  have hK : ∀ o r, (rdB 32 s.1).1 = some r → ∀ x ∈ (s.2.1.setK o r).ks, x < 256 := fun o r hr x hx => by
    unfold Rq.setK at hx
    split at hx
    · simp only [List.mem_append] at hx
      rcases hx with (hx | hx) | hx
      · exact h5 x (List.mem_of_mem_take hx)
      · cases hs : s.1 with
        | none => rw [hs] at hr; cases hr
        | some bs =>
          rw [hs] at hr
          simp only [rdB] at hr
          split at hr
          · cases hr; exact h1 bs hs x (List.mem_of_mem_take hx)
          · cases hr
      · exact h5 x (List.mem_of_mem_drop hx)
    · exact h5 x hx
  have hB : (∀ bs, (rdB 32 s.1).2 = some bs → ∀ x ∈ bs, x < 256) ∧ (left (rdB 32 s.1).2).length ≤ N := by
    cases hs : s.1 with
    | none => exact ⟨fun bs h => by simp [rdB] at h, Nat.zero_le _⟩
    | some bs =>
      simp only [rdB]
      split
      · refine ⟨fun b h x hx => ?_, ?_⟩
        · simp only [Option.some.injEq] at h
          subst h
          exact h1 bs hs x (List.mem_of_mem_drop hx)
        · rw [hs] at h3; simp [left] at h3 ⊢; omega
      · exact ⟨fun b h => by simp at h, Nat.zero_le _⟩
  unfold dstep
  split
  · exact ⟨rdU_bytes h1, h2, Nat.le_trans (left_le _ _) h3, h4, h5⟩
  · exact ⟨rdU_bytes h1, h2, Nat.le_trans (left_le _ _) h3, h4, h5⟩
  · split
    · refine ⟨fun bs h x hx => ?_, fun x hx => ?_, ?_, h3, h5⟩
      · cases hs : s.1 with
        | none => rw [hs] at h; simp [rdR] at h
        | some b => rw [hs] at h; simp only [rdR, Option.some.injEq] at h; subst h; cases hx
      · cases hs : s.1 with
        | none => rw [hs] at hx; simp [left] at hx
        | some b => rw [hs] at hx; exact h1 b hs x hx
      · cases hs : s.1 <;> simp [rdR, left]
    · split
      · rename_i o r _ hr
        exact ⟨hB.1, h2, hB.2, h4, hK o r hr⟩
      · exact ⟨hB.1, h2, hB.2, h4, h5⟩
theorem encStep_bytes {q : Rq} (hq : ∀ x ∈ q.ks, x < 256) (c : Nat) : ∀ x ∈ encStep q c, x < 256 := by
  unfold encStep
  split
  · intro x hx; simp at hx; omega
  · exact be_lt _ _
  · split
    · intro x hx; exact hq x (List.mem_of_mem_drop (List.mem_of_mem_take hx))
    · intro x hx; cases hx
theorem encL_bytes {q : Rq} (hq : ∀ x ∈ q.ks, x < 256) : ∀ cs : List Nat, ∀ x ∈ encL q cs, x < 256
  | [], x, hx => by cases hx
  | c :: cs, x, hx => by
    rcases List.mem_append.1 hx with hx | hx
    · exact encStep_bytes hq c x hx
    · exact encL_bytes hq cs x hx
theorem encOut_bytes {q : Rq} {ds : List Nat} (hq : ∀ x ∈ q.ks, x < 256) (hd : ∀ x ∈ ds, x < 256) : ∀ x ∈ encOut q ds, x < 256 := by
  intro x hx
  simp only [encOut, List.mem_append, List.mem_cons, List.not_mem_nil, or_false] at hx
  rcases hx with ((rfl | rfl) | hx) | hx
  · decide
  · omega
  · exact encL_bytes hq _ x hx
  · exact hd x hx
set_option maxRecDepth 20000 in
set_option maxHeartbeats 2000000 in
theorem decode_c (a : Option Addr) (n cap : Nat) (b : List Nat) (hn : b.length = n) (hb : n ≤ 1000000) (hx : ∀ x ∈ b, x < 256) (Φ : Base) :
    Sl.Fn Try.prog Φ F.req_Decode [.slice a n cap] [brow a n cap b] (fun _ : Option Addr × Nat => True)
      (fun r => match decM b with
        | none => .tuple #[.agg (Rq.zero.cells (.slice none 0 0)).toArray, i64 70]
        | some q => .tuple #[.agg (q.1.cells (.slice r.1 q.2.length r.2)).toArray, i64 0])
      (fun r => match decM b with
        | none => []
        | some q => [brow r.1 q.2.length r.2 q.2]) := by
  refine fn_of rfl rfl (fun F => ?_)
  dsimp only [argEnv, List.cons_append, List.nil_append, Nat.zero_add, Nat.reduceAdd]
  repeat refine s1 ?_
  refine r_alloc (cs := Rq.zero.cells (.slice none 0 0)) rfl rfl rfl (fun b2 => ?_)
  repeat refine s1 ?_
  refine r_call rfl (blt_some rfl) rfl (read_c a n cap b (by omega) hn Φ) ?_
  intro p _
  dsimp only [bnd, List.cons_append, List.nil_append]
  repeat refine s1 ?_
  have hs0 : ∀ bs, some b = some bs → ∀ x ∈ bs, x < 256 := fun bs h => by cases h; exact hx
  have hs1 := rdU_bytes (w := 1) hs0
  have hs2 := rdU_bytes (w := 1) hs1
  refine r_call rfl (blt_some rfl) rfl (U8_c p (some b) hs0 Φ) ?_
  intro _ _; dsimp only [bnd, List.cons_append, List.nil_append]
  repeat refine s1 ?_
  refine r_call rfl (blt_some rfl) rfl (U8_c p (rdU 1 (some b)).2 hs1 Φ) ?_
  intro _ _; dsimp only [bnd, List.cons_append, List.nil_append]
  have hk : (rdU 1 (rdU 1 (some b)).2).1 < 256 := rdU_lt (w := 1) hs1
  repeat refine s1 ?_
  rw [i64_nat (n := (rdU 1 (rdU 1 (some b)).2).1) (by omega)]
  refine r_build (cells := (Rq.zero.setN 0 ((rdU 1 (rdU 1 (some b)).2).1 : Int)).cells (.slice none 0 0)) rfl (by rfl) rfl ?_
  refine r_alloc (cs := Rq.zero.cells (.slice none 0 0)) rfl rfl rfl (fun p5 => ?_)
  refine r_storeW rfl rfl (Rq.len _ _) (by rfl) (Rq.ones _ _ rfl) rfl ?_
  repeat refine s1 ?_
  have hst : (fieldsM ((rdU 1 (rdU 1 (some b)).2).1 : Int)).foldl dstep ((rdU 1 (rdU 1 (some b)).2).2, Rq.zero.setN 0 ((rdU 1 (rdU 1 (some b)).2).1 : Int), []) = decSt b := rfl
  have hl2 : (left (rdU 1 (rdU 1 (some b)).2).2).length ≤ n := Nat.le_trans (left_le _ _) (Nat.le_trans (left_le _ _) (by simp [left, hn]))
  have hnum0 : (Rq.zero.setN 0 ((rdU 1 (rdU 1 (some b)).2).1 : Int)).num 0 = ((rdU 1 (rdU 1 (some b)).2).1 : Int) := rfl
  rw [hnum0]
  generalize (rdU 1 (rdU 1 (some b)).2).2 = s2 at *
  generalize (rdU 1 (rdU 1 (some b)).2).1 = kk at *
  refine r_call rfl (blt_some rfl) rfl (fields_c (kk : Int) Φ) ?_
  intro _ _; dsimp only [bnd, List.cons_append, List.nil_append]
  repeat refine s1 ?_
  refine r_rangeS rfl rfl rfl (fun it => ?_)
  repeat refine s1 ?_
  refine j_ent (Ent.brow0 _) ?_
  refine t_loop (σ := Nat × (Option (List Nat) × Rq × List Nat) × Option Addr × Nat) (fun _ => [(23, .pointer (some ⟨it, 0, none⟩)), (5, .pointer (some ⟨p5, 0, none⟩)), (4, .pointer (some ⟨p, 0, none⟩)), (2, .pointer (some ⟨b2, 0, none⟩)), (0, .slice a n cap)])
    (fun s => pt it (.stringIter (bstr (fieldsM (kk : Int))) s.1) :: rdr p s.2.1.1 :: pt p5 (.cells (s.2.1.2.1.cells (.slice s.2.2.1 s.2.1.2.2.length s.2.2.2)).toArray T.req_Request (0, 0)) :: brow s.2.2.1 s.2.1.2.2.length s.2.2.2 s.2.1.2.2 ::
      pt b2 (.cells (Rq.zero.cells (.slice none 0 0)).toArray T.req_Request (0, 0)) :: brow a n cap b :: F)
    (fun s => s.1 ≤ (fieldsM (kk : Int)).length ∧ ((fieldsM (kk : Int)).drop s.1).foldl dstep s.2.1 = decSt b ∧ (∀ bs, s.2.1.1 = some bs → ∀ x ∈ bs, x < 256) ∧ (∀ x ∈ s.2.1.2.2, x < 256) ∧ (left s.2.1.1).length ≤ n ∧ s.2.1.2.2.length ≤ n ∧ ∀ x ∈ s.2.1.2.1.ks, x < 256)
    (fun s => (fieldsM (kk : Int)).length - s.1)
    (0, (s2, Rq.zero.setN 0 (kk : Int), []), none, 0) ⟨Nat.zero_le _, hst, hs2, (by intro x hx; cases hx), hl2, Nat.zero_le _, (by intro x hx; rw [List.eq_of_mem_replicate hx]; decide)⟩ ⟨rfl, rfl, rfl, rfl, rfl, trivial⟩ (by dsimp only; exact Le.ent) ?_
  rintro ⟨i, s, da, dc⟩ ⟨hi, hf, h1, h2, h3, h4, h5⟩
  dsimp only at hi hf h1 h2 h3 h4 h5 ⊢
  repeat refine s1 ?_
  by_cases hlt : i < (fieldsM (kk : Int)).length
  · have hcl := fields_lt (kk : Int) _ (List.getElem_mem hlt)
    rw [drop_at hlt, List.foldl_cons] at hf
    generalize hc : (fieldsM (kk : Int))[i] = c at hcl hf
    have hci : (fieldsM (kk : Int))[i]? = some c := by rw [List.getElem?_eq_getElem hlt, hc]
    obtain ⟨g1, g2, g3, g4, g5⟩ := dstep_bytes (c := c) h1 h2 h3 h4 h5
    refine r_nextS rfl hci hcl rfl rfl ?_
    repeat refine s1 ?_
    have hct := number_c p5 (c : Int) Φ
    rcases hnum : numOf (c : Int) with _ | ⟨o, small⟩
    · simp only [hnum, Option.map_none, Option.getD_none] at hct
      refine r_call rfl (blt_some rfl) rfl hct ?_
      intro _ _; dsimp only [bnd, List.cons_append, List.nil_append]
      repeat' (first | refine r_nil ?_ | (refine k_move ?_; refine r_move rfl rfl ?_) | (refine k_assign ?_; refine r_assign rfl rfl ?_) | (refine k_nck ?_; first | refine r_nck rfl rfl ?_ | refine r_nckf rfl rfl ?_) | (refine k_fld ?_; first | refine r_fld0 rfl rfl ?_ | refine r_fld rfl rfl ?_) | (refine k_load ?_; first | refine r_load1L rfl rfl rfl ?_ | refine s_load1L rfl rfl rfl ?_ | refine r_load1 rfl rfl rfl rfl ?_ | refine r_loadW rfl rfl rfl rfl ?_ | refine s_loadW rfl rfl rfl rfl ?_) | (refine k_ext ?_; first | refine r_extL rfl rfl ?_ | refine r_ext rfl rfl rfl ?_) | (refine k_len ?_; refine r_lenS rfl rfl ?_) | (refine k_un ?_; first | refine r_notT rfl (by with_reducible rfl) rfl ?_ | refine r_notF rfl (by with_reducible rfl) rfl ?_ | refine r_not rfl rfl ?_) | (refine k_sl0 ?_; refine r_sliceA rfl (by decide) rfl ?_) | (refine k_conv ?_; refine r_conv rfl rfl ?_) | (refine k_pick ?_; first | refine r_pickT rfl (by with_reducible rfl) rfl rfl ?_ | refine r_pickF rfl (by with_reducible rfl) rfl rfl ?_) | (refine k_inc ?_; refine r_inc rfl (by omega) rfl ?_) | (refine k_bin ?_; first | refine r_icmpT rfl rfl rfl rfl ?_ | refine r_icmpF rfl rfl rfl rfl ?_ | refine r_icmp rfl rfl rfl rfl ?_) | (refine k_eql ?_; first | refine r_peqS rfl rfl rfl ?_ | refine r_peqN rfl rfl rfl ?_ | refine r_meqS rfl rfl rfl ?_ | refine r_meqN rfl rfl rfl ?_ | refine r_peq rfl rfl rfl ?_) | (refine k_neq ?_; first | refine r_pneS rfl rfl rfl ?_ | refine r_pneN rfl rfl rfl ?_ | refine r_mneS rfl rfl rfl ?_ | refine r_mneN rfl rfl rfl ?_ | refine r_pne rfl rfl rfl ?_) | (refine g_mark ?_; first | refine gg_pass rfl rfl (by with_reducible rfl) ?_ | refine gg_skipT rfl rfl (by with_reducible rfl) (blt_any rfl) ?_ | refine gg_skipF rfl rfl (by with_reducible rfl) (blt_any rfl) ?_ | refine gg_skipU rfl rfl (by with_reducible rfl) (blt_any rfl) ?_ | refine gg_splitD rfl rfl (fun _ => ?_) (fun _ => ?_) | refine gg_splitN rfl rfl (fun _ => ?_) (fun _ => ?_) | refine gg_split rfl rfl (fun _ => ?_) (fun _ => ?_)) | refine t_seq ?_ | refine t_perm rfl ?_ | refine t_permE ?_ | refine j_then ?_ | refine t_region ?_ | refine t_draw [] [] mixed (by decide +kernel) ?_ | (refine k_cond ?_; first | refine t_condT rfl (by with_reducible rfl) ?_ | refine t_condF rfl (by with_reducible rfl) ?_ | refine t_condS rfl (fun _ => ?_) (fun _ => ?_) | refine t_condSN rfl (fun _ => ?_) (fun _ => ?_) | refine t_condSB rfl (fun _ => ?_) (fun _ => ?_)) | refine t_block ?_ | refine j_in ?_ | refine t_skip ?_ | refine t_ret ?_ | refine j_then_ret ?_ | refine j_in_ret ?_ | refine t_exit ?_ | refine j_then_exit ?_ | refine j_in_exit ?_ | refine j_in_other rfl ?_ | refine t_scope ?_ | refine t_label ?_ | refine j_ng ?_ | refine j_ng_ret ?_ | refine j_ng_exit ?_)
      · have hc100 : c = 100 := by omega
        have hd : dstep s c = (rdR s.1, s.2.1, left s.1) := by rw [dstep, hnum]; simp only; rw [if_pos hc100]
        rw [hd] at hf g1 g2 g3 g4 g5
        refine r_call rfl (blt_some rfl) rfl (restX_c p s.1 (by omega) Φ) ?_
        intro qa _
        dsimp only [bnd, List.cons_append, List.nil_append]
        repeat refine s1 ?_
        refine r_store1 rfl rfl (by rw [Rq.len]; decide) rfl rfl ?_
        repeat refine s1 ?_
        exact j_again (i + 1, (rdR s.1, s.2.1, left s.1), qa, (left s.1).length) ⟨by omega, hf, g1, g2, g3, g4, g5⟩ (by dsimp only; omega) ⟨rfl, rfl, rfl, rfl, rfl, trivial⟩ (by dsimp only; exact Le.ent)
      · have hc100 : ¬ c = 100 := by omega
        refine r_call rfl (blt_some rfl) rfl (key_c p5 (c : Int) Φ) ?_
        intro _ _; dsimp only [bnd, List.cons_append, List.nil_append]
        repeat refine s1 ?_
        refine r_call rfl (blt_some rfl) rfl (bytesX_c p 32 s.1 Φ) ?_
        intro ba _
        dsimp only [bnd]
        have hd : dstep s c = match keyOf (c : Int), (rdB 32 s.1).1 with
            | some o, some r => ((rdB 32 s.1).2, s.2.1.setK o r, s.2.2)
            | _, _ => ((rdB 32 s.1).2, s.2.1, s.2.2) := by rw [dstep, hnum]; simp only; rw [if_neg hc100]; rfl
        have hlen : ∀ r, (rdB 32 s.1).1 = some r → r.length = 32 := fun r hr => by
          cases hs : s.1 with
          | none => rw [hs] at hr; cases hr
          | some bs =>
            rw [hs] at hr
            simp only [rdB] at hr
            split at hr
            · cases hr; simp; omega
            · cases hr
        rcases hr : (rdB 32 s.1).1 with _ | r
        · dsimp only [List.cons_append, List.nil_append]
          have hd' : dstep s c = ((rdB 32 s.1).2, s.2.1, s.2.2) := by rw [hd, hr]; cases keyOf (c : Int) <;> rfl
          rw [hd'] at hf g1 g2 g3 g4 g5
          refine j_ent (Ent.brow0 _) ?_
          rcases hkey : keyOf (c : Int) with _ | o
          · simp only [kslice, hkey]
            refine r_copyN rfl rfl rfl (blt_any rfl) ?_
            repeat refine s1 ?_
            exact j_again (i + 1, ((rdB 32 s.1).2, s.2.1, s.2.2), da, dc) ⟨by omega, hf, g1, g2, g3, g4, g5⟩ (by dsimp only; omega) ⟨rfl, rfl, rfl, rfl, rfl, trivial⟩ (by dsimp only; exact Le.ent)
          · simp only [kslice, hkey]
            have hko := keyOf_le hkey
            refine r_copyP (ys := []) (m := 0) (dl := 32) (cur' := s.2.1.cells (.slice da s.2.2.length dc)) rfl rfl (by simp [Rq.len]; omega) (by simp) (by simp) rfl (blt_any rfl) ?_
            repeat refine s1 ?_
            exact j_again (i + 1, ((rdB 32 s.1).2, s.2.1, s.2.2), da, dc) ⟨by omega, hf, g1, g2, g3, g4, g5⟩ (by dsimp only; omega) ⟨rfl, rfl, rfl, rfl, rfl, trivial⟩ (by dsimp only; exact Le.ent)
        · dsimp only [List.cons_append, List.nil_append]
          have hl32 := hlen r hr
          rcases hkey : keyOf (c : Int) with _ | o
          · simp only [kslice, hkey]
            have hd' : dstep s c = ((rdB 32 s.1).2, s.2.1, s.2.2) := by rw [hd, hr, hkey]
            rw [hd'] at hf g1 g2 g3 g4 g5
            refine r_copyN rfl rfl rfl (blt_any rfl) ?_
            repeat refine s1 ?_
            exact j_again (i + 1, ((rdB 32 s.1).2, s.2.1, s.2.2), da, dc) ⟨by omega, hf, g1, g2, g3, g4, g5⟩ (by dsimp only; omega) ⟨rfl, rfl, rfl, rfl, rfl, trivial⟩ (by dsimp only; exact Le.ent)
          · simp only [kslice, hkey]
            have hko := keyOf_le hkey
            have hd' : dstep s c = ((rdB 32 s.1).2, s.2.1.setK o r, s.2.2) := by rw [hd, hr, hkey]
            rw [hd'] at hf g1 g2 g3 g4 g5
            refine r_copyP (m := 32) (dl := 32) (cur' := (s.2.1.setK o r).cells (.slice da s.2.2.length dc)) rfl rfl (by rw [Rq.len, Nat.min_self]; omega) (by intro v hv; obtain ⟨_, _, rfl⟩ := List.mem_map.1 hv; rfl) ?_ rfl (blt_any rfl) ?_
            · have := s.2.1.set_key (.slice da s.2.2.length dc) (o := o) (ys := r) (by omega)
              rw [hl32] at this
              rw [Nat.min_self, List.take_of_length_le (l := r.map u8) (by simp [hl32])]
              exact this
            repeat refine s1 ?_
            exact j_again (i + 1, ((rdB 32 s.1).2, s.2.1.setK o r, s.2.2), da, dc) ⟨by omega, hf, g1, g2, g3, g4, g5⟩ (by dsimp only; omega) ⟨rfl, rfl, rfl, rfl, rfl, trivial⟩ (by dsimp only; exact Le.ent)
    · simp only [hnum, Option.map_some, Option.getD_some] at hct
      have ho9 := numOf_lt hnum
      dsimp only at ho9
      refine r_call rfl (blt_some rfl) rfl hct ?_
      intro _ _; dsimp only [bnd, List.cons_append, List.nil_append]
      cases small
      · repeat refine s1 ?_
        have hd : dstep s c = ((rdU 2 s.1).2, s.2.1.setN o (rdU 2 s.1).1, s.2.2) := by rw [dstep, hnum]
        rw [hd] at hf g1 g2 g3 g4 g5
        have hlt := rdU_lt (w := 2) h1
        refine r_call rfl (blt_some rfl) rfl (U16_c p s.1 h1 Φ) ?_
        intro _ _; dsimp only [bnd, List.cons_append, List.nil_append]
        repeat refine s1 ?_
        rw [i64_nat (n := (rdU 2 s.1).1) (by omega)]
        refine r_store1 (hl := ⟨s.2.1.set_num _ ho9 _⟩) rfl rfl (by rw [Rq.len]; omega) rfl rfl ?_
        repeat refine s1 ?_
        exact j_again (i + 1, ((rdU 2 s.1).2, s.2.1.setN o (rdU 2 s.1).1, s.2.2), da, dc) ⟨by omega, hf, g1, g2, g3, g4, g5⟩ (by dsimp only; omega) ⟨rfl, rfl, rfl, rfl, rfl, trivial⟩ (by dsimp only; exact Le.ent)
      · repeat refine s1 ?_
        have hd : dstep s c = ((rdU 1 s.1).2, s.2.1.setN o (rdU 1 s.1).1, s.2.2) := by rw [dstep, hnum]
        rw [hd] at hf g1 g2 g3 g4 g5
        have hlt := rdU_lt (w := 1) h1
        refine r_call rfl (blt_some rfl) rfl (U8_c p s.1 h1 Φ) ?_
        intro _ _; dsimp only [bnd, List.cons_append, List.nil_append]
        repeat refine s1 ?_
        rw [i64_nat (n := (rdU 1 s.1).1) (by omega)]
        refine r_store1 (hl := ⟨s.2.1.set_num _ ho9 _⟩) rfl rfl (by rw [Rq.len]; omega) rfl rfl ?_
        repeat refine s1 ?_
        exact j_again (i + 1, ((rdU 1 s.1).2, s.2.1.setN o (rdU 1 s.1).1, s.2.2), da, dc) ⟨by omega, hf, g1, g2, g3, g4, g5⟩ (by dsimp only; omega) ⟨rfl, rfl, rfl, rfl, rfl, trivial⟩ (by dsimp only; exact Le.ent)
  · refine r_nextE rfl (by omega) rfl rfl ?_
    repeat refine s1 ?_
    have hil : i = (fieldsM (kk : Int)).length := by omega
    rw [hil, List.drop_length, List.foldl_nil] at hf
    refine r_loadW rfl (s.2.1.len _) rfl rfl ?_
    refine r_call rfl (blt_some rfl) rfl (encode_c s.2.1 da s.2.2.length dc s.2.2 rfl (by omega) h2 Φ) ?_
    rintro ⟨wa, wc⟩ _
    dsimp only [bnd]
    rcases he : encM s.2.1 s.2.2 with _ | w
    · dsimp only [List.cons_append, List.nil_append]
      have hdm : decM b = none := by rw [decM, ← hf, he]; rfl
      rw [hdm]
      repeat' (first | refine r_nil ?_ | (refine k_move ?_; refine r_move rfl rfl ?_) | (refine k_assign ?_; refine r_assign rfl rfl ?_) | (refine k_nck ?_; first | refine r_nck rfl rfl ?_ | refine r_nckf rfl rfl ?_) | (refine k_fld ?_; first | refine r_fld0 rfl rfl ?_ | refine r_fld rfl rfl ?_) | (refine k_load ?_; first | refine r_load1L rfl rfl rfl ?_ | refine s_load1L rfl rfl rfl ?_ | refine r_load1 rfl rfl rfl rfl ?_ | refine r_loadW rfl rfl rfl rfl ?_ | refine s_loadW rfl rfl rfl rfl ?_) | (refine k_ext ?_; first | refine r_extL rfl rfl ?_ | refine r_ext rfl rfl rfl ?_) | (refine k_len ?_; refine r_lenS rfl rfl ?_) | (refine k_un ?_; first | refine r_notT rfl (by with_reducible rfl) rfl ?_ | refine r_notF rfl (by with_reducible rfl) rfl ?_ | refine r_not rfl rfl ?_) | (refine k_sl0 ?_; refine r_sliceA rfl (by decide) rfl ?_) | (refine k_conv ?_; refine r_conv rfl rfl ?_) | (refine k_pick ?_; first | refine r_pickT rfl (by with_reducible rfl) rfl rfl ?_ | refine r_pickF rfl (by with_reducible rfl) rfl rfl ?_) | (refine k_inc ?_; refine r_inc rfl (by omega) rfl ?_) | (refine k_bin ?_; first | refine r_icmpT rfl rfl rfl rfl ?_ | refine r_icmpF rfl rfl rfl rfl ?_ | refine r_icmp rfl rfl rfl rfl ?_) | (refine k_eql ?_; first | refine r_peqS rfl rfl rfl ?_ | refine r_peqN rfl rfl rfl ?_ | refine r_meqS rfl rfl rfl ?_ | refine r_meqN rfl rfl rfl ?_ | refine r_peq rfl rfl rfl ?_) | (refine k_neq ?_; first | refine r_pneS rfl rfl rfl ?_ | refine r_pneN rfl rfl rfl ?_ | refine r_mneS rfl rfl rfl ?_ | refine r_mneN rfl rfl rfl ?_ | refine r_pne rfl rfl rfl ?_) | (refine g_mark ?_; first | refine gg_pass rfl rfl (by with_reducible rfl) ?_ | refine gg_skipT rfl rfl (by with_reducible rfl) (blt_any rfl) ?_ | refine gg_skipF rfl rfl (by with_reducible rfl) (blt_any rfl) ?_ | refine gg_skipU rfl rfl (by with_reducible rfl) (blt_any rfl) ?_ | refine gg_splitD rfl rfl (fun _ => ?_) (fun _ => ?_) | refine gg_splitN rfl rfl (fun _ => ?_) (fun _ => ?_) | refine gg_split rfl rfl (fun _ => ?_) (fun _ => ?_)) | refine t_seq ?_ | refine t_perm rfl ?_ | refine t_permE ?_ | refine j_then ?_ | refine t_region ?_ | refine t_draw [] [] mixed (by decide +kernel) ?_ | (refine k_cond ?_; first | refine t_condT rfl (by with_reducible rfl) ?_ | refine t_condF rfl (by with_reducible rfl) ?_ | refine t_condS rfl (fun _ => ?_) (fun _ => ?_) | refine t_condSN rfl (fun _ => ?_) (fun _ => ?_) | refine t_condSB rfl (fun _ => ?_) (fun _ => ?_)) | refine t_block ?_ | refine j_in ?_ | refine t_skip ?_ | refine t_ret ?_ | refine j_then_ret ?_ | refine j_in_ret ?_ | refine t_exit ?_ | refine j_then_exit ?_ | refine j_in_exit ?_ | refine j_in_other rfl ?_ | refine t_scope ?_ | refine t_label ?_ | refine j_ng ?_ | refine j_ng_ret ?_ | refine j_ng_exit ?_)
      refine r_build (cells := Rq.zero.cells (.slice none 0 0)) rfl (by rfl) rfl ?_
      refine r_storeW rfl rfl (Rq.len _ _) (Rq.len _ _) (Rq.ones _ _ rfl) rfl ?_
      repeat refine s1 ?_
      refine j_fin rfl (.cons (rv_agg (l := Rq.zero.cells (.slice none 0 0)) (U := T.req_Request) (fr := (0, 0)) rfl (Rq.len _ _)) (.cons (rv_tmp rfl) .nil)) (none, 0) (by rfl) (by trivial)
    · dsimp only [List.cons_append, List.nil_append]
      have hw : w = encOut s.2.1 s.2.2 := by
        rw [encM] at he
        split at he
        · exact (Option.some.inj he).symm
        · cases he
      refine j_freezeV wa w.length wc T.uint8 1 (w.map u8) ?_
      repeat' (first | refine r_nil ?_ | (refine k_move ?_; refine r_move rfl rfl ?_) | (refine k_assign ?_; refine r_assign rfl rfl ?_) | (refine k_nck ?_; first | refine r_nck rfl rfl ?_ | refine r_nckf rfl rfl ?_) | (refine k_fld ?_; first | refine r_fld0 rfl rfl ?_ | refine r_fld rfl rfl ?_) | (refine k_load ?_; first | refine r_load1L rfl rfl rfl ?_ | refine s_load1L rfl rfl rfl ?_ | refine r_load1 rfl rfl rfl rfl ?_ | refine r_loadW rfl rfl rfl rfl ?_ | refine s_loadW rfl rfl rfl rfl ?_) | (refine k_ext ?_; first | refine r_extL rfl rfl ?_ | refine r_ext rfl rfl rfl ?_) | (refine k_len ?_; refine r_lenS rfl rfl ?_) | (refine k_un ?_; first | refine r_notT rfl (by with_reducible rfl) rfl ?_ | refine r_notF rfl (by with_reducible rfl) rfl ?_ | refine r_not rfl rfl ?_) | (refine k_sl0 ?_; refine r_sliceA rfl (by decide) rfl ?_) | (refine k_conv ?_; refine r_conv rfl rfl ?_) | (refine k_pick ?_; first | refine r_pickT rfl (by with_reducible rfl) rfl rfl ?_ | refine r_pickF rfl (by with_reducible rfl) rfl rfl ?_) | (refine k_inc ?_; refine r_inc rfl (by omega) rfl ?_) | (refine k_bin ?_; first | refine r_icmpT rfl rfl rfl rfl ?_ | refine r_icmpF rfl rfl rfl rfl ?_ | refine r_icmp rfl rfl rfl rfl ?_) | (refine k_eql ?_; first | refine r_peqS rfl rfl rfl ?_ | refine r_peqN rfl rfl rfl ?_ | refine r_meqS rfl rfl rfl ?_ | refine r_meqN rfl rfl rfl ?_ | refine r_peq rfl rfl rfl ?_) | (refine k_neq ?_; first | refine r_pneS rfl rfl rfl ?_ | refine r_pneN rfl rfl rfl ?_ | refine r_mneS rfl rfl rfl ?_ | refine r_mneN rfl rfl rfl ?_ | refine r_pne rfl rfl rfl ?_) | (refine g_mark ?_; first | refine gg_pass rfl rfl (by with_reducible rfl) ?_ | refine gg_skipT rfl rfl (by with_reducible rfl) (blt_any rfl) ?_ | refine gg_skipF rfl rfl (by with_reducible rfl) (blt_any rfl) ?_ | refine gg_skipU rfl rfl (by with_reducible rfl) (blt_any rfl) ?_ | refine gg_splitD rfl rfl (fun _ => ?_) (fun _ => ?_) | refine gg_splitN rfl rfl (fun _ => ?_) (fun _ => ?_) | refine gg_split rfl rfl (fun _ => ?_) (fun _ => ?_)) | refine t_seq ?_ | refine t_perm rfl ?_ | refine t_permE ?_ | refine j_then ?_ | refine t_region ?_ | refine t_draw [] [] mixed (by decide +kernel) ?_ | (refine k_cond ?_; first | refine t_condT rfl (by with_reducible rfl) ?_ | refine t_condF rfl (by with_reducible rfl) ?_ | refine t_condS rfl (fun _ => ?_) (fun _ => ?_) | refine t_condSN rfl (fun _ => ?_) (fun _ => ?_) | refine t_condSB rfl (fun _ => ?_) (fun _ => ?_)) | refine t_block ?_ | refine j_in ?_ | refine t_skip ?_ | refine t_ret ?_ | refine j_then_ret ?_ | refine j_in_ret ?_ | refine t_exit ?_ | refine j_then_exit ?_ | refine j_in_exit ?_ | refine j_in_other rfl ?_ | refine t_scope ?_ | refine t_label ?_ | refine j_ng ?_ | refine j_ng_ret ?_ | refine j_ng_exit ?_)
      refine r_call rfl (blt_some rfl) rfl (equal_c wa a w.length wc n cap w b (by rw [hw]; exact encOut_bytes h5 h2) hx Φ) ?_
      intro _ _; dsimp only [bnd, List.cons_append, List.nil_append]
      repeat' (first | refine r_nil ?_ | (refine k_move ?_; refine r_move rfl rfl ?_) | (refine k_assign ?_; refine r_assign rfl rfl ?_) | (refine k_nck ?_; first | refine r_nck rfl rfl ?_ | refine r_nckf rfl rfl ?_) | (refine k_fld ?_; first | refine r_fld0 rfl rfl ?_ | refine r_fld rfl rfl ?_) | (refine k_load ?_; first | refine r_load1L rfl rfl rfl ?_ | refine s_load1L rfl rfl rfl ?_ | refine r_load1 rfl rfl rfl rfl ?_ | refine r_loadW rfl rfl rfl rfl ?_ | refine s_loadW rfl rfl rfl rfl ?_) | (refine k_ext ?_; first | refine r_extL rfl rfl ?_ | refine r_ext rfl rfl rfl ?_) | (refine k_len ?_; refine r_lenS rfl rfl ?_) | (refine k_un ?_; first | refine r_notT rfl (by with_reducible rfl) rfl ?_ | refine r_notF rfl (by with_reducible rfl) rfl ?_ | refine r_not rfl rfl ?_) | (refine k_sl0 ?_; refine r_sliceA rfl (by decide) rfl ?_) | (refine k_conv ?_; refine r_conv rfl rfl ?_) | (refine k_pick ?_; first | refine r_pickT rfl (by with_reducible rfl) rfl rfl ?_ | refine r_pickF rfl (by with_reducible rfl) rfl rfl ?_) | (refine k_inc ?_; refine r_inc rfl (by omega) rfl ?_) | (refine k_bin ?_; first | refine r_icmpT rfl rfl rfl rfl ?_ | refine r_icmpF rfl rfl rfl rfl ?_ | refine r_icmp rfl rfl rfl rfl ?_) | (refine k_eql ?_; first | refine r_peqS rfl rfl rfl ?_ | refine r_peqN rfl rfl rfl ?_ | refine r_meqS rfl rfl rfl ?_ | refine r_meqN rfl rfl rfl ?_ | refine r_peq rfl rfl rfl ?_) | (refine k_neq ?_; first | refine r_pneS rfl rfl rfl ?_ | refine r_pneN rfl rfl rfl ?_ | refine r_mneS rfl rfl rfl ?_ | refine r_mneN rfl rfl rfl ?_ | refine r_pne rfl rfl rfl ?_) | (refine g_mark ?_; first | refine gg_pass rfl rfl (by with_reducible rfl) ?_ | refine gg_skipT rfl rfl (by with_reducible rfl) (blt_any rfl) ?_ | refine gg_skipF rfl rfl (by with_reducible rfl) (blt_any rfl) ?_ | refine gg_skipU rfl rfl (by with_reducible rfl) (blt_any rfl) ?_ | refine gg_splitD rfl rfl (fun _ => ?_) (fun _ => ?_) | refine gg_splitN rfl rfl (fun _ => ?_) (fun _ => ?_) | refine gg_split rfl rfl (fun _ => ?_) (fun _ => ?_)) | refine t_seq ?_ | refine t_perm rfl ?_ | refine t_permE ?_ | refine j_then ?_ | refine t_region ?_ | refine t_draw [] [] mixed (by decide +kernel) ?_ | (refine k_cond ?_; first | refine t_condT rfl (by with_reducible rfl) ?_ | refine t_condF rfl (by with_reducible rfl) ?_ | refine t_condS rfl (fun _ => ?_) (fun _ => ?_) | refine t_condSN rfl (fun _ => ?_) (fun _ => ?_) | refine t_condSB rfl (fun _ => ?_) (fun _ => ?_)) | refine t_block ?_ | refine j_in ?_ | refine t_skip ?_ | refine t_ret ?_ | refine j_then_ret ?_ | refine j_in_ret ?_ | refine t_exit ?_ | refine j_then_exit ?_ | refine j_in_exit ?_ | refine j_in_other rfl ?_ | refine t_scope ?_ | refine t_label ?_ | refine j_ng ?_ | refine j_ng_ret ?_ | refine j_ng_exit ?_)
      · have hdm : decM b = none := by rw [decM, ← hf, he, if_neg (fun h => absurd (Option.some.inj h) ‹_›)]
        rw [hdm]
        refine r_build (cells := Rq.zero.cells (.slice none 0 0)) rfl (by rfl) rfl ?_
        refine r_storeW rfl rfl (Rq.len _ _) (Rq.len _ _) (Rq.ones _ _ rfl) rfl ?_
        repeat refine s1 ?_
        refine j_fin rfl (.cons (rv_agg (l := Rq.zero.cells (.slice none 0 0)) (U := T.req_Request) (fr := (0, 0)) rfl (Rq.len _ _)) (.cons (rv_tmp rfl) .nil)) (none, 0) (by rfl) (by trivial)
      · have hdm : decM b = some s.2 := by rw [decM, ← hf, he, if_pos (by rw [‹w = b›])]
        rw [hdm]
        refine r_loadW rfl (Rq.len _ _) rfl rfl ?_
        refine r_storeW rfl rfl (Rq.len _ _) (Rq.len _ _) (Rq.ones _ _ rfl) rfl ?_
        repeat refine s1 ?_
        refine j_fin rfl (.cons (rv_agg (l := s.2.1.cells (.slice da s.2.2.length dc)) (U := T.req_Request) (fr := (0, 0)) rfl (Rq.len _ _)) (.cons (rv_tmp rfl) .nil)) (da, dc) (by rfl) (by trivial)
end Go.Proofs.Ytbecjgikhfplmaa
