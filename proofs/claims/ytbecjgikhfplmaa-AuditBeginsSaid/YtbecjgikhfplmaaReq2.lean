/-
  The contracts of Right and Encode of requests. For each input.
-/
import Derived.Test.YtbecjgikhfplmaaReq
namespace Go.Proofs.Ytbecjgikhfplmaa
open Go Sl
attribute [local irreducible] cw sw J Exit.then Exit.inBlock Exit.noGoto bodyPost swG swL permL
theorem Rq.ones (q : Rq) (d : Value) (hd : d.oneCell' = true) : ∀ v ∈ q.cells d, v.oneCell' = true := by
  intro v hv
  simp only [Rq.cells, List.mem_append, List.mem_map, List.mem_singleton] at hv
  rcases hv with ⟨x, _, rfl⟩ | ⟨x, _, rfl⟩ | rfl
  · rfl
  · rfl
  · exact hd
def rstep (q : Rq) (c : Nat) : Option Rq := match numOf c with
  | some (o, small) => if q.num o < 0 ∨ (if small then 255 else 65535) < q.num o then none else some (q.setN o 0)
  | none => match keyOf c with
    | some o => some (q.setK o (List.replicate 32 0))
    | none => some q
def rloop : List Nat → Rq → Option Rq
  | [], q => some q
  | c :: cs, q => match rstep q c with
    | none => none
    | some r => rloop cs r
def rightM (q : Rq) (ds : List Nat) : Bool :=
  if fieldsM (q.num 0) = [] then false else if boundsM q ds.length = false then false else match rloop (fieldsM (q.num 0)) (q.setN 0 0) with
    | none => false
    | some r => decide ((if q.num 0 = 4 then [] else ds) = [] ∧ r.nums = Rq.zero.nums ∧ r.ks = Rq.zero.ks)
theorem Rq.at_numA (q : Rq) (d : Value) {i : Nat} (h : i < 9) : (q.cells d).toArray[i]? = some (.int .i64 (q.num i)) := by rw [List.getElem?_toArray]; exact q.at_num d h
theorem Ent.brow0 (L : List Assn) : Ent L (brow none 0 0 [] :: L) := Ent.islNil L
theorem bstr_nil : bstr [] = ⟨#[]⟩ := by
  simp [bstr, strOfNums]
theorem drop_at {cs : List Nat} {i : Nat} (h : i < cs.length) : cs.drop i = cs[i] :: cs.drop (i + 1) := List.drop_eq_getElem_cons h
theorem right_c (q : Rq) (a : Option Addr) (n cap : Nat) (ds : List Nat) (hn : ds.length = n) (hb : n ≤ 9223372036854775807) (hds : ∀ x ∈ ds, x < 256) (Φ : Base) :
    Sl.Fn Try.prog Φ F.req_Right [.agg (q.cells (.slice a n cap)).toArray] [brow a n cap ds] (fun _ : Unit => True) (fun _ => .bool (rightM q ds)) (fun _ => []) := by
  refine fn_of rfl rfl (fun F => ?_)
  dsimp only [argEnv, List.cons_append, List.nil_append, Nat.zero_add, Nat.reduceAdd]
  repeat refine s1 ?_
  refine r_box (cs := q.cells (.slice a n cap)) rfl rfl rfl rfl (fun p1 => ?_)
  repeat refine s1 ?_
  refine r_call rfl (blt_some rfl) rfl (fields_c (q.num 0) Φ) ?_
  intro _ _; dsimp only [bnd, List.cons_append, List.nil_append]
  repeat refine s1 ?_
  refine r_streq rfl rfl rfl ?_
  refine j_val (.bool (decide (fieldsM (q.num 0) = []))) (by rw [← bstr_nil, bstr_beq (fun x hx => Nat.lt_trans (fields_lt _ x hx) (by decide)) (by simp)]) ?_
  repeat' (first | refine r_nil ?_ | (refine k_move ?_; refine r_move rfl rfl ?_) | (refine k_assign ?_; refine r_assign rfl rfl ?_) | (refine k_nck ?_; first | refine r_nck rfl rfl ?_ | refine r_nckf rfl rfl ?_) | (refine k_fld ?_; first | refine r_fld0 rfl rfl ?_ | refine r_fld rfl rfl ?_) | (refine k_load ?_; first | refine r_load1L rfl rfl rfl ?_ | refine s_load1L rfl rfl rfl ?_ | refine r_load1 rfl rfl rfl rfl ?_ | refine r_loadW rfl rfl rfl rfl ?_ | refine s_loadW rfl rfl rfl rfl ?_) | (refine k_ext ?_; first | refine r_extL rfl rfl ?_ | refine r_ext rfl rfl rfl ?_) | (refine k_len ?_; refine r_lenS rfl rfl ?_) | (refine k_un ?_; first | refine r_notT rfl (by with_reducible rfl) rfl ?_ | refine r_notF rfl (by with_reducible rfl) rfl ?_ | refine r_not rfl rfl ?_) | (refine k_sl0 ?_; refine r_sliceA rfl (by decide) rfl ?_) | (refine k_conv ?_; refine r_conv rfl rfl ?_) | (refine k_pick ?_; first | refine r_pickT rfl (by with_reducible rfl) rfl rfl ?_ | refine r_pickF rfl (by with_reducible rfl) rfl rfl ?_) | (refine k_inc ?_; refine r_inc rfl (by omega) rfl ?_) | (refine k_bin ?_; first | refine r_icmpT rfl rfl rfl rfl ?_ | refine r_icmpF rfl rfl rfl rfl ?_ | refine r_icmp rfl rfl rfl rfl ?_) | (refine k_eql ?_; first | refine r_peqS rfl rfl rfl ?_ | refine r_peqN rfl rfl rfl ?_ | refine r_meqS rfl rfl rfl ?_ | refine r_meqN rfl rfl rfl ?_ | refine r_peq rfl rfl rfl ?_) | (refine k_neq ?_; first | refine r_pneS rfl rfl rfl ?_ | refine r_pneN rfl rfl rfl ?_ | refine r_mneS rfl rfl rfl ?_ | refine r_mneN rfl rfl rfl ?_ | refine r_pne rfl rfl rfl ?_) | (refine g_mark ?_; first | refine gg_pass rfl rfl (by with_reducible rfl) ?_ | refine gg_skipT rfl rfl (by with_reducible rfl) (blt_any rfl) ?_ | refine gg_skipF rfl rfl (by with_reducible rfl) (blt_any rfl) ?_ | refine gg_skipU rfl rfl (by with_reducible rfl) (blt_any rfl) ?_ | refine gg_splitD rfl rfl (fun _ => ?_) (fun _ => ?_) | refine gg_splitN rfl rfl (fun _ => ?_) (fun _ => ?_) | refine gg_split rfl rfl (fun _ => ?_) (fun _ => ?_)) | refine t_seq ?_ | refine t_perm rfl ?_ | refine t_permE ?_ | refine j_then ?_ | refine t_region ?_ | refine t_draw [] [] mixed (by decide +kernel) ?_ | (refine k_cond ?_; first | refine t_condT rfl (by with_reducible rfl) ?_ | refine t_condF rfl (by with_reducible rfl) ?_ | refine t_condS rfl (fun _ => ?_) (fun _ => ?_) | refine t_condSN rfl (fun _ => ?_) (fun _ => ?_) | refine t_condSB rfl (fun _ => ?_) (fun _ => ?_)) | refine t_block ?_ | refine j_in ?_ | refine t_skip ?_ | refine t_ret ?_ | refine j_then_ret ?_ | refine j_in_ret ?_ | refine t_exit ?_ | refine j_then_exit ?_ | refine j_in_exit ?_ | refine j_in_other rfl ?_ | refine t_scope ?_ | refine t_label ?_ | refine j_ng ?_ | refine j_ng_ret ?_ | refine j_ng_exit ?_)
  · refine j_fin rfl (.cons (rv_tmp rfl) .nil) () (by simp [pack, rightM, *]) (by trivial)
  refine r_loadW rfl (q.len _) rfl rfl ?_
  repeat refine s1 ?_
  refine r_call rfl (blt_some rfl) rfl (bounds_c q a n cap hb Φ) ?_
  intro _ _; dsimp only [bnd, List.cons_append, List.nil_append]
  subst hn
  by_cases hbd : boundsM q ds.length = true
  rotate_left
  · have hbd := eq_false_of_ne_true hbd
    rw [hbd]
    repeat' (first | refine r_nil ?_ | (refine k_move ?_; refine r_move rfl rfl ?_) | (refine k_assign ?_; refine r_assign rfl rfl ?_) | (refine k_nck ?_; first | refine r_nck rfl rfl ?_ | refine r_nckf rfl rfl ?_) | (refine k_fld ?_; first | refine r_fld0 rfl rfl ?_ | refine r_fld rfl rfl ?_) | (refine k_load ?_; first | refine r_load1L rfl rfl rfl ?_ | refine s_load1L rfl rfl rfl ?_ | refine r_load1 rfl rfl rfl rfl ?_ | refine r_loadW rfl rfl rfl rfl ?_ | refine s_loadW rfl rfl rfl rfl ?_) | (refine k_ext ?_; first | refine r_extL rfl rfl ?_ | refine r_ext rfl rfl rfl ?_) | (refine k_len ?_; refine r_lenS rfl rfl ?_) | (refine k_un ?_; first | refine r_notT rfl (by with_reducible rfl) rfl ?_ | refine r_notF rfl (by with_reducible rfl) rfl ?_ | refine r_not rfl rfl ?_) | (refine k_sl0 ?_; refine r_sliceA rfl (by decide) rfl ?_) | (refine k_conv ?_; refine r_conv rfl rfl ?_) | (refine k_pick ?_; first | refine r_pickT rfl (by with_reducible rfl) rfl rfl ?_ | refine r_pickF rfl (by with_reducible rfl) rfl rfl ?_) | (refine k_inc ?_; refine r_inc rfl (by omega) rfl ?_) | (refine k_bin ?_; first | refine r_icmpT rfl rfl rfl rfl ?_ | refine r_icmpF rfl rfl rfl rfl ?_ | refine r_icmp rfl rfl rfl rfl ?_) | (refine k_eql ?_; first | refine r_peqS rfl rfl rfl ?_ | refine r_peqN rfl rfl rfl ?_ | refine r_meqS rfl rfl rfl ?_ | refine r_meqN rfl rfl rfl ?_ | refine r_peq rfl rfl rfl ?_) | (refine k_neq ?_; first | refine r_pneS rfl rfl rfl ?_ | refine r_pneN rfl rfl rfl ?_ | refine r_mneS rfl rfl rfl ?_ | refine r_mneN rfl rfl rfl ?_ | refine r_pne rfl rfl rfl ?_) | (refine g_mark ?_; first | refine gg_pass rfl rfl (by with_reducible rfl) ?_ | refine gg_skipT rfl rfl (by with_reducible rfl) (blt_any rfl) ?_ | refine gg_skipF rfl rfl (by with_reducible rfl) (blt_any rfl) ?_ | refine gg_skipU rfl rfl (by with_reducible rfl) (blt_any rfl) ?_ | refine gg_splitD rfl rfl (fun _ => ?_) (fun _ => ?_) | refine gg_splitN rfl rfl (fun _ => ?_) (fun _ => ?_) | refine gg_split rfl rfl (fun _ => ?_) (fun _ => ?_)) | refine t_seq ?_ | refine t_perm rfl ?_ | refine t_permE ?_ | refine j_then ?_ | refine t_region ?_ | refine t_draw [] [] mixed (by decide +kernel) ?_ | (refine k_cond ?_; first | refine t_condT rfl (by with_reducible rfl) ?_ | refine t_condF rfl (by with_reducible rfl) ?_ | refine t_condS rfl (fun _ => ?_) (fun _ => ?_) | refine t_condSN rfl (fun _ => ?_) (fun _ => ?_) | refine t_condSB rfl (fun _ => ?_) (fun _ => ?_)) | refine t_block ?_ | refine j_in ?_ | refine t_skip ?_ | refine t_ret ?_ | refine j_then_ret ?_ | refine j_in_ret ?_ | refine t_exit ?_ | refine j_then_exit ?_ | refine j_in_exit ?_ | refine j_in_other rfl ?_ | refine t_scope ?_ | refine t_label ?_ | refine j_ng ?_ | refine j_ng_ret ?_ | refine j_ng_exit ?_)
    refine j_fin rfl (.cons (rv_tmp rfl) .nil) () (by simp [pack, rightM, *]) (by trivial)
  rw [hbd]
  repeat' (first | refine r_nil ?_ | (refine k_move ?_; refine r_move rfl rfl ?_) | (refine k_assign ?_; refine r_assign rfl rfl ?_) | (refine k_nck ?_; first | refine r_nck rfl rfl ?_ | refine r_nckf rfl rfl ?_) | (refine k_fld ?_; first | refine r_fld0 rfl rfl ?_ | refine r_fld rfl rfl ?_) | (refine k_load ?_; first | refine r_load1L rfl rfl rfl ?_ | refine s_load1L rfl rfl rfl ?_ | refine r_load1 rfl rfl rfl rfl ?_ | refine r_loadW rfl rfl rfl rfl ?_ | refine s_loadW rfl rfl rfl rfl ?_) | (refine k_ext ?_; first | refine r_extL rfl rfl ?_ | refine r_ext rfl rfl rfl ?_) | (refine k_len ?_; refine r_lenS rfl rfl ?_) | (refine k_un ?_; first | refine r_notT rfl (by with_reducible rfl) rfl ?_ | refine r_notF rfl (by with_reducible rfl) rfl ?_ | refine r_not rfl rfl ?_) | (refine k_sl0 ?_; refine r_sliceA rfl (by decide) rfl ?_) | (refine k_conv ?_; refine r_conv rfl rfl ?_) | (refine k_pick ?_; first | refine r_pickT rfl (by with_reducible rfl) rfl rfl ?_ | refine r_pickF rfl (by with_reducible rfl) rfl rfl ?_) | (refine k_inc ?_; refine r_inc rfl (by omega) rfl ?_) | (refine k_bin ?_; first | refine r_icmpT rfl rfl rfl rfl ?_ | refine r_icmpF rfl rfl rfl rfl ?_ | refine r_icmp rfl rfl rfl rfl ?_) | (refine k_eql ?_; first | refine r_peqS rfl rfl rfl ?_ | refine r_peqN rfl rfl rfl ?_ | refine r_meqS rfl rfl rfl ?_ | refine r_meqN rfl rfl rfl ?_ | refine r_peq rfl rfl rfl ?_) | (refine k_neq ?_; first | refine r_pneS rfl rfl rfl ?_ | refine r_pneN rfl rfl rfl ?_ | refine r_mneS rfl rfl rfl ?_ | refine r_mneN rfl rfl rfl ?_ | refine r_pne rfl rfl rfl ?_) | (refine g_mark ?_; first | refine gg_pass rfl rfl (by with_reducible rfl) ?_ | refine gg_skipT rfl rfl (by with_reducible rfl) (blt_any rfl) ?_ | refine gg_skipF rfl rfl (by with_reducible rfl) (blt_any rfl) ?_ | refine gg_skipU rfl rfl (by with_reducible rfl) (blt_any rfl) ?_ | refine gg_splitD rfl rfl (fun _ => ?_) (fun _ => ?_) | refine gg_splitN rfl rfl (fun _ => ?_) (fun _ => ?_) | refine gg_split rfl rfl (fun _ => ?_) (fun _ => ?_)) | refine t_seq ?_ | refine t_perm rfl ?_ | refine t_permE ?_ | refine j_then ?_ | refine t_region ?_ | refine t_draw [] [] mixed (by decide +kernel) ?_ | (refine k_cond ?_; first | refine t_condT rfl (by with_reducible rfl) ?_ | refine t_condF rfl (by with_reducible rfl) ?_ | refine t_condS rfl (fun _ => ?_) (fun _ => ?_) | refine t_condSN rfl (fun _ => ?_) (fun _ => ?_) | refine t_condSB rfl (fun _ => ?_) (fun _ => ?_)) | refine t_block ?_ | refine j_in ?_ | refine t_skip ?_ | refine t_ret ?_ | refine j_then_ret ?_ | refine j_in_ret ?_ | refine t_exit ?_ | refine j_then_exit ?_ | refine j_in_exit ?_ | refine j_in_other rfl ?_ | refine t_scope ?_ | refine t_label ?_ | refine j_ng ?_ | refine j_ng_ret ?_ | refine j_ng_exit ?_)
  refine r_loadW rfl (q.len _) rfl rfl ?_
  refine r_alloc (cs := Rq.zero.cells (.slice none 0 0)) rfl rfl rfl (fun p3 => ?_)
  refine r_storeW rfl rfl (q.len _) (by rfl) (q.ones _ rfl) rfl ?_
  repeat refine s1 ?_
  refine r_store1 rfl rfl (by rw [Rq.len]; decide) rfl rfl ?_
  repeat refine s1 ?_
  refine r_icmp rfl rfl rfl rfl ?_
  repeat refine s1 ?_
  refine t_meet (σ := Option Addr × Nat × Nat × List Nat) (fun _ => [(1, .pointer (some ⟨p1, 0, none⟩)), (3, .pointer (some ⟨p3, 0, none⟩))])
    (fun s => pt p3 (.cells ((q.setN 0 0).cells (.slice s.1 s.2.1 s.2.2.1)).toArray T.req_Request (0, 0)) :: pt p1 (.cells (q.cells (.slice a ds.length cap)).toArray T.req_Request (0, 0)) :: brow s.1 s.2.1 s.2.2.1 s.2.2.2 :: F)
    (fun s => s.2.2.2 = if q.num 0 = 4 then [] else ds) ?_ ?_
  · repeat' (first | refine r_nil ?_ | (refine k_move ?_; refine r_move rfl rfl ?_) | (refine k_assign ?_; refine r_assign rfl rfl ?_) | (refine k_nck ?_; first | refine r_nck rfl rfl ?_ | refine r_nckf rfl rfl ?_) | (refine k_fld ?_; first | refine r_fld0 rfl rfl ?_ | refine r_fld rfl rfl ?_) | (refine k_load ?_; first | refine r_load1L rfl rfl rfl ?_ | refine s_load1L rfl rfl rfl ?_ | refine r_load1 rfl rfl rfl rfl ?_ | refine r_loadW rfl rfl rfl rfl ?_ | refine s_loadW rfl rfl rfl rfl ?_) | (refine k_ext ?_; first | refine r_extL rfl rfl ?_ | refine r_ext rfl rfl rfl ?_) | (refine k_len ?_; refine r_lenS rfl rfl ?_) | (refine k_un ?_; first | refine r_notT rfl (by with_reducible rfl) rfl ?_ | refine r_notF rfl (by with_reducible rfl) rfl ?_ | refine r_not rfl rfl ?_) | (refine k_sl0 ?_; refine r_sliceA rfl (by decide) rfl ?_) | (refine k_conv ?_; refine r_conv rfl rfl ?_) | (refine k_pick ?_; first | refine r_pickT rfl (by with_reducible rfl) rfl rfl ?_ | refine r_pickF rfl (by with_reducible rfl) rfl rfl ?_) | (refine k_inc ?_; refine r_inc rfl (by omega) rfl ?_) | (refine k_bin ?_; first | refine r_icmpT rfl rfl rfl rfl ?_ | refine r_icmpF rfl rfl rfl rfl ?_ | refine r_icmp rfl rfl rfl rfl ?_) | (refine k_eql ?_; first | refine r_peqS rfl rfl rfl ?_ | refine r_peqN rfl rfl rfl ?_ | refine r_meqS rfl rfl rfl ?_ | refine r_meqN rfl rfl rfl ?_ | refine r_peq rfl rfl rfl ?_) | (refine k_neq ?_; first | refine r_pneS rfl rfl rfl ?_ | refine r_pneN rfl rfl rfl ?_ | refine r_mneS rfl rfl rfl ?_ | refine r_mneN rfl rfl rfl ?_ | refine r_pne rfl rfl rfl ?_) | (refine g_mark ?_; first | refine gg_pass rfl rfl (by with_reducible rfl) ?_ | refine gg_skipT rfl rfl (by with_reducible rfl) (blt_any rfl) ?_ | refine gg_skipF rfl rfl (by with_reducible rfl) (blt_any rfl) ?_ | refine gg_skipU rfl rfl (by with_reducible rfl) (blt_any rfl) ?_ | refine gg_splitD rfl rfl (fun _ => ?_) (fun _ => ?_) | refine gg_splitN rfl rfl (fun _ => ?_) (fun _ => ?_) | refine gg_split rfl rfl (fun _ => ?_) (fun _ => ?_)) | refine t_seq ?_ | refine t_perm rfl ?_ | refine t_permE ?_ | refine j_then ?_ | refine t_region ?_ | refine t_draw [] [] mixed (by decide +kernel) ?_ | (refine k_cond ?_; first | refine t_condT rfl (by with_reducible rfl) ?_ | refine t_condF rfl (by with_reducible rfl) ?_ | refine t_condS rfl (fun _ => ?_) (fun _ => ?_) | refine t_condSN rfl (fun _ => ?_) (fun _ => ?_) | refine t_condSB rfl (fun _ => ?_) (fun _ => ?_)) | refine t_block ?_ | refine j_in ?_ | refine t_skip ?_ | refine t_ret ?_ | refine j_then_ret ?_ | refine j_in_ret ?_ | refine t_exit ?_ | refine j_then_exit ?_ | refine j_in_exit ?_ | refine j_in_other rfl ?_ | refine t_scope ?_ | refine t_label ?_ | refine j_ng ?_ | refine j_ng_ret ?_ | refine j_ng_exit ?_)
    · refine r_store1 rfl rfl (by rw [Rq.len]; decide) rfl rfl ?_
      repeat refine s1 ?_
      refine j_meet (none, 0, 0, []) (by simp [*]) ⟨rfl, rfl, trivial⟩ ?_
      dsimp only
      exact (Ent.brow0 _).trans Le.ent
    · refine j_meet (a, ds.length, cap, ds) (by simp [*]) ⟨rfl, rfl, trivial⟩ ?_
      dsimp only
      exact Le.ent
  rintro ⟨a', n', cap', ds'⟩ hds'
  dsimp only at hds' ⊢
  repeat refine s1 ?_
  refine r_call rfl (blt_some rfl) rfl (fields_c (q.num 0) Φ) ?_
  intro _ _; dsimp only [bnd, List.cons_append, List.nil_append]
  repeat refine s1 ?_
  refine r_rangeS rfl rfl rfl (fun it => ?_)
  repeat refine s1 ?_
  refine t_loop (σ := Nat × Rq) (fun s => [(27, .pointer (some ⟨it, 0, none⟩)), (3, .pointer (some ⟨p3, 0, none⟩))])
    (fun s => pt it (.stringIter (bstr (fieldsM (q.num 0))) s.1) :: pt p3 (.cells (s.2.cells (.slice a' n' cap')).toArray T.req_Request (0, 0)) :: brow a' n' cap' ds' :: F)
    (fun s => s.1 ≤ (fieldsM (q.num 0)).length ∧ rloop ((fieldsM (q.num 0)).drop s.1) s.2 = rloop (fieldsM (q.num 0)) (q.setN 0 0)) (fun s => (fieldsM (q.num 0)).length - s.1)
    (0, q.setN 0 0) ⟨Nat.zero_le _, rfl⟩ ⟨rfl, rfl, trivial⟩ (by dsimp only; exact Le.ent) ?_
  rintro ⟨i, r⟩ ⟨hi, hr⟩
  dsimp only at hi hr ⊢
  repeat refine s1 ?_
  by_cases hlt : i < (fieldsM (q.num 0)).length
  · have hcl := fields_lt (q.num 0) _ (List.getElem_mem hlt)
    generalize hc : (fieldsM (q.num 0))[i] = c at hcl
    have hci : (fieldsM (q.num 0))[i]? = some c := by rw [List.getElem?_eq_getElem hlt, hc]
    rw [drop_at hlt, hc, rloop] at hr
    refine r_nextS rfl hci hcl rfl rfl ?_
    repeat refine s1 ?_
    rcases hnum : numOf (c : Int) with _ | ⟨o, small⟩
    · have hct := number_c p3 (c : Int) Φ
      simp only [hnum, Option.map_none, Option.getD_none, Option.map_some, Option.getD_some] at hct
      refine r_call rfl (blt_some rfl) rfl hct ?_
      intro _ _; dsimp only [bnd, List.cons_append, List.nil_append]
      repeat refine s1 ?_
      refine r_call rfl (blt_some rfl) rfl (key_c p3 (c : Int) Φ) ?_
      intro _ _; dsimp only [bnd, List.cons_append, List.nil_append]
      rcases hkey : keyOf (c : Int) with _ | o
      · simp only [kslice, hkey]
        refine r_clearN rfl rfl (blt_any rfl) ?_
        repeat refine s1 ?_
        refine j_again (i + 1, r) ⟨by omega, ?_⟩ (by dsimp only; omega) ⟨rfl, rfl, trivial⟩ (by dsimp only; exact Le.ent)
        simp only [rstep, hnum, hkey] at hr
        exact hr
      · have hko := keyOf_le hkey
        simp only [kslice, hkey]
        refine r_clearP rfl rfl rfl (by decide) (by rw [Rq.len]; omega) (cur' := (r.setK o (List.replicate 32 0)).cells (.slice a' n' cap')) ?_ rfl (blt_any rfl) ?_
        · have := r.set_key (.slice a' n' cap') (o := o) (ys := List.replicate 32 0) (by rw [List.length_replicate]; exact hko)
          rw [List.map_replicate, List.length_replicate] at this
          exact this
        repeat refine s1 ?_
        refine j_again (i + 1, r.setK o (List.replicate 32 0)) ⟨by omega, ?_⟩ (by dsimp only; omega) ⟨rfl, rfl, trivial⟩ (by dsimp only; exact Le.ent)
        simp only [rstep, hnum, hkey] at hr
        exact hr
    · have hct := number_c p3 (c : Int) Φ
      simp only [hnum, Option.map_none, Option.getD_none, Option.map_some, Option.getD_some] at hct
      have ho := numOf_lt hnum
      dsimp only at ho
      refine r_call rfl (blt_some rfl) rfl hct ?_
      intro _ _; dsimp only [bnd, List.cons_append, List.nil_append]
      repeat refine s1 ?_
      cases small
      · repeat refine s1 ?_
        refine r_load1 rfl (r.at_numA _ ho) rfl rfl ?_
        repeat' (first | refine r_nil ?_ | (refine k_move ?_; refine r_move rfl rfl ?_) | (refine k_assign ?_; refine r_assign rfl rfl ?_) | (refine k_nck ?_; first | refine r_nck rfl rfl ?_ | refine r_nckf rfl rfl ?_) | (refine k_fld ?_; first | refine r_fld0 rfl rfl ?_ | refine r_fld rfl rfl ?_) | (refine k_load ?_; first | refine r_load1L rfl rfl rfl ?_ | refine s_load1L rfl rfl rfl ?_ | refine r_load1 rfl rfl rfl rfl ?_ | refine r_loadW rfl rfl rfl rfl ?_ | refine s_loadW rfl rfl rfl rfl ?_) | (refine k_ext ?_; first | refine r_extL rfl rfl ?_ | refine r_ext rfl rfl rfl ?_) | (refine k_len ?_; refine r_lenS rfl rfl ?_) | (refine k_un ?_; first | refine r_notT rfl (by with_reducible rfl) rfl ?_ | refine r_notF rfl (by with_reducible rfl) rfl ?_ | refine r_not rfl rfl ?_) | (refine k_sl0 ?_; refine r_sliceA rfl (by decide) rfl ?_) | (refine k_conv ?_; refine r_conv rfl rfl ?_) | (refine k_pick ?_; first | refine r_pickT rfl (by with_reducible rfl) rfl rfl ?_ | refine r_pickF rfl (by with_reducible rfl) rfl rfl ?_) | (refine k_inc ?_; refine r_inc rfl (by omega) rfl ?_) | (refine k_bin ?_; first | refine r_icmpT rfl rfl rfl rfl ?_ | refine r_icmpF rfl rfl rfl rfl ?_ | refine r_icmp rfl rfl rfl rfl ?_) | (refine k_eql ?_; first | refine r_peqS rfl rfl rfl ?_ | refine r_peqN rfl rfl rfl ?_ | refine r_meqS rfl rfl rfl ?_ | refine r_meqN rfl rfl rfl ?_ | refine r_peq rfl rfl rfl ?_) | (refine k_neq ?_; first | refine r_pneS rfl rfl rfl ?_ | refine r_pneN rfl rfl rfl ?_ | refine r_mneS rfl rfl rfl ?_ | refine r_mneN rfl rfl rfl ?_ | refine r_pne rfl rfl rfl ?_) | (refine g_mark ?_; first | refine gg_pass rfl rfl (by with_reducible rfl) ?_ | refine gg_skipT rfl rfl (by with_reducible rfl) (blt_any rfl) ?_ | refine gg_skipF rfl rfl (by with_reducible rfl) (blt_any rfl) ?_ | refine gg_skipU rfl rfl (by with_reducible rfl) (blt_any rfl) ?_ | refine gg_splitD rfl rfl (fun _ => ?_) (fun _ => ?_) | refine gg_splitN rfl rfl (fun _ => ?_) (fun _ => ?_) | refine gg_split rfl rfl (fun _ => ?_) (fun _ => ?_)) | refine t_seq ?_ | refine t_perm rfl ?_ | refine t_permE ?_ | refine j_then ?_ | refine t_region ?_ | refine t_draw [] [] mixed (by decide +kernel) ?_ | (refine k_cond ?_; first | refine t_condT rfl (by with_reducible rfl) ?_ | refine t_condF rfl (by with_reducible rfl) ?_ | refine t_condS rfl (fun _ => ?_) (fun _ => ?_) | refine t_condSN rfl (fun _ => ?_) (fun _ => ?_) | refine t_condSB rfl (fun _ => ?_) (fun _ => ?_)) | refine t_block ?_ | refine j_in ?_ | refine t_skip ?_ | refine t_ret ?_ | refine j_then_ret ?_ | refine j_in_ret ?_ | refine t_exit ?_ | refine j_then_exit ?_ | refine j_in_exit ?_ | refine j_in_other rfl ?_ | refine t_scope ?_ | refine t_label ?_ | refine j_ng ?_ | refine j_ng_ret ?_ | refine j_ng_exit ?_)
        · simp only [rstep, hnum] at hr
          rw [if_pos (.inl ‹_›)] at hr
          refine j_fin rfl (.cons (rv_tmp rfl) .nil) () (by simp only [pack, rightM]; rw [if_neg ‹_›, if_neg (by rw [hbd]; simp), ← hr]) (by trivial)
        refine r_load1 rfl (r.at_numA _ ho) rfl rfl ?_
        repeat' (first | refine r_nil ?_ | (refine k_move ?_; refine r_move rfl rfl ?_) | (refine k_assign ?_; refine r_assign rfl rfl ?_) | (refine k_nck ?_; first | refine r_nck rfl rfl ?_ | refine r_nckf rfl rfl ?_) | (refine k_fld ?_; first | refine r_fld0 rfl rfl ?_ | refine r_fld rfl rfl ?_) | (refine k_load ?_; first | refine r_load1L rfl rfl rfl ?_ | refine s_load1L rfl rfl rfl ?_ | refine r_load1 rfl rfl rfl rfl ?_ | refine r_loadW rfl rfl rfl rfl ?_ | refine s_loadW rfl rfl rfl rfl ?_) | (refine k_ext ?_; first | refine r_extL rfl rfl ?_ | refine r_ext rfl rfl rfl ?_) | (refine k_len ?_; refine r_lenS rfl rfl ?_) | (refine k_un ?_; first | refine r_notT rfl (by with_reducible rfl) rfl ?_ | refine r_notF rfl (by with_reducible rfl) rfl ?_ | refine r_not rfl rfl ?_) | (refine k_sl0 ?_; refine r_sliceA rfl (by decide) rfl ?_) | (refine k_conv ?_; refine r_conv rfl rfl ?_) | (refine k_pick ?_; first | refine r_pickT rfl (by with_reducible rfl) rfl rfl ?_ | refine r_pickF rfl (by with_reducible rfl) rfl rfl ?_) | (refine k_inc ?_; refine r_inc rfl (by omega) rfl ?_) | (refine k_bin ?_; first | refine r_icmpT rfl rfl rfl rfl ?_ | refine r_icmpF rfl rfl rfl rfl ?_ | refine r_icmp rfl rfl rfl rfl ?_) | (refine k_eql ?_; first | refine r_peqS rfl rfl rfl ?_ | refine r_peqN rfl rfl rfl ?_ | refine r_meqS rfl rfl rfl ?_ | refine r_meqN rfl rfl rfl ?_ | refine r_peq rfl rfl rfl ?_) | (refine k_neq ?_; first | refine r_pneS rfl rfl rfl ?_ | refine r_pneN rfl rfl rfl ?_ | refine r_mneS rfl rfl rfl ?_ | refine r_mneN rfl rfl rfl ?_ | refine r_pne rfl rfl rfl ?_) | (refine g_mark ?_; first | refine gg_pass rfl rfl (by with_reducible rfl) ?_ | refine gg_skipT rfl rfl (by with_reducible rfl) (blt_any rfl) ?_ | refine gg_skipF rfl rfl (by with_reducible rfl) (blt_any rfl) ?_ | refine gg_skipU rfl rfl (by with_reducible rfl) (blt_any rfl) ?_ | refine gg_splitD rfl rfl (fun _ => ?_) (fun _ => ?_) | refine gg_splitN rfl rfl (fun _ => ?_) (fun _ => ?_) | refine gg_split rfl rfl (fun _ => ?_) (fun _ => ?_)) | refine t_seq ?_ | refine t_perm rfl ?_ | refine t_permE ?_ | refine j_then ?_ | refine t_region ?_ | refine t_draw [] [] mixed (by decide +kernel) ?_ | (refine k_cond ?_; first | refine t_condT rfl (by with_reducible rfl) ?_ | refine t_condF rfl (by with_reducible rfl) ?_ | refine t_condS rfl (fun _ => ?_) (fun _ => ?_) | refine t_condSN rfl (fun _ => ?_) (fun _ => ?_) | refine t_condSB rfl (fun _ => ?_) (fun _ => ?_)) | refine t_block ?_ | refine j_in ?_ | refine t_skip ?_ | refine t_ret ?_ | refine j_then_ret ?_ | refine j_in_ret ?_ | refine t_exit ?_ | refine j_then_exit ?_ | refine j_in_exit ?_ | refine j_in_other rfl ?_ | refine t_scope ?_ | refine t_label ?_ | refine j_ng ?_ | refine j_ng_ret ?_ | refine j_ng_exit ?_)
        · simp only [rstep, hnum] at hr
          rw [if_pos (.inr (by simpa using ‹65535 < r.num o›))] at hr
          refine j_fin rfl (.cons (rv_tmp rfl) .nil) () (by simp only [pack, rightM]; rw [if_neg ‹_›, if_neg (by rw [hbd]; simp), ← hr]) (by trivial)
        simp only [rstep, hnum] at hr
        rw [if_neg (by simp; omega)] at hr
        refine r_store1 (hl := ⟨r.set_num _ ho 0⟩) rfl rfl (by rw [Rq.len]; omega) rfl rfl ?_
        repeat refine s1 ?_
        refine r_call rfl (blt_some rfl) rfl (key_c p3 (c : Int) Φ) ?_
        intro _ _; dsimp only [bnd, List.cons_append, List.nil_append]
        simp only [kslice, key_num hnum]
        refine r_clearN rfl rfl (blt_any rfl) ?_
        repeat refine s1 ?_
        exact j_again (i + 1, r.setN o 0) ⟨by omega, hr⟩ (by dsimp only; omega) ⟨rfl, rfl, trivial⟩ (by dsimp only; exact Le.ent)
      · repeat refine s1 ?_
        refine r_load1 rfl (r.at_numA _ ho) rfl rfl ?_
        repeat' (first | refine r_nil ?_ | (refine k_move ?_; refine r_move rfl rfl ?_) | (refine k_assign ?_; refine r_assign rfl rfl ?_) | (refine k_nck ?_; first | refine r_nck rfl rfl ?_ | refine r_nckf rfl rfl ?_) | (refine k_fld ?_; first | refine r_fld0 rfl rfl ?_ | refine r_fld rfl rfl ?_) | (refine k_load ?_; first | refine r_load1L rfl rfl rfl ?_ | refine s_load1L rfl rfl rfl ?_ | refine r_load1 rfl rfl rfl rfl ?_ | refine r_loadW rfl rfl rfl rfl ?_ | refine s_loadW rfl rfl rfl rfl ?_) | (refine k_ext ?_; first | refine r_extL rfl rfl ?_ | refine r_ext rfl rfl rfl ?_) | (refine k_len ?_; refine r_lenS rfl rfl ?_) | (refine k_un ?_; first | refine r_notT rfl (by with_reducible rfl) rfl ?_ | refine r_notF rfl (by with_reducible rfl) rfl ?_ | refine r_not rfl rfl ?_) | (refine k_sl0 ?_; refine r_sliceA rfl (by decide) rfl ?_) | (refine k_conv ?_; refine r_conv rfl rfl ?_) | (refine k_pick ?_; first | refine r_pickT rfl (by with_reducible rfl) rfl rfl ?_ | refine r_pickF rfl (by with_reducible rfl) rfl rfl ?_) | (refine k_inc ?_; refine r_inc rfl (by omega) rfl ?_) | (refine k_bin ?_; first | refine r_icmpT rfl rfl rfl rfl ?_ | refine r_icmpF rfl rfl rfl rfl ?_ | refine r_icmp rfl rfl rfl rfl ?_) | (refine k_eql ?_; first | refine r_peqS rfl rfl rfl ?_ | refine r_peqN rfl rfl rfl ?_ | refine r_meqS rfl rfl rfl ?_ | refine r_meqN rfl rfl rfl ?_ | refine r_peq rfl rfl rfl ?_) | (refine k_neq ?_; first | refine r_pneS rfl rfl rfl ?_ | refine r_pneN rfl rfl rfl ?_ | refine r_mneS rfl rfl rfl ?_ | refine r_mneN rfl rfl rfl ?_ | refine r_pne rfl rfl rfl ?_) | (refine g_mark ?_; first | refine gg_pass rfl rfl (by with_reducible rfl) ?_ | refine gg_skipT rfl rfl (by with_reducible rfl) (blt_any rfl) ?_ | refine gg_skipF rfl rfl (by with_reducible rfl) (blt_any rfl) ?_ | refine gg_skipU rfl rfl (by with_reducible rfl) (blt_any rfl) ?_ | refine gg_splitD rfl rfl (fun _ => ?_) (fun _ => ?_) | refine gg_splitN rfl rfl (fun _ => ?_) (fun _ => ?_) | refine gg_split rfl rfl (fun _ => ?_) (fun _ => ?_)) | refine t_seq ?_ | refine t_perm rfl ?_ | refine t_permE ?_ | refine j_then ?_ | refine t_region ?_ | refine t_draw [] [] mixed (by decide +kernel) ?_ | (refine k_cond ?_; first | refine t_condT rfl (by with_reducible rfl) ?_ | refine t_condF rfl (by with_reducible rfl) ?_ | refine t_condS rfl (fun _ => ?_) (fun _ => ?_) | refine t_condSN rfl (fun _ => ?_) (fun _ => ?_) | refine t_condSB rfl (fun _ => ?_) (fun _ => ?_)) | refine t_block ?_ | refine j_in ?_ | refine t_skip ?_ | refine t_ret ?_ | refine j_then_ret ?_ | refine j_in_ret ?_ | refine t_exit ?_ | refine j_then_exit ?_ | refine j_in_exit ?_ | refine j_in_other rfl ?_ | refine t_scope ?_ | refine t_label ?_ | refine j_ng ?_ | refine j_ng_ret ?_ | refine j_ng_exit ?_)
        · simp only [rstep, hnum] at hr
          rw [if_pos (.inl ‹_›)] at hr
          refine j_fin rfl (.cons (rv_tmp rfl) .nil) () (by simp only [pack, rightM]; rw [if_neg ‹_›, if_neg (by rw [hbd]; simp), ← hr]) (by trivial)
        refine r_load1 rfl (r.at_numA _ ho) rfl rfl ?_
        repeat' (first | refine r_nil ?_ | (refine k_move ?_; refine r_move rfl rfl ?_) | (refine k_assign ?_; refine r_assign rfl rfl ?_) | (refine k_nck ?_; first | refine r_nck rfl rfl ?_ | refine r_nckf rfl rfl ?_) | (refine k_fld ?_; first | refine r_fld0 rfl rfl ?_ | refine r_fld rfl rfl ?_) | (refine k_load ?_; first | refine r_load1L rfl rfl rfl ?_ | refine s_load1L rfl rfl rfl ?_ | refine r_load1 rfl rfl rfl rfl ?_ | refine r_loadW rfl rfl rfl rfl ?_ | refine s_loadW rfl rfl rfl rfl ?_) | (refine k_ext ?_; first | refine r_extL rfl rfl ?_ | refine r_ext rfl rfl rfl ?_) | (refine k_len ?_; refine r_lenS rfl rfl ?_) | (refine k_un ?_; first | refine r_notT rfl (by with_reducible rfl) rfl ?_ | refine r_notF rfl (by with_reducible rfl) rfl ?_ | refine r_not rfl rfl ?_) | (refine k_sl0 ?_; refine r_sliceA rfl (by decide) rfl ?_) | (refine k_conv ?_; refine r_conv rfl rfl ?_) | (refine k_pick ?_; first | refine r_pickT rfl (by with_reducible rfl) rfl rfl ?_ | refine r_pickF rfl (by with_reducible rfl) rfl rfl ?_) | (refine k_inc ?_; refine r_inc rfl (by omega) rfl ?_) | (refine k_bin ?_; first | refine r_icmpT rfl rfl rfl rfl ?_ | refine r_icmpF rfl rfl rfl rfl ?_ | refine r_icmp rfl rfl rfl rfl ?_) | (refine k_eql ?_; first | refine r_peqS rfl rfl rfl ?_ | refine r_peqN rfl rfl rfl ?_ | refine r_meqS rfl rfl rfl ?_ | refine r_meqN rfl rfl rfl ?_ | refine r_peq rfl rfl rfl ?_) | (refine k_neq ?_; first | refine r_pneS rfl rfl rfl ?_ | refine r_pneN rfl rfl rfl ?_ | refine r_mneS rfl rfl rfl ?_ | refine r_mneN rfl rfl rfl ?_ | refine r_pne rfl rfl rfl ?_) | (refine g_mark ?_; first | refine gg_pass rfl rfl (by with_reducible rfl) ?_ | refine gg_skipT rfl rfl (by with_reducible rfl) (blt_any rfl) ?_ | refine gg_skipF rfl rfl (by with_reducible rfl) (blt_any rfl) ?_ | refine gg_skipU rfl rfl (by with_reducible rfl) (blt_any rfl) ?_ | refine gg_splitD rfl rfl (fun _ => ?_) (fun _ => ?_) | refine gg_splitN rfl rfl (fun _ => ?_) (fun _ => ?_) | refine gg_split rfl rfl (fun _ => ?_) (fun _ => ?_)) | refine t_seq ?_ | refine t_perm rfl ?_ | refine t_permE ?_ | refine j_then ?_ | refine t_region ?_ | refine t_draw [] [] mixed (by decide +kernel) ?_ | (refine k_cond ?_; first | refine t_condT rfl (by with_reducible rfl) ?_ | refine t_condF rfl (by with_reducible rfl) ?_ | refine t_condS rfl (fun _ => ?_) (fun _ => ?_) | refine t_condSN rfl (fun _ => ?_) (fun _ => ?_) | refine t_condSB rfl (fun _ => ?_) (fun _ => ?_)) | refine t_block ?_ | refine j_in ?_ | refine t_skip ?_ | refine t_ret ?_ | refine j_then_ret ?_ | refine j_in_ret ?_ | refine t_exit ?_ | refine j_then_exit ?_ | refine j_in_exit ?_ | refine j_in_other rfl ?_ | refine t_scope ?_ | refine t_label ?_ | refine j_ng ?_ | refine j_ng_ret ?_ | refine j_ng_exit ?_)
        · simp only [rstep, hnum] at hr
          rw [if_pos (.inr (by simpa using ‹255 < r.num o›))] at hr
          refine j_fin rfl (.cons (rv_tmp rfl) .nil) () (by simp only [pack, rightM]; rw [if_neg ‹_›, if_neg (by rw [hbd]; simp), ← hr]) (by trivial)
        simp only [rstep, hnum] at hr
        rw [if_neg (by simp; omega)] at hr
        refine r_store1 (hl := ⟨r.set_num _ ho 0⟩) rfl rfl (by rw [Rq.len]; omega) rfl rfl ?_
        repeat refine s1 ?_
        refine r_call rfl (blt_some rfl) rfl (key_c p3 (c : Int) Φ) ?_
        intro _ _; dsimp only [bnd, List.cons_append, List.nil_append]
        simp only [kslice, key_num hnum]
        refine r_clearN rfl rfl (blt_any rfl) ?_
        repeat refine s1 ?_
        exact j_again (i + 1, r.setN o 0) ⟨by omega, hr⟩ (by dsimp only; omega) ⟨rfl, rfl, trivial⟩ (by dsimp only; exact Le.ent)
  · refine r_nextE rfl (by omega) rfl rfl ?_
    repeat refine s1 ?_
    have hil : i = (fieldsM (q.num 0)).length := by omega
    rw [hil, List.drop_length, rloop] at hr
    refine r_loadW rfl (r.len _) rfl rfl ?_
    refine r_build (cells := Rq.zero.cells (.slice none 0 0)) rfl (by rfl) rfl ?_
    refine j_ent (Ent.brow0 _) ?_
    refine r_call rfl (blt_some rfl) rfl (same_c r Rq.zero a' none n' cap' 0 0 ds' [] (by rw [hds']; split; simp; exact hds) (by simp) Φ) ?_
    intro _ _; dsimp only [bnd, List.cons_append, List.nil_append]
    repeat refine s1 ?_
    refine j_fin rfl (.cons (rv_tmp rfl) .nil) () (by simp only [pack, rightM]; rw [if_neg ‹_›, if_neg (by rw [hbd]; simp), ← hr, hds']) (by trivial)
end Go.Proofs.Ytbecjgikhfplmaa
