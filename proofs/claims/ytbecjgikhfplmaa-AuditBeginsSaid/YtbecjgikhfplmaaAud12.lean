/-
  The contract of what hears what a session asks. For each input.
-/
import Derived.Test.YtbecjgikhfplmaaAud11
namespace Go.Proofs.Ytbecjgikhfplmaa
open Go Sl
attribute [local irreducible] cw sw J Exit.then Exit.inBlock Exit.noGoto bodyPost swG swL permL
abbrev Bk.commit (B : Bk) : Bk := { B with kept := B.now }
abbrev Bk.abort (B : Bk) : Bk := { B with now := B.kept }
def nblk (q : Rq) (ds : List Nat) : Nat := if q.num 0 = 3 ∨ q.num 0 = 5 then (q.num 5).toNat else ds.length / 512
noncomputable def askedM (B : Bk) (q : Rq) (ds : List Nat) (r : Rp) : Bk × Bool :=
  if ¬ q.num 0 = 3 ∧ ¬ q.num 0 = 4 ∧ ¬ q.num 0 = 5 ∧ r.e = 40 then (B, onlyM r [r.e])
  else if q.num 0 = 3 then blocksL q ds r (nblk q ds) 0 B [] 0
  else if q.num 0 = 4 then blocksL q ds r (nblk q ds) 0 B [] 0
  else if q.num 0 = 5 then blocksL q ds r (nblk q ds) 0 B [] 0
  else if q.num 0 = 6 then ((createM B q).1, onlyM r [(createM B q).2])
  else if q.num 0 = 7 then ((removeM B q).1, onlyM r [(removeM B q).2])
  else if q.num 0 = 8 then ((resizeM B q).1, onlyM r [(resizeM B q).2])
  else if q.num 0 = 9 then ((snapM B q).1, onlyM r [(snapM B q).2])
  else if q.num 0 = 10 then (B.commit, onlyM r [0])
  else if q.num 0 = 11 then (B.abort, onlyM r [0])
  else if q.num 0 = 12 then rotateM B q r
  else (B, statusM B r)
set_option maxHeartbeats 2000000 in
theorem asked_c (p : Nat) (B : Bk) (q : Rq) (qa : Option Addr) (qc : Nat) (ds : List Nat) (r : Rp) (da : Option Addr) (dc : Nat) (hok : q.num 0 = 3 ∨ q.num 0 = 4 ∨ q.num 0 = 5 → BOk q ds (nblk q ds) B) (hdl : ds.length ≤ 1000000)
    (hr : ∀ x ∈ r.d, x < 256) (hk8 : ∀ k x, B.now k = some x → 1 ≤ k ∧ k ≤ 8) (Φ : Base) :
    Sl.Fn Try.prog Φ F.audit_Book_asked [.pointer (some ⟨p, 0, none⟩), .agg (q.cells (.slice qa ds.length qc)).toArray, .agg (rcells r da dc).toArray] [book p B, brow qa ds.length qc ds, brow da r.d.length dc r.d] (fun _ : Unit => True)
      (fun _ => .bool (askedM B q ds r).2) (fun _ => [book p (askedM B q ds r).1]) := by
  refine fn_of rfl rfl (fun F => ?_)
  dsimp only [argEnv, List.cons_append, List.nil_append, Nat.zero_add, Nat.reduceAdd]
  repeat refine s1 ?_
  refine r_box (cs := q.cells (.slice qa ds.length qc)) rfl rfl rfl rfl (fun pq => ?_)
  refine r_box (cs := rcells r da dc) rfl rfl rfl rfl (fun b3 => ?_)
  refine r_assign rfl rfl ?_
  refine r_nil ?_
  refine j_then ?_
  refine t_seq ?_
  refine t_seq ?_
  refine t_meet (σ := Unit) (fun _ => [(24, .bool (decide (¬ q.num 0 = 3 ∧ ¬ q.num 0 = 4 ∧ ¬ q.num 0 = 5 ∧ r.e = 40))), (0, .pointer (some ⟨p, 0, none⟩)), (4, .pointer (some ⟨pq, 0, none⟩)), (5, .pointer (some ⟨b3, 0, none⟩))])
    (fun _ => pt b3 (.cells (rcells r da dc).toArray T.reply_Reply (0, 0)) :: pt pq (.cells (q.cells (.slice qa ds.length qc)).toArray T.req_Request (0, 0)) :: book p B :: brow qa ds.length qc ds :: brow da r.d.length dc r.d :: F) (fun _ => True) ?_ (fun _ _ => ?_)
  · repeat' (first | refine r_nil ?_ | (refine k_move ?_; refine r_move rfl rfl ?_) | (refine k_assign ?_; refine r_assign rfl rfl ?_) | (refine k_nck ?_; first | refine r_nck rfl rfl ?_ | refine r_nckf rfl rfl ?_) | (refine k_fld ?_; first | refine r_fld0 rfl rfl ?_ | refine r_fld rfl rfl ?_) | (refine k_load ?_; first | refine r_load1L rfl rfl rfl ?_ | refine s_load1L rfl rfl rfl ?_ | refine r_load1 rfl rfl rfl rfl ?_ | refine r_loadW rfl rfl rfl rfl ?_ | refine s_loadW rfl rfl rfl rfl ?_) | (refine k_ext ?_; first | refine r_extL rfl rfl ?_ | refine r_ext rfl rfl rfl ?_) | (refine k_len ?_; refine r_lenS rfl rfl ?_) | (refine k_un ?_; first | refine r_notT rfl (by with_reducible rfl) rfl ?_ | refine r_notF rfl (by with_reducible rfl) rfl ?_ | refine r_not rfl rfl ?_) | (refine k_sl0 ?_; refine r_sliceA rfl (by decide) rfl ?_) | (refine k_conv ?_; refine r_conv rfl rfl ?_) | (refine k_pick ?_; first | refine r_pickT rfl (by with_reducible rfl) rfl rfl ?_ | refine r_pickF rfl (by with_reducible rfl) rfl rfl ?_) | (refine k_inc ?_; refine r_inc rfl (by omega) rfl ?_) | (refine k_bin ?_; first | refine r_icmpT rfl rfl rfl rfl ?_ | refine r_icmpF rfl rfl rfl rfl ?_ | refine r_icmp rfl rfl rfl rfl ?_) | (refine k_eql ?_; first | refine r_peqS rfl rfl rfl ?_ | refine r_peqN rfl rfl rfl ?_ | refine r_meqS rfl rfl rfl ?_ | refine r_meqN rfl rfl rfl ?_ | refine r_peq rfl rfl rfl ?_) | (refine k_neq ?_; first | refine r_pneS rfl rfl rfl ?_ | refine r_pneN rfl rfl rfl ?_ | refine r_mneS rfl rfl rfl ?_ | refine r_mneN rfl rfl rfl ?_ | refine r_pne rfl rfl rfl ?_) | (refine g_mark ?_; first | refine gg_pass rfl rfl (by with_reducible rfl) ?_ | refine gg_skipT rfl rfl (by with_reducible rfl) (blt_any rfl) ?_ | refine gg_skipF rfl rfl (by with_reducible rfl) (blt_any rfl) ?_ | refine gg_skipU rfl rfl (by with_reducible rfl) (blt_any rfl) ?_ | refine gg_splitD rfl rfl (fun _ => ?_) (fun _ => ?_) | refine gg_splitN rfl rfl (fun _ => ?_) (fun _ => ?_) | refine gg_split rfl rfl (fun _ => ?_) (fun _ => ?_)) | refine t_seq ?_ | refine t_perm rfl ?_ | refine t_permE ?_ | refine j_then ?_ | refine t_region ?_ | refine t_draw [] [] mixed (by decide +kernel) ?_ | (refine k_cond ?_; first | refine t_condT rfl (by with_reducible rfl) ?_ | refine t_condF rfl (by with_reducible rfl) ?_ | refine t_condS rfl (fun _ => ?_) (fun _ => ?_) | refine t_condSN rfl (fun _ => ?_) (fun _ => ?_) | refine t_condSB rfl (fun _ => ?_) (fun _ => ?_)) | refine t_block ?_ | refine j_in ?_ | refine t_skip ?_ | refine t_ret ?_ | refine j_then_ret ?_ | refine j_in_ret ?_ | refine t_exit ?_ | refine j_then_exit ?_ | refine j_in_exit ?_ | refine j_in_other rfl ?_ | refine t_scope ?_ | refine t_label ?_ | refine j_ng ?_ | refine j_ng_ret ?_ | refine j_ng_exit ?_)
    all_goals (refine j_meet () trivial ⟨?_, rfl, rfl, rfl, trivial⟩ Le.ent; show some _ = some _; simp [*])
  repeat refine s1 ?_
  refine t_condS rfl (fun h40 => ?_) (fun h40 => ?_)
  · have hM : askedM B q ds r = (B, onlyM r [r.e]) := by rw [askedM, if_pos (by simpa using h40)]
    rw [hM]
    repeat refine s1 ?_
    refine r_build1s [.tmp 27] ([r.e].map (Value.int .i64)) rfl rfl (by simp [Value.oneCell']) (by simp) rfl rfl rfl (fun be => ?_); (repeat refine s1 ?_); refine j_freezeV (some ⟨be, 0, none⟩) 1 1 T.api_Errno 1 ([r.e].map (Value.int .i64)) ?_; refine r_call rfl (blt_any rfl) rfl (only_c r da dc (some ⟨be, 0, none⟩) 1 1 [r.e] rfl (by decide) Φ) ?_; intro _ _; dsimp only [bnd, List.cons_append, List.nil_append]; (repeat refine s2 ?_)
    refine j_fin rfl (.cons (rv_tmp rfl) .nil) () (by rfl) (by trivial)
  by_cases h3 : q.num 0 = 3
  · have hM : askedM B q ds r = blocksL q ds r (nblk q ds) 0 B [] 0 := by rw [askedM, if_neg h40, if_pos h3]
    rw [hM]
    repeat refine s1 ?_
    refine r_cmpT rfl rfl rfl (by simp [h3]) rfl ?_
    repeat refine s1 ?_
    refine r_loadW rfl (q.len _) rfl rfl ?_
    repeat refine s1 ?_
    refine r_call rfl (blt_some rfl) rfl (blocksB_c p B q qa qc ds r da dc (nblk q ds) (hok (.inl h3)) hdl hr Φ) ?_
    intro _ _; dsimp only [bnd, List.cons_append, List.nil_append]
    repeat refine s1 ?_
    refine j_fin rfl (.cons (rv_tmp rfl) .nil) () (by rfl) (by trivial)
  by_cases h4 : q.num 0 = 4
  · have hM : askedM B q ds r = blocksL q ds r (nblk q ds) 0 B [] 0 := by rw [askedM, if_neg h40, if_neg h3, if_pos h4]
    rw [hM]
    repeat refine s1 ?_
    refine r_cmpF rfl rfl rfl (by simp [h4]) rfl ?_
    repeat refine s1 ?_
    refine r_cmpT rfl rfl rfl (by simp [h4]) rfl ?_
    repeat refine s1 ?_
    refine r_loadW rfl (q.len _) rfl rfl ?_
    repeat refine s1 ?_
    refine r_call rfl (blt_some rfl) rfl (blocksB_c p B q qa qc ds r da dc (nblk q ds) (hok (.inr (.inl h4))) hdl hr Φ) ?_
    intro _ _; dsimp only [bnd, List.cons_append, List.nil_append]
    repeat refine s1 ?_
    refine j_fin rfl (.cons (rv_tmp rfl) .nil) () (by rfl) (by trivial)
  by_cases h5 : q.num 0 = 5
  · have hM : askedM B q ds r = blocksL q ds r (nblk q ds) 0 B [] 0 := by rw [askedM, if_neg h40, if_neg h3, if_neg h4, if_pos h5]
    rw [hM]
    repeat refine s1 ?_
    refine r_cmpF rfl rfl rfl (by simp [h5]) rfl ?_
    repeat refine s1 ?_
    refine r_cmpF rfl rfl rfl (by simp [h5]) rfl ?_
    repeat refine s1 ?_
    refine r_cmpT rfl rfl rfl (by simp [h5]) rfl ?_
    repeat refine s1 ?_
    refine r_loadW rfl (q.len _) rfl rfl ?_
    repeat refine s1 ?_
    refine r_call rfl (blt_some rfl) rfl (blocksB_c p B q qa qc ds r da dc (nblk q ds) (hok (.inr (.inr h5))) hdl hr Φ) ?_
    intro _ _; dsimp only [bnd, List.cons_append, List.nil_append]
    repeat refine s1 ?_
    refine j_fin rfl (.cons (rv_tmp rfl) .nil) () (by rfl) (by trivial)
  repeat refine s1 ?_
  refine r_cmpF rfl rfl rfl (by simp [h3]) rfl ?_
  repeat refine s1 ?_
  refine r_cmpF rfl rfl rfl (by simp [h4]) rfl ?_
  repeat refine s1 ?_
  refine r_cmpF rfl rfl rfl (by simp [h5]) rfl ?_
  repeat refine s1 ?_
  refine r_icmp rfl rfl rfl rfl ?_
  repeat refine s1 ?_
  refine t_condS rfl (fun h6 => ?_) (fun h6 => ?_)
  · have hM : askedM B q ds r = ((createM B q).1, onlyM r [(createM B q).2]) := by rw [askedM, if_neg h40, if_neg h3, if_neg h4, if_neg h5, if_pos h6]
    rw [hM]
    repeat refine s1 ?_
    refine t_draw [pt b3 (.cells (rcells r da dc).toArray T.reply_Reply (0, 0)), pt pq (.cells (q.cells (.slice qa ds.length qc)).toArray T.req_Request (0, 0))] [0, 2] mixed (by decide +kernel) ?_
    repeat refine s1 ?_
    refine s_loadW rfl (q.len _) rfl rfl ?_
    repeat refine s1 ?_
    refine r_call rfl (blt_some rfl) rfl (create_c p B q (.slice qa ds.length qc) Φ) ?_
    intro _ _; dsimp only [bnd, List.cons_append, List.nil_append]
    repeat refine s1 ?_
    refine r_build1s [.tmp 45] ([(createM B q).2].map (Value.int .i64)) rfl rfl (by simp [Value.oneCell']) (by simp) rfl rfl rfl (fun be => ?_); (repeat refine s1 ?_); refine j_freezeV (some ⟨be, 0, none⟩) 1 1 T.api_Errno 1 ([(createM B q).2].map (Value.int .i64)) ?_; refine r_call rfl (blt_any rfl) rfl (only_c r da dc (some ⟨be, 0, none⟩) 1 1 [(createM B q).2] rfl (by decide) Φ) ?_; intro _ _; dsimp only [bnd, List.cons_append, List.nil_append]; (repeat refine s2 ?_)
    refine j_fin rfl (.cons (rv_tmp rfl) .nil) () (by rfl) (by trivial)
  repeat refine s1 ?_
  refine r_icmp rfl rfl rfl rfl ?_
  repeat refine s1 ?_
  refine t_condS rfl (fun h7 => ?_) (fun h7 => ?_)
  · have hM : askedM B q ds r = ((removeM B q).1, onlyM r [(removeM B q).2]) := by rw [askedM, if_neg h40, if_neg h3, if_neg h4, if_neg h5, if_neg h6, if_pos h7]
    rw [hM]
    repeat refine s1 ?_
    refine t_draw [pt b3 (.cells (rcells r da dc).toArray T.reply_Reply (0, 0)), pt pq (.cells (q.cells (.slice qa ds.length qc)).toArray T.req_Request (0, 0))] [0, 2] mixed (by decide +kernel) ?_
    repeat refine s1 ?_
    refine s_loadW rfl (q.len _) rfl rfl ?_
    repeat refine s1 ?_
    refine r_call rfl (blt_some rfl) rfl (remove_c p B q (.slice qa ds.length qc) Φ) ?_
    intro _ _; dsimp only [bnd, List.cons_append, List.nil_append]
    repeat refine s1 ?_
    refine r_build1s [.tmp 53] ([(removeM B q).2].map (Value.int .i64)) rfl rfl (by simp [Value.oneCell']) (by simp) rfl rfl rfl (fun be => ?_); (repeat refine s1 ?_); refine j_freezeV (some ⟨be, 0, none⟩) 1 1 T.api_Errno 1 ([(removeM B q).2].map (Value.int .i64)) ?_; refine r_call rfl (blt_any rfl) rfl (only_c r da dc (some ⟨be, 0, none⟩) 1 1 [(removeM B q).2] rfl (by decide) Φ) ?_; intro _ _; dsimp only [bnd, List.cons_append, List.nil_append]; (repeat refine s2 ?_)
    refine j_fin rfl (.cons (rv_tmp rfl) .nil) () (by rfl) (by trivial)
  repeat refine s1 ?_
  refine r_icmp rfl rfl rfl rfl ?_
  repeat refine s1 ?_
  refine t_condS rfl (fun h8 => ?_) (fun h8 => ?_)
  · have hM : askedM B q ds r = ((resizeM B q).1, onlyM r [(resizeM B q).2]) := by rw [askedM, if_neg h40, if_neg h3, if_neg h4, if_neg h5, if_neg h6, if_neg h7, if_pos h8]
    rw [hM]
    repeat refine s1 ?_
    refine t_draw [pt b3 (.cells (rcells r da dc).toArray T.reply_Reply (0, 0)), pt pq (.cells (q.cells (.slice qa ds.length qc)).toArray T.req_Request (0, 0))] [0, 2] mixed (by decide +kernel) ?_
    repeat refine s1 ?_
    refine s_loadW rfl (q.len _) rfl rfl ?_
    repeat refine s1 ?_
    refine r_call rfl (blt_some rfl) rfl (resize_c p B q (.slice qa ds.length qc) Φ) ?_
    intro _ _; dsimp only [bnd, List.cons_append, List.nil_append]
    repeat refine s1 ?_
    refine r_build1s [.tmp 61] ([(resizeM B q).2].map (Value.int .i64)) rfl rfl (by simp [Value.oneCell']) (by simp) rfl rfl rfl (fun be => ?_); (repeat refine s1 ?_); refine j_freezeV (some ⟨be, 0, none⟩) 1 1 T.api_Errno 1 ([(resizeM B q).2].map (Value.int .i64)) ?_; refine r_call rfl (blt_any rfl) rfl (only_c r da dc (some ⟨be, 0, none⟩) 1 1 [(resizeM B q).2] rfl (by decide) Φ) ?_; intro _ _; dsimp only [bnd, List.cons_append, List.nil_append]; (repeat refine s2 ?_)
    refine j_fin rfl (.cons (rv_tmp rfl) .nil) () (by rfl) (by trivial)
  repeat refine s1 ?_
  refine r_icmp rfl rfl rfl rfl ?_
  repeat refine s1 ?_
  refine t_condS rfl (fun h9 => ?_) (fun h9 => ?_)
  · have hM : askedM B q ds r = ((snapM B q).1, onlyM r [(snapM B q).2]) := by rw [askedM, if_neg h40, if_neg h3, if_neg h4, if_neg h5, if_neg h6, if_neg h7, if_neg h8, if_pos h9]
    rw [hM]
    repeat refine s1 ?_
    refine t_draw [pt b3 (.cells (rcells r da dc).toArray T.reply_Reply (0, 0)), pt pq (.cells (q.cells (.slice qa ds.length qc)).toArray T.req_Request (0, 0))] [0, 2] mixed (by decide +kernel) ?_
    repeat refine s1 ?_
    refine s_loadW rfl (q.len _) rfl rfl ?_
    repeat refine s1 ?_
    refine r_call rfl (blt_some rfl) rfl (snap_c p B q (.slice qa ds.length qc) Φ) ?_
    intro _ _; dsimp only [bnd, List.cons_append, List.nil_append]
    repeat refine s1 ?_
    refine r_build1s [.tmp 69] ([(snapM B q).2].map (Value.int .i64)) rfl rfl (by simp [Value.oneCell']) (by simp) rfl rfl rfl (fun be => ?_); (repeat refine s1 ?_); refine j_freezeV (some ⟨be, 0, none⟩) 1 1 T.api_Errno 1 ([(snapM B q).2].map (Value.int .i64)) ?_; refine r_call rfl (blt_any rfl) rfl (only_c r da dc (some ⟨be, 0, none⟩) 1 1 [(snapM B q).2] rfl (by decide) Φ) ?_; intro _ _; dsimp only [bnd, List.cons_append, List.nil_append]; (repeat refine s2 ?_)
    refine j_fin rfl (.cons (rv_tmp rfl) .nil) () (by rfl) (by trivial)
  repeat refine s1 ?_
  refine r_icmp rfl rfl rfl rfl ?_
  repeat refine s1 ?_
  refine t_condS rfl (fun h10 => ?_) (fun h10 => ?_)
  · have hM : askedM B q ds r = (B.commit, onlyM r [0]) := by rw [askedM, if_neg h40, if_neg h3, if_neg h4, if_neg h5, if_neg h6, if_neg h7, if_neg h8, if_neg h9, if_pos h10]
    rw [hM]
    repeat refine s1 ?_
    refine j_head (book p B) ?_
    refine j_book (fun n k s ta tc hs => ?_)
    repeat refine s1 ?_
    refine r_call rfl (blt_some rfl) rfl (copy_c n B.now Φ) ?_
    intro m _
    dsimp only [bnd, List.cons_append, List.nil_append]
    repeat refine s1 ?_
    refine r_store1 rfl rfl (by simp [B.outer.2]) rfl rfl ?_
    repeat refine s1 ?_
    refine j_shut (p := p) B.commit (n := n) (k := m) (s := s) (ta := ta) (tc := tc) (hs := hs) ?_
    refine r_build1s [.const (.int .i64 0)] ([0].map (Value.int .i64)) rfl rfl (by simp [Value.oneCell']) (by simp) rfl rfl rfl (fun be => ?_); (repeat refine s1 ?_); refine j_freezeV (some ⟨be, 0, none⟩) 1 1 T.api_Errno 1 ([0].map (Value.int .i64)) ?_; refine r_call rfl (blt_any rfl) rfl (only_c r da dc (some ⟨be, 0, none⟩) 1 1 [0] rfl (by decide) Φ) ?_; intro _ _; dsimp only [bnd, List.cons_append, List.nil_append]; (repeat refine s2 ?_)
    refine j_fin rfl (.cons (rv_tmp rfl) .nil) () (by rfl) (by trivial)
  repeat refine s1 ?_
  refine r_icmp rfl rfl rfl rfl ?_
  repeat refine s1 ?_
  refine t_condS rfl (fun h11 => ?_) (fun h11 => ?_)
  · have hM : askedM B q ds r = (B.abort, onlyM r [0]) := by rw [askedM, if_neg h40, if_neg h3, if_neg h4, if_neg h5, if_neg h6, if_neg h7, if_neg h8, if_neg h9, if_neg h10, if_pos h11]
    rw [hM]
    repeat refine s1 ?_
    refine j_head (book p B) ?_
    refine j_book (fun n k s ta tc hs => ?_)
    repeat refine s1 ?_
    refine r_call rfl (blt_some rfl) rfl (copy_c k B.kept Φ) ?_
    intro m _
    dsimp only [bnd, List.cons_append, List.nil_append]
    repeat refine s1 ?_
    refine r_store1 rfl rfl (by simp [B.outer.2]) rfl rfl ?_
    repeat refine s1 ?_
    refine j_shut (p := p) B.abort (n := m) (k := k) (s := s) (ta := ta) (tc := tc) (hs := hs) ?_
    refine r_build1s [.const (.int .i64 0)] ([0].map (Value.int .i64)) rfl rfl (by simp [Value.oneCell']) (by simp) rfl rfl rfl (fun be => ?_); (repeat refine s1 ?_); refine j_freezeV (some ⟨be, 0, none⟩) 1 1 T.api_Errno 1 ([0].map (Value.int .i64)) ?_; refine r_call rfl (blt_any rfl) rfl (only_c r da dc (some ⟨be, 0, none⟩) 1 1 [0] rfl (by decide) Φ) ?_; intro _ _; dsimp only [bnd, List.cons_append, List.nil_append]; (repeat refine s2 ?_)
    refine j_fin rfl (.cons (rv_tmp rfl) .nil) () (by rfl) (by trivial)
  repeat refine s1 ?_
  refine r_icmp rfl rfl rfl rfl ?_
  repeat refine s1 ?_
  refine t_condS rfl (fun h12 => ?_) (fun h12 => ?_)
  · have hM : askedM B q ds r = rotateM B q r := by rw [askedM, if_neg h40, if_neg h3, if_neg h4, if_neg h5, if_neg h6, if_neg h7, if_neg h8, if_neg h9, if_neg h10, if_neg h11, if_pos h12]
    rw [hM]
    repeat refine s1 ?_
    refine r_loadW rfl (q.len _) rfl rfl ?_
    repeat refine s1 ?_
    refine r_call rfl (blt_some rfl) rfl (rotate_c p B q (.slice qa ds.length qc) r da dc Φ) ?_
    intro _ _; dsimp only [bnd, List.cons_append, List.nil_append]
    repeat refine s1 ?_
    refine j_fin rfl (.cons (rv_tmp rfl) .nil) () (by rfl) (by trivial)
  · have hM : askedM B q ds r = (B, statusM B r) := by rw [askedM, if_neg h40, if_neg h3, if_neg h4, if_neg h5, if_neg h6, if_neg h7, if_neg h8, if_neg h9, if_neg h10, if_neg h11, if_neg h12]
    rw [hM]
    repeat refine s1 ?_
    refine r_call rfl (blt_some rfl) rfl (bstatus_c p B r da dc hk8 hr Φ) ?_
    intro _ _; dsimp only [bnd, List.cons_append, List.nil_append]
    repeat refine s1 ?_
    refine j_fin rfl (.cons (rv_tmp rfl) .nil) () (by rfl) (by trivial)
end Go.Proofs.Ytbecjgikhfplmaa
