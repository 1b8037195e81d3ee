/-
  The contracts of what hears a Rotate, an Open, and what names a tenant. For each input.
-/
import Derived.Test.YtbecjgikhfplmaaAud8
namespace Go.Proofs.Ytbecjgikhfplmaa
open Go Sl
attribute [local irreducible] cw sw J Exit.then Exit.inBlock Exit.noGoto bodyPost swG swL permL
def Rq.key32 (q : Rq) (o : Nat) (h : o + 32 ≤ 128) : Key32 := ⟨q.key o, q.key_len h⟩
theorem Key32.at {k : Key32} {pre post : List Value} {off : Nat} (hp : pre.length = off) : ∀ j v, (k.1.map u8)[j]? = some v → (pre ++ (k.1.map u8 ++ post)).toArray[off + j]? = some v := fun j v hj => by
  have hlt := (List.getElem?_eq_some_iff.1 hj).1
  rw [List.getElem?_toArray, List.getElem?_append_right (by omega), List.getElem?_append_left (by omega), ← hj]
  congr 1; omega
/-- the key of a book, read and stored. -/
theorem b_outer {B : Bk} {n k s : Nat} {tx : Value} : ∀ j v, (B.outer.1.map u8)[j]? = some v → (bcells B n k s tx).toArray[2 + j]? = some v := Key32.at (pre := [.int .i64 B.ten, .bool B.inn]) rfl
theorem b_setouter {a b : Value} {K K' : Key32} {post : List Value} : (a :: b :: (K.1.map u8 ++ post)).take 2 ++ K'.1.map u8 ++ (a :: b :: (K.1.map u8 ++ post)).drop (2 + 32) = a :: b :: (K'.1.map u8 ++ post) := by
  have e1 : (K.1.map u8).length = 32 := by simp [K.2]
  rw [show 2 + 32 = 32 + 1 + 1 by rfl, List.drop_succ_cons, List.drop_succ_cons, List.drop_left' e1]
  simp
theorem Key32.ones (K : Key32) : ∀ v ∈ K.1.map u8, v.oneCell' = true := by
  intro v hv; obtain ⟨_, _, rfl⟩ := List.mem_map.1 hv; rfl
abbrev Bk.key (B : Bk) (K : Key32) : Bk := { B with outer := K }
def rotateM (B : Bk) (q : Rq) (r : Rp) : Bk × Bool :=
  if r.e = 50 then (B, !decide (q.key 0 = B.outer.1) && onlyM r [r.e]) else if r.e = 0 then (B.key (q.key32 32 (by decide)), onlyM r [0]) else (B, onlyM r [0])
theorem rotate_c (p : Nat) (B : Bk) (q : Rq) (d : Value) (r : Rp) (da : Option Addr) (dc : Nat) (Φ : Base) :
    Sl.Fn Try.prog Φ F.audit_Book_rotate [.pointer (some ⟨p, 0, none⟩), .agg (q.cells d).toArray, .agg (rcells r da dc).toArray] [book p B] (fun _ : Unit => True) (fun _ => .bool (rotateM B q r).2) (fun _ => [book p (rotateM B q r).1]) := by
  refine fn_of rfl rfl (fun F => ?_)
  dsimp only [argEnv, List.cons_append, List.nil_append, Nat.zero_add, Nat.reduceAdd]
  repeat refine s1 ?_
  refine r_box (cs := q.cells d) rfl rfl rfl rfl (fun pq => ?_)
  refine r_box (cs := rcells r da dc) rfl rfl rfl rfl (fun b3 => ?_)
  repeat refine s1 ?_
  refine r_icmp rfl rfl rfl rfl ?_
  repeat refine s1 ?_
  refine t_condS rfl (fun h50 => ?_) (fun h50 => ?_)
  · have hM : rotateM B q r = (B, !decide (q.key 0 = B.outer.1) && onlyM r [r.e]) := by rw [rotateM, if_pos h50]
    rw [hM]
    repeat refine s1 ?_
    refine t_draw [pt b3 (.cells (rcells r da dc).toArray T.reply_Reply (0, 0))] [8] mixed (by decide +kernel) ?_
    repeat refine s1 ?_
    refine r_loadA (vs := (q.key 0).map u8) rfl (by simp [q.key_len]) (q.key_at _ (by decide)) rfl rfl ?_
    repeat refine s1 ?_
    refine j_head (book p B) ?_
    refine j_book (fun n k s ta tc hs => ?_)
    refine r_loadA (vs := B.outer.1.map u8) rfl (by simp [B.outer.2]) b_outer rfl rfl ?_
    refine r_aneB (by kernel_rfl) rfl rfl (q.key_len (by decide)) B.outer.2 rfl ?_
    repeat refine s1 ?_
    refine j_shut (p := p) B (n := n) (k := k) (s := s) (ta := ta) (tc := tc) (hs := hs) ?_
    refine g_mark ?_
    refine gg_splitN rfl rfl (fun hk => ?_) (fun hk => ?_)
    · repeat refine s1 ?_
      refine r_build1s [.tmp 20] ([r.e].map (Value.int .i64)) rfl rfl (by simp [Value.oneCell']) (by simp) rfl rfl rfl (fun be => ?_); (repeat refine s1 ?_); refine j_freezeV (some ⟨be, 0, none⟩) 1 1 T.api_Errno 1 ([r.e].map (Value.int .i64)) ?_; refine r_call rfl (blt_any rfl) rfl (only_c r da dc (some ⟨be, 0, none⟩) 1 1 [r.e] rfl (by decide) Φ) ?_; intro _ _; dsimp only [bnd, List.cons_append, List.nil_append]; (repeat refine s2 ?_)
      refine j_fin rfl (.cons (rv_tmp rfl) .nil) () (by simp [pack, hk]) (by trivial)
    · repeat refine s1 ?_
      refine j_fin rfl (.cons (rv_tmp rfl) .nil) () (by simp [pack, hk]) (by trivial)
  · repeat refine s1 ?_
    refine r_icmp rfl rfl rfl rfl ?_
    repeat refine s1 ?_
    refine t_condS rfl (fun h0 => ?_) (fun h0 => ?_)
    · have hM : rotateM B q r = (B.key (q.key32 32 (by decide)), onlyM r [0]) := by rw [rotateM, if_neg h50, if_pos h0]
      rw [hM]
      repeat refine s1 ?_
      refine r_loadA (vs := (q.key 32).map u8) rfl (by simp [q.key_len]) (q.key_at _ (by decide)) rfl rfl ?_
      repeat refine s1 ?_
      refine j_head (book p B) ?_
      refine j_book (fun n k s ta tc hs => ?_)
      refine r_storeA rfl rfl (by simp [q.key_len]) (by simp [B.outer.2]) (Key32.ones (q.key32 32 (by decide))) (b_setouter (K' := q.key32 32 (by decide))) rfl ?_
      repeat refine s1 ?_
      refine j_shut (p := p) (B.key (q.key32 32 (by decide))) (n := n) (k := k) (s := s) (ta := ta) (tc := tc) (hs := hs) ?_
      refine r_build1s [.const (.int .i64 0)] ([0].map (Value.int .i64)) rfl rfl (by simp [Value.oneCell']) (by simp) rfl rfl rfl (fun be => ?_); (repeat refine s1 ?_); refine j_freezeV (some ⟨be, 0, none⟩) 1 1 T.api_Errno 1 ([0].map (Value.int .i64)) ?_; refine r_call rfl (blt_any rfl) rfl (only_c r da dc (some ⟨be, 0, none⟩) 1 1 [0] rfl (by decide) Φ) ?_; intro _ _; dsimp only [bnd, List.cons_append, List.nil_append]; (repeat refine s2 ?_)
      refine j_fin rfl (.cons (rv_tmp rfl) .nil) () (by rfl) (by trivial)
    · have hM : rotateM B q r = (B, onlyM r [0]) := by rw [rotateM, if_neg h50, if_neg h0]
      rw [hM]
      repeat refine s1 ?_
      refine r_build1s [.const (.int .i64 0)] ([0].map (Value.int .i64)) rfl rfl (by simp [Value.oneCell']) (by simp) rfl rfl rfl (fun be => ?_); (repeat refine s1 ?_); refine j_freezeV (some ⟨be, 0, none⟩) 1 1 T.api_Errno 1 ([0].map (Value.int .i64)) ?_; refine r_call rfl (blt_any rfl) rfl (only_c r da dc (some ⟨be, 0, none⟩) 1 1 [0] rfl (by decide) Φ) ?_; intro _ _; dsimp only [bnd, List.cons_append, List.nil_append]; (repeat refine s2 ?_)
      refine j_fin rfl (.cons (rv_tmp rfl) .nil) () (by rfl) (by trivial)
abbrev Bk.opened (B : Bk) (n : Int) : Bk := { B with last := max B.last n, ses := upd B.ses (max B.last n) (some B.lives) }
def openM (B : Bk) (q : Rq) (r : Rp) : Bk × Bool :=
  if B.inn = false then (B, onlyM r [51, 5]) else if r.e = 0 then (B.opened r.n, decide (B.last < r.n) && decide (r.d.length = 0))
  else if r.e = 50 ∧ q.key 0 = B.outer.1 then (B, false) else (B, onlyM r [5, 50, 40])
theorem open_c (p : Nat) (B : Bk) (q : Rq) (d : Value) (r : Rp) (da : Option Addr) (dc : Nat) (Φ : Base) :
    Sl.Fn Try.prog Φ F.audit_Book_open [.pointer (some ⟨p, 0, none⟩), .agg (q.cells d).toArray, .agg (rcells r da dc).toArray] [book p B] (fun _ : Unit => True) (fun _ => .bool (openM B q r).2) (fun _ => [book p (openM B q r).1]) := by
  refine fn_of rfl rfl (fun F => ?_)
  dsimp only [argEnv, List.cons_append, List.nil_append, Nat.zero_add, Nat.reduceAdd]
  repeat refine s1 ?_
  refine r_box (cs := q.cells d) rfl rfl rfl rfl (fun pq => ?_)
  refine r_box (cs := rcells r da dc) rfl rfl rfl rfl (fun b3 => ?_)
  repeat refine s1 ?_
  refine j_head (book p B) ?_
  refine j_book (fun n k s ta tc hs => ?_)
  repeat refine s1 ?_
  refine t_condSB rfl (fun hin => ?_) (fun hin => ?_)
  · have hin : B.inn = false := by simpa using hin
    have hM : openM B q r = (B, onlyM r [51, 5]) := by rw [openM, if_pos hin]
    rw [hM]
    refine j_shut (p := p) B (n := n) (k := k) (s := s) (ta := ta) (tc := tc) (hs := hs) ?_
    repeat refine s1 ?_
    refine r_build1s [.const (.int .i64 51), .const (.int .i64 5)] ([51, 5].map (Value.int .i64)) rfl rfl (by simp [Value.oneCell']) (by simp) rfl rfl rfl (fun be => ?_); (repeat refine s1 ?_); refine j_freezeV (some ⟨be, 0, none⟩) 2 2 T.api_Errno 1 ([51, 5].map (Value.int .i64)) ?_; refine r_call rfl (blt_any rfl) rfl (only_c r da dc (some ⟨be, 0, none⟩) 2 2 [51, 5] rfl (by decide) Φ) ?_; intro _ _; dsimp only [bnd, List.cons_append, List.nil_append]; (repeat refine s2 ?_)
    refine j_fin rfl (.cons (rv_tmp rfl) .nil) () (by rfl) (by trivial)
  · have hin : B.inn = true := by simpa using hin
    have hin' : ¬ B.inn = false := by rw [hin]; decide
    repeat refine s1 ?_
    refine r_icmp rfl rfl rfl rfl ?_
    repeat refine s1 ?_
    refine t_condS rfl (fun h0 => ?_) (fun h0 => ?_)
    · have hM : openM B q r = (B.opened r.n, decide (B.last < r.n) && decide (r.d.length = 0)) := by rw [openM, if_neg hin', if_pos h0]
      rw [hM]
      refine t_seq ?_
      refine t_meet (σ := Unit) (fun _ => [(7, .bool (decide (B.last < r.n) && decide (r.d.length = 0))), (0, .pointer (some ⟨p, 0, none⟩)), (5, .pointer (some ⟨b3, 0, none⟩))])
        (fun _ => pt p (.cells (bcells B n k s (.slice ta B.texts.length tc)).toArray T.audit_Book (0, 0)) :: side n B.now :: side k B.kept :: mapI s B.ses :: vec ta B.texts.length tc T.sl_uint8 1 hs :: rows hs B.texts :: pt b3 (.cells (rcells r da dc).toArray T.reply_Reply (0, 0)) :: F) (fun _ => True) ?_ (fun _ _ => ?_)
      · repeat' (first | refine r_nil ?_ | (refine k_move ?_; refine r_move rfl rfl ?_) | (refine k_assign ?_; refine r_assign rfl rfl ?_) | (refine k_nck ?_; first | refine r_nck rfl rfl ?_ | refine r_nckf rfl rfl ?_) | (refine k_fld ?_; first | refine r_fld0 rfl rfl ?_ | refine r_fld rfl rfl ?_) | (refine k_load ?_; first | refine r_load1L rfl rfl rfl ?_ | refine s_load1L rfl rfl rfl ?_ | refine r_load1 rfl rfl rfl rfl ?_ | refine r_loadW rfl rfl rfl rfl ?_ | refine s_loadW rfl rfl rfl rfl ?_) | (refine k_ext ?_; first | refine r_extL rfl rfl ?_ | refine r_ext rfl rfl rfl ?_) | (refine k_len ?_; refine r_lenS rfl rfl ?_) | (refine k_un ?_; first | refine r_notT rfl (by with_reducible rfl) rfl ?_ | refine r_notF rfl (by with_reducible rfl) rfl ?_ | refine r_not rfl rfl ?_) | (refine k_sl0 ?_; refine r_sliceA rfl (by decide) rfl ?_) | (refine k_conv ?_; refine r_conv rfl rfl ?_) | (refine k_pick ?_; first | refine r_pickT rfl (by with_reducible rfl) rfl rfl ?_ | refine r_pickF rfl (by with_reducible rfl) rfl rfl ?_) | (refine k_inc ?_; refine r_inc rfl (by omega) rfl ?_) | (refine k_bin ?_; first | refine r_icmpT rfl rfl rfl rfl ?_ | refine r_icmpF rfl rfl rfl rfl ?_ | refine r_icmp rfl rfl rfl rfl ?_) | (refine k_eql ?_; first | refine r_peqS rfl rfl rfl ?_ | refine r_peqN rfl rfl rfl ?_ | refine r_meqS rfl rfl rfl ?_ | refine r_meqN rfl rfl rfl ?_ | refine r_peq rfl rfl rfl ?_) | (refine k_neq ?_; first | refine r_pneS rfl rfl rfl ?_ | refine r_pneN rfl rfl rfl ?_ | refine r_mneS rfl rfl rfl ?_ | refine r_mneN rfl rfl rfl ?_ | refine r_pne rfl rfl rfl ?_) | (refine g_mark ?_; first | refine gg_pass rfl rfl (by with_reducible rfl) ?_ | refine gg_skipT rfl rfl (by with_reducible rfl) (blt_any rfl) ?_ | refine gg_skipF rfl rfl (by with_reducible rfl) (blt_any rfl) ?_ | refine gg_skipU rfl rfl (by with_reducible rfl) (blt_any rfl) ?_ | refine gg_splitD rfl rfl (fun _ => ?_) (fun _ => ?_) | refine gg_splitN rfl rfl (fun _ => ?_) (fun _ => ?_) | refine gg_split rfl rfl (fun _ => ?_) (fun _ => ?_)) | refine t_seq ?_ | refine t_perm rfl ?_ | refine t_permE ?_ | refine j_then ?_ | refine t_region ?_ | refine t_draw [] [] mixed (by decide +kernel) ?_ | (refine k_cond ?_; first | refine t_condT rfl (by with_reducible rfl) ?_ | refine t_condF rfl (by with_reducible rfl) ?_ | refine t_condS rfl (fun _ => ?_) (fun _ => ?_) | refine t_condSN rfl (fun _ => ?_) (fun _ => ?_) | refine t_condSB rfl (fun _ => ?_) (fun _ => ?_)) | refine t_block ?_ | refine j_in ?_ | refine t_skip ?_ | refine t_ret ?_ | refine j_then_ret ?_ | refine j_in_ret ?_ | refine t_exit ?_ | refine j_then_exit ?_ | refine j_in_exit ?_ | refine j_in_other rfl ?_ | refine t_scope ?_ | refine t_label ?_ | refine j_ng ?_ | refine j_ng_ret ?_ | refine j_ng_exit ?_)
        · refine j_meet () trivial ⟨?_, rfl, rfl, trivial⟩ Le.ent
          show some _ = some _
          simp [*]
        · refine j_meet () trivial ⟨?_, rfl, rfl, trivial⟩ Le.ent
          show some _ = some _
          simp [*]
      · repeat refine s1 ?_
        refine r_max rfl rfl rfl ?_
        repeat refine s1 ?_
        refine r_store1 rfl rfl (by simp [B.outer.2]) rfl rfl ?_
        repeat refine s1 ?_
        refine j_head (mapI s B.ses) ?_
        refine j_mapF (fun u hu => ?_)
        refine r_mapUpd rfl rfl rfl (isInt_mk _) rfl ?_
        rw [mset_em kv_inj]
        refine j_ent (Ent.mapF (κ := Value.int .i64) (ν := Value.int .i64) (hu.set (max B.last r.n) B.lives) _) ?_
        repeat refine s1 ?_
        refine j_shut (p := p) (B.opened r.n) (n := n) (k := k) (s := s) (ta := ta) (tc := tc) (hs := hs) ?_
        refine j_fin rfl (.cons (rv_tmp rfl) .nil) () (by rfl) (by trivial)
    · repeat' (first | refine r_nil ?_ | (refine k_move ?_; refine r_move rfl rfl ?_) | (refine k_assign ?_; refine r_assign rfl rfl ?_) | (refine k_nck ?_; first | refine r_nck rfl rfl ?_ | refine r_nckf rfl rfl ?_) | (refine k_fld ?_; first | refine r_fld0 rfl rfl ?_ | refine r_fld rfl rfl ?_) | (refine k_load ?_; first | refine r_load1L rfl rfl rfl ?_ | refine s_load1L rfl rfl rfl ?_ | refine r_load1 rfl rfl rfl rfl ?_ | refine r_loadW rfl rfl rfl rfl ?_ | refine s_loadW rfl rfl rfl rfl ?_) | (refine k_ext ?_; first | refine r_extL rfl rfl ?_ | refine r_ext rfl rfl rfl ?_) | (refine k_len ?_; refine r_lenS rfl rfl ?_) | (refine k_un ?_; first | refine r_notT rfl (by with_reducible rfl) rfl ?_ | refine r_notF rfl (by with_reducible rfl) rfl ?_ | refine r_not rfl rfl ?_) | (refine k_sl0 ?_; refine r_sliceA rfl (by decide) rfl ?_) | (refine k_conv ?_; refine r_conv rfl rfl ?_) | (refine k_pick ?_; first | refine r_pickT rfl (by with_reducible rfl) rfl rfl ?_ | refine r_pickF rfl (by with_reducible rfl) rfl rfl ?_) | (refine k_inc ?_; refine r_inc rfl (by omega) rfl ?_) | (refine k_bin ?_; first | refine r_icmpT rfl rfl rfl rfl ?_ | refine r_icmpF rfl rfl rfl rfl ?_ | refine r_icmp rfl rfl rfl rfl ?_) | (refine k_eql ?_; first | refine r_peqS rfl rfl rfl ?_ | refine r_peqN rfl rfl rfl ?_ | refine r_meqS rfl rfl rfl ?_ | refine r_meqN rfl rfl rfl ?_ | refine r_peq rfl rfl rfl ?_) | (refine k_neq ?_; first | refine r_pneS rfl rfl rfl ?_ | refine r_pneN rfl rfl rfl ?_ | refine r_mneS rfl rfl rfl ?_ | refine r_mneN rfl rfl rfl ?_ | refine r_pne rfl rfl rfl ?_) | (refine g_mark ?_; first | refine gg_pass rfl rfl (by with_reducible rfl) ?_ | refine gg_skipT rfl rfl (by with_reducible rfl) (blt_any rfl) ?_ | refine gg_skipF rfl rfl (by with_reducible rfl) (blt_any rfl) ?_ | refine gg_skipU rfl rfl (by with_reducible rfl) (blt_any rfl) ?_ | refine gg_splitD rfl rfl (fun _ => ?_) (fun _ => ?_) | refine gg_splitN rfl rfl (fun _ => ?_) (fun _ => ?_) | refine gg_split rfl rfl (fun _ => ?_) (fun _ => ?_)) | refine t_seq ?_ | refine t_perm rfl ?_ | refine t_permE ?_ | refine j_then ?_ | refine t_region ?_ | refine t_draw [] [] mixed (by decide +kernel) ?_ | (refine k_cond ?_; first | refine t_condT rfl (by with_reducible rfl) ?_ | refine t_condF rfl (by with_reducible rfl) ?_ | refine t_condS rfl (fun _ => ?_) (fun _ => ?_) | refine t_condSN rfl (fun _ => ?_) (fun _ => ?_) | refine t_condSB rfl (fun _ => ?_) (fun _ => ?_)) | refine t_block ?_ | refine j_in ?_ | refine t_skip ?_ | refine t_ret ?_ | refine j_then_ret ?_ | refine j_in_ret ?_ | refine t_exit ?_ | refine j_then_exit ?_ | refine j_in_exit ?_ | refine j_in_other rfl ?_ | refine t_scope ?_ | refine t_label ?_ | refine j_ng ?_ | refine j_ng_ret ?_ | refine j_ng_exit ?_)
      · refine r_loadA (vs := (q.key 0).map u8) rfl (by simp [q.key_len]) (q.key_at _ (by decide)) rfl rfl ?_
        repeat' (first | refine r_nil ?_ | (refine k_move ?_; refine r_move rfl rfl ?_) | (refine k_assign ?_; refine r_assign rfl rfl ?_) | (refine k_nck ?_; first | refine r_nck rfl rfl ?_ | refine r_nckf rfl rfl ?_) | (refine k_fld ?_; first | refine r_fld0 rfl rfl ?_ | refine r_fld rfl rfl ?_) | (refine k_load ?_; first | refine r_load1L rfl rfl rfl ?_ | refine s_load1L rfl rfl rfl ?_ | refine r_load1 rfl rfl rfl rfl ?_ | refine r_loadW rfl rfl rfl rfl ?_ | refine s_loadW rfl rfl rfl rfl ?_) | (refine k_ext ?_; first | refine r_extL rfl rfl ?_ | refine r_ext rfl rfl rfl ?_) | (refine k_len ?_; refine r_lenS rfl rfl ?_) | (refine k_un ?_; first | refine r_notT rfl (by with_reducible rfl) rfl ?_ | refine r_notF rfl (by with_reducible rfl) rfl ?_ | refine r_not rfl rfl ?_) | (refine k_sl0 ?_; refine r_sliceA rfl (by decide) rfl ?_) | (refine k_conv ?_; refine r_conv rfl rfl ?_) | (refine k_pick ?_; first | refine r_pickT rfl (by with_reducible rfl) rfl rfl ?_ | refine r_pickF rfl (by with_reducible rfl) rfl rfl ?_) | (refine k_inc ?_; refine r_inc rfl (by omega) rfl ?_) | (refine k_bin ?_; first | refine r_icmpT rfl rfl rfl rfl ?_ | refine r_icmpF rfl rfl rfl rfl ?_ | refine r_icmp rfl rfl rfl rfl ?_) | (refine k_eql ?_; first | refine r_peqS rfl rfl rfl ?_ | refine r_peqN rfl rfl rfl ?_ | refine r_meqS rfl rfl rfl ?_ | refine r_meqN rfl rfl rfl ?_ | refine r_peq rfl rfl rfl ?_) | (refine k_neq ?_; first | refine r_pneS rfl rfl rfl ?_ | refine r_pneN rfl rfl rfl ?_ | refine r_mneS rfl rfl rfl ?_ | refine r_mneN rfl rfl rfl ?_ | refine r_pne rfl rfl rfl ?_) | (refine g_mark ?_; first | refine gg_pass rfl rfl (by with_reducible rfl) ?_ | refine gg_skipT rfl rfl (by with_reducible rfl) (blt_any rfl) ?_ | refine gg_skipF rfl rfl (by with_reducible rfl) (blt_any rfl) ?_ | refine gg_skipU rfl rfl (by with_reducible rfl) (blt_any rfl) ?_ | refine gg_splitD rfl rfl (fun _ => ?_) (fun _ => ?_) | refine gg_splitN rfl rfl (fun _ => ?_) (fun _ => ?_) | refine gg_split rfl rfl (fun _ => ?_) (fun _ => ?_)) | refine t_seq ?_ | refine t_perm rfl ?_ | refine t_permE ?_ | refine j_then ?_ | refine t_region ?_ | refine t_draw [] [] mixed (by decide +kernel) ?_ | (refine k_cond ?_; first | refine t_condT rfl (by with_reducible rfl) ?_ | refine t_condF rfl (by with_reducible rfl) ?_ | refine t_condS rfl (fun _ => ?_) (fun _ => ?_) | refine t_condSN rfl (fun _ => ?_) (fun _ => ?_) | refine t_condSB rfl (fun _ => ?_) (fun _ => ?_)) | refine t_block ?_ | refine j_in ?_ | refine t_skip ?_ | refine t_ret ?_ | refine j_then_ret ?_ | refine j_in_ret ?_ | refine t_exit ?_ | refine j_then_exit ?_ | refine j_in_exit ?_ | refine j_in_other rfl ?_ | refine t_scope ?_ | refine t_label ?_ | refine j_ng ?_ | refine j_ng_ret ?_ | refine j_ng_exit ?_)
        refine r_loadA (vs := B.outer.1.map u8) rfl (by simp [B.outer.2]) b_outer rfl rfl ?_
        repeat' (first | refine r_nil ?_ | (refine k_move ?_; refine r_move rfl rfl ?_) | (refine k_assign ?_; refine r_assign rfl rfl ?_) | (refine k_nck ?_; first | refine r_nck rfl rfl ?_ | refine r_nckf rfl rfl ?_) | (refine k_fld ?_; first | refine r_fld0 rfl rfl ?_ | refine r_fld rfl rfl ?_) | (refine k_load ?_; first | refine r_load1L rfl rfl rfl ?_ | refine s_load1L rfl rfl rfl ?_ | refine r_load1 rfl rfl rfl rfl ?_ | refine r_loadW rfl rfl rfl rfl ?_ | refine s_loadW rfl rfl rfl rfl ?_) | (refine k_ext ?_; first | refine r_extL rfl rfl ?_ | refine r_ext rfl rfl rfl ?_) | (refine k_len ?_; refine r_lenS rfl rfl ?_) | (refine k_un ?_; first | refine r_notT rfl (by with_reducible rfl) rfl ?_ | refine r_notF rfl (by with_reducible rfl) rfl ?_ | refine r_not rfl rfl ?_) | (refine k_sl0 ?_; refine r_sliceA rfl (by decide) rfl ?_) | (refine k_conv ?_; refine r_conv rfl rfl ?_) | (refine k_pick ?_; first | refine r_pickT rfl (by with_reducible rfl) rfl rfl ?_ | refine r_pickF rfl (by with_reducible rfl) rfl rfl ?_) | (refine k_inc ?_; refine r_inc rfl (by omega) rfl ?_) | (refine k_bin ?_; first | refine r_icmpT rfl rfl rfl rfl ?_ | refine r_icmpF rfl rfl rfl rfl ?_ | refine r_icmp rfl rfl rfl rfl ?_) | (refine k_eql ?_; first | refine r_peqS rfl rfl rfl ?_ | refine r_peqN rfl rfl rfl ?_ | refine r_meqS rfl rfl rfl ?_ | refine r_meqN rfl rfl rfl ?_ | refine r_peq rfl rfl rfl ?_) | (refine k_neq ?_; first | refine r_pneS rfl rfl rfl ?_ | refine r_pneN rfl rfl rfl ?_ | refine r_mneS rfl rfl rfl ?_ | refine r_mneN rfl rfl rfl ?_ | refine r_pne rfl rfl rfl ?_) | (refine g_mark ?_; first | refine gg_pass rfl rfl (by with_reducible rfl) ?_ | refine gg_skipT rfl rfl (by with_reducible rfl) (blt_any rfl) ?_ | refine gg_skipF rfl rfl (by with_reducible rfl) (blt_any rfl) ?_ | refine gg_skipU rfl rfl (by with_reducible rfl) (blt_any rfl) ?_ | refine gg_splitD rfl rfl (fun _ => ?_) (fun _ => ?_) | refine gg_splitN rfl rfl (fun _ => ?_) (fun _ => ?_) | refine gg_split rfl rfl (fun _ => ?_) (fun _ => ?_)) | refine t_seq ?_ | refine t_perm rfl ?_ | refine t_permE ?_ | refine j_then ?_ | refine t_region ?_ | refine t_draw [] [] mixed (by decide +kernel) ?_ | (refine k_cond ?_; first | refine t_condT rfl (by with_reducible rfl) ?_ | refine t_condF rfl (by with_reducible rfl) ?_ | refine t_condS rfl (fun _ => ?_) (fun _ => ?_) | refine t_condSN rfl (fun _ => ?_) (fun _ => ?_) | refine t_condSB rfl (fun _ => ?_) (fun _ => ?_)) | refine t_block ?_ | refine j_in ?_ | refine t_skip ?_ | refine t_ret ?_ | refine j_then_ret ?_ | refine j_in_ret ?_ | refine t_exit ?_ | refine j_then_exit ?_ | refine j_in_exit ?_ | refine j_in_other rfl ?_ | refine t_scope ?_ | refine t_label ?_ | refine j_ng ?_ | refine j_ng_ret ?_ | refine j_ng_exit ?_)
        refine r_aeqB (by kernel_rfl) rfl rfl (q.key_len (by decide)) B.outer.2 rfl ?_
        repeat' (first | refine r_nil ?_ | (refine k_move ?_; refine r_move rfl rfl ?_) | (refine k_assign ?_; refine r_assign rfl rfl ?_) | (refine k_nck ?_; first | refine r_nck rfl rfl ?_ | refine r_nckf rfl rfl ?_) | (refine k_fld ?_; first | refine r_fld0 rfl rfl ?_ | refine r_fld rfl rfl ?_) | (refine k_load ?_; first | refine r_load1L rfl rfl rfl ?_ | refine s_load1L rfl rfl rfl ?_ | refine r_load1 rfl rfl rfl rfl ?_ | refine r_loadW rfl rfl rfl rfl ?_ | refine s_loadW rfl rfl rfl rfl ?_) | (refine k_ext ?_; first | refine r_extL rfl rfl ?_ | refine r_ext rfl rfl rfl ?_) | (refine k_len ?_; refine r_lenS rfl rfl ?_) | (refine k_un ?_; first | refine r_notT rfl (by with_reducible rfl) rfl ?_ | refine r_notF rfl (by with_reducible rfl) rfl ?_ | refine r_not rfl rfl ?_) | (refine k_sl0 ?_; refine r_sliceA rfl (by decide) rfl ?_) | (refine k_conv ?_; refine r_conv rfl rfl ?_) | (refine k_pick ?_; first | refine r_pickT rfl (by with_reducible rfl) rfl rfl ?_ | refine r_pickF rfl (by with_reducible rfl) rfl rfl ?_) | (refine k_inc ?_; refine r_inc rfl (by omega) rfl ?_) | (refine k_bin ?_; first | refine r_icmpT rfl rfl rfl rfl ?_ | refine r_icmpF rfl rfl rfl rfl ?_ | refine r_icmp rfl rfl rfl rfl ?_) | (refine k_eql ?_; first | refine r_peqS rfl rfl rfl ?_ | refine r_peqN rfl rfl rfl ?_ | refine r_meqS rfl rfl rfl ?_ | refine r_meqN rfl rfl rfl ?_ | refine r_peq rfl rfl rfl ?_) | (refine k_neq ?_; first | refine r_pneS rfl rfl rfl ?_ | refine r_pneN rfl rfl rfl ?_ | refine r_mneS rfl rfl rfl ?_ | refine r_mneN rfl rfl rfl ?_ | refine r_pne rfl rfl rfl ?_) | (refine g_mark ?_; first | refine gg_pass rfl rfl (by with_reducible rfl) ?_ | refine gg_skipT rfl rfl (by with_reducible rfl) (blt_any rfl) ?_ | refine gg_skipF rfl rfl (by with_reducible rfl) (blt_any rfl) ?_ | refine gg_skipU rfl rfl (by with_reducible rfl) (blt_any rfl) ?_ | refine gg_splitD rfl rfl (fun _ => ?_) (fun _ => ?_) | refine gg_splitN rfl rfl (fun _ => ?_) (fun _ => ?_) | refine gg_split rfl rfl (fun _ => ?_) (fun _ => ?_)) | refine t_seq ?_ | refine t_perm rfl ?_ | refine t_permE ?_ | refine j_then ?_ | refine t_region ?_ | refine t_draw [] [] mixed (by decide +kernel) ?_ | (refine k_cond ?_; first | refine t_condT rfl (by with_reducible rfl) ?_ | refine t_condF rfl (by with_reducible rfl) ?_ | refine t_condS rfl (fun _ => ?_) (fun _ => ?_) | refine t_condSN rfl (fun _ => ?_) (fun _ => ?_) | refine t_condSB rfl (fun _ => ?_) (fun _ => ?_)) | refine t_block ?_ | refine j_in ?_ | refine t_skip ?_ | refine t_ret ?_ | refine j_then_ret ?_ | refine j_in_ret ?_ | refine t_exit ?_ | refine j_then_exit ?_ | refine j_in_exit ?_ | refine j_in_other rfl ?_ | refine t_scope ?_ | refine t_label ?_ | refine j_ng ?_ | refine j_ng_ret ?_ | refine j_ng_exit ?_)
        · have hM : openM B q r = (B, false) := by rw [openM, if_neg hin', if_neg h0, if_pos ⟨‹_›, ‹_›⟩]
          rw [hM]
          refine j_shut (p := p) B (n := n) (k := k) (s := s) (ta := ta) (tc := tc) (hs := hs) ?_
          refine j_fin rfl (.cons (rv_tmp rfl) .nil) () (by rfl) (by trivial)
        · have hM : openM B q r = (B, onlyM r [5, 50, 40]) := by rw [openM, if_neg hin', if_neg h0, if_neg (fun h => absurd h.2 ‹_›)]
          rw [hM]
          refine j_shut (p := p) B (n := n) (k := k) (s := s) (ta := ta) (tc := tc) (hs := hs) ?_
          refine r_build1s [.const (.int .i64 5), .const (.int .i64 50), .const (.int .i64 40)] ([5, 50, 40].map (Value.int .i64)) rfl rfl (by simp [Value.oneCell']) (by simp) rfl rfl rfl (fun be => ?_); (repeat refine s1 ?_); refine j_freezeV (some ⟨be, 0, none⟩) 3 3 T.api_Errno 1 ([5, 50, 40].map (Value.int .i64)) ?_; refine r_call rfl (blt_any rfl) rfl (only_c r da dc (some ⟨be, 0, none⟩) 3 3 [5, 50, 40] rfl (by decide) Φ) ?_; intro _ _; dsimp only [bnd, List.cons_append, List.nil_append]; (repeat refine s2 ?_)
          refine j_fin rfl (.cons (rv_tmp rfl) .nil) () (by rfl) (by trivial)
      · have hM : openM B q r = (B, onlyM r [5, 50, 40]) := by rw [openM, if_neg hin', if_neg h0, if_neg (fun h => absurd h.1 ‹_›)]
        rw [hM]
        refine j_shut (p := p) B (n := n) (k := k) (s := s) (ta := ta) (tc := tc) (hs := hs) ?_
        refine r_build1s [.const (.int .i64 5), .const (.int .i64 50), .const (.int .i64 40)] ([5, 50, 40].map (Value.int .i64)) rfl rfl (by simp [Value.oneCell']) (by simp) rfl rfl rfl (fun be => ?_); (repeat refine s1 ?_); refine j_freezeV (some ⟨be, 0, none⟩) 3 3 T.api_Errno 1 ([5, 50, 40].map (Value.int .i64)) ?_; refine r_call rfl (blt_any rfl) rfl (only_c r da dc (some ⟨be, 0, none⟩) 3 3 [5, 50, 40] rfl (by decide) Φ) ?_; intro _ _; dsimp only [bnd, List.cons_append, List.nil_append]; (repeat refine s2 ?_)
        refine j_fin rfl (.cons (rv_tmp rfl) .nil) () (by rfl) (by trivial)
end Go.Proofs.Ytbecjgikhfplmaa
