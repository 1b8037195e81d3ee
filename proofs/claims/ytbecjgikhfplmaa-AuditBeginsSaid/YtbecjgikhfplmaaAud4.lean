/-
  The contracts of what turns a book's volumes. For each input.
-/
import Derived.Test.YtbecjgikhfplmaaAud3
namespace Go.Proofs.Ytbecjgikhfplmaa
open Go Sl
attribute [local irreducible] cw sw J Exit.then Exit.inBlock Exit.noGoto bodyPost swG swL permL
theorem look_side {l : List (Int × Vl)} {s : Side} (h : Rep (vols l) s) (k : Int) : s k = (alook l k).map volOf := by rw [← h.eq, vols, alook_map]
theorem nd_side {l : List (Int × Vl)} {s : Side} (h : Rep (vols l) s) : (l.map Prod.fst).Nodup := by
  have := h.nd
  rw [vols, List.map_map] at this
  exact this
def blockM (B : Bk) (v a : Int) : Int := match B.now v with
  | none => 52
  | some x => if x.1 ≤ a then 62 else 0
theorem block_c (p : Nat) (B : Bk) (v a : Int) (Φ : Base) : Sl.Fn Try.prog Φ F.audit_Book_block [.pointer (some ⟨p, 0, none⟩), .int .i64 v, .int .i64 a] [book p B] (fun _ : Unit => True) (fun _ => .int .i64 (blockM B v a)) (fun _ => [book p B]) := by
  refine fn_of rfl rfl (fun F => ?_)
  dsimp only [argEnv, List.cons_append, List.nil_append, Nat.zero_add, Nat.reduceAdd]
  refine j_book (fun n k s ta tc hs => ?_)
  refine j_head (side n B.now) ?_
  refine j_side (fun l hl => ?_)
  repeat refine s1 ?_
  refine r_lookup2 rfl rfl (isInt_mk _) rfl rfl ?_
  rw [mget_em kv_inj]
  have hlk := look_side hl v
  rcases hk : alook l v with _ | x
  · rw [hk] at hlk
    simp only [Option.map_none, Option.getD_none, Option.isSome_none]
    repeat refine s1 ?_
    refine r_alloc (cs := [i64 0, .map none]) rfl rfl rfl (fun b7 => ?_)
    refine r_storeW (vs := [i64 0, .map none]) rfl rfl (by rfl) (by rfl) (by simp [Value.oneCell']) rfl ?_
    repeat' (first | refine r_nil ?_ | (refine k_move ?_; refine r_move rfl rfl ?_) | (refine k_assign ?_; refine r_assign rfl rfl ?_) | (refine k_nck ?_; first | refine r_nck rfl rfl ?_ | refine r_nckf rfl rfl ?_) | (refine k_fld ?_; first | refine r_fld0 rfl rfl ?_ | refine r_fld rfl rfl ?_) | (refine k_load ?_; first | refine r_load1L rfl rfl rfl ?_ | refine s_load1L rfl rfl rfl ?_ | refine r_load1 rfl rfl rfl rfl ?_ | refine r_loadW rfl rfl rfl rfl ?_ | refine s_loadW rfl rfl rfl rfl ?_) | (refine k_ext ?_; first | refine r_extL rfl rfl ?_ | refine r_ext rfl rfl rfl ?_) | (refine k_len ?_; refine r_lenS rfl rfl ?_) | (refine k_un ?_; first | refine r_notT rfl (by with_reducible rfl) rfl ?_ | refine r_notF rfl (by with_reducible rfl) rfl ?_ | refine r_not rfl rfl ?_) | (refine k_sl0 ?_; refine r_sliceA rfl (by decide) rfl ?_) | (refine k_conv ?_; refine r_conv rfl rfl ?_) | (refine k_pick ?_; first | refine r_pickT rfl (by with_reducible rfl) rfl rfl ?_ | refine r_pickF rfl (by with_reducible rfl) rfl rfl ?_) | (refine k_inc ?_; refine r_inc rfl (by omega) rfl ?_) | (refine k_bin ?_; first | refine r_icmpT rfl rfl rfl rfl ?_ | refine r_icmpF rfl rfl rfl rfl ?_ | refine r_icmp rfl rfl rfl rfl ?_) | (refine k_eql ?_; first | refine r_peqS rfl rfl rfl ?_ | refine r_peqN rfl rfl rfl ?_ | refine r_meqS rfl rfl rfl ?_ | refine r_meqN rfl rfl rfl ?_ | refine r_peq rfl rfl rfl ?_) | (refine k_neq ?_; first | refine r_pneS rfl rfl rfl ?_ | refine r_pneN rfl rfl rfl ?_ | refine r_mneS rfl rfl rfl ?_ | refine r_mneN rfl rfl rfl ?_ | refine r_pne rfl rfl rfl ?_) | (refine g_mark ?_; first | refine gg_pass rfl rfl (by with_reducible rfl) ?_ | refine gg_skipT rfl rfl (by with_reducible rfl) (blt_any rfl) ?_ | refine gg_skipF rfl rfl (by with_reducible rfl) (blt_any rfl) ?_ | refine gg_skipU rfl rfl (by with_reducible rfl) (blt_any rfl) ?_ | refine gg_splitD rfl rfl (fun _ => ?_) (fun _ => ?_) | refine gg_splitN rfl rfl (fun _ => ?_) (fun _ => ?_) | refine gg_split rfl rfl (fun _ => ?_) (fun _ => ?_)) | refine t_seq ?_ | refine t_perm rfl ?_ | refine t_permE ?_ | refine j_then ?_ | refine t_region ?_ | refine t_draw [] [] mixed (by decide +kernel) ?_ | (refine k_cond ?_; first | refine t_condT rfl (by with_reducible rfl) ?_ | refine t_condF rfl (by with_reducible rfl) ?_ | refine t_condS rfl (fun _ => ?_) (fun _ => ?_) | refine t_condSN rfl (fun _ => ?_) (fun _ => ?_) | refine t_condSB rfl (fun _ => ?_) (fun _ => ?_)) | refine t_block ?_ | refine j_in ?_ | refine t_skip ?_ | refine t_ret ?_ | refine j_then_ret ?_ | refine j_in_ret ?_ | refine t_exit ?_ | refine j_then_exit ?_ | refine j_in_exit ?_ | refine j_in_other rfl ?_ | refine t_scope ?_ | refine t_label ?_ | refine j_ng ?_ | refine j_ng_ret ?_ | refine j_ng_exit ?_)
    refine j_heads [mp (isInt .i64) n (emV l), each l innr] ?_
    dsimp only [List.cons_append, List.nil_append]
    refine j_ent (Ent.side hl _) ?_
    refine j_shut (p := p) B (n := n) (k := k) (s := s) (ta := ta) (tc := tc) (hs := hs) ?_
    refine j_fin rfl (.cons (rv_tmp rfl) .nil) () (by simp [pack, blockM, hlk]) (by trivial)
  · rw [hk] at hlk
    simp only [Option.map_some, Option.getD_some, Option.isSome_some]
    repeat refine s1 ?_
    refine r_alloc (cs := [i64 0, .map none]) rfl rfl rfl (fun b7 => ?_)
    refine r_storeW (vs := [.int .i64 x.1, .map (some x.2.1)]) rfl rfl (by rfl) (by rfl) (by simp [Value.oneCell']) rfl ?_
    repeat' (first | refine r_nil ?_ | (refine k_move ?_; refine r_move rfl rfl ?_) | (refine k_assign ?_; refine r_assign rfl rfl ?_) | (refine k_nck ?_; first | refine r_nck rfl rfl ?_ | refine r_nckf rfl rfl ?_) | (refine k_fld ?_; first | refine r_fld0 rfl rfl ?_ | refine r_fld rfl rfl ?_) | (refine k_load ?_; first | refine r_load1L rfl rfl rfl ?_ | refine s_load1L rfl rfl rfl ?_ | refine r_load1 rfl rfl rfl rfl ?_ | refine r_loadW rfl rfl rfl rfl ?_ | refine s_loadW rfl rfl rfl rfl ?_) | (refine k_ext ?_; first | refine r_extL rfl rfl ?_ | refine r_ext rfl rfl rfl ?_) | (refine k_len ?_; refine r_lenS rfl rfl ?_) | (refine k_un ?_; first | refine r_notT rfl (by with_reducible rfl) rfl ?_ | refine r_notF rfl (by with_reducible rfl) rfl ?_ | refine r_not rfl rfl ?_) | (refine k_sl0 ?_; refine r_sliceA rfl (by decide) rfl ?_) | (refine k_conv ?_; refine r_conv rfl rfl ?_) | (refine k_pick ?_; first | refine r_pickT rfl (by with_reducible rfl) rfl rfl ?_ | refine r_pickF rfl (by with_reducible rfl) rfl rfl ?_) | (refine k_inc ?_; refine r_inc rfl (by omega) rfl ?_) | (refine k_bin ?_; first | refine r_icmpT rfl rfl rfl rfl ?_ | refine r_icmpF rfl rfl rfl rfl ?_ | refine r_icmp rfl rfl rfl rfl ?_) | (refine k_eql ?_; first | refine r_peqS rfl rfl rfl ?_ | refine r_peqN rfl rfl rfl ?_ | refine r_meqS rfl rfl rfl ?_ | refine r_meqN rfl rfl rfl ?_ | refine r_peq rfl rfl rfl ?_) | (refine k_neq ?_; first | refine r_pneS rfl rfl rfl ?_ | refine r_pneN rfl rfl rfl ?_ | refine r_mneS rfl rfl rfl ?_ | refine r_mneN rfl rfl rfl ?_ | refine r_pne rfl rfl rfl ?_) | (refine g_mark ?_; first | refine gg_pass rfl rfl (by with_reducible rfl) ?_ | refine gg_skipT rfl rfl (by with_reducible rfl) (blt_any rfl) ?_ | refine gg_skipF rfl rfl (by with_reducible rfl) (blt_any rfl) ?_ | refine gg_skipU rfl rfl (by with_reducible rfl) (blt_any rfl) ?_ | refine gg_splitD rfl rfl (fun _ => ?_) (fun _ => ?_) | refine gg_splitN rfl rfl (fun _ => ?_) (fun _ => ?_) | refine gg_split rfl rfl (fun _ => ?_) (fun _ => ?_)) | refine t_seq ?_ | refine t_perm rfl ?_ | refine t_permE ?_ | refine j_then ?_ | refine t_region ?_ | refine t_draw [] [] mixed (by decide +kernel) ?_ | (refine k_cond ?_; first | refine t_condT rfl (by with_reducible rfl) ?_ | refine t_condF rfl (by with_reducible rfl) ?_ | refine t_condS rfl (fun _ => ?_) (fun _ => ?_) | refine t_condSN rfl (fun _ => ?_) (fun _ => ?_) | refine t_condSB rfl (fun _ => ?_) (fun _ => ?_)) | refine t_block ?_ | refine j_in ?_ | refine t_skip ?_ | refine t_ret ?_ | refine j_then_ret ?_ | refine j_in_ret ?_ | refine t_exit ?_ | refine j_then_exit ?_ | refine j_in_exit ?_ | refine j_in_other rfl ?_ | refine t_scope ?_ | refine t_label ?_ | refine j_ng ?_ | refine j_ng_ret ?_ | refine j_ng_exit ?_)
    all_goals
      refine j_heads [mp (isInt .i64) n (emV l), each l innr] ?_
      dsimp only [List.cons_append, List.nil_append]
      refine j_ent (Ent.side hl _) ?_
      refine j_shut (p := p) B (n := n) (k := k) (s := s) (ta := ta) (tc := tc) (hs := hs) ?_
      refine j_fin rfl (.cons (rv_tmp rfl) .nil) () (by simp [pack, blockM, hlk, volOf, *]) (by trivial)
theorem Ent.sidePut {n rn : Nat} {s : Side} {l : List (Int × Vl)} (hl : Rep (vols l) s) {k c : Int} {f : Int → Option Int} (hk : alook l k = none) (L : List Assn) :
    Ent (mp (isInt .i64) n (mset (emV l) (.int .i64 k) (encV (c, rn, f))) :: mapI rn f :: each l innr :: L) (Go.Proofs.Ytbecjgikhfplmaa.side n (upd s k (some (c, f))) :: L) := by
  have h6 := Rep.set hl k (volOf (c, rn, f))
  rw [vols, ← aset_map volOf, aset_new hk] at h6
  rw [mset_em (ν := encV) kv_inj, aset_new hk]
  have hun := Ent.eachUnmid l (k, c, rn, f) [] innr L
  simp only [List.append_nil] at hun
  exact (Ent.cons _ hun).trans (Ent.side h6 L)
theorem Ent.sideSet {n : Nat} {s : Side} {l1 l2 : List (Int × Vl)} {k : Int} {x : Vl} (hl : Rep (vols (l1 ++ (k, x) :: l2)) s) (hk : k ∉ l1.map Prod.fst) {c : Int} {f : Int → Option Int} (L : List Assn) :
    Ent (mp (isInt .i64) n (mset (emV (l1 ++ (k, x) :: l2)) (.int .i64 k) (encV (c, x.2.1, f))) :: mapI x.2.1 f :: each (l1 ++ l2) innr :: L) (Go.Proofs.Ytbecjgikhfplmaa.side n (upd s k (some (c, f))) :: L) := by
  have h6 := Rep.set hl k (volOf (c, x.2.1, f))
  rw [vols, ← aset_map volOf, aset_old hk] at h6
  rw [mset_em (ν := encV) kv_inj, aset_old hk]
  exact (Ent.cons _ (Ent.eachUnmid l1 (k, c, x.2.1, f) l2 innr L)).trans (Ent.side h6 L)
theorem Ent.sideDel {n : Nat} {s : Side} {l1 l2 : List (Int × Vl)} {k : Int} {x : Vl} (hl : Rep (vols (l1 ++ (k, x) :: l2)) s) (hk : k ∉ l1.map Prod.fst) (L : List Assn) :
    Ent (mp (isInt .i64) n (mdel (emV (l1 ++ (k, x) :: l2)) (.int .i64 k)) :: each (l1 ++ (k, x) :: l2) innr :: L) (Go.Proofs.Ytbecjgikhfplmaa.side n (upd s k none) :: L) := by
  have h6 := Rep.del hl k
  rw [vols, ← adel_map volOf, adel_old hk] at h6
  rw [mdel_em (ν := encV) kv_inj, adel_old hk]
  exact (Ent.cons _ (Ent.eachDrop l1 (k, x) l2 innr L)).trans (Ent.side h6 L)
abbrev Bk.create (B : Bk) (v c : Int) : Bk := { B with now := upd B.now v (some (c, fun _ => none)) }
def createM (B : Bk) (q : Rq) : Bk × Int :=
  if q.num 3 < 1 then (B, 52) else if 8 < q.num 3 then (B, 52) else if q.num 5 < 1 then (B, 1) else if 256 < q.num 5 then (B, 1) else match B.now (q.num 3) with
    | some _ => (B, 53)
    | none => (B.create (q.num 3) (q.num 5), 0)
theorem create_c (p : Nat) (B : Bk) (q : Rq) (d : Value) (Φ : Base) : Sl.Fn Try.prog Φ F.audit_Book_create [.pointer (some ⟨p, 0, none⟩), .agg (q.cells d).toArray] [book p B] (fun _ : Unit => True) (fun _ => .int .i64 (createM B q).2) (fun _ => [book p (createM B q).1]) := by
  refine fn_of rfl rfl (fun F => ?_)
  dsimp only [argEnv, List.cons_append, List.nil_append, Nat.zero_add, Nat.reduceAdd]
  repeat refine s1 ?_
  refine r_box (cs := q.cells d) rfl rfl rfl rfl (fun pq => ?_)
  repeat refine s1 ?_
  refine j_head (book p B) ?_
  refine j_book (fun n k s ta tc hs => ?_)
  refine j_head (side n B.now) ?_
  refine j_side (fun l hl => ?_)
  refine t_draw [pt p (.cells (bcells B n k s (.slice ta B.texts.length tc)).toArray T.audit_Book (0, 0)), pt pq (.cells (q.cells d).toArray T.req_Request (0, 0)), mp (isInt .i64) n (emV l)] [3, 5, 6] mixed (by kernel_rfl) ?_
  repeat refine s1 ?_
  refine s_lookup2 rfl rfl (isInt_mk _) rfl rfl ?_
  rw [mget_em kv_inj]
  have hlk := look_side hl (q.num 3)
  rcases hk : alook l (q.num 3) with _ | x
  · rw [hk] at hlk
    simp only [Option.map_none, Option.getD_none, Option.isSome_none]
    repeat refine s1 ?_
    refine r_alloc (cs := [i64 0, .map none]) rfl rfl rfl (fun b7 => ?_)
    refine r_storeW (vs := [i64 0, .map none]) rfl rfl (by rfl) (by rfl) (by simp [Value.oneCell']) rfl ?_
    repeat' (first | refine r_nil ?_ | (refine k_move ?_; refine r_move rfl rfl ?_) | (refine k_assign ?_; refine r_assign rfl rfl ?_) | (refine k_nck ?_; first | refine r_nck rfl rfl ?_ | refine r_nckf rfl rfl ?_) | (refine k_fld ?_; first | refine r_fld0 rfl rfl ?_ | refine r_fld rfl rfl ?_) | (refine k_load ?_; first | refine r_load1L rfl rfl rfl ?_ | refine s_load1L rfl rfl rfl ?_ | refine r_load1 rfl rfl rfl rfl ?_ | refine r_loadW rfl rfl rfl rfl ?_ | refine s_loadW rfl rfl rfl rfl ?_) | (refine k_ext ?_; first | refine r_extL rfl rfl ?_ | refine r_ext rfl rfl rfl ?_) | (refine k_len ?_; refine r_lenS rfl rfl ?_) | (refine k_un ?_; first | refine r_notT rfl (by with_reducible rfl) rfl ?_ | refine r_notF rfl (by with_reducible rfl) rfl ?_ | refine r_not rfl rfl ?_) | (refine k_sl0 ?_; refine r_sliceA rfl (by decide) rfl ?_) | (refine k_conv ?_; refine r_conv rfl rfl ?_) | (refine k_pick ?_; first | refine r_pickT rfl (by with_reducible rfl) rfl rfl ?_ | refine r_pickF rfl (by with_reducible rfl) rfl rfl ?_) | (refine k_inc ?_; refine r_inc rfl (by omega) rfl ?_) | (refine k_bin ?_; first | refine r_icmpT rfl rfl rfl rfl ?_ | refine r_icmpF rfl rfl rfl rfl ?_ | refine r_icmp rfl rfl rfl rfl ?_) | (refine k_eql ?_; first | refine r_peqS rfl rfl rfl ?_ | refine r_peqN rfl rfl rfl ?_ | refine r_meqS rfl rfl rfl ?_ | refine r_meqN rfl rfl rfl ?_ | refine r_peq rfl rfl rfl ?_) | (refine k_neq ?_; first | refine r_pneS rfl rfl rfl ?_ | refine r_pneN rfl rfl rfl ?_ | refine r_mneS rfl rfl rfl ?_ | refine r_mneN rfl rfl rfl ?_ | refine r_pne rfl rfl rfl ?_) | (refine g_mark ?_; first | refine gg_pass rfl rfl (by with_reducible rfl) ?_ | refine gg_skipT rfl rfl (by with_reducible rfl) (blt_any rfl) ?_ | refine gg_skipF rfl rfl (by with_reducible rfl) (blt_any rfl) ?_ | refine gg_skipU rfl rfl (by with_reducible rfl) (blt_any rfl) ?_ | refine gg_splitD rfl rfl (fun _ => ?_) (fun _ => ?_) | refine gg_splitN rfl rfl (fun _ => ?_) (fun _ => ?_) | refine gg_split rfl rfl (fun _ => ?_) (fun _ => ?_)) | refine t_seq ?_ | refine t_perm rfl ?_ | refine t_permE ?_ | refine j_then ?_ | refine t_region ?_ | refine t_draw [] [] mixed (by decide +kernel) ?_ | (refine k_cond ?_; first | refine t_condT rfl (by with_reducible rfl) ?_ | refine t_condF rfl (by with_reducible rfl) ?_ | refine t_condS rfl (fun _ => ?_) (fun _ => ?_) | refine t_condSN rfl (fun _ => ?_) (fun _ => ?_) | refine t_condSB rfl (fun _ => ?_) (fun _ => ?_)) | refine t_block ?_ | refine j_in ?_ | refine t_skip ?_ | refine t_ret ?_ | refine j_then_ret ?_ | refine j_in_ret ?_ | refine t_exit ?_ | refine j_then_exit ?_ | refine j_in_exit ?_ | refine j_in_other rfl ?_ | refine t_scope ?_ | refine t_label ?_ | refine j_ng ?_ | refine j_ng_ret ?_ | refine j_ng_exit ?_)
    rotate_left 4
    · refine t_draw [pt p (.cells (bcells B n k s (.slice ta B.texts.length tc)).toArray T.audit_Book (0, 0)), pt pq (.cells (q.cells d).toArray T.req_Request (0, 0))] [3, 5, 7] mixed (by kernel_rfl) ?_
      repeat refine s1 ?_
      refine r_makeMap (isInt .i64) rfl rfl (fun rn => ?_)
      refine j_ent (Ent.mapF (κ := Value.int .i64) (ν := Value.int .i64) (l := []) Rep.nil _) ?_
      refine r_build (cells := [.int .i64 (q.num 5), .map (some rn)]) rfl (by rfl) rfl ?_
      refine r_mapUpd (v := encV (q.num 5, rn, fun _ => none)) rfl rfl rfl (isInt_mk _) rfl ?_
      refine j_heads [mp (isInt .i64) n (mset (emV l) (.int .i64 (q.num 3)) (encV (q.num 5, rn, fun _ => none))), mapI rn (fun _ => none), each l innr] ?_
      dsimp only [List.cons_append, List.nil_append]
      refine j_ent (Ent.sidePut hl hk _) ?_
      repeat refine s1 ?_
      have hM : createM B q = (B.create (q.num 3) (q.num 5), 0) := by simp [createM, *]
      rw [hM]
      refine j_shut (p := p) (B.create (q.num 3) (q.num 5)) (n := n) (k := k) (s := s) (ta := ta) (tc := tc) (hs := hs) ?_
      refine j_fin rfl (.cons (rv_tmp rfl) .nil) () (by rfl) (by trivial)
    all_goals
      refine j_heads [mp (isInt .i64) n (emV l), each l innr] ?_
      dsimp only [List.cons_append, List.nil_append]
      refine j_ent (Ent.side hl _) ?_
      refine j_shut (p := p) B (n := n) (k := k) (s := s) (ta := ta) (tc := tc) (hs := hs) ?_
      first
        | (have hM : createM B q = (B, 52) := by (simp [createM, *]; done)
           rw [hM]
           refine j_fin rfl (.cons (rv_tmp rfl) .nil) () (by rfl) (by trivial))
        | (have hM : createM B q = (B, 1) := by (simp [createM, *]; done)
           rw [hM]
           refine j_fin rfl (.cons (rv_tmp rfl) .nil) () (by rfl) (by trivial))
  · rw [hk] at hlk
    simp only [Option.map_some, Option.getD_some, Option.isSome_some]
    repeat refine s1 ?_
    refine r_alloc (cs := [i64 0, .map none]) rfl rfl rfl (fun b7 => ?_)
    refine r_storeW (vs := [.int .i64 x.1, .map (some x.2.1)]) rfl rfl (by rfl) (by rfl) (by simp [Value.oneCell']) rfl ?_
    repeat' (first | refine r_nil ?_ | (refine k_move ?_; refine r_move rfl rfl ?_) | (refine k_assign ?_; refine r_assign rfl rfl ?_) | (refine k_nck ?_; first | refine r_nck rfl rfl ?_ | refine r_nckf rfl rfl ?_) | (refine k_fld ?_; first | refine r_fld0 rfl rfl ?_ | refine r_fld rfl rfl ?_) | (refine k_load ?_; first | refine r_load1L rfl rfl rfl ?_ | refine s_load1L rfl rfl rfl ?_ | refine r_load1 rfl rfl rfl rfl ?_ | refine r_loadW rfl rfl rfl rfl ?_ | refine s_loadW rfl rfl rfl rfl ?_) | (refine k_ext ?_; first | refine r_extL rfl rfl ?_ | refine r_ext rfl rfl rfl ?_) | (refine k_len ?_; refine r_lenS rfl rfl ?_) | (refine k_un ?_; first | refine r_notT rfl (by with_reducible rfl) rfl ?_ | refine r_notF rfl (by with_reducible rfl) rfl ?_ | refine r_not rfl rfl ?_) | (refine k_sl0 ?_; refine r_sliceA rfl (by decide) rfl ?_) | (refine k_conv ?_; refine r_conv rfl rfl ?_) | (refine k_pick ?_; first | refine r_pickT rfl (by with_reducible rfl) rfl rfl ?_ | refine r_pickF rfl (by with_reducible rfl) rfl rfl ?_) | (refine k_inc ?_; refine r_inc rfl (by omega) rfl ?_) | (refine k_bin ?_; first | refine r_icmpT rfl rfl rfl rfl ?_ | refine r_icmpF rfl rfl rfl rfl ?_ | refine r_icmp rfl rfl rfl rfl ?_) | (refine k_eql ?_; first | refine r_peqS rfl rfl rfl ?_ | refine r_peqN rfl rfl rfl ?_ | refine r_meqS rfl rfl rfl ?_ | refine r_meqN rfl rfl rfl ?_ | refine r_peq rfl rfl rfl ?_) | (refine k_neq ?_; first | refine r_pneS rfl rfl rfl ?_ | refine r_pneN rfl rfl rfl ?_ | refine r_mneS rfl rfl rfl ?_ | refine r_mneN rfl rfl rfl ?_ | refine r_pne rfl rfl rfl ?_) | (refine g_mark ?_; first | refine gg_pass rfl rfl (by with_reducible rfl) ?_ | refine gg_skipT rfl rfl (by with_reducible rfl) (blt_any rfl) ?_ | refine gg_skipF rfl rfl (by with_reducible rfl) (blt_any rfl) ?_ | refine gg_skipU rfl rfl (by with_reducible rfl) (blt_any rfl) ?_ | refine gg_splitD rfl rfl (fun _ => ?_) (fun _ => ?_) | refine gg_splitN rfl rfl (fun _ => ?_) (fun _ => ?_) | refine gg_split rfl rfl (fun _ => ?_) (fun _ => ?_)) | refine t_seq ?_ | refine t_perm rfl ?_ | refine t_permE ?_ | refine j_then ?_ | refine t_region ?_ | refine t_draw [] [] mixed (by decide +kernel) ?_ | (refine k_cond ?_; first | refine t_condT rfl (by with_reducible rfl) ?_ | refine t_condF rfl (by with_reducible rfl) ?_ | refine t_condS rfl (fun _ => ?_) (fun _ => ?_) | refine t_condSN rfl (fun _ => ?_) (fun _ => ?_) | refine t_condSB rfl (fun _ => ?_) (fun _ => ?_)) | refine t_block ?_ | refine j_in ?_ | refine t_skip ?_ | refine t_ret ?_ | refine j_then_ret ?_ | refine j_in_ret ?_ | refine t_exit ?_ | refine j_then_exit ?_ | refine j_in_exit ?_ | refine j_in_other rfl ?_ | refine t_scope ?_ | refine t_label ?_ | refine j_ng ?_ | refine j_ng_ret ?_ | refine j_ng_exit ?_)
    all_goals
      refine j_heads [mp (isInt .i64) n (emV l), each l innr] ?_
      dsimp only [List.cons_append, List.nil_append]
      refine j_ent (Ent.side hl _) ?_
      refine j_shut (p := p) B (n := n) (k := k) (s := s) (ta := ta) (tc := tc) (hs := hs) ?_
      first
        | (have hM : createM B q = (B, 52) := by (simp [createM, *]; done)
           rw [hM]
           refine j_fin rfl (.cons (rv_tmp rfl) .nil) () (by rfl) (by trivial))
        | (have hM : createM B q = (B, 1) := by (simp [createM, *]; done)
           rw [hM]
           refine j_fin rfl (.cons (rv_tmp rfl) .nil) () (by rfl) (by trivial))
        | (have hM : createM B q = (B, 53) := by (simp [createM, *]; done)
           rw [hM]
           refine j_fin rfl (.cons (rv_tmp rfl) .nil) () (by rfl) (by trivial))
end Go.Proofs.Ytbecjgikhfplmaa
