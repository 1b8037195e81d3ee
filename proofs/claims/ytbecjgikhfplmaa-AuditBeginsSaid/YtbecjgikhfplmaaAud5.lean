/-
  The contracts of what removes, copies, resizes and writes a book's volumes. For each input.
-/
import Derived.Test.YtbecjgikhfplmaaAud4
namespace Go.Proofs.Ytbecjgikhfplmaa
open Go Sl
attribute [local irreducible] cw sw J Exit.then Exit.inBlock Exit.noGoto bodyPost swG swL permL
abbrev Bk.remove (B : Bk) (v : Int) : Bk := { B with now := upd B.now v none }
def removeM (B : Bk) (q : Rq) : Bk × Int := match B.now (q.num 3) with
  | none => (B, 52)
  | some _ => (B.remove (q.num 3), 0)
theorem remove_c (p : Nat) (B : Bk) (q : Rq) (d : Value) (Φ : Base) : Sl.Fn Try.prog Φ F.audit_Book_remove [.pointer (some ⟨p, 0, none⟩), .agg (q.cells d).toArray] [book p B] (fun _ : Unit => True) (fun _ => .int .i64 (removeM B q).2) (fun _ => [book p (removeM B q).1]) := by
  refine fn_of rfl rfl (fun F => ?_)
  dsimp only [argEnv, List.cons_append, List.nil_append, Nat.zero_add, Nat.reduceAdd]
  repeat refine s1 ?_
  refine r_box (cs := q.cells d) rfl rfl rfl rfl (fun pq => ?_)
  repeat refine s1 ?_
  refine j_head (book p B) ?_
  refine j_book (fun n k s ta tc hs => ?_)
  refine j_head (side n B.now) ?_
  refine j_side (fun l hl => ?_)
  refine t_draw [pt p (.cells (bcells B n k s (.slice ta B.texts.length tc)).toArray T.audit_Book (0, 0)), pt pq (.cells (q.cells d).toArray T.req_Request (0, 0)), mp (isInt .i64) n (emV l)] [3, 5, 6] mixed (by kernel_rfl) ?_
  repeat refine s1 ?_
  refine s_lookup2 rfl rfl (isInt_mk _) rfl rfl ?_
  rw [mget_em kv_inj]
  have hlk := look_side hl (q.num 3)
  rcases hk : alook l (q.num 3) with _ | x
  · rw [hk] at hlk
    simp only [Option.map_none, Option.getD_none, Option.isSome_none]
    repeat refine s1 ?_
    refine r_alloc (cs := [i64 0, .map none]) rfl rfl rfl (fun b7 => ?_)
    refine r_storeW (vs := [i64 0, .map none]) rfl rfl (by rfl) (by rfl) (by simp [Value.oneCell']) rfl ?_
    repeat refine s1 ?_
    refine j_heads [mp (isInt .i64) n (emV l), each l innr] ?_
    dsimp only [List.cons_append, List.nil_append]
    refine j_ent (Ent.side hl _) ?_
    refine j_shut (p := p) B (n := n) (k := k) (s := s) (ta := ta) (tc := tc) (hs := hs) ?_
    have hM : removeM B q = (B, 52) := by simp [removeM, hlk]
    rw [hM]
    refine j_fin rfl (.cons (rv_tmp rfl) .nil) () (by rfl) (by trivial)
  · rw [hk] at hlk
    obtain ⟨l1, l2, rfl, hl1⟩ := alook_split (nd_side hl) hk
    simp only [Option.map_some, Option.getD_some, Option.isSome_some]
    repeat refine s1 ?_
    refine r_alloc (cs := [i64 0, .map none]) rfl rfl rfl (fun b7 => ?_)
    refine r_storeW (vs := [.int .i64 x.1, .map (some x.2.1)]) rfl rfl (by rfl) (by rfl) (by simp [Value.oneCell']) rfl ?_
    repeat refine s1 ?_
    refine r_delete rfl rfl (isInt_mk _) rfl (blt_any rfl) ?_
    refine j_heads [mp (isInt .i64) n (mdel (emV (l1 ++ (q.num 3, x) :: l2)) (.int .i64 (q.num 3))), each (l1 ++ (q.num 3, x) :: l2) innr] ?_
    dsimp only [List.cons_append, List.nil_append]
    refine j_ent (Ent.sideDel hl hl1 _) ?_
    repeat refine s1 ?_
    have hM : removeM B q = (B.remove (q.num 3), 0) := by simp [removeM, hlk]
    rw [hM]
    refine j_shut (p := p) (B.remove (q.num 3)) (n := n) (k := k) (s := s) (ta := ta) (tc := tc) (hs := hs) ?_
    refine j_fin rfl (.cons (rv_tmp rfl) .nil) () (by rfl) (by trivial)
abbrev Bk.snap (B : Bk) (t : Int) (x : Int × (Int → Option Int)) : Bk := { B with now := upd B.now t (some x) }
def snapM (B : Bk) (q : Rq) : Bk × Int := match B.now (q.num 3) with
  | none => (B, 52)
  | some x => if q.num 6 < 1 then (B, 52) else if 8 < q.num 6 then (B, 52) else match B.now (q.num 6) with
    | some _ => (B, 53)
    | none => (B.snap (q.num 6) x, 0)
theorem snap_c (p : Nat) (B : Bk) (q : Rq) (d : Value) (Φ : Base) : Sl.Fn Try.prog Φ F.audit_Book_snapshot [.pointer (some ⟨p, 0, none⟩), .agg (q.cells d).toArray] [book p B] (fun _ : Unit => True) (fun _ => .int .i64 (snapM B q).2) (fun _ => [book p (snapM B q).1]) := by
  refine fn_of rfl rfl (fun F => ?_)
  dsimp only [argEnv, List.cons_append, List.nil_append, Nat.zero_add, Nat.reduceAdd]
  repeat refine s1 ?_
  refine r_box (cs := q.cells d) rfl rfl rfl rfl (fun pq => ?_)
  repeat refine s1 ?_
  refine j_head (book p B) ?_
  refine j_book (fun n k s ta tc hs => ?_)
  refine j_head (side n B.now) ?_
  refine j_side (fun l hl => ?_)
  refine t_draw [pt p (.cells (bcells B n k s (.slice ta B.texts.length tc)).toArray T.audit_Book (0, 0)), pt pq (.cells (q.cells d).toArray T.req_Request (0, 0)), mp (isInt .i64) n (emV l)] [3, 5, 6] mixed (by kernel_rfl) ?_
  repeat refine s1 ?_
  refine s_lookup2 rfl rfl (isInt_mk _) rfl rfl ?_
  rw [mget_em kv_inj]
  have hlk := look_side hl (q.num 3)
  rcases hk : alook l (q.num 3) with _ | x
  · rw [hk] at hlk
    simp only [Option.map_none, Option.getD_none, Option.isSome_none]
    repeat refine s1 ?_
    refine r_alloc (cs := [i64 0, .map none]) rfl rfl rfl (fun b7 => ?_)
    refine r_storeW (vs := [i64 0, .map none]) rfl rfl (by rfl) (by rfl) (by simp [Value.oneCell']) rfl ?_
    repeat refine s1 ?_
    refine j_heads [mp (isInt .i64) n (emV l), each l innr] ?_
    dsimp only [List.cons_append, List.nil_append]
    refine j_ent (Ent.side hl _) ?_
    refine j_shut (p := p) B (n := n) (k := k) (s := s) (ta := ta) (tc := tc) (hs := hs) ?_
    have hM : snapM B q = (B, 52) := by simp [snapM, hlk]
    rw [hM]
    refine j_fin rfl (.cons (rv_tmp rfl) .nil) () (by rfl) (by trivial)
  · rw [hk] at hlk
    simp only [Option.map_some, Option.getD_some, Option.isSome_some]
    repeat refine s1 ?_
    refine r_alloc (cs := [i64 0, .map none]) rfl rfl rfl (fun b5 => ?_)
    refine r_storeW (vs := [.int .i64 x.1, .map (some x.2.1)]) rfl rfl (by rfl) (by rfl) (by simp [Value.oneCell']) rfl ?_
    repeat' (first | refine r_nil ?_ | (refine k_move ?_; refine r_move rfl rfl ?_) | (refine k_assign ?_; refine r_assign rfl rfl ?_) | (refine k_nck ?_; first | refine r_nck rfl rfl ?_ | refine r_nckf rfl rfl ?_) | (refine k_fld ?_; first | refine r_fld0 rfl rfl ?_ | refine r_fld rfl rfl ?_) | (refine k_load ?_; first | refine r_load1L rfl rfl rfl ?_ | refine s_load1L rfl rfl rfl ?_ | refine r_load1 rfl rfl rfl rfl ?_ | refine r_loadW rfl rfl rfl rfl ?_ | refine s_loadW rfl rfl rfl rfl ?_) | (refine k_ext ?_; first | refine r_extL rfl rfl ?_ | refine r_ext rfl rfl rfl ?_) | (refine k_len ?_; refine r_lenS rfl rfl ?_) | (refine k_un ?_; first | refine r_notT rfl (by with_reducible rfl) rfl ?_ | refine r_notF rfl (by with_reducible rfl) rfl ?_ | refine r_not rfl rfl ?_) | (refine k_sl0 ?_; refine r_sliceA rfl (by decide) rfl ?_) | (refine k_conv ?_; refine r_conv rfl rfl ?_) | (refine k_pick ?_; first | refine r_pickT rfl (by with_reducible rfl) rfl rfl ?_ | refine r_pickF rfl (by with_reducible rfl) rfl rfl ?_) | (refine k_inc ?_; refine r_inc rfl (by omega) rfl ?_) | (refine k_bin ?_; first | refine r_icmpT rfl rfl rfl rfl ?_ | refine r_icmpF rfl rfl rfl rfl ?_ | refine r_icmp rfl rfl rfl rfl ?_) | (refine k_eql ?_; first | refine r_peqS rfl rfl rfl ?_ | refine r_peqN rfl rfl rfl ?_ | refine r_meqS rfl rfl rfl ?_ | refine r_meqN rfl rfl rfl ?_ | refine r_peq rfl rfl rfl ?_) | (refine k_neq ?_; first | refine r_pneS rfl rfl rfl ?_ | refine r_pneN rfl rfl rfl ?_ | refine r_mneS rfl rfl rfl ?_ | refine r_mneN rfl rfl rfl ?_ | refine r_pne rfl rfl rfl ?_) | (refine g_mark ?_; first | refine gg_pass rfl rfl (by with_reducible rfl) ?_ | refine gg_skipT rfl rfl (by with_reducible rfl) (blt_any rfl) ?_ | refine gg_skipF rfl rfl (by with_reducible rfl) (blt_any rfl) ?_ | refine gg_skipU rfl rfl (by with_reducible rfl) (blt_any rfl) ?_ | refine gg_splitD rfl rfl (fun _ => ?_) (fun _ => ?_) | refine gg_splitN rfl rfl (fun _ => ?_) (fun _ => ?_) | refine gg_split rfl rfl (fun _ => ?_) (fun _ => ?_)) | refine t_seq ?_ | refine t_perm rfl ?_ | refine t_permE ?_ | refine j_then ?_ | refine t_region ?_ | refine t_draw [] [] mixed (by decide +kernel) ?_ | (refine k_cond ?_; first | refine t_condT rfl (by with_reducible rfl) ?_ | refine t_condF rfl (by with_reducible rfl) ?_ | refine t_condS rfl (fun _ => ?_) (fun _ => ?_) | refine t_condSN rfl (fun _ => ?_) (fun _ => ?_) | refine t_condSB rfl (fun _ => ?_) (fun _ => ?_)) | refine t_block ?_ | refine j_in ?_ | refine t_skip ?_ | refine t_ret ?_ | refine j_then_ret ?_ | refine j_in_ret ?_ | refine t_exit ?_ | refine j_then_exit ?_ | refine j_in_exit ?_ | refine j_in_other rfl ?_ | refine t_scope ?_ | refine t_label ?_ | refine j_ng ?_ | refine j_ng_ret ?_ | refine j_ng_exit ?_)
    iterate 2
      · refine j_heads [mp (isInt .i64) n (emV l), each l innr] ?_
        dsimp only [List.cons_append, List.nil_append]
        refine j_ent (Ent.side hl _) ?_
        refine j_shut (p := p) B (n := n) (k := k) (s := s) (ta := ta) (tc := tc) (hs := hs) ?_
        have hM : snapM B q = (B, 52) := by simp [snapM, hlk, *]
        rw [hM]
        refine j_fin rfl (.cons (rv_tmp rfl) .nil) () (by rfl) (by trivial)
    refine t_draw [pt p (.cells (bcells B n k s (.slice ta B.texts.length tc)).toArray T.audit_Book (0, 0)), pt pq (.cells (q.cells d).toArray T.req_Request (0, 0)), mp (isInt .i64) n (emV l)] [3, 5, 6] mixed (by kernel_rfl) ?_
    repeat refine s1 ?_
    refine s_lookup2 rfl rfl (isInt_mk _) rfl rfl ?_
    rw [mget_em kv_inj]
    have hlk2 := look_side hl (q.num 6)
    rcases hk2 : alook l (q.num 6) with _ | y
    · rw [hk2] at hlk2
      simp only [Option.map_none, Option.getD_none, Option.isSome_none]
      repeat refine s1 ?_
      refine r_alloc (cs := [i64 0, .map none]) rfl rfl rfl (fun b8 => ?_)
      refine r_storeW (vs := [i64 0, .map none]) rfl rfl (by rfl) (by rfl) (by simp [Value.oneCell']) rfl ?_
      repeat refine s1 ?_
      obtain ⟨l1, l2, he, hl1⟩ := alook_split (nd_side hl) hk
      refine t_draw [pt p (.cells (bcells B n k s (.slice ta B.texts.length tc)).toArray T.audit_Book (0, 0)), pt pq (.cells (q.cells d).toArray T.req_Request (0, 0)), pt b5 (.cells [.int .i64 x.1, .map (some x.2.1)].toArray T.audit_volume (0, 0))] [3, 5, 7, 9] mixed (by kernel_rfl) ?_
      repeat refine s1 ?_
      refine j_head (each l innr) ?_
      rw [he]
      refine j_ent (Ent.eachMid l1 (q.num 3, x) l2 innr _) ?_
      refine r_call rfl (blt_some rfl) rfl (dup_c x.2.1 x.2.2 Φ) ?_
      intro r3 _
      dsimp only [bnd, List.cons_append, List.nil_append]
      refine r_build (cells := [.int .i64 x.1, .map (some r3)]) rfl (by rfl) rfl ?_
      refine r_mapUpd (v := encV (x.1, r3, x.2.2)) rfl rfl rfl (isInt_mk _) rfl ?_
      refine j_heads [mapI x.2.1 x.2.2, each (l1 ++ l2) innr] ?_
      dsimp only [List.cons_append, List.nil_append]
      refine j_ent (Ent.eachUnmid l1 (q.num 3, x) l2 innr _) ?_
      rw [← he]
      refine j_heads [mp (isInt .i64) n (mset (emV l) (.int .i64 (q.num 6)) (encV (x.1, r3, x.2.2))), mapI r3 x.2.2, each l innr] ?_
      dsimp only [List.cons_append, List.nil_append]
      refine j_ent (Ent.sidePut hl hk2 _) ?_
      repeat refine s1 ?_
      have hM : snapM B q = (B.snap (q.num 6) (x.1, x.2.2), 0) := by simp [snapM, hlk, hlk2, volOf, *]
      rw [hM]
      refine j_shut (p := p) (B.snap (q.num 6) (x.1, x.2.2)) (n := n) (k := k) (s := s) (ta := ta) (tc := tc) (hs := hs) ?_
      refine j_fin rfl (.cons (rv_tmp rfl) .nil) () (by rfl) (by trivial)
    · rw [hk2] at hlk2
      simp only [Option.map_some, Option.getD_some, Option.isSome_some]
      repeat refine s1 ?_
      refine r_alloc (cs := [i64 0, .map none]) rfl rfl rfl (fun b8 => ?_)
      refine r_storeW (vs := [.int .i64 y.1, .map (some y.2.1)]) rfl rfl (by rfl) (by rfl) (by simp [Value.oneCell']) rfl ?_
      repeat refine s1 ?_
      refine j_heads [mp (isInt .i64) n (emV l), each l innr] ?_
      dsimp only [List.cons_append, List.nil_append]
      refine j_ent (Ent.side hl _) ?_
      refine j_shut (p := p) B (n := n) (k := k) (s := s) (ta := ta) (tc := tc) (hs := hs) ?_
      have hM : snapM B q = (B, 53) := by simp [snapM, hlk, hlk2, *]
      rw [hM]
      refine j_fin rfl (.cons (rv_tmp rfl) .nil) () (by rfl) (by trivial)
end Go.Proofs.Ytbecjgikhfplmaa
