/-
  The contracts of what resizes and writes a book's volumes, and of its status. For each input.
-/
import Derived.Test.YtbecjgikhfplmaaAud5
namespace Go.Proofs.Ytbecjgikhfplmaa
open Go Sl
attribute [local irreducible] cw sw J Exit.then Exit.inBlock Exit.noGoto bodyPost swG swL permL
def cutAt (f : Int → Option Int) (c : Int) : Int → Option Int := fun a => if c ≤ a then none else f a
abbrev Bk.resize (B : Bk) (v c : Int) (f : Int → Option Int) : Bk := { B with now := upd B.now v (some (c, cutAt f c)) }
def resizeM (B : Bk) (q : Rq) : Bk × Int := match B.now (q.num 3) with
  | none => (B, 52)
  | some x => if q.num 5 < 1 then (B, 1) else if 256 < q.num 5 then (B, 1) else (B.resize (q.num 3) (q.num 5) x.2, 0)
theorem resize_c (p : Nat) (B : Bk) (q : Rq) (d : Value) (Φ : Base) : Sl.Fn Try.prog Φ F.audit_Book_resize [.pointer (some ⟨p, 0, none⟩), .agg (q.cells d).toArray] [book p B] (fun _ : Unit => True) (fun _ => .int .i64 (resizeM B q).2) (fun _ => [book p (resizeM B q).1]) := by
  refine fn_of rfl rfl (fun F => ?_)
  dsimp only [argEnv, List.cons_append, List.nil_append, Nat.zero_add, Nat.reduceAdd]
  repeat refine s1 ?_
  refine r_box (cs := q.cells d) rfl rfl rfl rfl (fun pq => ?_)
  repeat refine s1 ?_
  refine j_head (book p B) ?_
  refine j_book (fun n k s ta tc hs => ?_)
  refine j_head (side n B.now) ?_
  refine j_side (fun l hl => ?_)
  refine t_draw [pt p (.cells (bcells B n k s (.slice ta B.texts.length tc)).toArray T.audit_Book (0, 0)), pt pq (.cells (q.cells d).toArray T.req_Request (0, 0)), mp (isInt .i64) n (emV l)] [3, 5, 6] mixed (by kernel_rfl) ?_
  repeat refine s1 ?_
  refine s_lookup2 rfl rfl (isInt_mk _) rfl rfl ?_
  rw [mget_em kv_inj]
  have hlk := look_side hl (q.num 3)
  rcases hk : alook l (q.num 3) with _ | x
  · rw [hk] at hlk
    simp only [Option.map_none, Option.getD_none, Option.isSome_none]
    repeat refine s1 ?_
    refine r_alloc (cs := [i64 0, .map none]) rfl rfl rfl (fun b7 => ?_)
    refine r_storeW (vs := [i64 0, .map none]) rfl rfl (by rfl) (by rfl) (by simp [Value.oneCell']) rfl ?_
    repeat refine s1 ?_
    refine j_heads [mp (isInt .i64) n (emV l), each l innr] ?_
    dsimp only [List.cons_append, List.nil_append]
    refine j_ent (Ent.side hl _) ?_
    refine j_shut (p := p) B (n := n) (k := k) (s := s) (ta := ta) (tc := tc) (hs := hs) ?_
    have hM : resizeM B q = (B, 52) := by simp [resizeM, hlk]
    rw [hM]
    refine j_fin rfl (.cons (rv_tmp rfl) .nil) () (by rfl) (by trivial)
  · rw [hk] at hlk
    simp only [Option.map_some, Option.getD_some, Option.isSome_some]
    repeat refine s1 ?_
    refine r_alloc (cs := [i64 0, .map none]) rfl rfl rfl (fun b5 => ?_)
    refine r_storeW (vs := [.int .i64 x.1, .map (some x.2.1)]) rfl rfl (by rfl) (by rfl) (by simp [Value.oneCell']) rfl ?_
    repeat' (first | refine r_nil ?_ | (refine k_move ?_; refine r_move rfl rfl ?_) | (refine k_assign ?_; refine r_assign rfl rfl ?_) | (refine k_nck ?_; first | refine r_nck rfl rfl ?_ | refine r_nckf rfl rfl ?_) | (refine k_fld ?_; first | refine r_fld0 rfl rfl ?_ | refine r_fld rfl rfl ?_) | (refine k_load ?_; first | refine r_load1L rfl rfl rfl ?_ | refine s_load1L rfl rfl rfl ?_ | refine r_load1 rfl rfl rfl rfl ?_ | refine r_loadW rfl rfl rfl rfl ?_ | refine s_loadW rfl rfl rfl rfl ?_) | (refine k_ext ?_; first | refine r_extL rfl rfl ?_ | refine r_ext rfl rfl rfl ?_) | (refine k_len ?_; refine r_lenS rfl rfl ?_) | (refine k_un ?_; first | refine r_notT rfl (by with_reducible rfl) rfl ?_ | refine r_notF rfl (by with_reducible rfl) rfl ?_ | refine r_not rfl rfl ?_) | (refine k_sl0 ?_; refine r_sliceA rfl (by decide) rfl ?_) | (refine k_conv ?_; refine r_conv rfl rfl ?_) | (refine k_pick ?_; first | refine r_pickT rfl (by with_reducible rfl) rfl rfl ?_ | refine r_pickF rfl (by with_reducible rfl) rfl rfl ?_) | (refine k_inc ?_; refine r_inc rfl (by omega) rfl ?_) | (refine k_bin ?_; first | refine r_icmpT rfl rfl rfl rfl ?_ | refine r_icmpF rfl rfl rfl rfl ?_ | refine r_icmp rfl rfl rfl rfl ?_) | (refine k_eql ?_; first | refine r_peqS rfl rfl rfl ?_ | refine r_peqN rfl rfl rfl ?_ | refine r_meqS rfl rfl rfl ?_ | refine r_meqN rfl rfl rfl ?_ | refine r_peq rfl rfl rfl ?_) | (refine k_neq ?_; first | refine r_pneS rfl rfl rfl ?_ | refine r_pneN rfl rfl rfl ?_ | refine r_mneS rfl rfl rfl ?_ | refine r_mneN rfl rfl rfl ?_ | refine r_pne rfl rfl rfl ?_) | (refine g_mark ?_; first | refine gg_pass rfl rfl (by with_reducible rfl) ?_ | refine gg_skipT rfl rfl (by with_reducible rfl) (blt_any rfl) ?_ | refine gg_skipF rfl rfl (by with_reducible rfl) (blt_any rfl) ?_ | refine gg_skipU rfl rfl (by with_reducible rfl) (blt_any rfl) ?_ | refine gg_splitD rfl rfl (fun _ => ?_) (fun _ => ?_) | refine gg_splitN rfl rfl (fun _ => ?_) (fun _ => ?_) | refine gg_split rfl rfl (fun _ => ?_) (fun _ => ?_)) | refine t_seq ?_ | refine t_perm rfl ?_ | refine t_permE ?_ | refine j_then ?_ | refine t_region ?_ | refine t_draw [] [] mixed (by decide +kernel) ?_ | (refine k_cond ?_; first | refine t_condT rfl (by with_reducible rfl) ?_ | refine t_condF rfl (by with_reducible rfl) ?_ | refine t_condS rfl (fun _ => ?_) (fun _ => ?_) | refine t_condSN rfl (fun _ => ?_) (fun _ => ?_) | refine t_condSB rfl (fun _ => ?_) (fun _ => ?_)) | refine t_block ?_ | refine j_in ?_ | refine t_skip ?_ | refine t_ret ?_ | refine j_then_ret ?_ | refine j_in_ret ?_ | refine t_exit ?_ | refine j_then_exit ?_ | refine j_in_exit ?_ | refine j_in_other rfl ?_ | refine t_scope ?_ | refine t_label ?_ | refine j_ng ?_ | refine j_ng_ret ?_ | refine j_ng_exit ?_)
    iterate 2
      · refine j_heads [mp (isInt .i64) n (emV l), each l innr] ?_
        dsimp only [List.cons_append, List.nil_append]
        refine j_ent (Ent.side hl _) ?_
        refine j_shut (p := p) B (n := n) (k := k) (s := s) (ta := ta) (tc := tc) (hs := hs) ?_
        have hM : resizeM B q = (B, 1) := by simp [resizeM, hlk, *]
        rw [hM]
        refine j_fin rfl (.cons (rv_tmp rfl) .nil) () (by rfl) (by trivial)
    obtain ⟨l1, l2, rfl, hl1⟩ := alook_split (nd_side hl) hk
    refine r_store1 rfl rfl (by simp) rfl rfl ?_
    repeat refine s1 ?_
    refine j_head (each (l1 ++ (q.num 3, x) :: l2) innr) ?_
    refine j_ent (Ent.eachMid l1 (q.num 3, x) l2 innr _) ?_
    refine j_mapF (fun m hm => ?_)
    refine r_rangeM rfl rfl rfl (fun it => ?_)
    repeat refine s1 ?_
    refine t_loop (σ := List (Int × Int) × List (Int × Int) × (Int → Option Int) × Option (Value × Value)) (fun _ => [(35, .pointer (some ⟨it, 0, none⟩)), (5, .pointer (some ⟨b5, 0, none⟩)), (3, .pointer (some ⟨pq, 0, none⟩)), (0, .pointer (some ⟨p, 0, none⟩))])
      (fun y => mit (isInt .i64) it x.2.1 (emI y.2.1) (emI y.1) y.2.2.2 :: pt b5 (.cells [.int .i64 (q.num 5), .map (some x.2.1)].toArray T.audit_volume (0, 0)) :: pt pq (.cells (q.cells d).toArray T.req_Request (0, 0)) :: each (l1 ++ l2) innr ::
        mp (isInt .i64) n (emV (l1 ++ (q.num 3, x) :: l2)) :: pt p (.cells (bcells B n k s (.slice ta B.texts.length tc)).toArray T.audit_Book (0, 0)) :: side k B.kept :: mapI s B.ses :: vec ta B.texts.length tc T.sl_uint8 1 hs :: rows hs B.texts :: F)
      (fun y => Rep y.2.1 y.2.2.1 ∧ (y.1.map Prod.fst).Nodup ∧ ∀ a, y.2.2.1 a = if q.num 5 ≤ a ∧ alook y.1 a = none then none else x.2.2 a) (fun y => y.1.length)
      (m, m, x.2.2, none) ⟨hm, hm.nd, fun a => by
        dsimp only
        split
        · rename_i h; rw [← hm.eq, h.2]
        · rfl⟩ ⟨rfl, rfl, rfl, rfl, trivial⟩ (by dsimp only; exact Le.ent) ?_
    rintro ⟨t, m', g, cur⟩ ⟨hm', hnd, hg⟩
    dsimp only at hm' hnd hg ⊢
    repeat refine s1 ?_
    refine r_nextM rfl rfl rfl (fun h0 => ?_) (fun t1 pp t2 h1 => ?_)
    · repeat refine s1 ?_
      have := em_nil h0
      subst this
      have hgc : g = cutAt x.2.2 (q.num 5) := by
        funext a
        rw [hg a, cutAt]
        simp [alook]
      rw [hgc] at hm'
      refine r_mapUpd (v := encV (q.num 5, x.2.1, cutAt x.2.2 (q.num 5))) rfl rfl rfl (isInt_mk _) rfl ?_
      refine j_head (mit (isInt .i64) it x.2.1 (emI m') (emI []) cur) ?_
      refine j_ent (Ent.mitEnd.trans (Ent.mapF (κ := Value.int .i64) (ν := Value.int .i64) hm' _)) ?_
      refine j_heads [mp (isInt .i64) n (mset (emV (l1 ++ (q.num 3, x) :: l2)) (.int .i64 (q.num 3)) (encV (q.num 5, x.2.1, cutAt x.2.2 (q.num 5)))), mapI x.2.1 (cutAt x.2.2 (q.num 5)), each (l1 ++ l2) innr] ?_
      dsimp only [List.cons_append, List.nil_append]
      refine j_ent (Ent.sideSet hl hl1 _) ?_
      repeat refine s1 ?_
      have hM : resizeM B q = (B.resize (q.num 3) (q.num 5) x.2.2, 0) := by simp [resizeM, hlk, volOf, *]
      rw [hM]
      refine j_shut (p := p) (B.resize (q.num 3) (q.num 5) x.2.2) (n := n) (k := k) (s := s) (ta := ta) (tc := tc) (hs := hs) ?_
      refine j_fin rfl (.cons (rv_tmp rfl) .nil) () (by rfl) (by trivial)
    · obtain ⟨u1, y, u2, rfl, h2, rfl⟩ := em_split h1
      rw [h2]
      have hndu := hnd
      rw [List.map_append, List.map_cons] at hndu
      have hn2 := List.nodup_append.1 hndu
      have hy2 := (List.nodup_cons.1 hn2.2.1).1
      have hy1 : y.1 ∉ u1.map Prod.fst := fun hmm => hn2.2.2 _ hmm _ (by simp) rfl
      have hnd' : ((u1 ++ u2).map Prod.fst).Nodup := hnd.sublist (List.Sublist.map _ (List.Sublist.append (List.Sublist.refl _) (List.sublist_cons_self _ _)))
      have hnone : alook (u1 ++ u2) y.1 = none := alook_none (by rw [List.map_append]; exact fun hmm => (List.mem_append.1 hmm).elim hy1 hy2)
      have hsame : ∀ a, a ≠ y.1 → alook (u1 ++ y :: u2) a = alook (u1 ++ u2) a := fun a ha => by rw [alook_app, alook_app, alook, if_neg (fun e => ha e.symm)]
      repeat refine s1 ?_
      refine r_entry rfl rfl rfl ?_
      repeat' (first | refine r_nil ?_ | (refine k_move ?_; refine r_move rfl rfl ?_) | (refine k_assign ?_; refine r_assign rfl rfl ?_) | (refine k_nck ?_; first | refine r_nck rfl rfl ?_ | refine r_nckf rfl rfl ?_) | (refine k_fld ?_; first | refine r_fld0 rfl rfl ?_ | refine r_fld rfl rfl ?_) | (refine k_load ?_; first | refine r_load1L rfl rfl rfl ?_ | refine s_load1L rfl rfl rfl ?_ | refine r_load1 rfl rfl rfl rfl ?_ | refine r_loadW rfl rfl rfl rfl ?_ | refine s_loadW rfl rfl rfl rfl ?_) | (refine k_ext ?_; first | refine r_extL rfl rfl ?_ | refine r_ext rfl rfl rfl ?_) | (refine k_len ?_; refine r_lenS rfl rfl ?_) | (refine k_un ?_; first | refine r_notT rfl (by with_reducible rfl) rfl ?_ | refine r_notF rfl (by with_reducible rfl) rfl ?_ | refine r_not rfl rfl ?_) | (refine k_sl0 ?_; refine r_sliceA rfl (by decide) rfl ?_) | (refine k_conv ?_; refine r_conv rfl rfl ?_) | (refine k_pick ?_; first | refine r_pickT rfl (by with_reducible rfl) rfl rfl ?_ | refine r_pickF rfl (by with_reducible rfl) rfl rfl ?_) | (refine k_inc ?_; refine r_inc rfl (by omega) rfl ?_) | (refine k_bin ?_; first | refine r_icmpT rfl rfl rfl rfl ?_ | refine r_icmpF rfl rfl rfl rfl ?_ | refine r_icmp rfl rfl rfl rfl ?_) | (refine k_eql ?_; first | refine r_peqS rfl rfl rfl ?_ | refine r_peqN rfl rfl rfl ?_ | refine r_meqS rfl rfl rfl ?_ | refine r_meqN rfl rfl rfl ?_ | refine r_peq rfl rfl rfl ?_) | (refine k_neq ?_; first | refine r_pneS rfl rfl rfl ?_ | refine r_pneN rfl rfl rfl ?_ | refine r_mneS rfl rfl rfl ?_ | refine r_mneN rfl rfl rfl ?_ | refine r_pne rfl rfl rfl ?_) | (refine g_mark ?_; first | refine gg_pass rfl rfl (by with_reducible rfl) ?_ | refine gg_skipT rfl rfl (by with_reducible rfl) (blt_any rfl) ?_ | refine gg_skipF rfl rfl (by with_reducible rfl) (blt_any rfl) ?_ | refine gg_skipU rfl rfl (by with_reducible rfl) (blt_any rfl) ?_ | refine gg_splitD rfl rfl (fun _ => ?_) (fun _ => ?_) | refine gg_splitN rfl rfl (fun _ => ?_) (fun _ => ?_) | refine gg_split rfl rfl (fun _ => ?_) (fun _ => ?_)) | refine t_seq ?_ | refine t_perm rfl ?_ | refine t_permE ?_ | refine j_then ?_ | refine t_region ?_ | refine t_draw [] [] mixed (by decide +kernel) ?_ | (refine k_cond ?_; first | refine t_condT rfl (by with_reducible rfl) ?_ | refine t_condF rfl (by with_reducible rfl) ?_ | refine t_condS rfl (fun _ => ?_) (fun _ => ?_) | refine t_condSN rfl (fun _ => ?_) (fun _ => ?_) | refine t_condSB rfl (fun _ => ?_) (fun _ => ?_)) | refine t_block ?_ | refine j_in ?_ | refine t_skip ?_ | refine t_ret ?_ | refine j_then_ret ?_ | refine j_in_ret ?_ | refine t_exit ?_ | refine j_then_exit ?_ | refine j_in_exit ?_ | refine j_in_other rfl ?_ | refine t_scope ?_ | refine t_label ?_ | refine j_ng ?_ | refine j_ng_ret ?_ | refine j_ng_exit ?_)
      · refine r_deleteIt (i := it) (key := Value.int .i64 y.1) (v0 := Value.int .i64 y.2) rfl rfl (isInt_mk _) rfl (blt_any rfl) ?_
        rw [mdel_em kv_inj]
        repeat refine s1 ?_
        refine j_again (u1 ++ u2, adel m' y.1, upd g y.1 none, none) ⟨hm'.del y.1, hnd', fun a => ?_⟩ (by simp) ⟨rfl, rfl, rfl, rfl, trivial⟩ (by dsimp only; exact Le.ent)
        dsimp only [upd]
        by_cases ha : a = y.1
        · subst ha
          rw [if_pos rfl, if_pos ⟨by omega, hnone⟩]
        · rw [if_neg ha, hg a, hsame a ha]
      · refine j_again (u1 ++ u2, m', g, some (Value.int .i64 y.1, Value.int .i64 y.2)) ⟨hm', hnd', fun a => ?_⟩ (by simp) ⟨rfl, rfl, rfl, rfl, trivial⟩ (by dsimp only; exact Le.ent)
        dsimp only
        by_cases ha : a = y.1
        · subst ha
          rw [hg, if_neg (fun h => by omega), if_neg (fun h => by omega)]
        · rw [hg a, hsame a ha]
end Go.Proofs.Ytbecjgikhfplmaa
