/-
  The contracts of what writes a book's volumes, and of its status. For each input.
-/
import Derived.Test.YtbecjgikhfplmaaAud6
namespace Go.Proofs.Ytbecjgikhfplmaa
open Go Sl
attribute [local irreducible] cw sw J Exit.then Exit.inBlock Exit.noGoto bodyPost swG swL permL
theorem Ent.rowsAdd {a : Option Addr} {n cap : Nat} {bs : List Nat} {hs : List Value} {ts : List (List Nat)} (hn : bs.length = n) (L : List Assn) : Ent (brow a n cap bs :: rows hs ts :: L) (rows (hs ++ [.slice a n cap]) (ts ++ [bs]) :: L) := by
  subst hn
  rintro im h ⟨h1, h2, e1, e2, e3, hb, h3, h4, e4, e5, e6, ⟨hl, hr⟩, s⟩
  refine ⟨Hp.emp, h, Hp.emp_le _, Hp.le_refl _, Hp.emp_dis _, ⟨by simp [hl], fun i b hi => ?_⟩, satL_mono (Hp.le_refl _) (Hp.le_trans e5 e2) s⟩
  by_cases hlt : i < ts.length
  · rw [List.getElem?_append_left hlt] at hi
    obtain ⟨a', cap', h5, h6⟩ := hr i b hi
    exact ⟨a', cap', by rw [List.getElem?_append_left (by omega)]; exact h5, h6⟩
  · rw [List.getElem?_append_right (by omega)] at hi
    have h0 : i - ts.length = 0 := by
      rcases Nat.eq_zero_or_pos (i - ts.length) with h | h
      · exact h
      · rw [List.getElem?_eq_none (by simp; omega)] at hi; cases hi
    rw [h0] at hi
    simp only [List.getElem?_cons_zero, Option.some.injEq] at hi
    subst hi
    exact ⟨a, cap, by rw [List.getElem?_append_right (by omega), hl, h0]; rfl, hb⟩
theorem book_quota {p : Nat} {B : Bk} {Φ : Base} {L : List Assn} {w : World} (h : Holds Φ (book p B :: L) w) : w.cell? ⟨p, 34, none⟩ = some (.int .i64 B.quota) := by
  obtain ⟨im, hp, r, h1, h2, a, b, c, ⟨x, h3, h4, a', b', c', d', s'⟩, s⟩ := h
  refine cell_of_heap (r.hw _ _ (a _ _ (a' _ _ d'))) ?_
  rw [List.getElem?_toArray]
  exact (inferInstance : LGet (bcells B x.1 x.2.1 x.2.2.1 (.slice x.2.2.2.1 B.texts.length x.2.2.2.2.1)) 34 (.int .i64 B.quota)).eq
abbrev Bk.write (B : Bk) (v a : Int) (x : Int × (Int → Option Int)) (t : List Nat) : Bk := { B with texts := B.texts ++ [t], now := upd B.now v (some (x.1, upd x.2 a (some (B.texts.length : Int)))) }
noncomputable def writeM (B : Bk) (v a : Int) (t : List Nat) : Bk × Int := match B.now v with
  | none => (B, 52)
  | some x => if x.1 ≤ a then (B, 62) else if B.quota ≤ chargeM B then (B, 60) else (B.write v a x t, 0)
theorem write_c (p : Nat) (B : Bk) (v a : Int) (sa : Option Addr) (n cap : Nat) (t : List Nat) (hn : t.length = n) (hb : n ≤ 1000000) (ht : B.texts.length ≤ 1000000) (Φ : Base) :
    Sl.Fn Try.prog Φ F.audit_Book_write [.pointer (some ⟨p, 0, none⟩), .int .i64 v, .int .i64 a, .slice sa n cap] [book p B, brow sa n cap t] (fun _ : Unit => True) (fun _ => .int .i64 (writeM B v a t).2) (fun _ => [book p (writeM B v a t).1]) := by
  refine fn_of rfl rfl (fun F => ?_)
  dsimp only [argEnv, List.cons_append, List.nil_append, Nat.zero_add, Nat.reduceAdd]
  repeat refine s1 ?_
  refine r_call rfl (blt_some rfl) rfl (block_c p B v a Φ) ?_
  intro _ _; dsimp only [bnd, List.cons_append, List.nil_append]
  rcases hnow : B.now v with _ | x
  · have hbm : blockM B v a = 52 := by simp [blockM, hnow]
    rw [hbm]
    repeat' (first | refine r_nil ?_ | (refine k_move ?_; refine r_move rfl rfl ?_) | (refine k_assign ?_; refine r_assign rfl rfl ?_) | (refine k_nck ?_; first | refine r_nck rfl rfl ?_ | refine r_nckf rfl rfl ?_) | (refine k_fld ?_; first | refine r_fld0 rfl rfl ?_ | refine r_fld rfl rfl ?_) | (refine k_load ?_; first | refine r_load1L rfl rfl rfl ?_ | refine s_load1L rfl rfl rfl ?_ | refine r_load1 rfl rfl rfl rfl ?_ | refine r_loadW rfl rfl rfl rfl ?_ | refine s_loadW rfl rfl rfl rfl ?_) | (refine k_ext ?_; first | refine r_extL rfl rfl ?_ | refine r_ext rfl rfl rfl ?_) | (refine k_len ?_; refine r_lenS rfl rfl ?_) | (refine k_un ?_; first | refine r_notT rfl (by with_reducible rfl) rfl ?_ | refine r_notF rfl (by with_reducible rfl) rfl ?_ | refine r_not rfl rfl ?_) | (refine k_sl0 ?_; refine r_sliceA rfl (by decide) rfl ?_) | (refine k_conv ?_; refine r_conv rfl rfl ?_) | (refine k_pick ?_; first | refine r_pickT rfl (by with_reducible rfl) rfl rfl ?_ | refine r_pickF rfl (by with_reducible rfl) rfl rfl ?_) | (refine k_inc ?_; refine r_inc rfl (by omega) rfl ?_) | (refine k_bin ?_; first | refine r_icmpT rfl rfl rfl rfl ?_ | refine r_icmpF rfl rfl rfl rfl ?_ | refine r_icmp rfl rfl rfl rfl ?_) | (refine k_eql ?_; first | refine r_peqS rfl rfl rfl ?_ | refine r_peqN rfl rfl rfl ?_ | refine r_meqS rfl rfl rfl ?_ | refine r_meqN rfl rfl rfl ?_ | refine r_peq rfl rfl rfl ?_) | (refine k_neq ?_; first | refine r_pneS rfl rfl rfl ?_ | refine r_pneN rfl rfl rfl ?_ | refine r_mneS rfl rfl rfl ?_ | refine r_mneN rfl rfl rfl ?_ | refine r_pne rfl rfl rfl ?_) | (refine g_mark ?_; first | refine gg_pass rfl rfl (by with_reducible rfl) ?_ | refine gg_skipT rfl rfl (by with_reducible rfl) (blt_any rfl) ?_ | refine gg_skipF rfl rfl (by with_reducible rfl) (blt_any rfl) ?_ | refine gg_skipU rfl rfl (by with_reducible rfl) (blt_any rfl) ?_ | refine gg_splitD rfl rfl (fun _ => ?_) (fun _ => ?_) | refine gg_splitN rfl rfl (fun _ => ?_) (fun _ => ?_) | refine gg_split rfl rfl (fun _ => ?_) (fun _ => ?_)) | refine t_seq ?_ | refine t_perm rfl ?_ | refine t_permE ?_ | refine j_then ?_ | refine t_region ?_ | refine t_draw [] [] mixed (by decide +kernel) ?_ | (refine k_cond ?_; first | refine t_condT rfl (by with_reducible rfl) ?_ | refine t_condF rfl (by with_reducible rfl) ?_ | refine t_condS rfl (fun _ => ?_) (fun _ => ?_) | refine t_condSN rfl (fun _ => ?_) (fun _ => ?_) | refine t_condSB rfl (fun _ => ?_) (fun _ => ?_)) | refine t_block ?_ | refine j_in ?_ | refine t_skip ?_ | refine t_ret ?_ | refine j_then_ret ?_ | refine j_in_ret ?_ | refine t_exit ?_ | refine j_then_exit ?_ | refine j_in_exit ?_ | refine j_in_other rfl ?_ | refine t_scope ?_ | refine t_label ?_ | refine j_ng ?_ | refine j_ng_ret ?_ | refine j_ng_exit ?_)
    have hM : writeM B v a t = (B, 52) := by simp [writeM, hnow]
    rw [hM]
    refine j_fin rfl (.cons (rv_tmp rfl) .nil) () (by rfl) (by trivial)
  by_cases hxa : x.1 ≤ a
  · have hbm : blockM B v a = 62 := by simp [blockM, hnow, hxa]
    rw [hbm]
    repeat' (first | refine r_nil ?_ | (refine k_move ?_; refine r_move rfl rfl ?_) | (refine k_assign ?_; refine r_assign rfl rfl ?_) | (refine k_nck ?_; first | refine r_nck rfl rfl ?_ | refine r_nckf rfl rfl ?_) | (refine k_fld ?_; first | refine r_fld0 rfl rfl ?_ | refine r_fld rfl rfl ?_) | (refine k_load ?_; first | refine r_load1L rfl rfl rfl ?_ | refine s_load1L rfl rfl rfl ?_ | refine r_load1 rfl rfl rfl rfl ?_ | refine r_loadW rfl rfl rfl rfl ?_ | refine s_loadW rfl rfl rfl rfl ?_) | (refine k_ext ?_; first | refine r_extL rfl rfl ?_ | refine r_ext rfl rfl rfl ?_) | (refine k_len ?_; refine r_lenS rfl rfl ?_) | (refine k_un ?_; first | refine r_notT rfl (by with_reducible rfl) rfl ?_ | refine r_notF rfl (by with_reducible rfl) rfl ?_ | refine r_not rfl rfl ?_) | (refine k_sl0 ?_; refine r_sliceA rfl (by decide) rfl ?_) | (refine k_conv ?_; refine r_conv rfl rfl ?_) | (refine k_pick ?_; first | refine r_pickT rfl (by with_reducible rfl) rfl rfl ?_ | refine r_pickF rfl (by with_reducible rfl) rfl rfl ?_) | (refine k_inc ?_; refine r_inc rfl (by omega) rfl ?_) | (refine k_bin ?_; first | refine r_icmpT rfl rfl rfl rfl ?_ | refine r_icmpF rfl rfl rfl rfl ?_ | refine r_icmp rfl rfl rfl rfl ?_) | (refine k_eql ?_; first | refine r_peqS rfl rfl rfl ?_ | refine r_peqN rfl rfl rfl ?_ | refine r_meqS rfl rfl rfl ?_ | refine r_meqN rfl rfl rfl ?_ | refine r_peq rfl rfl rfl ?_) | (refine k_neq ?_; first | refine r_pneS rfl rfl rfl ?_ | refine r_pneN rfl rfl rfl ?_ | refine r_mneS rfl rfl rfl ?_ | refine r_mneN rfl rfl rfl ?_ | refine r_pne rfl rfl rfl ?_) | (refine g_mark ?_; first | refine gg_pass rfl rfl (by with_reducible rfl) ?_ | refine gg_skipT rfl rfl (by with_reducible rfl) (blt_any rfl) ?_ | refine gg_skipF rfl rfl (by with_reducible rfl) (blt_any rfl) ?_ | refine gg_skipU rfl rfl (by with_reducible rfl) (blt_any rfl) ?_ | refine gg_splitD rfl rfl (fun _ => ?_) (fun _ => ?_) | refine gg_splitN rfl rfl (fun _ => ?_) (fun _ => ?_) | refine gg_split rfl rfl (fun _ => ?_) (fun _ => ?_)) | refine t_seq ?_ | refine t_perm rfl ?_ | refine t_permE ?_ | refine j_then ?_ | refine t_region ?_ | refine t_draw [] [] mixed (by decide +kernel) ?_ | (refine k_cond ?_; first | refine t_condT rfl (by with_reducible rfl) ?_ | refine t_condF rfl (by with_reducible rfl) ?_ | refine t_condS rfl (fun _ => ?_) (fun _ => ?_) | refine t_condSN rfl (fun _ => ?_) (fun _ => ?_) | refine t_condSB rfl (fun _ => ?_) (fun _ => ?_)) | refine t_block ?_ | refine j_in ?_ | refine t_skip ?_ | refine t_ret ?_ | refine j_then_ret ?_ | refine j_in_ret ?_ | refine t_exit ?_ | refine j_then_exit ?_ | refine j_in_exit ?_ | refine j_in_other rfl ?_ | refine t_scope ?_ | refine t_label ?_ | refine j_ng ?_ | refine j_ng_ret ?_ | refine j_ng_exit ?_)
    have hM : writeM B v a t = (B, 62) := by simp [writeM, hnow, hxa]
    rw [hM]
    refine j_fin rfl (.cons (rv_tmp rfl) .nil) () (by rfl) (by trivial)
  have hbm : blockM B v a = 0 := by simp [blockM, hnow, hxa]
  rw [hbm]
  repeat' (first | refine r_nil ?_ | (refine k_move ?_; refine r_move rfl rfl ?_) | (refine k_assign ?_; refine r_assign rfl rfl ?_) | (refine k_nck ?_; first | refine r_nck rfl rfl ?_ | refine r_nckf rfl rfl ?_) | (refine k_fld ?_; first | refine r_fld0 rfl rfl ?_ | refine r_fld rfl rfl ?_) | (refine k_load ?_; first | refine r_load1L rfl rfl rfl ?_ | refine s_load1L rfl rfl rfl ?_ | refine r_load1 rfl rfl rfl rfl ?_ | refine r_loadW rfl rfl rfl rfl ?_ | refine s_loadW rfl rfl rfl rfl ?_) | (refine k_ext ?_; first | refine r_extL rfl rfl ?_ | refine r_ext rfl rfl rfl ?_) | (refine k_len ?_; refine r_lenS rfl rfl ?_) | (refine k_un ?_; first | refine r_notT rfl (by with_reducible rfl) rfl ?_ | refine r_notF rfl (by with_reducible rfl) rfl ?_ | refine r_not rfl rfl ?_) | (refine k_sl0 ?_; refine r_sliceA rfl (by decide) rfl ?_) | (refine k_conv ?_; refine r_conv rfl rfl ?_) | (refine k_pick ?_; first | refine r_pickT rfl (by with_reducible rfl) rfl rfl ?_ | refine r_pickF rfl (by with_reducible rfl) rfl rfl ?_) | (refine k_inc ?_; refine r_inc rfl (by omega) rfl ?_) | (refine k_bin ?_; first | refine r_icmpT rfl rfl rfl rfl ?_ | refine r_icmpF rfl rfl rfl rfl ?_ | refine r_icmp rfl rfl rfl rfl ?_) | (refine k_eql ?_; first | refine r_peqS rfl rfl rfl ?_ | refine r_peqN rfl rfl rfl ?_ | refine r_meqS rfl rfl rfl ?_ | refine r_meqN rfl rfl rfl ?_ | refine r_peq rfl rfl rfl ?_) | (refine k_neq ?_; first | refine r_pneS rfl rfl rfl ?_ | refine r_pneN rfl rfl rfl ?_ | refine r_mneS rfl rfl rfl ?_ | refine r_mneN rfl rfl rfl ?_ | refine r_pne rfl rfl rfl ?_) | (refine g_mark ?_; first | refine gg_pass rfl rfl (by with_reducible rfl) ?_ | refine gg_skipT rfl rfl (by with_reducible rfl) (blt_any rfl) ?_ | refine gg_skipF rfl rfl (by with_reducible rfl) (blt_any rfl) ?_ | refine gg_skipU rfl rfl (by with_reducible rfl) (blt_any rfl) ?_ | refine gg_splitD rfl rfl (fun _ => ?_) (fun _ => ?_) | refine gg_splitN rfl rfl (fun _ => ?_) (fun _ => ?_) | refine gg_split rfl rfl (fun _ => ?_) (fun _ => ?_)) | refine t_seq ?_ | refine t_perm rfl ?_ | refine t_permE ?_ | refine j_then ?_ | refine t_region ?_ | refine t_draw [] [] mixed (by decide +kernel) ?_ | (refine k_cond ?_; first | refine t_condT rfl (by with_reducible rfl) ?_ | refine t_condF rfl (by with_reducible rfl) ?_ | refine t_condS rfl (fun _ => ?_) (fun _ => ?_) | refine t_condSN rfl (fun _ => ?_) (fun _ => ?_) | refine t_condSB rfl (fun _ => ?_) (fun _ => ?_)) | refine t_block ?_ | refine j_in ?_ | refine t_skip ?_ | refine t_ret ?_ | refine j_then_ret ?_ | refine j_in_ret ?_ | refine t_exit ?_ | refine j_then_exit ?_ | refine j_in_exit ?_ | refine j_in_other rfl ?_ | refine t_scope ?_ | refine t_label ?_ | refine j_ng ?_ | refine j_ng_ret ?_ | refine j_ng_exit ?_)
  refine t_draw [book p B] [5] mixed (by kernel_rfl) ?_
  repeat refine s1 ?_
  refine r_call rfl (blt_some rfl) rfl (charge_c p B Φ) ?_
  intro _ _; dsimp only [bnd, List.cons_append, List.nil_append]
  repeat refine s1 ?_
  refine s_loadBy rfl (fun w h => book_quota h) rfl rfl ?_
  refine r_icmp rfl rfl rfl rfl ?_
  repeat refine s1 ?_
  refine t_condS rfl (fun hq => ?_) (fun hq => ?_)
  · repeat refine s1 ?_
    have hM : writeM B v a t = (B, 60) := by simp [writeM, hnow, hxa, hq]
    rw [hM]
    refine j_fin rfl (.cons (rv_tmp rfl) .nil) () (by rfl) (by trivial)
  repeat refine s1 ?_
  refine j_book (fun n1 k s ta tc hs => ?_)
  refine t_draw [pt p (.cells (bcells B n1 k s (.slice ta B.texts.length tc)).toArray T.audit_Book (0, 0))] [4, 1000011] mixed (by kernel_rfl) ?_
  repeat refine s1 ?_
  refine r_call rfl (blt_some rfl) rfl (clone_c sa n cap (t.map u8) (fun v hv => by obtain ⟨x, _, rfl⟩ := List.mem_map.1 hv; rfl) (by omega) Φ) ?_
  rintro ⟨a', c'⟩ _
  dsimp only [bnd, List.cons_append, List.nil_append]
  refine r_build1s [.tmp 30] [.slice a' n c'] rfl rfl (by simp [Value.oneCell']) (by simp) rfl rfl rfl (fun b2 => ?_)
  refine r_append (s := 1) (xs := hs) (ys := [.slice a' n c']) rfl rfl (by decide) (by rfl) (by simp [Value.oneCell']) (by omega) (by omega) rfl rfl (fun ta2 tc2 _ => ?_)
  repeat refine s1 ?_
  refine r_store1X rfl rfl (by simp [B.outer.2]) rfl rfl rfl ?_
  repeat refine s1 ?_
  refine j_freezeV a' n c' T.uint8 1 (t.map u8) ?_
  refine j_heads [brow a' n c' t, rows hs B.texts] ?_
  dsimp only [List.cons_append, List.nil_append]
  refine j_ent (Ent.rowsAdd hn _) ?_
  refine j_head (side n1 B.now) ?_
  refine j_side (fun l hl => ?_)
  have hlk := look_side hl v
  rw [hnow] at hlk
  obtain ⟨y, hy, hyx⟩ := Option.map_eq_some_iff.1 hlk.symm
  obtain ⟨l1, l2, rfl, hl1⟩ := alook_split (nd_side hl) hy
  have hlen1 : B.texts.length + 1 = (B.texts ++ [t]).length := by simp
  rw [hlen1]
  repeat refine s1 ?_
  refine r_lookup1 rfl rfl (isInt_mk _) rfl rfl ?_
  rw [mget_em kv_inj, hy]
  simp only [Option.map_some, Option.getD_some, encV]
  refine r_fieldV rfl rfl ?_
  repeat refine s1 ?_
  refine r_subN (m := (B.texts ++ [t]).length) (n := 1) rfl rfl (by simp) (by simp; omega) rfl ?_
  refine j_head (each (l1 ++ (v, y) :: l2) innr) ?_
  refine j_ent (Ent.eachMid l1 (v, y) l2 innr _) ?_
  refine j_mapF (fun u hu => ?_)
  refine r_mapUpd rfl rfl rfl (isInt_mk _) rfl ?_
  rw [mset_em kv_inj]
  refine j_ent (Ent.mapF (κ := Value.int .i64) (ν := Value.int .i64) (hu.set a _) _) ?_
  have hset := hl.set v (volOf (y.1, y.2.1, upd y.2.2 a (some (((B.texts ++ [t]).length - 1 : Nat) : Int))))
  rw [vols, ← aset_map volOf, aset_old hl1] at hset
  refine j_heads [mapI y.2.1 (upd y.2.2 a (some (((B.texts ++ [t]).length - 1 : Nat) : Int))), each (l1 ++ l2) innr] ?_
  dsimp only [List.cons_append, List.nil_append]
  refine j_ent (Ent.eachUnmid l1 (v, y.1, y.2.1, upd y.2.2 a (some (((B.texts ++ [t]).length - 1 : Nat) : Int))) l2 innr _) ?_
  have hemV : emV (l1 ++ (v, y) :: l2) = emV (l1 ++ (v, y.1, y.2.1, upd y.2.2 a (some (((B.texts ++ [t]).length - 1 : Nat) : Int))) :: l2) := by simp [emV, em, encV]
  rw [hemV]
  refine j_heads [mp (isInt .i64) n1 (emV (l1 ++ (v, y.1, y.2.1, upd y.2.2 a (some (((B.texts ++ [t]).length - 1 : Nat) : Int))) :: l2)), each (l1 ++ (v, y.1, y.2.1, upd y.2.2 a (some (((B.texts ++ [t]).length - 1 : Nat) : Int))) :: l2) innr] ?_
  dsimp only [List.cons_append, List.nil_append]
  refine j_ent (Ent.side hset _) ?_
  have hM : writeM B v a t = (B.write v a x t, 0) := by simp [writeM, hnow, hxa, hq]
  rw [hM]
  have hv : volOf (y.1, y.2.1, upd y.2.2 a (some (((B.texts ++ [t]).length - 1 : Nat) : Int))) = (x.1, upd x.2 a (some (B.texts.length : Int))) := by
    rw [← hyx]; simp [volOf]
  rw [hv]
  repeat refine s1 ?_
  refine j_shut (p := p) (B.write v a x t) (n := n1) (k := k) (s := s) (ta := ta2) (tc := tc2) (hs := hs ++ [.slice a' n c']) ?_
  refine j_fin rfl (.cons (rv_tmp rfl) .nil) () (by rfl) (by trivial)
end Go.Proofs.Ytbecjgikhfplmaa
