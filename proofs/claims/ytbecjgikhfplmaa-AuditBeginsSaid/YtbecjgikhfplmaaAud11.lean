/-
  The contract of what hears a Read, a Write or a Discard. For each input.
-/
import Derived.Test.YtbecjgikhfplmaaAud10
namespace Go.Proofs.Ytbecjgikhfplmaa
open Go Sl
theorem j_rowAt {X : Cx} {e : Env} {L L1 : List Assn} {G : Act → World → Prop} {hs : List Value} {ts : List (List Nat)} {i : Nat} {bs : List Nat} [f : Find (rows hs ts) L L1] (hb : ts[i]? = some bs)
    (h : ∀ a cap, hs[i]? = some (.slice a bs.length cap) → J X e (brow a bs.length cap bs :: L) G) : J X e L G := fun act w m hh => by
  obtain ⟨im, hp, r, h1, h2, a, b, c, ⟨hl, hr⟩, s⟩ := hh.ent f.ent
  obtain ⟨a', cap', h3, h4⟩ := hr i bs hb
  obtain ⟨im2, hp2, r2, s2⟩ := hh
  have hh : Holds X.Φ L w := ⟨im2, hp2, r2, s2⟩
  refine h a' cap' h3 act w m ?_
  have : Holds X.Φ (rows hs ts :: L1) w := ⟨im, hp, r, h1, h2, a, b, c, ⟨hl, hr⟩, s⟩
  -- the fact is of what never changes: read it off again, beside all of L
  exact hh.ent (fun im' hp' sl => by
    obtain ⟨g1, g2, ga, gb, gc, ⟨gl, gr⟩, gs⟩ := f.ent im' hp' sl
    obtain ⟨a'', cap'', h5, h6⟩ := gr i bs hb
    rw [h3] at h5
    cases h5
    exact ⟨Hp.emp, hp', Hp.emp_le _, Hp.le_refl _, Hp.emp_dis _, h6, sl⟩)
attribute [local irreducible] cw sw J Exit.then Exit.inBlock Exit.noGoto bodyPost swG swL permL
abbrev Bk.disc (B : Bk) (v a : Int) (x : Int × (Int → Option Int)) : Bk := { B with now := upd B.now v (some (x.1, upd x.2 a none)) }
def zeros512 : List Nat := List.replicate 512 0
theorem zeros512_map : zeros512.map u8 = List.replicate 512 (Value.int .u8 0) := by rw [zeros512, List.map_replicate]; rfl
theorem zeros512_len : zeros512.length = 512 := by rw [zeros512, List.length_replicate]
structure BSt where
  B : Bk
  data : List Nat
  had : Int
  e : Int
noncomputable def bstep (q : Rq) (ds : List Nat) (B : Bk) (data : List Nat) (had : Int) (i : Nat) : BSt :=
  if blockM B (q.num 3) (q.num 4 + i) ≠ 0 then ⟨B, data, had, blockM B (q.num 3) (q.num 4 + i)⟩ else match B.now (q.num 3) with
    | none => ⟨B, data, had, 52⟩
    | some x =>
      if q.num 0 = 4 then ⟨(writeM B (q.num 3) (q.num 4 + i) ((ds.drop (i * 512)).take 512)).1, data, had, (writeM B (q.num 3) (q.num 4 + i) ((ds.drop (i * 512)).take 512)).2⟩
      else match x.2 (q.num 4 + i) with
        | some w => if q.num 0 = 5 then ⟨B.disc (q.num 3) (q.num 4 + i) x, data, had + 1, 0⟩ else ⟨B, data ++ B.texts.getD w.toNat [], had, 0⟩
        | none => if q.num 0 = 3 then ⟨B, data ++ zeros512, had, 0⟩ else ⟨B, data, had, 0⟩
noncomputable def blocksL (q : Rq) (ds : List Nat) (r : Rp) : Nat → Nat → Bk → List Nat → Int → Bk × Bool
  | 0, i, B, data, had => (B, decide (r.e = 0 ∧ r.n = (if q.num 0 = 5 then had else (i : Int)) ∧ r.d = data))
  | m + 1, i, B, data, had => if r.e = 40 ∧ (i : Int) = r.n then (B, decide (r.d.length = 0)) else
      if (bstep q ds B data had i).e ≠ 0 then ((bstep q ds B data had i).B, decide (r.e = (bstep q ds B data had i).e ∧ r.n = (i : Int) ∧ r.d = []))
      else blocksL q ds r m (i + 1) (bstep q ds B data had i).B (bstep q ds B data had i).data (bstep q ds B data had i).had
/-- what a run through blocks hangs on. -/
structure BOk (q : Rq) (ds : List Nat) (N : Nat) (B : Bk) : Prop where
  num : (if q.num 0 = 3 ∨ q.num 0 = 5 then q.num 5 else if q.num 0 = 4 then ((ds.length / 512 : Nat) : Int) else 0) = (N : Int)
  kind : q.num 0 = 3 ∨ q.num 0 = 4 ∨ q.num 0 = 5
  le : N ≤ 256
  wr : q.num 0 = 4 → N * 512 = ds.length
  blk : 0 ≤ q.num 4 ∧ q.num 4 < 65536
  bytes : ∀ x ∈ ds, x < 256
  txt : ∀ t ∈ B.texts, t.length ≤ 512 ∧ ∀ x ∈ t, x < 256
  val : ∀ k x a w, B.now k = some x → x.2 a = some w → 0 ≤ w ∧ w < B.texts.length
  few : B.texts.length ≤ 500000
set_option maxHeartbeats 4000000 in
theorem blocksB_c (p : Nat) (B : Bk) (q : Rq) (qa : Option Addr) (qc : Nat) (ds : List Nat) (r : Rp) (da : Option Addr) (dc N : Nat) (hok : BOk q ds N B) (hdl : ds.length ≤ 1000000) (hr : ∀ x ∈ r.d, x < 256) (Φ : Base) :
    Sl.Fn Try.prog Φ F.audit_Book_blocks [.pointer (some ⟨p, 0, none⟩), .agg (q.cells (.slice qa ds.length qc)).toArray, .agg (rcells r da dc).toArray] [book p B, brow qa ds.length qc ds, brow da r.d.length dc r.d] (fun _ : Unit => True)
      (fun _ => .bool (blocksL q ds r N 0 B [] 0).2) (fun _ => [book p (blocksL q ds r N 0 B [] 0).1]) := by
  refine fn_of rfl rfl (fun F => ?_)
  dsimp only [argEnv, List.cons_append, List.nil_append, Nat.zero_add, Nat.reduceAdd]
  repeat refine s1 ?_
  refine r_box (cs := q.cells (.slice qa ds.length qc)) rfl rfl rfl rfl (fun pq => ?_)
  refine r_box (cs := rcells r da dc) rfl rfl rfl rfl (fun b3 => ?_)
  repeat refine s1 ?_
  refine r_loadW rfl (q.len _) rfl rfl ?_
  refine r_call rfl (blt_some rfl) rfl (blocks_c q qa ds.length qc (by omega) Φ) ?_
  intro _ _; dsimp only [bnd, List.cons_append, List.nil_append]
  rw [hok.num]
  repeat refine s1 ?_
  refine j_ent (Ent.vecNil (E := T.uint8) (s := 1) _) ?_
  refine j_ent (L' := vec none 0 0 T.uint8 1 [] :: book p B :: pt pq (.cells (q.cells (.slice qa ds.length qc)).toArray T.req_Request (0, 0)) :: pt b3 (.cells (rcells r da dc).toArray T.reply_Reply (0, 0)) :: brow qa ds.length qc ds :: brow da r.d.length dc r.d :: F) Le.ent ?_
  refine t_loop (σ := Nat × Bk × List Nat × Int × Option Addr × Nat) (fun s => [(17, i64 s.1), (16, i64 N), (8, i64 s.1), (9, .int .i64 s.2.2.2.1), (7, .slice s.2.2.2.2.1 s.2.2.1.length s.2.2.2.2.2), (4, .pointer (some ⟨pq, 0, none⟩)), (5, .pointer (some ⟨b3, 0, none⟩)), (0, .pointer (some ⟨p, 0, none⟩))])
    (fun s => vec s.2.2.2.2.1 s.2.2.1.length s.2.2.2.2.2 T.uint8 1 (s.2.2.1.map u8) :: book p s.2.1 :: pt pq (.cells (q.cells (.slice qa ds.length qc)).toArray T.req_Request (0, 0)) :: pt b3 (.cells (rcells r da dc).toArray T.reply_Reply (0, 0)) :: brow qa ds.length qc ds :: brow da r.d.length dc r.d :: F)
    (fun s => s.1 ≤ N ∧ blocksL q ds r (N - s.1) s.1 s.2.1 s.2.2.1 s.2.2.2.1 = blocksL q ds r N 0 B [] 0 ∧ (q.num 0 = 3 → s.2.1 = B) ∧ s.2.1.texts.length ≤ 500000 + s.1 ∧ s.2.2.1.length ≤ 512 * s.1 ∧ (∀ x ∈ s.2.2.1, x < 256) ∧ 0 ≤ s.2.2.2.1 ∧ s.2.2.2.1 ≤ s.1) (fun s => N - s.1)
    (0, B, [], 0, none, 0) ⟨Nat.zero_le _, by simp, fun _ => rfl, hok.few, by simp, (by intro x hx; cases hx), by simp, by simp⟩ ⟨rfl, rfl, rfl, rfl, rfl, rfl, rfl, rfl, trivial⟩ (Ent.refl _) ?_
  rintro ⟨i, B', data, had, oa, oc⟩ ⟨hi, hL, hB3, htx, hdt, hdb, hh0, hhi⟩
  dsimp only at hi hL hB3 htx hdt hdb hh0 hhi ⊢
  have hN := hok.le
  have hblk := hok.blk
  repeat refine s1 ?_
  refine r_icmp rfl rfl rfl rfl ?_
  repeat refine s1 ?_
  refine t_condS rfl (fun h => ?_) (fun h => ?_)
  rotate_left
  · have hiN : i = N := by omega
    subst hiN
    rw [Nat.sub_self, blocksL] at hL
    repeat refine s1 ?_
    refine r_icmp rfl rfl rfl rfl ?_
    repeat refine s1 ?_
    refine j_freezeV oa data.length oc T.uint8 1 (data.map u8) ?_
    refine t_condS rfl (fun h5 => ?_) (fun h5 => ?_)
    · rw [if_pos h5] at hL
      rw [← hL]
      repeat refine s1 ?_
      refine r_build (cells := [i64 0, .int .i64 had, .slice oa data.length oc]) rfl (by rfl) rfl ?_
      refine r_call rfl (blt_some rfl) rfl (repSame_c r.e r.n 0 had da oa r.d.length dc data.length oc r.d data hr hdb Φ) ?_
      intro _ _; dsimp only [bnd, List.cons_append, List.nil_append]
      repeat refine s1 ?_
      refine j_fin rfl (.cons (rv_tmp rfl) .nil) () (by rfl) (by trivial)
    · rw [if_neg h5] at hL
      rw [← hL]
      repeat refine s1 ?_
      refine r_build (cells := [i64 0, i64 i, .slice oa data.length oc]) rfl (by rfl) rfl ?_
      refine r_call rfl (blt_some rfl) rfl (repSame_c r.e r.n 0 i da oa r.d.length dc data.length oc r.d data hr hdb Φ) ?_
      intro _ _; dsimp only [bnd, List.cons_append, List.nil_append]
      repeat refine s1 ?_
      refine j_fin rfl (.cons (rv_tmp rfl) .nil) () (by rfl) (by trivial)
  have hlt : i < N := by omega
  obtain ⟨m, hm⟩ : ∃ m, N - i = m + 1 := ⟨N - i - 1, by omega⟩
  have hm' : N - (i + 1) = m := by omega
  rw [hm, blocksL] at hL
  repeat' (first | refine r_nil ?_ | (refine k_move ?_; refine r_move rfl rfl ?_) | (refine k_assign ?_; refine r_assign rfl rfl ?_) | (refine k_nck ?_; first | refine r_nck rfl rfl ?_ | refine r_nckf rfl rfl ?_) | (refine k_fld ?_; first | refine r_fld0 rfl rfl ?_ | refine r_fld rfl rfl ?_) | (refine k_load ?_; first | refine r_load1L rfl rfl rfl ?_ | refine s_load1L rfl rfl rfl ?_ | refine r_load1 rfl rfl rfl rfl ?_ | refine r_loadW rfl rfl rfl rfl ?_ | refine s_loadW rfl rfl rfl rfl ?_) | (refine k_ext ?_; first | refine r_extL rfl rfl ?_ | refine r_ext rfl rfl rfl ?_) | (refine k_len ?_; refine r_lenS rfl rfl ?_) | (refine k_un ?_; first | refine r_notT rfl (by with_reducible rfl) rfl ?_ | refine r_notF rfl (by with_reducible rfl) rfl ?_ | refine r_not rfl rfl ?_) | (refine k_sl0 ?_; refine r_sliceA rfl (by decide) rfl ?_) | (refine k_conv ?_; refine r_conv rfl rfl ?_) | (refine k_pick ?_; first | refine r_pickT rfl (by with_reducible rfl) rfl rfl ?_ | refine r_pickF rfl (by with_reducible rfl) rfl rfl ?_) | (refine k_inc ?_; refine r_inc rfl (by omega) rfl ?_) | (refine k_bin ?_; first | refine r_icmpT rfl rfl rfl rfl ?_ | refine r_icmpF rfl rfl rfl rfl ?_ | refine r_icmp rfl rfl rfl rfl ?_) | (refine k_eql ?_; first | refine r_peqS rfl rfl rfl ?_ | refine r_peqN rfl rfl rfl ?_ | refine r_meqS rfl rfl rfl ?_ | refine r_meqN rfl rfl rfl ?_ | refine r_peq rfl rfl rfl ?_) | (refine k_neq ?_; first | refine r_pneS rfl rfl rfl ?_ | refine r_pneN rfl rfl rfl ?_ | refine r_mneS rfl rfl rfl ?_ | refine r_mneN rfl rfl rfl ?_ | refine r_pne rfl rfl rfl ?_) | (refine g_mark ?_; first | refine gg_pass rfl rfl (by with_reducible rfl) ?_ | refine gg_skipT rfl rfl (by with_reducible rfl) (blt_any rfl) ?_ | refine gg_skipF rfl rfl (by with_reducible rfl) (blt_any rfl) ?_ | refine gg_skipU rfl rfl (by with_reducible rfl) (blt_any rfl) ?_ | refine gg_splitD rfl rfl (fun _ => ?_) (fun _ => ?_) | refine gg_splitN rfl rfl (fun _ => ?_) (fun _ => ?_) | refine gg_split rfl rfl (fun _ => ?_) (fun _ => ?_)) | refine t_seq ?_ | refine t_perm rfl ?_ | refine t_permE ?_ | refine j_then ?_ | refine t_region ?_ | refine t_draw [] [] mixed (by decide +kernel) ?_ | (refine k_cond ?_; first | refine t_condT rfl (by with_reducible rfl) ?_ | refine t_condF rfl (by with_reducible rfl) ?_ | refine t_condS rfl (fun _ => ?_) (fun _ => ?_) | refine t_condSN rfl (fun _ => ?_) (fun _ => ?_) | refine t_condSB rfl (fun _ => ?_) (fun _ => ?_)) | refine t_block ?_ | refine j_in ?_ | refine t_skip ?_ | refine t_ret ?_ | refine j_then_ret ?_ | refine j_in_ret ?_ | refine t_exit ?_ | refine j_then_exit ?_ | refine j_in_exit ?_ | refine j_in_other rfl ?_ | refine t_scope ?_ | refine t_label ?_ | refine j_ng ?_ | refine j_ng_ret ?_ | refine j_ng_exit ?_)
  · rw [if_pos ⟨‹_›, ‹_›⟩] at hL
    rw [← hL]
    refine j_fin rfl (.cons (rv_tmp rfl) .nil) () (by simp [pack]) (by trivial)
  all_goals
    rw [if_neg (by first | exact fun h => absurd h.1 ‹_› | exact fun h => absurd h.2 ‹_›)] at hL
    refine r_addI rfl rfl (by omega) rfl ?_
    repeat refine s1 ?_
    refine r_call rfl (blt_some rfl) rfl (block_c p B' (q.num 3) (q.num 4 + i) Φ) ?_
    intro _ _; dsimp only [bnd, List.cons_append, List.nil_append]
    by_cases hb0 : blockM B' (q.num 3) (q.num 4 + i) = 0
    rotate_left
    · have hbs : bstep q ds B' data had i = ⟨B', data, had, blockM B' (q.num 3) (q.num 4 + i)⟩ := by rw [bstep, if_pos hb0]
      rw [hbs] at hL
      dsimp only at hL
      rw [if_pos hb0] at hL
      rw [← hL]
      repeat refine s1 ?_
      refine r_cmpF rfl rfl rfl (by simp [hb0]) rfl ?_
      repeat refine s1 ?_
      refine r_cmpT rfl rfl rfl (by simp [hb0]) rfl ?_
      repeat refine s1 ?_
      refine r_build (cells := [.int .i64 (blockM B' (q.num 3) (q.num 4 + i)), i64 i, .slice none 0 0]) rfl (by rfl) rfl ?_
      refine j_ent (Ent.brow0 _) ?_
      refine r_call rfl (blt_some rfl) rfl (repSame_c r.e r.n _ i da none r.d.length dc 0 0 r.d [] hr (by simp) Φ) ?_
      intro _ _; dsimp only [bnd, List.cons_append, List.nil_append]
      repeat refine s1 ?_
      refine j_fin rfl (.cons (rv_tmp rfl) .nil) () (by rfl) (by trivial)
    obtain ⟨x, hnow, hxa⟩ : ∃ x, B'.now (q.num 3) = some x ∧ ¬ x.1 ≤ q.num 4 + i := by
      unfold blockM at hb0
      rcases hn : B'.now (q.num 3) with _ | x
      · rw [hn] at hb0; simp at hb0
      · rw [hn] at hb0
        refine ⟨x, rfl, fun hle => ?_⟩
        simp [hle] at hb0
    repeat refine s1 ?_
    refine r_cmpT rfl rfl rfl (by simp [hb0]) rfl ?_
    repeat refine s1 ?_
    refine j_head (book p B') ?_
    refine j_book (fun n1 k s ta tc hs => ?_)
    refine j_head (side n1 B'.now) ?_
    refine j_side (fun l hl => ?_)
    have hlk := look_side hl (q.num 3)
    rw [hnow] at hlk
    obtain ⟨y, hy, hyx⟩ := Option.map_eq_some_iff.1 hlk.symm
    obtain ⟨l1, l2, rfl, hl1⟩ := alook_split (nd_side hl) hy
    refine j_head (each (l1 ++ (q.num 3, y) :: l2) innr) ?_
    refine j_ent (Ent.eachMid l1 (q.num 3, y) l2 innr _) ?_
    refine j_mapF (fun u hu => ?_)
    repeat refine s1 ?_
    refine r_lookup1 rfl rfl (isInt_mk _) rfl rfl ?_
    rw [mget_em kv_inj, hy]
    simp only [Option.map_some, Option.getD_some, encV]
    repeat refine s1 ?_
    refine r_fieldV rfl rfl ?_
    repeat refine s1 ?_
    refine r_lookup2 rfl rfl (isInt_mk _) rfl rfl ?_
    rw [mget_em kv_inj, hu.eq]
    have hx2 : x.2 = y.2.2 := by rw [← hyx]; rfl
    have hx1 : x.1 = y.1 := by rw [← hyx]; rfl
    rcases hok.kind with hk3 | hk4 | hk5
    · -- Read
      have hBB := hB3 hk3
      subst hBB
      rcases hw : y.2.2 (q.num 4 + i) with _ | w
      · have hbs : bstep q ds B' data had i = ⟨B', data ++ zeros512, had, 0⟩ := by
          rw [bstep, if_neg (by rw [hb0]; simp), hnow]
          simp only [hx2, hw, hk3]
          simp
        rw [hbs] at hL
        dsimp only at hL
        rw [if_neg (by simp)] at hL
        simp only [Option.map_none, Option.getD_none, Option.isSome_none]
        repeat refine s1 ?_
        refine r_cmpF rfl rfl rfl (by simp [hk3]) rfl ?_
        repeat refine s1 ?_
        refine r_cmpF rfl rfl rfl (by simp [hk3]) rfl ?_
        repeat refine s1 ?_
        refine r_cmpT rfl rfl rfl (by simp [hk3]) rfl ?_
        repeat refine s1 ?_
        refine r_cmpT rfl rfl rfl (by simp [hk3]) rfl ?_
        repeat refine s1 ?_
        refine r_appendZ (m := 512) (xs := data.map u8) rfl rfl rfl rfl (by decide) (by omega) (by omega) rfl rfl (fun a2 c2 => ?_)
        rw [← zeros512_map, ← List.map_append, show data.length + 512 = (data ++ zeros512).length by rw [List.length_append, zeros512_len]]
        repeat refine s1 ?_
        refine r_cmpF rfl rfl rfl (by simp [hb0]) rfl ?_
        repeat refine s1 ?_
        refine j_head (mp (isInt .i64) y.2.1 (emI u)) ?_
        refine j_ent (Ent.mapF (κ := Value.int .i64) (ν := Value.int .i64) hu _) ?_
        refine j_heads [mapI y.2.1 y.2.2, each (l1 ++ l2) innr] ?_
        dsimp only [List.cons_append, List.nil_append]
        refine j_ent (Ent.eachUnmid l1 (q.num 3, y) l2 innr _) ?_
        refine j_heads [mp (isInt .i64) n1 (emV (l1 ++ (q.num 3, y) :: l2)), each (l1 ++ (q.num 3, y) :: l2) innr] ?_
        dsimp only [List.cons_append, List.nil_append]
        refine j_ent (Ent.side hl _) ?_
        refine j_shut (p := p) B' (n := n1) (k := k) (s := s) (ta := ta) (tc := tc) (hs := hs) ?_
        exact j_again (i + 1, B', data ++ zeros512, had, a2, c2) ⟨by omega, by rw [hm']; exact hL, fun _ => rfl, by dsimp only; omega, by dsimp only; rw [List.length_append, zeros512_len]; omega, fun z hz => (List.mem_append.1 hz).elim (hdb z) (fun hz => by rw [zeros512] at hz; rw [List.eq_of_mem_replicate hz]; decide), hh0, by dsimp only; omega⟩ (by dsimp only; omega) ⟨rfl, rfl, rfl, rfl, rfl, rfl, rfl, rfl, trivial⟩ (by dsimp only; exact Le.ent)
      · obtain ⟨hw0, hwl⟩ := hok.val _ _ _ _ hnow (by rw [hx2]; exact hw)
        obtain ⟨bs, hbs0⟩ : ∃ bs, B'.texts[w.toNat]? = some bs := ⟨_, List.getElem?_eq_getElem (by omega)⟩
        have hbs : bstep q ds B' data had i = ⟨B', data ++ bs, had, 0⟩ := by
          rw [bstep, if_neg (by rw [hb0]; simp), hnow]
          simp only [hx2, hw, hk3]
          simp [List.getD_eq_getElem?_getD, hbs0]
        have hbt := hok.txt bs (List.mem_of_getElem? hbs0)
        rw [hbs] at hL
        dsimp only at hL
        rw [if_neg (by simp)] at hL
        simp only [Option.map_some, Option.getD_some, Option.isSome_some]
        repeat refine s1 ?_
        refine r_cmpF rfl rfl rfl (by simp [hk3]) rfl ?_
        repeat refine s1 ?_
        refine r_cmpF rfl rfl rfl (by simp [hk3]) rfl ?_
        repeat refine s1 ?_
        refine r_cmpT rfl rfl rfl (by simp [hk3]) rfl ?_
        repeat refine s1 ?_
        refine j_at ta B'.texts.length tc T.sl_uint8 1 hs (.inl (by omega)) (fun tb toff hta _ _ => ?_)
        subst hta
        refine j_rowAt (hs := hs) hbs0 (fun ba bc hbv => ?_)
        refine r_idx rfl rfl hw0 (by omega) rfl ?_
        refine r_loadV (off := toff) (n := B'.texts.length) (cap := tc) (E := T.sl_uint8) (s := 1) (xs := hs) (j := w.toNat) rfl (by omega) hbv rfl rfl ?_
        refine r_appB data bs rfl rfl rfl rfl rfl rfl (by omega) (by omega) rfl rfl (fun a2 c2 => ?_)
        repeat refine s1 ?_
        refine r_cmpF rfl rfl rfl (by simp [hb0]) rfl ?_
        repeat refine s1 ?_
        refine j_head (mp (isInt .i64) y.2.1 (emI u)) ?_
        refine j_ent (Ent.mapF (κ := Value.int .i64) (ν := Value.int .i64) hu _) ?_
        refine j_heads [mapI y.2.1 y.2.2, each (l1 ++ l2) innr] ?_
        dsimp only [List.cons_append, List.nil_append]
        refine j_ent (Ent.eachUnmid l1 (q.num 3, y) l2 innr _) ?_
        refine j_heads [mp (isInt .i64) n1 (emV (l1 ++ (q.num 3, y) :: l2)), each (l1 ++ (q.num 3, y) :: l2) innr] ?_
        dsimp only [List.cons_append, List.nil_append]
        refine j_ent (Ent.side hl _) ?_
        refine j_shut (p := p) B' (n := n1) (k := k) (s := s) (ta := some ⟨tb, toff, none⟩) (tc := tc) (hs := hs) ?_
        exact j_again (i + 1, B', data ++ bs, had, a2, c2) ⟨by omega, by rw [hm']; exact hL, fun _ => rfl, by dsimp only; omega, by dsimp only; rw [List.length_append]; omega, fun z hz => (List.mem_append.1 hz).elim (hdb z) (hbt.2 z), hh0, by dsimp only; omega⟩ (by dsimp only; omega) ⟨rfl, rfl, rfl, rfl, rfl, rfl, rfl, rfl, trivial⟩ (by dsimp only; exact Le.ent)
    · -- Write
      have hbs : bstep q ds B' data had i = ⟨(writeM B' (q.num 3) (q.num 4 + i) ((ds.drop (i * 512)).take 512)).1, data, had, (writeM B' (q.num 3) (q.num 4 + i) ((ds.drop (i * 512)).take 512)).2⟩ := by
        rw [bstep, if_neg (by rw [hb0]; simp), hnow]
        simp only [hk4]
        simp
      have hwr := hok.wr hk4
      have htl : ((ds.drop (i * 512)).take 512).length = 512 := by rw [List.length_take, List.length_drop]; omega
      rw [hbs] at hL
      dsimp only at hL
      repeat refine s1 ?_
      refine r_cmpT rfl rfl rfl (by simp [hk4]) rfl ?_
      repeat refine s1 ?_
      refine j_head (mp (isInt .i64) y.2.1 (emI u)) ?_
      refine j_ent (Ent.mapF (κ := Value.int .i64) (ν := Value.int .i64) hu _) ?_
      refine j_heads [mapI y.2.1 y.2.2, each (l1 ++ l2) innr] ?_
      dsimp only [List.cons_append, List.nil_append]
      refine j_ent (Ent.eachUnmid l1 (q.num 3, y) l2 innr _) ?_
      refine j_heads [mp (isInt .i64) n1 (emV (l1 ++ (q.num 3, y) :: l2)), each (l1 ++ (q.num 3, y) :: l2) innr] ?_
      dsimp only [List.cons_append, List.nil_append]
      refine j_ent (Ent.side hl _) ?_
      refine j_shut (p := p) B' (n := n1) (k := k) (s := s) (ta := ta) (tc := tc) (hs := hs) ?_
      refine j_head (brow qa ds.length qc ds) ?_
      refine j_leni (fun hl2 hc2 ha2 => ?_)
      refine r_mulN (n := 512) rfl rfl (by omega) rfl ?_
      repeat refine s1 ?_
      refine r_mulN (n := 512) rfl rfl (by omega) rfl ?_
      refine r_piece (i * 512) ((i + 1) * 512) qc rfl (.inr ⟨.i64, rfl⟩) (.inr ⟨.i64, rfl⟩) (.inl ⟨rfl, rfl⟩) (by omega) (by omega) (Nat.le_refl _) rfl ?_
      have P1 := Ent.piece (a := qa) (n := ds.length) (cap := qc) (lo := i * 512) (hi := (i + 1) * 512) (mx := qc) (E := T.uint8) (s := 1) (xs := ds.map u8) (by omega) (by omega) (by omega) rfl
      have e1 : ((ds.map u8).drop (i * 512 * 1)).take (((i + 1) * 512 - i * 512) * 1) = ((ds.drop (i * 512)).take 512).map u8 := by
        rw [Nat.mul_one, Nat.mul_one, show (i + 1) * 512 - i * 512 = 512 by omega, List.map_take, List.map_drop]
      rw [e1] at P1
      refine j_ent (P1 _) ?_
      generalize (if qc = i * 512 then qa else qa.map (·.add (i * 512 * 1))) = pa
      rw [show (i + 1) * 512 - i * 512 = 512 by omega]
      refine r_call rfl (blt_some rfl) rfl (write_c p B' (q.num 3) (q.num 4 + i) pa 512 (qc - i * 512) ((ds.drop (i * 512)).take 512) htl (by decide) (by omega) Φ) ?_
      intro _ _; dsimp only [bnd, List.cons_append, List.nil_append]
      have hW : (writeM B' (q.num 3) (q.num 4 + i) ((ds.drop (i * 512)).take 512)).1.texts.length ≤ B'.texts.length + 1 := by
        unfold writeM
        split
        · exact Nat.le_succ _
        · split
          · exact Nat.le_succ _
          · split
            · exact Nat.le_succ _
            · simp
      generalize (writeM B' (q.num 3) (q.num 4 + i) ((ds.drop (i * 512)).take 512)) = W at hL hW
      repeat refine s1 ?_
      refine r_icmp rfl rfl rfl rfl ?_
      repeat refine s1 ?_
      refine t_condSN rfl (fun hne => ?_) (fun heq => ?_)
      · rw [if_pos hne] at hL
        rw [← hL]
        repeat refine s1 ?_
        refine r_build (cells := [.int .i64 W.2, i64 i, .slice none 0 0]) rfl (by rfl) rfl ?_
        refine j_ent (Ent.brow0 _) ?_
        refine r_call rfl (blt_some rfl) rfl (repSame_c r.e r.n _ i da none r.d.length dc 0 0 r.d [] hr (by simp) Φ) ?_
        intro _ _; dsimp only [bnd, List.cons_append, List.nil_append]
        repeat refine s1 ?_
        refine j_fin rfl (.cons (rv_tmp rfl) .nil) () (by rfl) (by trivial)
      · rw [if_neg (by simpa using heq)] at hL
        repeat refine s1 ?_
        exact j_again (i + 1, W.1, data, had, oa, oc) ⟨by omega, by rw [hm']; exact hL, fun h3 => by omega, by dsimp only; omega, by dsimp only; omega, hdb, hh0, by dsimp only; omega⟩ (by dsimp only; omega) ⟨rfl, rfl, rfl, rfl, rfl, rfl, rfl, rfl, trivial⟩ (by dsimp only; exact Le.ent)
    · -- Discard
      rcases hw : y.2.2 (q.num 4 + i) with _ | w
      · have hbs : bstep q ds B' data had i = ⟨B', data, had, 0⟩ := by
          rw [bstep, if_neg (by rw [hb0]; simp), hnow]
          simp only [hx2, hw, hk5]
          simp
        rw [hbs] at hL
        dsimp only at hL
        rw [if_neg (by simp)] at hL
        simp only [Option.map_none, Option.getD_none, Option.isSome_none]
        repeat refine s1 ?_
        refine r_cmpF rfl rfl rfl (by simp [hk5]) rfl ?_
        repeat refine s1 ?_
        refine r_cmpT rfl rfl rfl (by simp [hk5]) rfl ?_
        repeat refine s1 ?_
        refine r_cmpF rfl rfl rfl (by simp [hk5]) rfl ?_
        repeat refine s1 ?_
        refine r_cmpF rfl rfl rfl (by simp [hk5]) rfl ?_
        repeat refine s1 ?_
        refine r_cmpF rfl rfl rfl (by simp [hb0]) rfl ?_
        repeat refine s1 ?_
        refine j_head (mp (isInt .i64) y.2.1 (emI u)) ?_
        refine j_ent (Ent.mapF (κ := Value.int .i64) (ν := Value.int .i64) hu _) ?_
        refine j_heads [mapI y.2.1 y.2.2, each (l1 ++ l2) innr] ?_
        dsimp only [List.cons_append, List.nil_append]
        refine j_ent (Ent.eachUnmid l1 (q.num 3, y) l2 innr _) ?_
        refine j_heads [mp (isInt .i64) n1 (emV (l1 ++ (q.num 3, y) :: l2)), each (l1 ++ (q.num 3, y) :: l2) innr] ?_
        dsimp only [List.cons_append, List.nil_append]
        refine j_ent (Ent.side hl _) ?_
        refine j_shut (p := p) B' (n := n1) (k := k) (s := s) (ta := ta) (tc := tc) (hs := hs) ?_
        exact j_again (i + 1, B', data, had, oa, oc) ⟨by omega, by rw [hm']; exact hL, fun h3 => by omega, by dsimp only; omega, by dsimp only; omega, hdb, hh0, by dsimp only; omega⟩ (by dsimp only; omega) ⟨rfl, rfl, rfl, rfl, rfl, rfl, rfl, rfl, trivial⟩ (by dsimp only; exact Le.ent)
      · have hbs : bstep q ds B' data had i = ⟨B'.disc (q.num 3) (q.num 4 + i) x, data, had + 1, 0⟩ := by
          rw [bstep, if_neg (by rw [hb0]; simp), hnow]
          simp only [hx2, hw, hk5]
          simp
        rw [hbs] at hL
        dsimp only at hL
        rw [if_neg (by simp)] at hL
        simp only [Option.map_some, Option.getD_some, Option.isSome_some]
        have hset : Rep (vols (l1 ++ (q.num 3, y.1, y.2.1, upd y.2.2 (q.num 4 + i) none) :: l2)) (upd B'.now (q.num 3) (some (x.1, upd x.2 (q.num 4 + i) none))) := by
          have h6 := hl.set (q.num 3) (volOf (y.1, y.2.1, upd y.2.2 (q.num 4 + i) none))
          rw [vols, ← aset_map volOf, aset_old hl1] at h6
          rw [hx1, hx2]
          exact h6
        have hemV : emV (l1 ++ (q.num 3, y) :: l2) = emV (l1 ++ (q.num 3, y.1, y.2.1, upd y.2.2 (q.num 4 + i) none) :: l2) := by simp [emV, em, encV]
        repeat refine s1 ?_
        refine r_cmpF rfl rfl rfl (by simp [hk5]) rfl ?_
        repeat refine s1 ?_
        refine r_cmpT rfl rfl rfl (by simp [hk5]) rfl ?_
        repeat refine s1 ?_
        refine r_lookup1 rfl rfl (isInt_mk _) rfl rfl ?_
        rw [mget_em kv_inj, hy]
        simp only [Option.map_some, Option.getD_some, encV]
        repeat refine s1 ?_
        refine r_fieldV rfl rfl ?_
        repeat refine s1 ?_
        refine r_delete rfl rfl (isInt_mk _) rfl (blt_any rfl) ?_
        rw [mdel_em kv_inj]
        repeat refine s1 ?_
        refine r_addI rfl rfl (by omega) rfl ?_
        repeat refine s1 ?_
        refine r_cmpF rfl rfl rfl (by simp [hb0]) rfl ?_
        repeat refine s1 ?_
        refine j_head (mp (isInt .i64) y.2.1 (emI (adel u (q.num 4 + i)))) ?_
        refine j_ent (Ent.mapF (κ := Value.int .i64) (ν := Value.int .i64) (hu.del (q.num 4 + i)) _) ?_
        refine j_heads [mapI y.2.1 (upd y.2.2 (q.num 4 + i) none), each (l1 ++ l2) innr] ?_
        dsimp only [List.cons_append, List.nil_append]
        refine j_ent (Ent.eachUnmid l1 (q.num 3, y.1, y.2.1, upd y.2.2 (q.num 4 + i) none) l2 innr _) ?_
        rw [hemV]
        refine j_heads [mp (isInt .i64) n1 (emV (l1 ++ (q.num 3, y.1, y.2.1, upd y.2.2 (q.num 4 + i) none) :: l2)), each (l1 ++ (q.num 3, y.1, y.2.1, upd y.2.2 (q.num 4 + i) none) :: l2) innr] ?_
        dsimp only [List.cons_append, List.nil_append]
        refine j_ent (Ent.side hset _) ?_
        refine j_shut (p := p) (B'.disc (q.num 3) (q.num 4 + i) x) (n := n1) (k := k) (s := s) (ta := ta) (tc := tc) (hs := hs) ?_
        exact j_again (i + 1, B'.disc (q.num 3) (q.num 4 + i) x, data, had + 1, oa, oc) ⟨by omega, by rw [hm']; exact hL, fun h3 => by omega, by dsimp only; omega, by dsimp only; omega, hdb, by dsimp only; omega, by dsimp only; omega⟩ (by dsimp only; omega) ⟨rfl, rfl, rfl, rfl, rfl, rfl, rfl, rfl, trivial⟩ (by dsimp only; exact Le.ent)
end Go.Proofs.Ytbecjgikhfplmaa
