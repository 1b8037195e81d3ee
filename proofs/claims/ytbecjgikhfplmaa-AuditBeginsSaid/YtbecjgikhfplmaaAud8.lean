/-
  The contract of what hears a status. For each input.
-/
import Derived.Test.YtbecjgikhfplmaaAud7
namespace Go.Proofs.Ytbecjgikhfplmaa
open Go Sl
attribute [local irreducible] cw sw J Exit.then Exit.inBlock Exit.noGoto bodyPost swG swL permL
theorem rep_keys {β : Type} {l : List (Int × β)} {f : Int → Option β} (h : Rep l f) (w : Int) : w ∈ l.map Prod.fst ↔ f w ≠ none := by
  rw [← h.eq w]
  constructor
  · intro hw
    obtain ⟨q, hq, rfl⟩ := List.mem_map.1 hw
    rw [mem_alook h.nd (v := q.2) hq]
    exact fun h => by cases h
  · intro hw
    rcases Classical.em (w ∈ l.map Prod.fst) with h | h
    · exact h
    · exact absurd (alook_none h) hw
theorem card_rep {β : Type} {l : List (Int × β)} {f : Int → Option β} (h : Rep l f) : card (fun a => f a ≠ none) = l.length := by
  rw [card_eq h.nd (rep_keys h), List.length_map]
def stBlk (s : Side) (i : Nat) : Int := match s ((i : Int) + 1) with
  | some x => x.1
  | none => 0
noncomputable def stUse (s : Side) (i : Nat) : Int := match s ((i : Int) + 1) with
  | some x => (card fun a => x.2 a ≠ none : Nat)
  | none => 0
noncomputable def statC (B : Bk) : List Int := [chargeM B, B.quota, B.quota] ++ ((List.range 8).map (stBlk B.now) ++ (List.range 8).map (stUse B.now))
noncomputable def statusM (B : Bk) (r : Rp) : Bool := match wordsM (statL (statC B)) with
  | none => false
  | some w => decide (r.e = 0 ∧ r.n = 0 ∧ r.d = w)
abbrev rcells (r : Rp) (da : Option Addr) (dc : Nat) : List Value := [.int .i64 r.e, .int .i64 r.n, .slice da r.d.length dc]
theorem bstatus_c (p : Nat) (B : Bk) (r : Rp) (da : Option Addr) (dc : Nat) (hk8 : ∀ k x, B.now k = some x → 1 ≤ k ∧ k ≤ 8) (hr : ∀ x ∈ r.d, x < 256) (Φ : Base) :
    Sl.Fn Try.prog Φ F.audit_Book_status [.pointer (some ⟨p, 0, none⟩), .agg (rcells r da dc).toArray] [book p B, brow da r.d.length dc r.d] (fun _ : Unit => True) (fun _ => .bool (statusM B r)) (fun _ => [book p B]) := by
  refine fn_of rfl rfl (fun F => ?_)
  dsimp only [argEnv, List.cons_append, List.nil_append, Nat.zero_add, Nat.reduceAdd]
  repeat refine s1 ?_
  refine r_box (cs := rcells r da dc) rfl rfl rfl rfl (fun b3 => ?_)
  repeat refine s1 ?_
  refine t_meet (σ := Nat) (fun p5 => [(5, .pointer (some ⟨p5, 0, none⟩)), (3, .pointer (some ⟨b3, 0, none⟩)), (0, .pointer (some ⟨p, 0, none⟩)), (4, .bool false)])
    (fun p5 => pt p5 (.cells ((chargeM B :: B.quota :: B.quota :: List.replicate 16 0).map (Value.int .i64)).toArray T.reply_Status (0, 0)) :: pt b3 (.cells (rcells r da dc).toArray T.reply_Reply (0, 0)) :: book p B :: brow da r.d.length dc r.d :: F) (fun _ => True) ?_ (fun p5 _ => ?_)
  · refine t_draw2 [book p B] [5, 9] 1 11 [11, 0, 1, 2, 3, 4, 5, 6, 7, 8, 9, 10, 12] mixed (by kernel_rfl) ?_ ?_
    · repeat refine s1 ?_
      refine r_call rfl (blt_some rfl) rfl (charge_c p B Φ) ?_
      intro _ _; dsimp only [bnd, List.cons_append, List.nil_append]
      repeat refine s1 ?_
      refine s_loadBy rfl (fun w h => book_quota h) rfl rfl ?_
      repeat refine s1 ?_
      refine s_loadBy rfl (fun w h => book_quota h) rfl rfl ?_
      refine r_build (cells := (chargeM B :: B.quota :: B.quota :: List.replicate 16 0).map (Value.int .i64)) rfl (by rfl) rfl ?_
      refine r_alloc (cs := (List.replicate 19 0).map (Value.int .i64)) rfl rfl rfl (fun p5 => ?_)
      refine r_storeW rfl rfl (by rfl) (by rfl) (by simp [Value.oneCell']) rfl ?_
      repeat refine s1 ?_
      exact j_meet p5 trivial ⟨rfl, rfl, rfl, rfl, trivial⟩ Le.ent
    · repeat refine s1 ?_
      refine r_alloc (cs := (List.replicate 19 0).map (Value.int .i64)) rfl rfl rfl (fun p5 => ?_)
      repeat refine s1 ?_
      refine r_call rfl (blt_some rfl) rfl (charge_c p B Φ) ?_
      intro _ _; dsimp only [bnd, List.cons_append, List.nil_append]
      repeat refine s1 ?_
      refine s_loadBy rfl (fun w h => book_quota h) rfl rfl ?_
      repeat refine s1 ?_
      refine s_loadBy rfl (fun w h => book_quota h) rfl rfl ?_
      repeat refine s1 ?_
      refine r_build (cells := (chargeM B :: B.quota :: B.quota :: List.replicate 16 0).map (Value.int .i64)) rfl (by rfl) rfl ?_
      repeat refine s1 ?_
      refine r_storeW rfl rfl (by rfl) (by rfl) (by simp [Value.oneCell']) rfl ?_
      repeat refine s1 ?_
      exact j_meet p5 trivial ⟨rfl, rfl, rfl, rfl, trivial⟩ Le.ent
  repeat refine s1 ?_
  refine j_head (book p B) ?_
  refine j_book (fun n k s ta tc hs => ?_)
  refine j_head (side n B.now) ?_
  refine j_side (fun l hl => ?_)
  repeat refine s1 ?_
  refine r_rangeM rfl rfl rfl (fun it => ?_)
  repeat refine s1 ?_
  have hl8 : ∀ e ∈ l, 1 ≤ e.1 ∧ e.1 ≤ 8 ∧ B.now e.1 = some (volOf e.2) := fun e he => by
    have h1 : B.now e.1 = some (volOf e.2) := hl.mem.1 (List.mem_map.2 ⟨e, he, rfl⟩)
    exact ⟨(hk8 _ _ h1).1, (hk8 _ _ h1).2, h1⟩
  refine t_loop (σ := List (Int × Vl) × List Int × Option (Value × Value)) (fun _ => [(25, .pointer (some ⟨it, 0, none⟩)), (5, .pointer (some ⟨p5, 0, none⟩)), (3, .pointer (some ⟨b3, 0, none⟩)), (4, .bool false)])
    (fun y => mit (isInt .i64) it n (emV l) (emV y.1) y.2.2 :: each l innr :: pt p5 (.cells (y.2.1.map (Value.int .i64)).toArray T.reply_Status (0, 0)) :: pt b3 (.cells (rcells r da dc).toArray T.reply_Reply (0, 0)) :: brow da r.d.length dc r.d ::
      pt p (.cells (bcells B n k s (.slice ta B.texts.length tc)).toArray T.audit_Book (0, 0)) :: side k B.kept :: mapI s B.ses :: vec ta B.texts.length tc T.sl_uint8 1 hs :: rows hs B.texts :: F)
    (fun y => (∀ e ∈ y.1, e ∈ l) ∧ (y.1.map Prod.fst).Nodup ∧ y.2.1.length = 19 ∧ y.2.1.take 3 = [chargeM B, B.quota, B.quota] ∧
      ∀ i : Nat, i < 8 → y.2.1[3 + i]? = some (if alook y.1 ((i : Int) + 1) = none then stBlk B.now i else 0) ∧ y.2.1[11 + i]? = some (if alook y.1 ((i : Int) + 1) = none then stUse B.now i else 0)) (fun y => y.1.length)
    (l, chargeM B :: B.quota :: B.quota :: List.replicate 16 0, none) ⟨fun _ h => h, nd_side hl, rfl, rfl, fun i hi => by
      have h1 : ∀ j, j < 16 → (chargeM B :: B.quota :: B.quota :: List.replicate 16 (0 : Int))[3 + j]? = some 0 := fun j hj => by
        rw [show 3 + j = j + 1 + 1 + 1 by omega, List.getElem?_cons_succ, List.getElem?_cons_succ, List.getElem?_cons_succ, List.getElem?_replicate, if_pos hj]
      dsimp only
      rw [h1 i (by omega), show 11 + i = 3 + (8 + i) by omega, h1 (8 + i) (by omega)]
      have h2 : alook l ((i : Int) + 1) = none → B.now ((i : Int) + 1) = none := fun h => by rw [look_side hl, h]; rfl
      constructor
      · split
        · rename_i h; rw [stBlk, h2 h]
        · rfl
      · split
        · rename_i h; rw [stUse, h2 h]
        · rfl⟩ ⟨rfl, rfl, rfl, rfl, trivial⟩ (by dsimp only; exact Le.ent) ?_
  rintro ⟨t, cs, cur⟩ ⟨hsub, hnd, hl19, h3, hcs⟩
  dsimp only at hsub hnd hl19 h3 hcs ⊢
  repeat refine s1 ?_
  refine r_nextM rfl rfl rfl (fun h0 => ?_) (fun t1 pp t2 h1 => ?_)
  · repeat refine s1 ?_
    have := em_nil h0
    subst this
    have hst : cs = statC B := by
      apply List.ext_getElem?
      intro j
      by_cases hj3 : j < 3
      · have e1 : cs[j]? = (cs.take 3)[j]? := by rw [List.getElem?_take]; simp [hj3]
        rw [e1, h3, statC, List.getElem?_append_left (by simp; omega)]
      · by_cases hj11 : j < 11
        · have := (hcs (j - 3) (by omega)).1
          rw [show 3 + (j - 3) = j by omega, if_pos (by rfl)] at this
          rw [this, statC, List.getElem?_append_right (by simp; omega), List.getElem?_append_left (by simp; omega)]
          simp [show j - 3 < 8 by omega]
        · by_cases hj19 : j < 19
          · have := (hcs (j - 11) (by omega)).2
            rw [show 11 + (j - 11) = j by omega, if_pos (by rfl)] at this
            rw [this, statC, List.getElem?_append_right (by simp; omega), List.getElem?_append_right (by simp; omega)]
            simp only [List.length_cons, List.length_nil, List.length_map, List.length_range, List.getElem?_map]
            rw [show j - (0 + 1 + 1 + 1) - 8 = j - 11 by omega, List.getElem?_range (by omega)]
            rfl
          · rw [List.getElem?_eq_none (by omega), List.getElem?_eq_none (by simp [statC]; omega)]
    refine j_ent (Ent.mitEnd.trans (Ent.side hl _)) ?_
    refine j_shut (p := p) B (n := n) (k := k) (s := s) (ta := ta) (tc := tc) (hs := hs) ?_
    refine r_loadW rfl (by simp [hl19]) rfl rfl ?_
    refine r_call rfl (blt_some rfl) rfl (status_c cs hl19 Φ) ?_
    intro wa _
    rw [hst]
    dsimp only [bnd]
    rcases hw : wordsM (statL (statC B)) with _ | w
    · dsimp only [List.cons_append, List.nil_append]
      repeat refine s2 ?_
      refine j_fin rfl (.cons (rv_tmp rfl) .nil) () (by simp [pack, statusM, hw]) (by trivial)
    · dsimp only [List.cons_append, List.nil_append]
      repeat refine s2 ?_
      refine r_build (cells := [i64 0, i64 0, .slice wa w.length w.length]) rfl (by rfl) rfl ?_
      repeat refine s2 ?_
      refine r_call rfl (blt_some rfl) rfl (repSame_c r.e r.n 0 0 da wa r.d.length dc w.length w.length r.d w hr (wordsM_lt _ _ hw).2 Φ) ?_
      intro _ _; dsimp only [bnd, List.cons_append, List.nil_append]
      repeat refine s2 ?_
      refine j_fin rfl (.cons (rv_tmp rfl) .nil) () (by simp [pack, statusM, hw]) (by trivial)
  · obtain ⟨u1, y, u2, rfl, h2, rfl⟩ := em_split h1
    rw [h2]
    have hyl := hsub y (by simp)
    obtain ⟨hk1, hk2, hkn⟩ := hl8 y hyl
    obtain ⟨m1, m2, hm⟩ := List.append_of_mem hyl
    have hndu := hnd
    rw [List.map_append, List.map_cons] at hndu
    have hn2 := List.nodup_append.1 hndu
    have hy2 := (List.nodup_cons.1 hn2.2.1).1
    have hy1 : y.1 ∉ u1.map Prod.fst := fun hmm => hn2.2.2 _ hmm _ (by simp) rfl
    have hnd' : ((u1 ++ u2).map Prod.fst).Nodup := hnd.sublist (List.Sublist.map _ (List.Sublist.append (List.Sublist.refl _) (List.sublist_cons_self _ _)))
    have hnone : alook (u1 ++ u2) y.1 = none := alook_none (by rw [List.map_append]; exact fun hmm => (List.mem_append.1 hmm).elim hy1 hy2)
    have hsame : ∀ a, a ≠ y.1 → alook (u1 ++ y :: u2) a = alook (u1 ++ u2) a := fun a ha => by rw [alook_app, alook_app, alook, if_neg (fun e => ha e.symm)]
    repeat refine s1 ?_
    refine r_entry rfl rfl rfl ?_
    repeat refine s1 ?_
    refine r_alloc (cs := [i64 0, .map none]) rfl rfl rfl (fun b7 => ?_)
    repeat refine s1 ?_
    refine r_storeW (vs := [.int .i64 y.2.1, .map (some y.2.2.1)]) rfl rfl (by rfl) (by rfl) (by simp [Value.oneCell']) rfl ?_
    repeat refine s1 ?_
    refine j_head (each l innr) ?_
    rw [hm]
    refine j_ent (Ent.eachMid m1 y m2 innr _) ?_
    refine j_mapF (fun u hu => ?_)
    obtain ⟨j, hj⟩ : ∃ j : Nat, y.1 = (j : Int) + 1 := ⟨(y.1 - 1).toNat, by omega⟩
    have hj8 : j < 8 := by omega
    refine r_subI rfl rfl (by omega) rfl ?_
    refine j_val (i64 j) (by rw [hj]; congr 1; omega) ?_
    repeat refine s1 ?_
    refine r_subI rfl rfl (by omega) rfl ?_
    refine j_val (i64 j) (by rw [hj]; congr 1; omega) ?_
    repeat refine s1 ?_
    refine r_lenM rfl rfl rfl ?_
    repeat refine s1 ?_
    refine r_idxA rfl rfl (by omega) (by omega) rfl ?_
    rw [show 3 + ((j : Nat) : Int).toNat * 1 = 3 + j by simp]
    refine r_store1 (hl := ⟨(List.map_set (f := Value.int .i64)).symm⟩) rfl rfl (by simp [hl19]; omega) rfl rfl ?_
    repeat refine s1 ?_
    refine r_idxA rfl rfl (by omega) (by omega) rfl ?_
    rw [show 11 + ((j : Nat) : Int).toNat * 1 = 11 + j by simp]
    refine r_store1 (hl := ⟨(List.map_set (f := Value.int .i64)).symm⟩) rfl rfl (by simp [hl19]; omega) rfl rfl ?_
    refine j_head (mp (isInt .i64) y.2.2.1 (emI u)) ?_
    refine j_ent (Ent.mapF (κ := Value.int .i64) (ν := Value.int .i64) hu _) ?_
    refine j_heads [mapI y.2.2.1 y.2.2.2, each (m1 ++ m2) innr] ?_
    dsimp only [List.cons_append, List.nil_append]
    refine j_ent (Ent.eachUnmid m1 y m2 innr _) ?_
    rw [← hm]
    repeat refine s1 ?_
    refine j_again (u1 ++ u2, (cs.set (3 + j) y.2.1).set (11 + j) ((emI u).length : Nat), some (Value.int .i64 y.1, encV y.2)) ⟨fun e he => hsub e (by rcases List.mem_append.1 he with h | h <;> simp [h]), hnd', by simp [hl19], ?_, fun i hi => ?_⟩ (by simp) ⟨rfl, rfl, rfl, rfl, trivial⟩ (by dsimp only; exact Le.ent)
    · dsimp only
      rw [List.take_set_of_le (by omega), List.take_set_of_le (by omega)]
      exact h3
    · dsimp only
      have hlen : (emI u).length = u.length := by simp [emI, em]
      by_cases hij : i = j
      · subst hij
        rw [← hj, if_pos hnone, if_pos hnone, stBlk, stUse, ← hj, hkn]
        constructor
        · rw [List.getElem?_set_ne (by omega), List.getElem?_set_self (by omega)]
          rfl
        · rw [List.getElem?_set_self (by simp; omega), hlen]
          show some ((u.length : Nat) : Int) = some ((card (fun a => y.2.2.2 a ≠ none) : Nat) : Int)
          rw [card_rep hu]
      · rw [List.getElem?_set_ne (by omega), List.getElem?_set_ne (by omega), List.getElem?_set_ne (by omega), List.getElem?_set_ne (by omega), ← hsame _ (by omega)]
        exact hcs i hi
end Go.Proofs.Ytbecjgikhfplmaa
