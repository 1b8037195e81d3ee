/-
  What a book always is: plain facts, no program in sight. For each input.
-/
import Derived.Test.YtbecjgikhfplmaaAud13
namespace Go.Proofs.Ytbecjgikhfplmaa
open Go Sl
theorem nums_set {q : Rq} {o : Nat} {v : Int} (h : ∀ x ∈ q.nums, 0 ≤ x ∧ x ≤ 65535) (hv : 0 ≤ v ∧ v ≤ 65535) : ∀ x ∈ (q.setN o v).nums, 0 ≤ x ∧ x ≤ 65535 := fun x hx => by
  rcases List.mem_or_eq_of_mem_set hx with h1 | h1
  · exact h x h1
  · exact h1 ▸ hv
theorem nums_setK {q : Rq} {o : Nat} {ys : List Nat} : (q.setK o ys).nums = q.nums := by
  unfold Rq.setK; split <;> rfl
theorem dstep_nums {s : Option (List Nat) × Rq × List Nat} {c : Nat} (h1 : ∀ bs, s.1 = some bs → ∀ x ∈ bs, x < 256) (h : ∀ x ∈ s.2.1.nums, 0 ≤ x ∧ x ≤ 65535) : ∀ x ∈ (dstep s c).2.1.nums, 0 ≤ x ∧ x ≤ 65535 := by
  unfold dstep
  split
  · exact nums_set h ⟨by omega, by have := rdU_lt (w := 1) h1; omega⟩
  · exact nums_set h ⟨by omega, by have := rdU_lt (w := 2) h1; omega⟩
  · split
    · exact h
    · split
      · dsimp only; rw [nums_setK]; exact h
      · exact h
structure DInv (N : Nat) (s : Option (List Nat) × Rq × List Nat) : Prop where
  a : ∀ bs, s.1 = some bs → ∀ x ∈ bs, x < 256
  b : ∀ x ∈ s.2.2, x < 256
  c : (left s.1).length ≤ N
  d : s.2.2.length ≤ N
  e : ∀ x ∈ s.2.1.ks, x < 256
  f : ∀ x ∈ s.2.1.nums, 0 ≤ x ∧ x ≤ 65535
theorem dinv_fold {N : Nat} : ∀ (cs : List Nat) (s : Option (List Nat) × Rq × List Nat), DInv N s → DInv N (cs.foldl dstep s)
  | [], _, h => h
  | c :: cs, s, h => dinv_fold cs (dstep s c) (by
    obtain ⟨g1, g2, g3, g4, g5⟩ := dstep_bytes (c := c) h.a h.b h.c h.d h.e
    exact ⟨g1, g2, g3, g4, g5, dstep_nums h.a h.f⟩)
theorem decSt_inv {b : List Nat} (hx : ∀ x ∈ b, x < 256) : DInv b.length (decSt b) := by
  have hs0 : ∀ bs, some b = some bs → ∀ x ∈ bs, x < 256 := fun bs h => by cases h; exact hx
  have hs1 := rdU_bytes (w := 1) hs0
  have hs2 := rdU_bytes (w := 1) hs1
  have hk : (rdU 1 (rdU 1 (some b)).2).1 < 256 := rdU_lt (w := 1) hs1
  have hl2 : (left (rdU 1 (rdU 1 (some b)).2).2).length ≤ b.length := Nat.le_trans (left_le _ _) (Nat.le_trans (left_le _ _) (by simp [left]))
  refine dinv_fold _ _ ⟨hs2, (by intro x hx; cases hx), hl2, Nat.zero_le _, (by intro x hx; rw [List.eq_of_mem_replicate hx]; decide), nums_set (fun x hx => by rw [List.eq_of_mem_replicate hx]; decide) ⟨by omega, by omega⟩⟩
theorem decM_spec {b : List Nat} {q : Rq × List Nat} (hx : ∀ x ∈ b, x < 256) (h : decM b = some q) : rightM q.1 q.2 = true ∧ q.2.length ≤ b.length ∧ (∀ x ∈ q.2, x < 256) ∧ (∀ x ∈ q.1.nums, 0 ≤ x ∧ x ≤ 65535) := by
  have hi := decSt_inv hx
  unfold decM at h
  split at h
  · rename_i he
    cases h
    refine ⟨?_, hi.d, hi.b, hi.f⟩
    unfold encM at he
    split at he
    · assumption
    · cases he
  · cases h
theorem Rq.num_mem (q : Rq) {i : Nat} (h : i < 9) : q.num i ∈ q.nums := by
  have hl : i < q.nums.length := by rw [q.hn]; exact h
  rw [Rq.num, List.getD_eq_getElem?_getD, List.getElem?_eq_getElem hl]
  exact List.getElem_mem hl
theorem rightM_bounds {q : Rq} {ds : List Nat} (h : rightM q ds = true) : boundsM q ds.length = true := by
  unfold rightM at h
  split at h
  · cases h
  · split at h
    · cases h
    · exact eq_true_of_ne_false ‹_›
theorem decR_bytes {b : List Nat} (hx : ∀ x ∈ b, x < 256) : ∀ x ∈ (decR b).1.d, x < 256 := by
  unfold decR repDec
  split
  · intro x h; cases h
  · rename_i r h
    split at h
    · cases h
    · split at h
      · cases h
      · cases h
        exact fun x h => hx x (List.mem_of_mem_drop h)
theorem decQ_len {b : List Nat} (hx : ∀ x ∈ b, x < 256) : (decQ b).2.1.length ≤ b.length := by
  unfold decQ
  rcases h : decM b with _ | q
  · exact Nat.zero_le _
  · exact (decM_spec hx h).2.1
/-- the values of a side name texts that stand; its numbers are those of volumes. -/
def SideOk (n : Nat) (s : Side) : Prop := ∀ k x, s k = some x → (1 ≤ k ∧ k ≤ 8) ∧ ∀ a w, x.2 a = some w → 0 ≤ w ∧ w < (n : Int)
structure Wf (N L : Nat) (H : Int) (B : Bk) : Prop where
  liv : 0 ≤ B.lives ∧ B.lives ≤ L
  few : B.texts.length ≤ N
  txt : ∀ t ∈ B.texts, t.length ≤ 512 ∧ ∀ x ∈ t, x < 256
  now : SideOk B.texts.length B.now
  kept : SideOk B.texts.length B.kept
  hrd : B.heard = H
theorem Wf.up {N L M K : Nat} {H : Int} {B : Bk} (h : Wf N L H B) (h1 : N ≤ M) (h2 : L ≤ K) : Wf M K H B := ⟨⟨h.liv.1, by have := h.liv.2; omega⟩, Nat.le_trans h.few h1, h.txt, h.now, h.kept, h.hrd⟩
theorem SideOk.nil (n : Nat) : SideOk n (fun _ => none) := fun _ _ h => by cases h
theorem SideOk.upd {n : Nat} {s : Side} (h : SideOk n s) {k : Int} {x : Int × (Int → Option Int)} (hk : 1 ≤ k ∧ k ≤ 8) (hx : ∀ a w, x.2 a = some w → 0 ≤ w ∧ w < (n : Int)) : SideOk n (upd s k (some x)) := fun j y hj => by
  unfold Sl.upd at hj
  split at hj
  · rename_i e; subst e; cases hj; exact ⟨hk, hx⟩
  · exact h j y hj
theorem SideOk.del {n : Nat} {s : Side} (h : SideOk n s) {k : Int} : SideOk n (Sl.upd s k none) := fun j y hj => by
  unfold Sl.upd at hj
  split at hj
  · cases hj
  · exact h j y hj
theorem SideOk.up {n m : Nat} {s : Side} (h : SideOk n s) (hm : n ≤ m) : SideOk m s := fun j y hj => ⟨(h j y hj).1, fun a w ha => by have := (h j y hj).2 a w ha; omega⟩
theorem Wf.new (t : Int) : Wf 0 0 0 (Bk.new t) := ⟨⟨Int.le_refl _, Int.le_refl _⟩, Nat.le_refl _, (fun t h => by cases h), SideOk.nil _, SideOk.nil _, rfl⟩
theorem wf_bstep {N L : Nat} {H : Int} {q : Rq} {ds : List Nat} {B : Bk} {data : List Nat} {had : Int} {i : Nat} (h : Wf N L H B) (hd : ∀ x ∈ ds, x < 256) : Wf (N + 1) L H (bstep q ds B data had i).B := by
  have hW : ∀ v a, Wf (N + 1) L H (writeM B v a ((ds.drop (i * 512)).take 512)).1 := fun v a => by
    unfold writeM
    split
    · exact h.up (by omega) (Nat.le_refl _)
    · rename_i x hx
      have hk := h.now v x hx
      split
      · exact h.up (by omega) (Nat.le_refl _)
      · split
        · exact h.up (by omega) (Nat.le_refl _)
        · refine ⟨h.liv, by have := h.few; simp; omega, fun t ht => ?_, ?_, ?_, h.hrd⟩
          · rcases List.mem_append.1 ht with ht | ht
            · exact h.txt t ht
            · rw [List.mem_singleton.1 ht]
              exact ⟨by rw [List.length_take]; omega, fun x hx => hd x (List.mem_of_mem_drop (List.mem_of_mem_take hx))⟩
          · dsimp only
            rw [List.length_append, List.length_singleton]
            refine (h.now.up (Nat.le_succ _)).upd hk.1 (fun b w hb => ?_)
            dsimp only at hb
            unfold Sl.upd at hb
            split at hb
            · cases hb; omega
            · have := hk.2 b w hb; omega
          · dsimp only
            rw [List.length_append, List.length_singleton]
            exact h.kept.up (Nat.le_succ _)
  unfold bstep
  split
  · exact h.up (by omega) (Nat.le_refl _)
  · split
    · exact h.up (by omega) (Nat.le_refl _)
    · rename_i x hx
      have hk := h.now _ x hx
      split
      · exact hW _ _
      · split
        · split
          · refine ⟨h.liv, by have := h.few; dsimp only; omega, h.txt, h.now.upd hk.1 (fun b w hb => ?_), h.kept, h.hrd⟩
            dsimp only at hb
            unfold Sl.upd at hb
            split at hb
            · cases hb
            · exact hk.2 b w hb
          · exact h.up (by omega) (Nat.le_refl _)
        · split
          · exact h.up (by omega) (Nat.le_refl _)
          · exact h.up (by omega) (Nat.le_refl _)
theorem wf_blocksL {L : Nat} {H : Int} {q : Rq} {ds : List Nat} {r : Rp} (hd : ∀ x ∈ ds, x < 256) : ∀ (m i N : Nat) (B : Bk) (data : List Nat) (had : Int), Wf N L H B → Wf (N + m) L H (blocksL q ds r m i B data had).1
  | 0, _, _, _, _, _, h => h
  | m + 1, i, N, B, data, had, h => by
    have h1 := wf_bstep (q := q) (ds := ds) (data := data) (had := had) (i := i) h hd
    unfold blocksL
    split
    · exact h.up (by omega) (Nat.le_refl _)
    · split
      · exact h1.up (by omega) (Nat.le_refl _)
      · have := wf_blocksL (q := q) (r := r) hd m (i + 1) (N + 1) _ (bstep q ds B data had i).data (bstep q ds B data had i).had h1
        exact this.up (by omega) (Nat.le_refl _)
theorem wf_now {N L : Nat} {H : Int} {B : Bk} (h : Wf N L H B) {s : Side} (hs : SideOk B.texts.length s) : Wf N L H { B with now := s } := ⟨h.liv, h.few, h.txt, hs, h.kept, h.hrd⟩
theorem wf_asked {N L : Nat} {H : Int} {B : Bk} {q : Rq} {ds : List Nat} {r : Rp} (h : Wf N L H B) (hd : ∀ x ∈ ds, x < 256) (hn : q.num 0 = 3 ∨ q.num 0 = 4 ∨ q.num 0 = 5 → nblk q ds ≤ 256) : Wf (N + 256) L H (askedM B q ds r).1 := by
  have up : ∀ C : Bk, Wf N L H C → Wf (N + 256) L H C := fun C hC => hC.up (by omega) (Nat.le_refl _)
  unfold askedM
  split
  · exact up _ h
  split
  · exact (wf_blocksL hd _ _ _ _ _ _ h).up (by have := hn (.inl ‹_›); omega) (Nat.le_refl _)
  split
  · exact (wf_blocksL hd _ _ _ _ _ _ h).up (by have := hn (.inr (.inl ‹_›)); omega) (Nat.le_refl _)
  split
  · exact (wf_blocksL hd _ _ _ _ _ _ h).up (by have := hn (.inr (.inr ‹_›)); omega) (Nat.le_refl _)
  split
  · unfold createM
    split
    · exact up _ h
    split
    · exact up _ h
    split
    · exact up _ h
    split
    · exact up _ h
    split
    · exact up _ h
    · exact up _ (wf_now h (h.now.upd ⟨by omega, by omega⟩ (fun a w hw => by cases hw)))
  split
  · unfold removeM
    split
    · exact up _ h
    · exact up _ (wf_now h h.now.del)
  split
  · unfold resizeM
    split
    · exact up _ h
    rename_i x hx
    have hk := h.now _ x hx
    split
    · exact up _ h
    split
    · exact up _ h
    · refine up _ (wf_now h (h.now.upd hk.1 (fun a w hw => ?_)))
      dsimp only [cutAt] at hw
      split at hw
      · cases hw
      · exact hk.2 a w hw
  split
  · unfold snapM
    split
    · exact up _ h
    rename_i x hx
    have hk := h.now _ x hx
    split
    · exact up _ h
    split
    · exact up _ h
    split
    · exact up _ h
    · exact up _ (wf_now h (h.now.upd ⟨by omega, by omega⟩ hk.2))
  split
  · exact up _ ⟨h.liv, h.few, h.txt, h.now, h.now, h.hrd⟩
  split
  · exact up _ ⟨h.liv, h.few, h.txt, h.kept, h.kept, h.hrd⟩
  split
  · unfold rotateM
    split
    · exact up _ h
    split
    · exact up _ ⟨h.liv, h.few, h.txt, h.now, h.kept, h.hrd⟩
    · exact up _ h
  · exact up _ h
theorem wf_admin {N L : Nat} {H : Int} {B : Bk} {q : Rq} {r : Rp} (h : Wf N L H B) : Wf N (L + 1) H (adminM B q r).1 := by
  have up : ∀ C : Bk, Wf N L H C → Wf N (L + 1) H C := fun C hC => hC.up (Nat.le_refl _) (by omega)
  unfold adminM
  split
  · split
    · exact up _ h
    split
    · exact ⟨by have := h.liv; dsimp only; omega, h.few, h.txt, SideOk.nil _, SideOk.nil _, h.hrd⟩
    · exact up _ h
  split
  · unfold openM
    split
    · exact up _ h
    split
    · exact up _ ⟨h.liv, h.few, h.txt, h.now, h.kept, h.hrd⟩
    split
    · exact up _ h
    · exact up _ h
  split
  · exact up _ h
  split
  · exact up _ ⟨h.liv, h.few, h.txt, SideOk.nil _, SideOk.nil _, h.hrd⟩
  split
  · exact up _ h
  split
  · exact up _ h
  split
  · exact up _ ⟨h.liv, h.few, h.txt, h.now, h.kept, h.hrd⟩
  · exact up _ h
theorem nblk_le {b : List Nat} (hx : ∀ x ∈ b, x < 256) (he : (decQ b).2.2 = 0) (hk : (decQ b).1.num 0 = 3 ∨ (decQ b).1.num 0 = 4 ∨ (decQ b).1.num 0 = 5) {N L : Nat} {H : Int} {B : Bk} (h : Wf N L H B) (hN : N ≤ 500000) :
    BOk (decQ b).1 (decQ b).2.1 (nblk (decQ b).1 (decQ b).2.1) B := by
  unfold decQ at *
  rcases hd : decM b with _ | q
  · rw [hd] at he; cases he
  rw [hd] at hk
  dsimp only at hk ⊢
  obtain ⟨h1, h2, h3, h4⟩ := decM_spec hx hd
  have hb := rightM_bounds h1
  have n4 := h4 _ (q.1.num_mem (i := 4) (by decide))
  have n5 := h4 _ (q.1.num_mem (i := 5) (by decide))
  have hN' : nblk q.1 q.2 ≤ 256 ∧ (q.1.num 0 = 4 → nblk q.1 q.2 * 512 = q.2.length) := by
    unfold boundsM at hb
    unfold nblk
    rcases hk with hk | hk | hk
    · rw [if_pos (.inl hk)]
      rw [if_pos hk] at hb
      simp at hb
      exact ⟨by omega, fun h => by omega⟩
    · rw [if_neg (by omega)]
      rw [if_neg (by omega), if_neg (by omega), if_pos hk] at hb
      simp at hb
      exact ⟨by omega, fun h => by omega⟩
    · rw [if_pos (.inr hk)]
      rw [if_neg (by omega), if_pos hk] at hb
      simp at hb
      exact ⟨by omega, fun h => by omega⟩
  refine ⟨?_, hk, hN'.1, hN'.2, ⟨by omega, by omega⟩, h3, h.txt, fun k x a w hx hw => (h.now k x hx).2 a w hw, by have := h.few; omega⟩
  unfold nblk
  split
  · omega
  · rw [if_pos (by omega)]
theorem wf_verdict {N L : Nat} {H : Int} {B : Bk} {rq rp : List Nat} (h : Wf N L H B) (hN : N ≤ 500000) (hx : ∀ x ∈ rq, x < 256) : Wf (N + 256) (L + 1) H (verdictM B rq rp).1 := by
  unfold verdictM
  split
  · exact h.up (by omega) (by omega)
  rename_i hbad
  have he : (decQ rq).2.2 = 0 := Classical.byContradiction fun e => hbad (.inl e)
  have hds : ∀ x ∈ (decQ rq).2.1, x < 256 := by
    unfold decQ
    rcases hd : decM rq with _ | q
    · intro x h; cases h
    · exact (decM_spec hx hd).2.2.1
  dsimp only
  unfold fitsM
  split
  · exact (wf_admin h).up (by omega) (Nat.le_refl _)
  split
  · exact h.up (by omega) (by omega)
  split
  · exact Wf.up ⟨h.liv, h.few, h.txt, h.now, h.kept, h.hrd⟩ (by omega) (by omega)
  split
  · exact h.up (by omega) (by omega)
  · exact (wf_asked h hds (fun hk => (nblk_le hx he hk h hN).le)).up (Nat.le_refl _) (by omega)
end Go.Proofs.Ytbecjgikhfplmaa
