/-
  Part 4 of what a proof of this claim uses: rules, contracts and plain laws. No condition.
-/
import Derived.Test.YtcnpkmdooekmgaaGreatDoorV3
import Derived.Lib.Overlaps
namespace Go.Proofs.YtcnpkmdooekmgaaGreatDoor
open Sl
abbrev Kp := Nat → Option (List Nat)
theorem inn_cons (p : Nat × List Nat) (l : List (Nat × List Nat)) (s : Nat) : inn (p :: l) s = p.2.count s + inn l s := by simp [inn]
theorem inn_app (a b : List (Nat × List Nat)) (s : Nat) : inn (a ++ b) s = inn a s + inn b s := by simp [inn]
theorem inn_mid (a b : List (Nat × List Nat)) (p : Nat × List Nat) (s : Nat) : inn (a ++ p :: b) s = p.2.count s + inn (a ++ b) s := by
  rw [inn_app, inn_app, inn_cons]; omega
theorem inn_pos {l : List (Nat × List Nat)} {s : Nat} : 0 < inn l s ↔ ∃ p ∈ l, s ∈ p.2 := by
  induction l with
  | nil => simp [inn]
  | cons a l ih =>
    rw [inn_cons]
    constructor
    · intro h
      rcases Nat.eq_zero_or_pos (a.2.count s) with h0 | h0
      · obtain ⟨p, hp, hs⟩ := ih.1 (by omega)
        exact ⟨p, by simp [hp], hs⟩
      · exact ⟨a, by simp, List.count_pos_iff.1 h0⟩
    · rintro ⟨p, hp, hs⟩
      rcases List.mem_cons.1 hp with rfl | hp
      · have := List.count_pos_iff.2 hs; omega
      · have := ih.2 ⟨p, hp, hs⟩; omega
theorem inn_le {c : Nat} {s : Nat} : ∀ {l : List (Nat × List Nat)}, (∀ p ∈ l, p.2.length ≤ c) → inn l s ≤ l.length * c
  | [], _ => by simp [inn]
  | a :: l, h => by
    have h1 := h a (by simp)
    have h2 := inn_le (s := s) (l := l) (fun p hp => h p (by simp [hp]))
    have h3 : a.2.count s ≤ a.2.length := List.count_le_length
    rw [inn_cons, List.length_cons, Nat.succ_mul]; omega
theorem inn_perm {l l' : List (Nat × List Nat)} (h : l.Perm l') (s : Nat) : inn l s = inn l' s := by
  unfold inn
  exact (h.map _).sum_nat
theorem rep_perm {β : Type} {l l' : List (Nat × β)} {K : Nat → Option β} (h : Rep l K) (h' : Rep l' K) : l.Perm l' := by
  have n1 : l.Nodup := List.Pairwise.of_map Prod.fst (fun a b hab e => hab (by rw [e])) h.nd
  have n2 : l'.Nodup := List.Pairwise.of_map Prod.fst (fun a b hab e => hab (by rw [e])) h'.nd
  refine (List.perm_ext_iff_of_nodup n1 n2).2 fun ⟨k, v⟩ => ?_
  rw [h.mem, h'.mem]
open Classical in
/-- how often those that are kept have a sector as a kid. -/
noncomputable def innK (K : Kp) (s : Nat) : Nat := if h : ∃ l, Rep l K then inn h.choose s else 0
theorem innK_rep {K : Kp} {l : List (Nat × List Nat)} (h : Rep l K) (s : Nat) : innK K s = inn l s := by
  have hx : ∃ l, Rep l K := ⟨l, h⟩
  unfold innK
  rw [dif_pos hx]
  exact inn_perm (rep_perm hx.choose_spec h) s
theorem innK_zero {K : Kp} {E : Nat → Nat} {f c s : Nat} (h : Kok K E f c) (hs : K s = none) : innK K s = 0 := by
  obtain ⟨l, hl⟩ := h.fin
  rw [innK_rep hl]
  apply Nat.eq_zero_of_not_pos
  intro h0
  obtain ⟨p, hp, hk⟩ := inn_pos.1 h0
  exact h.closed p.1 p.2 (hl.mem.1 hp) s hk hs
theorem innK_pos {K : Kp} (hf : ∃ l, Rep l K) {s : Nat} : 0 < innK K s ↔ ∃ p ks, K p = some ks ∧ s ∈ ks := by
  obtain ⟨l, hl⟩ := hf
  rw [innK_rep hl, inn_pos]
  constructor
  · rintro ⟨p, hp, hs⟩; exact ⟨p.1, p.2, hl.mem.1 hp, hs⟩
  · rintro ⟨p, ks, hp, hs⟩; exact ⟨(p, ks), hl.mem.2 hp, hs⟩
theorem innK_del {K : Kp} (hf : ∃ l, Rep l K) {s : Nat} {ks : List Nat} (hs : K s = some ks) (x : Nat) : innK (upd K s none) x + ks.count x = innK K x := by
  obtain ⟨l, hl⟩ := hf
  obtain ⟨l1, l2, rfl, h1⟩ := alook_split hl.nd (by rw [hl.eq]; exact hs)
  rw [innK_rep (hl.del s), innK_rep hl, adel_old h1, inn_mid]
  dsimp only; omega
/-- what is left when some that were loose were freed. -/
structure Less (K : Kp) (E : Nat → Nat) (K' : Kp) : Prop where
  sub : ∀ s ks, K' s = some ks → K s = some ks
  closed : ∀ s ks, K' s = some ks → ∀ k ∈ ks, K' k ≠ none
  keep : ∀ s, 0 < E s → K' s = K s
theorem Less.refl {K : Kp} {E : Nat → Nat} {f c : Nat} (h : Kok K E f c) : Less K E K := ⟨fun _ _ h => h, h.closed, fun _ _ => rfl⟩
theorem Less.trans {K K' K2 : Kp} {E : Nat → Nat} (h : Less K E K') (h' : Less K' E K2) : Less K E K2 :=
  ⟨fun s ks hs => h.sub s ks (h'.sub s ks hs), h'.closed, fun s hs => (h'.keep s hs).trans (h.keep s hs)⟩
theorem Less.swept {K K' : Kp} {E : Nat → Nat} (h : Less K E K') (t : Tight K' E) : Swept K E K' := ⟨h.sub, h.closed, h.keep, t⟩
theorem Less.ok {K K' : Kp} {E : Nat → Nat} {f c : Nat} (h : Kok K E f c) (s : Less K E K') : Kok K' E f c := by
  obtain ⟨rk, hr⟩ := h.rk
  have up : ∀ x, K' x ≠ none → K x ≠ none := fun x hx => by
    obtain ⟨ks, hk⟩ := Option.ne_none_iff_exists'.1 hx
    rw [s.sub x ks hk]; simp
  exact ⟨rep_sub h.fin s.sub, s.closed, fun x hx => h.rng x (up x hx), fun x hx => by rw [s.keep x hx]; exact h.ext x hx, rk, fun p ks hp k hk => hr p ks (s.sub p ks hp) k hk⟩
/-- a loose one is freed. -/
theorem Less.one {K : Kp} {E : Nat → Nat} {f c s : Nat} (h : Kok K E f c) (h0 : E s = 0) (h1 : innK K s = 0) : Less K E (upd K s none) := by
  refine ⟨fun x ks hx => ?_, fun x ks hx k hk => ?_, fun x hx => ?_⟩
  · simp only [upd] at hx
    split at hx
    · cases hx
    · exact hx
  · simp only [upd] at hx ⊢
    split at hx
    · cases hx
    · split
      · rename_i e
        subst e
        have := (innK_pos h.fin).2 ⟨x, ks, hx, hk⟩
        omega
      · exact h.closed x ks hx k hk
  · simp only [upd]
    split
    · rename_i e; subst e; omega
    · rfl
/-- all that are held by nobody are among some. -/
def Loose (K : Kp) (E : Nat → Nat) (P : Nat → Prop) : Prop := ∀ s, K s ≠ none → E s = 0 → innK K s = 0 → P s
theorem Loose.tight {K : Kp} {E : Nat → Nat} {f c : Nat} (h : Kok K E f c) (l : Loose K E fun _ => False) : Tight K E := fun s hs => by
  rcases Nat.eq_zero_or_pos (E s) with h0 | h0
  · rcases Nat.eq_zero_or_pos (innK K s) with h1 | h1
    · exact (l s hs h0 h1).elim
    · exact .inr ((innK_pos h.fin).1 h1)
  · exact .inl h0
theorem Tight.loose {K : Kp} {E : Nat → Nat} {f c : Nat} (h : Kok K E f c) (t : Tight K E) : Loose K E fun _ => False := fun s hs h0 h1 => by
  rcases t s hs with h2 | h2
  · omega
  · have := (innK_pos h.fin).2 h2; omega
/-- how many kids all have, together. -/
noncomputable def kidsN (l : List (Nat × List Nat)) : Nat := (l.map fun p => p.2.length).sum
open Classical in
noncomputable def kidsK (K : Kp) : Nat := if h : ∃ l, Rep l K then kidsN h.choose else 0
theorem kidsK_rep {K : Kp} {l : List (Nat × List Nat)} (h : Rep l K) : kidsK K = kidsN l := by
  have hx : ∃ l, Rep l K := ⟨l, h⟩
  unfold kidsK
  rw [dif_pos hx]
  exact ((rep_perm hx.choose_spec h).map _).sum_nat
theorem kidsK_del {K : Kp} (hf : ∃ l, Rep l K) {s : Nat} {ks : List Nat} (hs : K s = some ks) : kidsK (upd K s none) + ks.length = kidsK K := by
  obtain ⟨l, hl⟩ := hf
  obtain ⟨l1, l2, rfl, h1⟩ := alook_split hl.nd (by rw [hl.eq]; exact hs)
  rw [kidsK_rep (hl.del s), kidsK_rep hl, adel_old h1]
  simp [kidsN]; omega
theorem kidsN_le {c : Nat} : ∀ {l : List (Nat × List Nat)}, (∀ p ∈ l, p.2.length ≤ c) → kidsN l ≤ l.length * c
  | [], _ => by simp [kidsN]
  | a :: l, h => by
    have h1 := h a (by simp)
    have h2 := kidsN_le (l := l) (fun p hp => h p (by simp [hp]))
    simp only [kidsN, List.map_cons, List.sum_cons, List.length_cons, Nat.succ_mul] at h2 ⊢; omega
/-- what changes of a store do to a disk: at most n writes, all of them where nothing was kept. -/
structure DLe (K : Kp) (f c : Nat) (D D' : Dk) (n : Nat) : Prop where
  size : D'.size = D.size
  sure : D'.sure = D.sure
  reg : D'.reg = D.reg
  plan : D'.plan = D.plan
  left : D'.left ≤ D.left
  shown : ∀ s, ¬ (K s = none ∧ f ≤ s ∧ s < f + c) → D'.shown s = D.shown s
  waits : ∃ ws : List (Nat × List Nat), D'.waits = D.waits ++ ws ∧ ws.length ≤ n ∧ ∀ w ∈ ws, K w.1 = none ∧ f ≤ w.1 ∧ w.1 < f + c
  down : D.down = true → D' = D
  up : D.plan = false → D'.down = D.down
theorem DLe.refl (K : Kp) (f c : Nat) (D : Dk) (n : Nat) : DLe K f c D D n := ⟨rfl, rfl, rfl, rfl, Nat.le_refl _, fun _ _ => rfl, ⟨[], by simp, by simp, by simp⟩, fun _ => rfl, fun _ => rfl⟩
theorem DLe.trans {K K' : Kp} {f c : Nat} {D D' D2 : Dk} {n m : Nat} (h : DLe K f c D D' n) (h' : DLe K' f c D' D2 m) (hk : ∀ s, K' s = none → K s = none) : DLe K f c D D2 (n + m) := by
  obtain ⟨ws, w1, w2, w3⟩ := h.waits
  obtain ⟨vs, v1, v2, v3⟩ := h'.waits
  refine ⟨h'.size.trans h.size, h'.sure.trans h.sure, h'.reg.trans h.reg, h'.plan.trans h.plan, Nat.le_trans h'.left h.left, fun s hs => ?_, ⟨ws ++ vs, by rw [v1, w1]; simp, by simp; omega, fun w hw => ?_⟩, fun hd => ?_, fun hp => ?_⟩
  · rw [h'.shown s (fun hx => hs ⟨hk s hx.1, hx.2⟩), h.shown s hs]
  · rcases List.mem_append.1 hw with hw | hw
    · exact w3 w hw
    · exact ⟨hk _ (v3 w hw).1, (v3 w hw).2⟩
  · have h1 := h.down hd
    rw [h'.down (by rw [h1]; exact hd), h1]
  · rw [h'.up (by rw [h.plan]; exact hp), h.up hp]
theorem DLe.mono {K : Kp} {f c : Nat} {D D' : Dk} {n m : Nat} (h : DLe K f c D D' n) (hn : n ≤ m) : DLe K f c D D' m := by
  obtain ⟨ws, w1, w2, w3⟩ := h.waits
  exact ⟨h.size, h.sure, h.reg, h.plan, h.left, h.shown, ⟨ws, w1, by omega, w3⟩, h.down, h.up⟩
theorem DLe.len {K : Kp} {f c : Nat} {D D' : Dk} {n : Nat} (h : DLe K f c D D' n) : D'.waits.length ≤ D.waits.length + n := by
  obtain ⟨ws, w1, w2, w3⟩ := h.waits
  rw [w1]; simp; omega
theorem DLe.sec {K : Kp} {f c : Nat} {D D' : Dk} {n : Nat} (h : DLe K f c D D' n) {s : Nat} (hs : K s ≠ none) : D'.sec s = D.sec s := by
  unfold Dk.sec; rw [h.shown s (fun hx => hs hx.1)]
theorem Dk.chg_up {D : Dk} (h : ¬ (D.plan = true ∧ D.left = 0)) : D.chg.down = D.down ∧ D.chg.left ≤ D.left := by
  unfold Dk.chg; rw [if_neg h]
  refine ⟨rfl, ?_⟩
  dsimp only; split <;> omega
theorem Dk.chg_same (D : Dk) : D.chg.size = D.size ∧ D.chg.sure = D.sure ∧ D.chg.reg = D.reg ∧ D.chg.plan = D.plan ∧ D.chg.left ≤ D.left ∧ D.chg.shown = D.shown ∧ D.chg.waits = D.waits := by
  unfold Dk.chg; split
  · exact ⟨rfl, rfl, rfl, rfl, Nat.le_refl _, rfl, rfl⟩
  · refine ⟨rfl, rfl, rfl, rfl, ?_, rfl, rfl⟩
    dsimp only; split <;> omega
theorem DLe.wr {K : Kp} {f c : Nat} {D : Dk} {s : Nat} {b : List Nat} (hd : D.down = false) (hp : ¬ (D.plan = true ∧ D.left = 0)) (hs : K s = none) (h1 : f ≤ s) (h2 : s < f + c) : DLe K f c D (D.wr s b) 1 := by
  obtain ⟨e1, e2, e3, e4, e5, e6, e7⟩ := D.chg_same
  refine ⟨e1, e2, e3, e4, e5, fun x hx => ?_, ⟨[(s, b)], rfl, by simp, fun w hw => ?_⟩, fun h => ?_, fun _ => (Dk.chg_up hp).1⟩
  · simp only [Dk.wr, upd]
    split
    · rename_i e; subst e; exact absurd ⟨hs, h1, h2⟩ hx
    · rfl
  · simp at hw; subst hw; exact ⟨hs, h1, h2⟩
  · rw [hd] at h; cases h
theorem DLe.hit {K : Kp} {f c : Nat} {D : Dk} (hd : D.down = false) (hp : D.plan = true) (n : Nat) : DLe K f c D D.chg n := by
  obtain ⟨e1, e2, e3, e4, e5, e6, e7⟩ := D.chg_same
  exact ⟨e1, e2, e3, e4, e5, fun x _ => by rw [e6], ⟨[], by rw [e7]; simp, by simp, by simp⟩, fun h => (by rw [hd] at h; cases h), fun h => (by rw [hp] at h; cases h)⟩
/-- a store: where it stands, what it keeps, who is held from outside; what is to stand in its sectors. -/
structure St where
  (pd pl frm cnt : Nat)
  K : Kp
  E : Nat → Nat
  sec : Nat → List Nat
abbrev St.g (S : St) : Gd := ⟨S.sec, S.K⟩
/-- the disk shows what is to stand there. -/
structure Agr (S : St) (D : Dk) : Prop where
  sec : ∀ s, S.K s ≠ none → D.sec s = S.sec s
  size : S.frm + S.cnt ≤ D.size
  left : D.left ≤ 9223372036854775807
/-- what is known of a node that is kept. -/
structure Inf where
  (p : Nat) (a : Option Addr) (c : Nat)
  kids : List Nat
  held : Int
abbrev kk (l : List (Nat × Inf)) : List (Nat × List Nat) := l.map fun e => (e.1, e.2.kids)
structure SQ (S : St) (δ : Nat → Int) (l : List (Nat × Inf)) : Prop where
  rep : Rep (kk l) S.K
  rng : ∀ e ∈ l, S.frm ≤ e.1 ∧ e.1 < S.frm + S.cnt
  held : ∀ e ∈ l, e.2.held = (S.E e.1 : Int) + (inn (kk l) e.1 : Int) + δ e.1
  few : ∀ e ∈ l, e.2.kids.length ≤ 11
  pos : 1 ≤ S.cnt
  big : S.frm + S.cnt ≤ 65536
  lim : ∀ s, S.E s ≤ 1000000000
  dl : ∀ s, -1000000 ≤ δ s ∧ δ s ≤ 1000000
theorem kk_nd {l : List (Nat × Inf)} {K : Kp} (h : Rep (kk l) K) : (l.map Prod.fst).Nodup := by
  have := h.nd
  simpa [kk, List.map_map, Function.comp_def] using this
theorem kk_look (l : List (Nat × Inf)) (s : Nat) : alook (kk l) s = (alook l s).map Inf.kids := alook_map Inf.kids l s
theorem SQ.at {S : St} {δ : Nat → Int} {l : List (Nat × Inf)} (h : SQ S δ l) (s : Nat) : (alook l s).map Inf.kids = S.K s := by rw [← kk_look, h.rep.eq]
theorem SQ.len {S : St} {δ : Nat → Int} {l : List (Nat × Inf)} (h : SQ S δ l) : l.length = card S.K := by rw [card_rep h.rep]; simp
theorem SQ.most {S : St} {δ : Nat → Int} {l : List (Nat × Inf)} (h : SQ S δ l) : l.length ≤ S.cnt := by
  have := sub_len (a := l.map Prod.fst) (b := (List.range S.cnt).map (S.frm + ·)) (kk_nd h.rep) (fun x hx => by
    obtain ⟨e, he, rfl⟩ := List.mem_map.1 hx
    have := h.rng e he
    exact List.mem_map.2 ⟨e.1 - S.frm, by simp; omega, by omega⟩)
  simpa using this
theorem SQ.inn {S : St} {δ : Nat → Int} {l : List (Nat × Inf)} (h : SQ S δ l) (s : Nat) : Go.Proofs.YtcnpkmdooekmgaaGreatDoor.inn (kk l) s ≤ 720896 := by
  have h1 := inn_le (s := s) (l := kk l) (c := 11) (fun p hp => by
    obtain ⟨e, he, rfl⟩ := List.mem_map.1 hp
    exact h.few e he)
  have h2 := h.most
  have h3 := h.big
  have h4 : (kk l).length = l.length := by simp
  rw [h4] at h1
  have : l.length * 11 ≤ 65536 * 11 := Nat.mul_le_mul_right _ (by omega)
  omega
theorem SQ.hold {S : St} {δ : Nat → Int} {l : List (Nat × Inf)} (h : SQ S δ l) {e : Nat × Inf} (he : e ∈ l) : -1000000 ≤ e.2.held ∧ e.2.held ≤ 1002000000 := by
  have h1 := h.held e he
  have h2 := h.inn e.1
  have h3 := h.lim e.1
  have h4 := h.dl e.1
  omega
/-- one is held more often, or less. -/
def bump (δ : Nat → Int) (k : Nat) (d : Int) : Nat → Int := fun s => if s = k then δ s + d else δ s
theorem kk_same {l1 l2 : List (Nat × Inf)} {k : Nat} {x y : Inf} (h : y.kids = x.kids) : kk (l1 ++ (k, y) :: l2) = kk (l1 ++ (k, x) :: l2) := by simp [kk, h]
theorem SQ.bump {S : St} {δ : Nat → Int} {l1 l2 : List (Nat × Inf)} {k : Nat} {x : Inf} (h : SQ S δ (l1 ++ (k, x) :: l2)) {d : Int} {δ' : Nat → Int} {E' : Nat → Nat} (hk : (E' k : Int) + δ' k = S.E k + δ k + d) (hs : ∀ s, s ≠ k → E' s = S.E s ∧ δ' s = δ s)
    (hl : E' k ≤ 1000000000) (hd : -1000000 ≤ δ' k ∧ δ' k ≤ 1000000) : SQ { S with E := E' } δ' (l1 ++ (k, { x with held := x.held + d }) :: l2) := by
  have hkk : kk (l1 ++ (k, { x with held := x.held + d }) :: l2) = kk (l1 ++ (k, x) :: l2) := kk_same rfl
  have hn := kk_nd h.rep
  rw [List.map_append, List.map_cons] at hn
  have hn2 := List.nodup_append.1 hn
  have hn3 := (List.nodup_cons.1 hn2.2.1).1
  have other : ∀ e : Nat × Inf, e ∈ l1 ∨ e ∈ l2 → e.1 ≠ k := fun e he hek => by
    rcases he with he | he
    · exact hn2.2.2 e.1 (List.mem_map.2 ⟨e, he, rfl⟩) k (by simp) hek
    · exact hn3 (hek ▸ List.mem_map.2 ⟨e, he, rfl⟩)
  refine ⟨by rw [hkk]; exact h.rep, fun e he => ?_, fun e he => ?_, fun e he => ?_, h.pos, h.big, fun s => ?_, fun s => ?_⟩
  · rcases List.mem_append.1 he with he | he
    · exact h.rng e (by simp [he])
    · rcases List.mem_cons.1 he with rfl | he
      · exact h.rng (k, x) (by simp)
      · exact h.rng e (by simp [he])
  · rw [hkk]
    rcases List.mem_append.1 he with he | he
    · have := h.held e (by simp [he])
      obtain ⟨a, b⟩ := hs e.1 (other e (.inl he))
      simp only [a, b]; exact this
    · rcases List.mem_cons.1 he with rfl | he
      · have := h.held (k, x) (by simp)
        simp only at this ⊢
        omega
      · have := h.held e (by simp [he])
        obtain ⟨a, b⟩ := hs e.1 (other e (.inr he))
        simp only [a, b]; exact this
  · rcases List.mem_append.1 he with he | he
    · exact h.few e (by simp [he])
    · rcases List.mem_cons.1 he with rfl | he
      · exact h.few (k, x) (by simp)
      · exact h.few e (by simp [he])
  · by_cases e : s = k
    · subst e; exact hl
    · simp only [(hs s e).1]; exact h.lim s
  · by_cases e : s = k
    · subst e; exact hd
    · rw [(hs s e).2]; exact h.dl s
/-- one more is kept. -/
theorem SQ.add {S : St} {δ δ' : Nat → Int} {l : List (Nat × Inf)} (h : SQ S δ l) {s : Nat} {x : Inf} (hs : S.K s = none) (h1 : S.frm ≤ s) (h2 : s < S.frm + S.cnt) (h3 : x.kids.length ≤ 11)
    (hx : x.held = (S.E s : Int) + (innK S.K s : Int) + (x.kids.count s : Int) + δ' s) (hd : ∀ k, k ≠ s → δ' k = δ k - x.kids.count k) (hd2 : ∀ k, -1000000 ≤ δ' k ∧ δ' k ≤ 1000000) :
    SQ { S with K := upd S.K s (some x.kids) } δ' (l ++ [(s, x)]) := by
  have hkk : kk (l ++ [(s, x)]) = kk l ++ [(s, x.kids)] := by simp [kk]
  have ha : aset (kk l) s x.kids = kk l ++ [(s, x.kids)] := aset_new (by rw [h.rep.eq]; exact hs)
  have hrep := h.rep.set s x.kids
  rw [ha, ← hkk] at hrep
  have hin : ∀ k, Go.Proofs.YtcnpkmdooekmgaaGreatDoor.inn (kk (l ++ [(s, x)])) k = Go.Proofs.YtcnpkmdooekmgaaGreatDoor.inn (kk l) k + x.kids.count k := fun k => by rw [hkk, inn_app]; simp [Go.Proofs.YtcnpkmdooekmgaaGreatDoor.inn]
  refine ⟨hrep, fun e he => ?_, fun e he => ?_, fun e he => ?_, h.pos, h.big, h.lim, hd2⟩
  · rcases List.mem_append.1 he with he | he
    · exact h.rng e he
    · simp at he; subst he; exact ⟨h1, h2⟩
  · rw [hin]
    rcases List.mem_append.1 he with he | he
    · have hne : e.1 ≠ s := fun hh => by
        have : S.K e.1 ≠ none := (rep_keys h.rep e.1).1 (List.mem_map.2 ⟨(e.1, e.2.kids), List.mem_map.2 ⟨e, he, rfl⟩, rfl⟩)
        rw [hh] at this; exact this hs
      have := h.held e he
      have := hd e.1 hne
      dsimp only at *
      omega
    · simp at he; subst he
      have := innK_rep h.rep s
      dsimp only at *
      omega
  · rcases List.mem_append.1 he with he | he
    · exact h.few e he
    · simp at he; subst he; exact h3
/-- one is kept no more. -/
theorem SQ.del {S : St} {δ δ' : Nat → Int} {l1 l2 : List (Nat × Inf)} {s : Nat} {x : Inf} (h : SQ S δ (l1 ++ (s, x) :: l2)) (hd : ∀ k, k ≠ s → δ' k = δ k + x.kids.count k) (hd2 : ∀ k, -1000000 ≤ δ' k ∧ δ' k ≤ 1000000) :
    SQ { S with K := upd S.K s none } δ' (l1 ++ l2) := by
  have hkk : kk (l1 ++ (s, x) :: l2) = kk l1 ++ (s, x.kids) :: kk l2 := by simp [kk]
  have hn := kk_nd h.rep
  rw [List.map_append, List.map_cons] at hn
  have hn2 := List.nodup_append.1 hn
  have hn3 := (List.nodup_cons.1 hn2.2.1).1
  have other : ∀ e : Nat × Inf, e ∈ l1 ∨ e ∈ l2 → e.1 ≠ s := fun e he hek => by
    rcases he with he | he
    · exact hn2.2.2 e.1 (List.mem_map.2 ⟨e, he, rfl⟩) s (by simp) hek
    · exact hn3 (hek ▸ List.mem_map.2 ⟨e, he, rfl⟩)
  have hrep := h.rep.del s
  have hnot : s ∉ (kk l1).map Prod.fst := fun hm => by
    obtain ⟨p, hp, hps⟩ := List.mem_map.1 hm
    obtain ⟨e, he, rfl⟩ := List.mem_map.1 hp
    exact other e (.inl he) hps
  rw [hkk, adel_old hnot] at hrep
  have hrep2 : Rep (kk (l1 ++ l2)) (upd S.K s none) := by simpa [kk] using hrep
  have hin : ∀ k, Go.Proofs.YtcnpkmdooekmgaaGreatDoor.inn (kk (l1 ++ (s, x) :: l2)) k = x.kids.count k + Go.Proofs.YtcnpkmdooekmgaaGreatDoor.inn (kk (l1 ++ l2)) k := fun k => by
    rw [hkk, inn_mid]; simp [kk]
  have sub : ∀ e : Nat × Inf, e ∈ l1 ++ l2 → e ∈ l1 ++ (s, x) :: l2 ∧ (e ∈ l1 ∨ e ∈ l2) := fun e he => by
    rcases List.mem_append.1 he with he | he
    · exact ⟨by simp [he], .inl he⟩
    · exact ⟨by simp [he], .inr he⟩
  refine ⟨hrep2, fun e he => h.rng e (sub e he).1, fun e he => ?_, fun e he => h.few e (sub e he).1, h.pos, h.big, h.lim, hd2⟩
  have h1 := h.held e (sub e he).1
  have h2 := hin e.1
  have h3 := hd e.1 (other e (sub e he).2)
  dsimp only at *
  omega
end Go.Proofs.YtcnpkmdooekmgaaGreatDoor
namespace Go.Proofs.YtcnpkmdooekmgaaGreatDoor
open Sl
abbrev St.wf (S : St) : Prop := Kok S.K S.E S.frm S.cnt
/-- a step of a change: at most n nodes are made. -/
structure Chg (S S' : St) (D D' : Dk) (n : Nat) : Prop where
  pd : S'.pd = S.pd
  pl : S'.pl = S.pl
  frm : S'.frm = S.frm
  cnt : S'.cnt = S.cnt
  E : S'.E = S.E
  le : S.g.le S'.g
  ok : S'.wf
  agr : Agr S' D'
  card : card S'.K ≤ card S.K + n
  dle : DLe S.K S.frm S.cnt D D' n
theorem Chg.refl {S : St} {D : Dk} (h : S.wf) (a : Agr S D) (n : Nat) : Chg S S D D n := ⟨rfl, rfl, rfl, rfl, rfl, Gd.le_refl _, h, a, by omega, DLe.refl ..⟩
theorem Chg.none {S S' : St} {D D' : Dk} {n : Nat} (c : Chg S S' D D' n) (s : Nat) (h : S'.K s = none) : S.K s = none := by
  rcases hk : S.K s with _ | ks
  · rfl
  · have := (c.le s ks hk).1
    rw [show S'.K s = S'.g.K s from rfl, this] at h; cases h
theorem Chg.trans {S S' S2 : St} {D D' D2 : Dk} {n m : Nat} (a : Chg S S' D D' n) (b : Chg S' S2 D' D2 m) : Chg S S2 D D2 (n + m) := by
  have hd := b.dle
  rw [a.frm, a.cnt] at hd
  exact ⟨b.pd.trans a.pd, b.pl.trans a.pl, b.frm.trans a.frm, b.cnt.trans a.cnt, b.E.trans a.E, Gd.le_trans a.le b.le, b.ok, b.agr, by have := a.card; have := b.card; omega, a.dle.trans hd a.none⟩
theorem Chg.mono {S S' : St} {D D' : Dk} {n m : Nat} (a : Chg S S' D D' n) (h : n ≤ m) : Chg S S' D D' m :=
  ⟨a.pd, a.pl, a.frm, a.cnt, a.E, a.le, a.ok, a.agr, by have := a.card; omega, a.dle.mono h⟩
/-- how a change ends: well; there was no room; the disk was down. -/
def Er (d : Bool) (S : St) (D : Dk) (e : Nat) : Prop := e = 5 ∧ card S.K = S.cnt ∧ D.down = d ∨ e = 30 ∧ D.down = true
theorem DLe.upb {K : Kp} {f c : Nat} {D D' : Dk} {n : Nat} (h : DLe K f c D D' n) (h1 : D'.down = false) : D'.down = D.down := by
  rcases hd : D.down with _ | _
  · exact h1
  · rw [h.down hd, hd] at h1; cases h1
theorem Er.ne {d : Bool} {S : St} {D : Dk} {e : Nat} (h : Er d S D e) : e ≠ 0 := by rcases h with ⟨rfl, _⟩ | ⟨rfl, _⟩ <;> simp
theorem Er.lt {d : Bool} {S : St} {D : Dk} {e : Nat} (h : Er d S D e) : e = 5 ∨ e = 30 := by rcases h with ⟨rfl, _⟩ | ⟨rfl, _⟩ <;> simp
def Rf0 : Rf := ⟨0, List.replicate 32 0⟩
theorem Rf0_wt : Rf0.wt := ⟨by decide, by simp [Rf0, bytes]⟩
/-- a node is made. -/
structure Made (S : St) (D : Dk) (n : Nd) (r : Rf) (S' : St) (D' : Dk) : Prop where
  new : S.K r.sec = none
  lo : S.frm ≤ r.sec
  hi : r.sec < S.frm + S.cnt
  wt : r.wt
  sum : r.sum = shaM n.enc
  S' : S' = { S with K := upd S.K r.sec (some (n.kids.map (·.sec))), sec := fun s => if s = r.sec then n.enc else S.sec s }
  D' : D' = D.wr r.sec n.enc
  up : D.down = false
  left : ¬ (D.plan = true ∧ D.left = 0)
theorem Made.chg {S S' : St} {D D' : Dk} {n : Nd} {r : Rf} (m : Made S D n r S' D') (h : S.wf) (a : Agr S D) (hk : ∀ k ∈ n.kids, S.K k.sec ≠ Option.none) : Chg S S' D D' 1 := by
  obtain ⟨new, lo, hi, wt, sum, rfl, rfl, up, left⟩ := m
  have hd : DLe S.K S.frm S.cnt D (D.wr r.sec n.enc) 1 := DLe.wr up left new lo hi
  refine ⟨rfl, rfl, rfl, rfl, rfl, fun s ks hs => ?_, ?_, ⟨fun s hs => ?_, ?_, Nat.le_trans hd.left a.left⟩, ?_, hd⟩
  · have : s ≠ r.sec := fun e => by subst e; rw [show S.g.K r.sec = S.K r.sec from rfl, new] at hs; cases hs
    simp only [upd, if_neg this]
    exact ⟨hs, trivial⟩
  · exact h.mk' new lo hi (fun k hk' => by obtain ⟨r', hr, rfl⟩ := List.mem_map.1 hk'; exact hk r' hr)
  · show (D.wr r.sec n.enc).sec s = if s = r.sec then n.enc else S.sec s
    by_cases e : s = r.sec
    · subst e; simp [Dk.sec, Dk.wr, upd]
    · have : S.K s ≠ none := by simpa [upd, e] using hs
      rw [if_neg e, hd.sec this, a.sec s this]
  · have := a.size
    rw [hd.size]; exact this
  · show card (upd S.K r.sec (some (n.kids.map (·.sec)))) ≤ _
    rw [card_set h.fin new]
    exact Nat.le_refl _
theorem Made.down {S S' : St} {D D' : Dk} {n : Nd} {r : Rf} (m : Made S D n r S' D') : D'.down = false := by
  rw [m.D']
  exact (Dk.chg_up m.left).1.trans m.up
theorem Made.sh {S S' : St} {D D' : Dk} {n : Nd} {r : Rf} {lo h : Nat} {kv : KV} {V : List Nat} (m : Made S D n r S' D') (hw : S.wf) (a : Agr S D) (hn : NSh S.g h n kv V) (hs : Srt kv) (hl : 2 ≤ n.keys.length ∨ n.leaf = true ∧ 1 ≤ n.keys.length)
    (hm : n.keys.length ≤ if n.leaf then 9 else 11) (h0 : lo ≤ n.keys.length) (hk : ∀ k ∈ n.kids, S.K k.sec ≠ Option.none) : Sh S'.g lo h r kv (r.sec :: V) := by
  have hn' := nsh_le (m.chg hw a hk).le hn
  obtain ⟨new, l1, h1, wt, sum, rfl, rfl, up, left⟩ := m
  exact sh_of hn' hs hl hm h0 wt (by simp) sum (by simp [upd])
/-- the kids of a node that stands are kept. -/
theorem nsh_kids_kept {g : Gd} {h : Nat} {n : Nd} {kv : KV} {U : List Nat} (hn : NSh g h n kv U) : ∀ k ∈ n.kids, g.K k.sec ≠ none := fun k hk => by
  obtain ⟨ks, e, _⟩ := nsh_known hn _ (nsh_kids hn k hk)
  rw [e]; simp
/- trees that stand on a store -/
structure Tre where
  p : Nat
  rt : Option Rf
  kv : KV
def TOk (g : Gd) (t : Tre) : Prop := match t.rt with
  | none => t.kv = []
  | some r => Srt t.kv ∧ t.kv ≠ [] ∧ ∃ h U, Sh g 1 h r t.kv U
def hd1 (t : Tre) (s : Nat) : Nat := if t.rt.map (·.sec) = some s then 1 else 0
def hold (ts : List Tre) (s : Nat) : Nat := (ts.map fun t => hd1 t s).sum
theorem hold_app (a b : List Tre) (s : Nat) : hold (a ++ b) s = hold a s + hold b s := by simp [hold]
theorem hold_cons (t : Tre) (b : List Tre) (s : Nat) : hold (t :: b) s = hd1 t s + hold b s := by simp [hold]
theorem hold_mid (a b : List Tre) (t : Tre) (s : Nat) : hold (a ++ t :: b) s = hd1 t s + hold (a ++ b) s := by rw [hold_app, hold_app, hold_cons]; omega
theorem hold_le (s : Nat) : ∀ ts : List Tre, hold ts s ≤ ts.length
  | [] => by simp [hold]
  | t :: ts => by
    have := hold_le s ts
    have h1 : hd1 t s ≤ 1 := by unfold hd1; split <;> omega
    rw [hold_cons, List.length_cons]; omega
theorem hold_pos {s : Nat} : ∀ {ts : List Tre}, 0 < hold ts s → ∃ t ∈ ts, ∃ r, t.rt = some r ∧ r.sec = s
  | [], h => by simp [hold] at h
  | t :: ts, h => by
    rw [hold_cons] at h
    rcases Nat.eq_zero_or_pos (hd1 t s) with h0 | h0
    · obtain ⟨t', ht, r⟩ := hold_pos (s := s) (ts := ts) (by omega)
      exact ⟨t', by simp [ht], r⟩
    · unfold hd1 at h0
      split at h0
      · rename_i e
        rcases hr : t.rt with _ | r
        · rw [hr] at e; cases e
        · rw [hr] at e; exact ⟨t, by simp, r, hr, by simpa using e⟩
      · omega
theorem hold_at {t : Tre} {r : Rf} {ts : List Tre} (ht : t ∈ ts) (hr : t.rt = some r) : 0 < hold ts r.sec := by
  obtain ⟨a, b, rfl⟩ := List.append_of_mem ht
  rw [hold_mid]
  have : hd1 t r.sec = 1 := by simp [hd1, hr]
  omega
structure TsOk (S : St) (ts : List Tre) : Prop where
  E : ∀ s, S.E s = hold ts s
  ok : S.wf
  tight : Tight S.K S.E
  each : ∀ t ∈ ts, TOk S.g t
theorem TOk.sh {g : Gd} {t : Tre} {r : Rf} (h : TOk g t) (hr : t.rt = some r) : Srt t.kv ∧ t.kv ≠ [] ∧ ∃ h U, Sh g 1 h r t.kv U := by
  unfold TOk at h; rw [hr] at h; exact h
theorem TOk.nil {g : Gd} {t : Tre} (h : TOk g t) (hr : t.rt = none) : t.kv = [] := by
  unfold TOk at h; rw [hr] at h; exact h
theorem TOk.srt {g : Gd} {t : Tre} (h : TOk g t) : Srt t.kv := by
  rcases hr : t.rt with _ | r
  · rw [h.nil hr]; exact List.Pairwise.nil
  · exact (h.sh hr).1
theorem TOk.kvok {g : Gd} {t : Tre} (h : TOk g t) : KVok t.kv := by
  rcases hr : t.rt with _ | r
  · rw [h.nil hr]; exact fun x hx => by cases hx
  · obtain ⟨_, _, hh, U, h1, m, V, h2, _⟩ := h.sh hr
    exact nsh_ok h2
theorem TOk.has {g : Gd} {t : Tre} (h : TOk g t) : t.rt.isSome = true ↔ t.kv ≠ [] := by
  rcases hr : t.rt with _ | r
  · simp [h.nil hr]
  · simp [(h.sh hr).2.1]
/-- how many nodes a tree has, at most. -/
theorem TOk.nodes {g : Gd} {t : Tre} (h : TOk g t) : ∃ U : List Nat, 3 * U.length ≤ t.kv.length + 2 ∧ (∀ r, t.rt = some r → r.sec ∈ U) ∧ ∀ s ∈ U, ∃ ks, g.K s = some ks ∧ ∀ k ∈ ks, k ∈ U := by
  rcases hr : t.rt with _ | r
  · exact ⟨[], by simp, by simp, by simp⟩
  · obtain ⟨_, _, hh, U, hs⟩ := h.sh hr
    have := (sh_size hs).1
    exact ⟨U, by omega, fun r' e => by cases e; exact sh_root hs, sh_known hs⟩
theorem TsOk.used {S : St} {ts : List Tre} (h : TsOk S ts) : 3 * card S.K ≤ (ts.map fun t => t.kv.length + 2).sum := by
  have key : ∀ l : List Tre, (∀ t ∈ l, t ∈ ts) → ∃ W : List Nat, 3 * W.length ≤ (l.map fun t => t.kv.length + 2).sum ∧ (∀ t ∈ l, ∀ r, t.rt = some r → r.sec ∈ W) ∧ ∀ s ∈ W, ∀ ks, S.K s = some ks → ∀ k ∈ ks, k ∈ W := by
    intro l
    induction l with
    | nil => intro _; exact ⟨[], by simp, by simp, by simp⟩
    | cons t l ih =>
      intro hl
      obtain ⟨W, w1, w2, w3⟩ := ih (fun x hx => hl x (by simp [hx]))
      obtain ⟨U, u1, u2, u3⟩ := (h.each t (hl t (by simp))).nodes
      refine ⟨U ++ W, ?_, fun x hx r hr => ?_, fun s hs ks hk k hk' => ?_⟩
      · simp only [List.length_append, List.map_cons, List.sum_cons]; omega
      · rcases List.mem_cons.1 hx with rfl | hx
        · exact List.mem_append.2 (.inl (u2 r hr))
        · exact List.mem_append.2 (.inr (w2 x hx r hr))
      · rcases List.mem_append.1 hs with hs | hs
        · obtain ⟨ks', e, hh⟩ := u3 s hs
          rw [show S.g.K s = S.K s from rfl, hk] at e
          obtain rfl := Option.some.inj e
          exact List.mem_append.2 (.inl (hh k hk'))
        · exact List.mem_append.2 (.inr (w3 s hs ks hk k hk'))
  obtain ⟨W, w1, w2, w3⟩ := key ts (fun _ h => h)
  have := card_cover h.ok.fin (U := W) (cover h.ok h.tight (· ∈ W) (fun s hs => by
    rw [h.E] at hs
    obtain ⟨t, ht, r, hr, rfl⟩ := hold_pos hs
    exact w2 t ht r hr) (fun s ks hs hk k hk' => w3 s hs ks hk k hk'))
  omega
/-- the trees whose roots are held stand when what is loose was freed. -/
theorem TOk.less {g : Gd} {E : Nat → Nat} {K' : Kp} {t : Tre} (h : TOk g t) (l : Less g.K E K') (hE : ∀ r, t.rt = some r → 0 < E r.sec) : TOk { g with K := K' } t := by
  rcases hr : t.rt with _ | r
  · unfold TOk; rw [hr]; exact h.nil hr
  · obtain ⟨h1, h2, hh, U, hs⟩ := h.sh hr
    unfold TOk; rw [hr]
    refine ⟨h1, h2, hh, U, ?_⟩
    have h0 : K' r.sec ≠ none := by
      rw [l.keep _ (hE r hr)]
      obtain ⟨ks, hk, _⟩ := sh_known hs _ (sh_root hs)
      rw [hk]; simp
    have := sh_kept l.sub l.closed hs h0
    exact sh_mono (g := g) (g' := { g with K := K' }) (fun s hU => ⟨rfl, this s hU⟩) hs
theorem TOk.le {g g' : Gd} {t : Tre} (h : TOk g t) (l : g.le g') : TOk g' t := by
  rcases hr : t.rt with _ | r
  · unfold TOk; rw [hr]; exact h.nil hr
  · obtain ⟨h1, h2, hh, U, hs⟩ := h.sh hr
    unfold TOk; rw [hr]
    exact ⟨h1, h2, hh, U, sh_le l hs⟩
end Go.Proofs.YtcnpkmdooekmgaaGreatDoor
namespace Go.Proofs.YtcnpkmdooekmgaaGreatDoor
open Go Sl
/-- where a node's rows stand. -/
structure NR where
  (ka : Option Addr) (kc : Nat) (va : Option Addr) (vc : Nat) (ra : Option Addr) (rc : Nat)
abbrev rcells (r : Rf) : List Value := kU r.sec :: r.sum.map u8
abbrev nbx (n : Nd) (x : NR) : List Value := [.bool n.leaf, .slice x.ka n.keys.length x.kc, .slice x.va n.vals.length x.vc, .slice x.ra n.kids.length x.rc]
abbrev nV (n : Nd) (x : NR) : Value := .agg (nbx n x).toArray
abbrev keysA (n : Nd) (x : NR) : Assn := isl x.ka n.keys.length x.kc T.uint64 1 (n.keys.map w64)
abbrev valsA (n : Nd) (x : NR) : Assn := isl x.va n.vals.length x.vc T.a44_uint8 44 (n.vals.flatMap fun v => v.map u8)
abbrev kidsA (n : Nd) (x : NR) : Assn := isl x.ra n.kids.length x.rc T.api_Ref 33 (n.kids.flatMap rcells)
/-- a node's rows, which nobody turns. -/
def node (n : Nd) (x : NR) : Assn := im' (fun im => (keysA n x).sat im Hp.emp ∧ (valsA n x).sat im Hp.emp ∧ (kidsA n x).sat im Hp.emp) (fun hm h => ⟨(keysA n x).mono hm h.1, (valsA n x).mono hm h.2.1, (kidsA n x).mono hm h.2.2⟩)
instance (n : Nd) (x : NR) : Pers (node n x) := ⟨fun _ _ h => h⟩
theorem Ent.node {n : Nd} {x : NR} (L : List Assn) : Ent (keysA n x :: valsA n x :: kidsA n x :: L) (Go.Proofs.YtcnpkmdooekmgaaGreatDoor.node n x :: L) := by
  rintro im h ⟨a1, a2, e1, e2, e3, hb, b1, b2, f1, f2, f3, hc, c1, c2, g1, g2, g3, hd, s⟩
  exact ⟨Hp.emp, h, Hp.emp_le _, Hp.le_refl _, Hp.emp_dis _, ⟨hb, hc, hd⟩, satL_mono (Hp.le_refl _) (Hp.le_trans g2 (Hp.le_trans f2 e2)) s⟩
theorem Ent.unnode {n : Nd} {x : NR} (L : List Assn) : Ent (Go.Proofs.YtcnpkmdooekmgaaGreatDoor.node n x :: L) (keysA n x :: valsA n x :: kidsA n x :: Go.Proofs.YtcnpkmdooekmgaaGreatDoor.node n x :: L) := by
  rintro im h ⟨a1, a2, e1, e2, e3, ⟨hb, hc, hd⟩, s⟩
  exact ⟨Hp.emp, h, Hp.emp_le _, Hp.le_refl _, Hp.emp_dis _, hb, Hp.emp, h, Hp.emp_le _, Hp.le_refl _, Hp.emp_dis _, hc, Hp.emp, h, Hp.emp_le _, Hp.le_refl _, Hp.emp_dis _, hd, a1, a2, e1, e2, e3, ⟨hb, hc, hd⟩, s⟩
/-- how many keys are smaller. -/
def below (ks : List Nat) (k : Nat) : Nat := ks.countP (· < k)
theorem below_at {ks : List Nat} (hr : ks.Pairwise (· < ·)) {k lo : Nat} (hlo : lo ≤ ks.length) (h1 : ∀ j x, j < lo → ks[j]? = some x → x < k) (h2 : ∀ j x, lo ≤ j → ks[j]? = some x → k ≤ x) :
    below ks k = lo ∧ (k ∈ ks ↔ ks[lo]? = some k) := by
  constructor
  · have e : ks = ks.take lo ++ ks.drop lo := (List.take_append_drop lo ks).symm
    unfold below
    rw [e, List.countP_append, List.countP_eq_length.2, List.countP_eq_zero.2]
    · simp; omega
    · intro x hx
      obtain ⟨j, hj⟩ := List.mem_iff_getElem?.1 hx
      rw [List.getElem?_drop] at hj
      have := h2 _ x (by omega) hj
      simp; omega
    · intro x hx
      obtain ⟨j, hj⟩ := List.mem_iff_getElem?.1 hx
      rw [List.getElem?_take] at hj
      split at hj
      · have := h1 j x (by assumption) hj; simpa using this
      · cases hj
  · constructor
    · intro hk
      obtain ⟨j, hj⟩ := List.mem_iff_getElem?.1 hk
      have hjl : lo ≤ j := by
        apply Nat.le_of_not_lt; intro h
        have := h1 j k h hj; omega
      have hjlt := (List.getElem?_eq_some_iff.1 hj).1
      have hx : ks[lo]? = some ks[lo] := List.getElem?_eq_getElem (by omega)
      have h3 := h2 lo _ (Nat.le_refl _) hx
      by_cases he : lo = j
      · rw [he]; exact hj
      · have := (List.pairwise_iff_getElem.1 hr) lo j (by omega) hjlt (by omega)
        obtain ⟨_, hj2⟩ := List.getElem?_eq_some_iff.1 hj
        omega
    · intro h; exact List.mem_of_getElem? h
attribute [local irreducible] cw sw J Exit.then Exit.inBlock Exit.noGoto bodyPost swG swL permL
theorem find_c (n : Nd) (x : NR) (k : Nat) (hr : n.keys.Pairwise (· < ·)) (hl : n.keys.length ≤ 1000000) (Φ : Base) :
    Sl.Fn Tryz.prog Φ F.node_Find [nV n x, w64 k] [node n x] (fun _ : Unit => True) (fun _ => .tuple #[i64 (below n.keys k), .bool (decide (k ∈ n.keys))]) (fun _ => []) := by
  refine fo fun F => ?_
  repeat refine s1 ?_
  refine r_box (cs := nbx n x) rfl rfl rfl rfl (fun t2 => ?_)
  refine j_head (node n x) (j_ent (Ent.unnode _) ?_)
  repeat refine s1 ?_
  refine t_loop (σ := Nat × Nat) (fun s => [(6, i64 s.1), (7, i64 s.2), (2, ptr t2), (1, w64 k)]) (fun _ => [keysA n x, pt t2 (.cells (nbx n x).toArray T.node_Node (0, 0))] ++ F)
    (fun s => s.1 ≤ s.2 ∧ s.2 ≤ n.keys.length ∧ (∀ j y, j < s.1 → n.keys[j]? = some y → y < k) ∧ (∀ j y, s.2 ≤ j → n.keys[j]? = some y → k ≤ y)) (fun s => s.2 - s.1)
    (0, n.keys.length) ⟨Nat.zero_le _, Nat.le_refl _, fun j y h => by simp at h, fun j y h1 h2 => by have := (List.getElem?_eq_some_iff.1 h2).1; simp at h1; omega⟩ ⟨rfl, rfl, rfl, rfl, trivial⟩ (by dsimp only [List.cons_append, List.nil_append]; exact Le.ent) ?_
  rintro ⟨lo, hi⟩ ⟨h1, h2, h3, h4⟩
  dsimp only [List.cons_append, List.nil_append] at *
  refine j_leni (fun _ hc ha => ?_)
  have fin : ∀ lo', lo' ≤ n.keys.length → (∀ j y, j < lo' → n.keys[j]? = some y → y < k) → (∀ j y, lo' ≤ j → n.keys[j]? = some y → k ≤ y) → below n.keys k = lo' ∧ (k ∈ n.keys ↔ n.keys[lo']? = some k) := fun lo' a b c => below_at hr a b c
  repeat refine s1 ?_
  refine r_icmp rfl rfl rfl rfl ?_
  repeat refine s1 ?_
  refine t_condS rfl (fun hlt => ?_) (fun hlt => ?_)
  · obtain ⟨b, off, hab⟩ := ha (by omega)
    obtain ⟨ka, kc, va, vc, ra, rc⟩ := x
    dsimp only at *
    subst hab
    have hm : (lo + hi) / 2 < n.keys.length := by omega
    generalize hmid : (lo + hi) / 2 = mid at *
    have hx : n.keys[mid]? = some n.keys[mid] := List.getElem?_eq_getElem hm
    repeat refine s1 ?_
    refine r_addN (m := lo) (n := hi) rfl rfl (by omega) rfl ?_
    refine r_quoN (m := lo + hi) (n := 2) rfl rfl (by omega) (by rw [i64_nat (by omega)]) rfl ?_
    rw [hmid]
    repeat refine s1 ?_
    refine ix rfl rfl hm ?_
    refine r_loadI (n := n.keys.length) (cap := kc) (E := T.uint64) (s := 1) (xs := n.keys.map w64) (off := off) rfl (j := mid) (v := w64 n.keys[mid]) (by omega) (by rw [List.getElem?_map, hx]; rfl) rfl rfl ?_
    generalize hy : n.keys[mid] = y at *
    have e0 : n.keys[mid] = y ∧ n.keys[mid]? = some y := ⟨hy, by rw [hx]⟩
    have lt : ∀ j z, j < mid → n.keys[j]? = some z → z < y := fun j z hj hz => by
      obtain ⟨hjl, rfl⟩ := List.getElem?_eq_some_iff.1 hz
      have := (List.pairwise_iff_getElem.1 hr) j mid hjl hm hj
      omega
    have gt : ∀ j z, mid ≤ j → n.keys[j]? = some z → y ≤ z := fun j z hj hz => by
      obtain ⟨hjl, rfl⟩ := List.getElem?_eq_some_iff.1 hz
      by_cases hjm : j = mid
      · subst hjm; omega
      · have := (List.pairwise_iff_getElem.1 hr) mid j hm hjl (by omega)
        omega
    repeat' (first | refine s2 ?_ | (refine k_bin ?_; refine r_icmp rfl rfl rfl rfl ?_) | (refine g_mark ?_; first | refine gg_splitD rfl rfl (fun _ => ?_) (fun _ => ?_) | refine gg_splitN rfl rfl (fun _ => ?_) (fun _ => ?_) | refine gg_split rfl rfl (fun _ => ?_) (fun _ => ?_)) | (refine k_cond ?_; first | refine t_condS rfl (fun _ => ?_) (fun _ => ?_) | refine t_condSN rfl (fun _ => ?_) (fun _ => ?_) | refine t_condSB rfl (fun _ => ?_) (fun _ => ?_)))
    · rename_i hyk _
      obtain ⟨e1, e2⟩ := fin mid (by omega) (fun j z a b => by have := lt j z a b; omega) (fun j z a b => by have := gt j z a b; omega)
      refine ix rfl rfl hm ?_
      repeat refine s1 ?_
      refine r_loadI (n := n.keys.length) (cap := kc) (E := T.uint64) (s := 1) (xs := n.keys.map w64) (off := off) rfl (j := mid) (v := w64 y) (by omega) (by rw [List.getElem?_map, e0.2]; rfl) rfl rfl ?_
      repeat refine s1 ?_
      refine r_icmp rfl rfl rfl rfl ?_
      repeat refine s1 ?_
      exact f2 () (hV := by rw [e1, show decide (k ∈ n.keys) = decide ((y : Int) = (k : Int)) by rw [decide_eq_decide, e2, e0.2]; simp; omega])
    · omega
    · rename_i h5 h6
      exact j_again (mid + 1, hi) ⟨by show mid + 1 ≤ hi; omega, h2, fun j z a b => by
        by_cases hj : j = mid
        · subst hj; rw [e0.2] at b; cases b; omega
        · have := lt j z (by show j < mid; simp at a; omega) b; omega, h4⟩ (by show hi - (mid + 1) < hi - lo; omega) ⟨rfl, rfl, rfl, rfl, trivial⟩ (Ent.refl _)
    · rename_i h5 h6
      exact j_again (lo, mid) ⟨by show lo ≤ mid; omega, by show mid ≤ _; omega, h3, fun j z a b => by have := gt j z a b; omega⟩ (by show mid - lo < hi - lo; omega) ⟨rfl, rfl, rfl, rfl, trivial⟩ (Ent.refl _)
  · have ehl : hi = lo := by omega
    subst ehl
    obtain ⟨e1, e2⟩ := fin hi h2 h3 h4
    repeat' (first | refine s2 ?_ | (refine k_bin ?_; refine r_icmp rfl rfl rfl rfl ?_) | (refine g_mark ?_; first | refine gg_splitD rfl rfl (fun _ => ?_) (fun _ => ?_) | refine gg_splitN rfl rfl (fun _ => ?_) (fun _ => ?_) | refine gg_split rfl rfl (fun _ => ?_) (fun _ => ?_)) | (refine k_cond ?_; first | refine t_condS rfl (fun _ => ?_) (fun _ => ?_) | refine t_condSN rfl (fun _ => ?_) (fun _ => ?_) | refine t_condSB rfl (fun _ => ?_) (fun _ => ?_)))
    · rename_i h5
      have hm : hi < n.keys.length := by omega
      obtain ⟨b, off, hab⟩ := ha (by omega)
      obtain ⟨ka, kc, va, vc, ra, rc⟩ := x
      dsimp only at *
      subst hab
      have hx : n.keys[hi]? = some n.keys[hi] := List.getElem?_eq_getElem hm
      refine ix rfl rfl hm ?_
      repeat refine s1 ?_
      refine r_loadI (n := n.keys.length) (cap := kc) (E := T.uint64) (s := 1) (xs := n.keys.map w64) (off := off) rfl (j := hi) (v := w64 n.keys[hi]) (by omega) (by rw [List.getElem?_map, hx]; rfl) rfl rfl ?_
      repeat refine s1 ?_
      refine r_icmp rfl rfl rfl rfl ?_
      repeat refine s1 ?_
      exact f2 () (hV := by rw [e1, show decide (k ∈ n.keys) = decide ((n.keys[hi] : Int) = (k : Int)) by rw [decide_eq_decide, e2, hx]; simp; omega])
    · rename_i h5
      exact f2 () (hV := by rw [e1, show decide (k ∈ n.keys) = false by rw [decide_eq_false_iff_not, e2, List.getElem?_eq_none (by omega)]; simp])
theorem way_c (n : Nd) (x : NR) (k : Nat) (hr : n.keys.Pairwise (· < ·)) (hl : n.keys.length ≤ 1000000) (Φ : Base) :
    Sl.Fn Tryz.prog Φ F.node_Way [nV n x, w64 k] [node n x] (fun _ : Unit => True) (fun _ => i64 (way n.keys k)) (fun _ => []) := by
  have hw : (way n.keys k : Int) = max (if k ∈ n.keys then (below n.keys k : Int) else (below n.keys k : Int) - 1) 0 := by
    have e : n.keys.countP (· ≤ k) = below n.keys k + if k ∈ n.keys then 1 else 0 := by
      generalize n.keys = ks at hr
      induction ks with
      | nil => rfl
      | cons a ks ih =>
        obtain ⟨h1, h2⟩ := List.pairwise_cons.1 hr
        have ih := ih h2
        unfold below at ih ⊢
        rw [List.countP_cons, List.countP_cons, ih]
        by_cases hak : k = a
        · subst hak
          have : k ∉ ks := fun hm => by have := h1 k hm; omega
          simp [this]
        · simp only [List.mem_cons, hak, false_or]
          by_cases hlt : a < k
          · simp [hlt, Nat.le_of_lt hlt]; omega
          · simp [hlt, show ¬ a ≤ k by omega]
    unfold way
    rw [e]
    split <;> omega
  refine fo fun F => ?_
  repeat refine s1 ?_
  refine r_box (cs := nbx n x) rfl rfl rfl rfl (fun t2 => ?_)
  repeat refine s1 ?_
  refine cl (find_c n x k hr hl Φ) ?_
  have hb : below n.keys k ≤ n.keys.length := List.countP_le_length
  by_cases hk : k ∈ n.keys
  · rw [decide_eq_true hk]
    rw [if_pos hk] at hw
    repeat refine s2 ?_
    refine r_max rfl rfl rfl ?_
    repeat refine s1 ?_
    exact f1 () (hV := by show Value.int .i64 (way n.keys k : Int) = _; rw [hw])
  · rw [decide_eq_false hk]
    rw [if_neg hk] at hw
    repeat refine s2 ?_
    refine r_subI (m := (below n.keys k : Int)) (n := 1) rfl rfl (by omega) rfl ?_
    repeat refine s1 ?_
    refine r_max rfl rfl rfl ?_
    repeat refine s1 ?_
    exact f1 () (hV := by show Value.int .i64 (way n.keys k : Int) = _; rw [hw])
theorem whole_c (n : Nd) (x : NR) (hw : if n.leaf then n.vals.length = n.keys.length else n.kids.length = n.keys.length) (Φ : Base) :
    Sl.Fn Tryz.prog Φ F.node_whole [nV n x] [] (fun _ : Unit => True) (fun _ => .bool true) (fun _ => []) := by
  refine fo fun F => ?_
  repeat refine s1 ?_
  refine r_box (cs := nbx n x) rfl rfl rfl rfl (fun t2 => ?_)
  repeat refine s1 ?_
  rcases hl : n.leaf with _ | _
  all_goals
    rw [hl] at hw
    simp only [if_true, if_false, Bool.false_eq_true] at hw
    repeat refine s2 ?_
    refine r_icmp rfl rfl rfl rfl ?_
    repeat refine s1 ?_
    exact f1 () (hV := by simp [hw])
theorem rise_c (a : Option Addr) (c : Nat) (ks : List Nat) (hr : ks.Pairwise (· < ·)) (hl : ks.length ≤ 1000000) (Φ : Base) :
    Sl.Fn Tryz.prog Φ F.node_rise [.slice a ks.length c] [isl a ks.length c T.uint64 1 (ks.map w64)] (fun _ : Unit => True) (fun _ => .bool true) (fun _ => []) := by
  refine fo fun F => ?_
  refine j_leni (fun _ hc ha => ?_)
  repeat refine s1 ?_
  refine t_loop (σ := Nat) (fun i => [(3, i64 i), (0, .slice a ks.length c)]) (fun _ => [isl a ks.length c T.uint64 1 (ks.map w64)] ++ F) (fun i => 1 ≤ i ∧ (i ≤ ks.length ∨ i = 1)) (fun i => ks.length - i) 1 ⟨Nat.le_refl _, .inr rfl⟩ ⟨rfl, rfl, trivial⟩ (Ent.refl _) ?_
  intro i hi
  dsimp only [List.cons_append, List.nil_append]
  repeat refine s1 ?_
  refine r_icmp rfl rfl rfl rfl ?_
  repeat refine s1 ?_
  refine t_condS rfl (fun hlt => ?_) (fun hlt => ?_)
  · obtain ⟨b, off, hab⟩ := ha (by omega)
    subst hab
    have hx : ks[i - 1]? = some ks[i - 1] := List.getElem?_eq_getElem (by omega)
    have hy : ks[i]? = some ks[i] := List.getElem?_eq_getElem (by omega)
    have hlt2 := (List.pairwise_iff_getElem.1 hr) (i - 1) i (by omega) (by omega) (by omega)
    repeat refine s1 ?_
    refine r_subN (m := i) (n := 1) rfl rfl (by omega) (by omega) rfl ?_
    refine ix rfl rfl (by omega) ?_
    refine r_loadI (n := ks.length) (cap := c) (E := T.uint64) (s := 1) (xs := ks.map w64) (off := off) rfl (j := i - 1) (v := w64 ks[i - 1]) (by omega) (by rw [List.getElem?_map, hx]; rfl) rfl rfl ?_
    repeat refine s1 ?_
    refine ix rfl rfl (by omega) ?_
    refine r_loadI (n := ks.length) (cap := c) (E := T.uint64) (s := 1) (xs := ks.map w64) (off := off) rfl (j := i) (v := w64 ks[i]) (by omega) (by rw [List.getElem?_map, hy]; rfl) rfl rfl ?_
    repeat' (first | refine s2 ?_ | (refine k_bin ?_; refine r_icmp rfl rfl rfl rfl ?_) | (refine g_mark ?_; first | refine gg_splitD rfl rfl (fun _ => ?_) (fun _ => ?_) | refine gg_splitN rfl rfl (fun _ => ?_) (fun _ => ?_) | refine gg_split rfl rfl (fun _ => ?_) (fun _ => ?_)) | (refine k_cond ?_; first | refine t_condS rfl (fun _ => ?_) (fun _ => ?_) | refine t_condSN rfl (fun _ => ?_) (fun _ => ?_) | refine t_condSB rfl (fun _ => ?_) (fun _ => ?_)))
    · omega
    · exact j_again (i + 1) ⟨by omega, by omega⟩ (by omega) ⟨rfl, rfl, trivial⟩ (Ent.refl _)
  · repeat refine s1 ?_
    exact f1 ()
end Go.Proofs.YtcnpkmdooekmgaaGreatDoor
namespace Go.Proofs.YtcnpkmdooekmgaaGreatDoor
open Go Sl
/-- a piece of a row that nobody turns, as a row of single cells. -/
theorem Ent.islSub {b off n cap s : Nat} {E : TypeId} {xs : List Value} (k m o : Nat) (ho : off + k = o) (ys : List Value) (E' : TypeId) (hy : (xs.drop k).take m = ys) (hm : ys.length = m) (L : List Assn) :
    Ent (Sl.isl (some ⟨b, off, none⟩) n cap E s xs :: L) (Sl.isl (some ⟨b, o, none⟩) m m E' 1 ys :: Sl.isl (some ⟨b, off, none⟩) n cap E s xs :: L) := by
  subst ho
  rintro im h ⟨p1, p2, pa, pb, pc, ⟨hl, hc, hd⟩, st⟩
  refine ⟨Hp.emp, h, Hp.emp_le _, Hp.le_refl _, Hp.emp_dis _, ⟨by omega, Nat.le_refl _, ?_⟩, p1, p2, pa, pb, pc, ⟨hl, hc, hd⟩, st⟩
  by_cases h0 : m = 0
  · exact .inl h0
  rcases hd with rfl | ⟨b', off', cs, U, fr, he, hb, hx⟩
  · have : xs = [] := List.eq_nil_of_length_eq_zero (by omega)
    subst this; simp at hy; subst hy; simp at hm; omega
  · cases he
    refine .inr ⟨b, off + k, cs, U, fr, rfl, hb, fun j v hj => ?_⟩
    rw [Nat.add_assoc]
    refine hx (k + j) v ?_
    rw [← hy, List.getElem?_take] at hj
    split at hj
    · rw [List.getElem?_drop] at hj; exact hj
    · cases hj
attribute [local irreducible] cw sw J Exit.then Exit.inBlock Exit.noGoto bodyPost swG swL permL
theorem right_c (n : Nd) (x : NR) (hn : n.right) (Φ : Base) : Sl.Fn Tryz.prog Φ F.node_Right [nV n x] [node n x] (fun _ : Unit => True) (fun _ => .bool true) (fun _ => []) := by
  have hm := hn.most
  refine fo fun F => ?_
  repeat refine s1 ?_
  refine r_box (cs := nbx n x) rfl rfl rfl rfl (fun t2 => ?_)
  refine j_head (node n x) (j_ent (Ent.unnode _) ?_)
  rcases hl : n.leaf with _ | _
  · obtain ⟨h1, h2, h3, h4⟩ := hn.inner hl
    rw [show nbx n x = [.bool false, .slice x.ka n.keys.length x.kc, .slice x.va n.vals.length x.vc, .slice x.ra n.kids.length x.rc] by simp [nbx, hl]]
    repeat refine s2 ?_
    refine cl (rise_c x.ka x.kc n.keys hn.rise (by omega) Φ) ?_
    repeat' (first | refine s2 ?_ | (refine k_bin ?_; refine r_icmp rfl rfl rfl rfl ?_) | (refine g_mark ?_; first | refine gg_splitD rfl rfl (fun _ => ?_) (fun _ => ?_) | refine gg_splitN rfl rfl (fun _ => ?_) (fun _ => ?_) | refine gg_split rfl rfl (fun _ => ?_) (fun _ => ?_)) | (refine k_cond ?_; first | refine t_condS rfl (fun _ => ?_) (fun _ => ?_) | refine t_condSN rfl (fun _ => ?_) (fun _ => ?_) | refine t_condSB rfl (fun _ => ?_) (fun _ => ?_)))
    all_goals first
      | omega
      | exact f1 () (hV := by simp [h4])
  · obtain ⟨h1, h2, h3, h4⟩ := hn.leaf hl
    rw [show nbx n x = [.bool true, .slice x.ka n.keys.length x.kc, .slice x.va n.vals.length x.vc, .slice x.ra n.kids.length x.rc] by simp [nbx, hl]]
    repeat refine s2 ?_
    refine cl (rise_c x.ka x.kc n.keys hn.rise (by omega) Φ) ?_
    repeat' (first | refine s2 ?_ | (refine k_bin ?_; refine r_icmp rfl rfl rfl rfl ?_) | (refine g_mark ?_; first | refine gg_splitD rfl rfl (fun _ => ?_) (fun _ => ?_) | refine gg_splitN rfl rfl (fun _ => ?_) (fun _ => ?_) | refine gg_split rfl rfl (fun _ => ?_) (fun _ => ?_)) | (refine k_cond ?_; first | refine t_condS rfl (fun _ => ?_) (fun _ => ?_) | refine t_condSN rfl (fun _ => ?_) (fun _ => ?_) | refine t_condSB rfl (fun _ => ?_) (fun _ => ?_)))
    all_goals first
      | omega
      | exact f1 () (hV := by simp [h4])
theorem pad_c (a : Option Addr) (c : Nat) (b : List Nat) (hb : b.length ≤ 512) (Φ : Base) :
    Sl.Fn Tryz.prog Φ F.octet_Pad [.slice a b.length c, i64 512] [brow a b.length c b] (fun _ : Nat => True) (fun p => .tuple #[.slice (some ⟨p, 0, none⟩) 512 512, i64 0]) (fun p => [brow (some ⟨p, 0, none⟩) 512 512 (padTo 512 b)]) := by
  refine fo fun F => ?_
  repeat' (first | refine s2 ?_ | (refine k_bin ?_; refine r_icmp rfl rfl rfl rfl ?_) | (refine g_mark ?_; first | refine gg_splitD rfl rfl (fun _ => ?_) (fun _ => ?_) | refine gg_splitN rfl rfl (fun _ => ?_) (fun _ => ?_) | refine gg_split rfl rfl (fun _ => ?_) (fun _ => ?_)) | (refine k_cond ?_; first | refine t_condS rfl (fun _ => ?_) (fun _ => ?_) | refine t_condSN rfl (fun _ => ?_) (fun _ => ?_) | refine t_condSB rfl (fun _ => ?_) (fun _ => ?_)))
  · omega
  refine r_makeSlice (n := 512) (c := 512) rfl rfl (by decide) (by decide) (by decide) rfl rfl rfl (fun p => ?_)
  refine j_ent (Ent.unvec0 rfl _) ?_
  repeat refine s1 ?_
  refine r_copyP (cur' := (padTo 512 b).map u8) rfl rfl (by rw [List.length_replicate]; omega) (by simp [Value.oneCell']) (by
    rw [show min b.length 512 = b.length by omega, List.take_of_length_le (l := b.map u8) (by simp), List.take_zero, List.nil_append, List.drop_replicate, Nat.zero_add, padTo, List.map_append, List.map_replicate]; rfl) rfl (blt_any rfl) ?_
  have hl : (padTo 512 b).length = 512 := by rw [padTo, List.length_append, List.length_replicate]; omega
  refine j_ent (Ent.vec0 (n := 512) (s := 1) (by simpa using hl) _) ?_
  refine fz ?_
  repeat refine s1 ?_
  exact f2 p
theorem flat_at {α β : Type} (f : α → List β) (c : Nat) : ∀ (l : List α) (i : Nat) (a : α), (∀ x ∈ l, (f x).length = c) → l[i]? = some a → ((l.flatMap f).drop (i * c)).take c = f a
  | x :: l, 0, a, h, hi => by
    obtain rfl := Option.some.inj hi
    have := h x (by simp)
    rw [Nat.zero_mul, List.drop_zero, List.flatMap_cons, ← this, List.take_left]
  | x :: l, i + 1, a, h, hi => by
    have h0 := h x (by simp)
    rw [List.flatMap_cons, Nat.succ_mul, Nat.add_comm, ← h0, List.drop_length_add_append, h0]
    exact flat_at f c l i a (fun y hy => h y (by simp [hy])) hi
theorem flat_le {l : List (List Nat)} {c : Nat} (h : ∀ r ∈ l, r.length ≤ c) : l.flatten.length ≤ l.length * c := by
  induction l with
  | nil => simp
  | cons a l ih =>
    have h1 := h a (by simp)
    have h2 := ih (fun r hr => h r (by simp [hr]))
    rw [List.flatten_cons, List.length_append, List.length_cons, Nat.succ_mul]; omega
/-- the bytes of a node's first rows. -/
def Nd.out (n : Nd) (i : Nat) : List Nat := n.head ++ (n.rows.take i).flatten
theorem Nd.out_next {n : Nd} {i : Nat} {r : List Nat} (h : n.rows[i]? = some r) : n.out (i + 1) = n.out i ++ r := by
  simp [Nd.out, List.take_add_one, h]
theorem Nd.rows_len {n : Nd} (hw : n.wt) : ∀ r ∈ n.rows, r.length ≤ 52 := by
  intro r hr
  unfold Nd.rows at hr
  split at hr
  · obtain ⟨i, hi⟩ := List.mem_iff_getElem?.1 hr
    rw [List.getElem?_zipWith] at hi
    split at hi
    · rename_i v hv
      cases hi
      have := (hw.vals _ (List.mem_of_getElem? hv)).1
      simp [be_len, this]
    · cases hi
  · obtain ⟨i, hi⟩ := List.mem_iff_getElem?.1 hr
    rw [List.getElem?_zipWith] at hi
    split at hi
    · rename_i v hv
      cases hi
      have := (hw.kids _ (List.mem_of_getElem? hv)).sum.1
      simp [be_len, Rf.enc, this]
    · cases hi
theorem Nd.out_len {n : Nd} (hw : n.wt) (i : Nat) (hi : i ≤ 11) : (n.out i).length ≤ 580 := by
  have h1 := flat_le (l := n.rows.take i) (c := 52) (fun r hr => n.rows_len hw r (List.mem_of_mem_take hr))
  have h2 : (n.rows.take i).length ≤ i := by simp; omega
  have h3 := Nat.mul_le_mul_right 52 h2
  rw [Nd.out, List.length_append, show n.head.length = 8 from rfl]
  omega
end Go.Proofs.YtcnpkmdooekmgaaGreatDoor
namespace Go.Proofs.YtcnpkmdooekmgaaGreatDoor
open Go Sl
attribute [local irreducible] cw sw J Exit.then Exit.inBlock Exit.noGoto bodyPost swG swL permL
theorem out_fits {n : Nd} (hn : n.right) (hw : n.wt) : (n.out n.keys.length).length ≤ 512 := by
  rw [Nd.out, List.length_append, show n.head.length = 8 from rfl]
  have h2 : (n.rows.take n.keys.length).length ≤ n.keys.length := by simp; omega
  cases hl : n.leaf
  · have h3 : ∀ r ∈ n.rows, r.length ≤ 44 := by
      intro r hr
      unfold Nd.rows at hr
      rw [if_neg (by simp [hl])] at hr
      obtain ⟨i, hi⟩ := List.mem_iff_getElem?.1 hr
      rw [List.getElem?_zipWith] at hi
      split at hi
      · rename_i v hv
        cases hi
        have := (hw.kids _ (List.mem_of_getElem? hv)).sum.1
        simp [be_len, Rf.enc, this]
      · cases hi
    have h1 := flat_le (l := n.rows.take n.keys.length) (c := 44) (fun r hr => h3 r (List.mem_of_mem_take hr))
    have := hn.most
    omega
  · have h1 := flat_le (l := n.rows.take n.keys.length) (c := 52) (fun r hr => n.rows_len hw r (List.mem_of_mem_take hr))
    have := (hn.leaf hl).2.1
    omega
theorem flat_in {α β : Type} {f : α → List β} {c : Nat} {l : List α} {i : Nat} {a : α} (h : ∀ x ∈ l, (f x).length = c) (hi : l[i]? = some a) {j : Nat} (hj : j < c) : (l.flatMap f)[i * c + j]? = (f a)[j]? := by
  rw [← flat_at f c l i a h hi, List.getElem?_take, if_pos hj, List.getElem?_drop]
theorem write_c (n : Nd) (x : NR) (hn : n.right) (hw : n.wt) (Φ : Base) : Sl.Fn Tryz.prog Φ F.node_Write [nV n x] [node n x] (fun _ : Nat => True) (fun p => .tuple #[.slice (some ⟨p, 0, none⟩) 512 512, i64 0]) (fun p => [brow (some ⟨p, 0, none⟩) 512 512 n.enc]) := by
  obtain ⟨ka, kc, va, vc, ra, rc⟩ := x
  obtain ⟨x, hx⟩ : ∃ x : NR, x = ⟨ka, kc, va, vc, ra, rc⟩ := ⟨_, rfl⟩
  rw [← hx]
  refine fo fun F => ?_
  have hm := hn.most
  have hfit := out_fits hn hw
  repeat refine s1 ?_
  refine r_box (cs := nbx n x) rfl rfl rfl rfl (fun t2 => ?_)
  repeat refine s1 ?_
  refine cl (right_c n x hn Φ) ?_
  repeat refine s2 ?_
  refine t_meet (σ := Unit) (fun _ => [(4, .int .u8 ((if n.leaf then 1 else 2 : Nat) : Int)), (3, i64 0), (1, ptr t2)]) (fun _ => [pt t2 (.cells (nbx n x).toArray T.node_Node (0, 0)), node n x] ++ F) (fun _ => True) ?_ ?_
  · rcases hl : n.leaf with _ | _
    all_goals
      repeat refine s1 ?_
      exact j_meet () trivial ⟨rfl, rfl, rfl, trivial⟩ (Ent.refl _)
  intro _ _
  dsimp only [List.cons_append, List.nil_append]
  repeat refine s1 ?_
  rw [show IntKind.u8.wrap (n.keys.length : Int) = (n.keys.length : Int) from wrapU8 (by omega)]
  refine r_build1s [.tmp 13, .tmp 17, .const (.int .u8 0), .const (.int .u8 0), .const (.int .u8 0), .const (.int .u8 0), .const (.int .u8 0), .const (.int .u8 0)] ((n.out 0).map u8) rfl (by simp [evL, ev, lk, Nd.out, Nd.head]) (by simp [Value.oneCell']) (by simp [Nd.out, Nd.head]) (by simp [Nd.out, Nd.head]) rfl rfl (fun b5 => ?_)
  refine j_head (node n x) (j_ent (Ent.unnode _) ?_)
  refine j_leni (fun _ _ ha => ?_)
  obtain ⟨kb, ko, hka⟩ := ha hn.pos
  rw [hx] at hka
  dsimp only at hka
  subst hka
  rw [hx]
  clear hx
  dsimp only
  repeat refine s1 ?_
  have hkl : ∀ i, i < n.keys.length → n.keys[i]? = some (n.keys.getD i 0) := fun i hi => by rw [List.getD_eq_getElem?_getD, List.getElem?_eq_getElem hi]; rfl
  refine t_loop (σ := Nat × Option Addr × Nat) (fun s => [(22, i64 s.1), (21, i64 n.keys.length), (20, .slice (some ⟨kb, ko, none⟩) n.keys.length kc), (5, .slice s.2.1 (n.out s.1).length s.2.2), (3, i64 0), (1, ptr t2)])
    (fun s => [vec s.2.1 (n.out s.1).length s.2.2 T.uint8 1 ((n.out s.1).map u8), keysA n ⟨some ⟨kb, ko, none⟩, kc, va, vc, ra, rc⟩, valsA n ⟨some ⟨kb, ko, none⟩, kc, va, vc, ra, rc⟩, kidsA n ⟨some ⟨kb, ko, none⟩, kc, va, vc, ra, rc⟩, pt t2 (.cells (nbx n ⟨some ⟨kb, ko, none⟩, kc, va, vc, ra, rc⟩).toArray T.node_Node (0, 0))] ++ F)
    (fun s => s.1 ≤ n.keys.length) (fun s => n.keys.length - s.1) (0, some ⟨b5, 0, none⟩, 8) (Nat.zero_le _) ⟨rfl, rfl, rfl, rfl, rfl, rfl, trivial⟩ (by dsimp only [List.cons_append, List.nil_append]; rw [show (n.out 0).length = 8 from rfl]; exact Le.ent) ?_
  rintro ⟨i, a, c⟩ hi
  dsimp only [List.cons_append, List.nil_append] at *
  have hol := n.out_len hw i (by omega)
  repeat refine s1 ?_
  refine r_icmp rfl rfl rfl rfl ?_
  repeat refine s1 ?_
  refine t_condS rfl (fun hlt => ?_) (fun hlt => ?_)
  · have hk := hkl i (by omega)
    have hk64 := hw.keys _ (List.mem_of_getElem? hk)
    generalize hkk : n.keys.getD i 0 = k at *
    repeat refine s1 ?_
    refine ix rfl rfl (by omega) ?_
    refine r_loadI (n := n.keys.length) (cap := kc) (E := T.uint64) (s := 1) (xs := n.keys.map w64) (off := ko) rfl (j := i) (v := w64 k) (by omega) (by rw [List.getElem?_map, hk]; rfl) rfl rfl ?_
    repeat refine s1 ?_
    refine cx (put64_c k (by omega) Φ) fun b6 _ => ?_
    refine r_append (n := (n.out i).length) (m := 8) (s := 1) (xs := (n.out i).map u8) (ys := (be 8 k).map u8) rfl rfl (by decide) (by rfl) (by simp [Value.oneCell']) (by omega) (by omega) rfl rfl (fun a2 c2 _ => ?_)
    repeat refine s1 ?_
    have hr : ∀ {r : List Nat}, n.rows[i]? = some (be 8 k ++ r) → n.out (i + 1) = n.out i ++ (be 8 k ++ r) := fun h => Nd.out_next h
    refine t_condSB rfl (fun hl => ?_) (fun hl => ?_)
    · obtain ⟨_, _, hvl, _⟩ := hn.leaf hl
      have hv : n.vals[i]? = some n.vals[i] := List.getElem?_eq_getElem (by omega)
      have hvb := hw.vals _ (List.mem_of_getElem? hv)
      generalize n.vals[i] = v at *
      have hrow : n.rows[i]? = some (be 8 k ++ v) := by unfold Nd.rows; rw [if_pos hl, List.getElem?_zipWith, hk, hv]
      have ho := hr hrow
      have hlen : (n.out i).length + 8 + 44 = (n.out (i + 1)).length := by rw [ho]; simp [be_len, hvb.1]
      have hmap : (n.out i).map u8 ++ (be 8 k).map u8 ++ v.map u8 = (n.out (i + 1)).map u8 := by rw [ho]; simp
      refine j_head (valsA n ⟨some ⟨kb, ko, none⟩, kc, va, vc, ra, rc⟩) ?_
      refine j_leni (fun _ _ hb => ?_)
      dsimp only at hb
      obtain ⟨vb, vo, hva⟩ := hb (by omega)
      subst hva
      have hc44 : ∀ y ∈ n.vals, (y.map u8).length = 44 := fun y hy => by rw [List.length_map]; exact (hw.vals y hy).1
      repeat refine s1 ?_
      refine ix rfl rfl (by omega) ?_
      repeat refine s1 ?_
      refine j_head (valsA n ⟨some ⟨kb, ko, none⟩, kc, some ⟨vb, vo, none⟩, vc, ra, rc⟩) ?_
      refine j_ent (Ent.islSub (i * 44) 44 (vo + i * 44) rfl (v.map u8) T.uint8 (flat_at _ 44 n.vals i v hc44 hv) (by simpa using hvb.1) _) ?_
      refine r_append (n := (n.out i).length + 8) (m := 44) (s := 1) (xs := (n.out i).map u8 ++ (be 8 k).map u8) (ys := v.map u8) rfl rfl (by decide) (by rfl) (by simp [Value.oneCell']) (by omega) (by omega) rfl rfl (fun a3 c3 _ => ?_)
      rw [hlen, hmap]
      repeat refine s1 ?_
      exact j_again (i + 1, a3, c3) (by show i + 1 ≤ _; omega) (by show n.keys.length - (i + 1) < n.keys.length - i; omega) ⟨rfl, rfl, rfl, rfl, rfl, rfl, trivial⟩ (by dsimp only [List.cons_append, List.nil_append]; exact Le.ent)
    · obtain ⟨_, _, hvl, _⟩ := hn.inner hl
      have hv : n.kids[i]? = some n.kids[i] := List.getElem?_eq_getElem (by omega)
      have hvb := hw.kids _ (List.mem_of_getElem? hv)
      generalize n.kids[i] = v at *
      have hrow : n.rows[i]? = some (be 8 k ++ v.enc) := by unfold Nd.rows; rw [if_neg (by simp [hl]), List.getElem?_zipWith, hk, hv]
      have ho := hr hrow
      have hlen : (n.out i).length + 8 + 4 + 32 = (n.out (i + 1)).length := by rw [ho]; simp [be_len, Rf.enc, hvb.sum.1]
      have hmap : (n.out i).map u8 ++ (be 8 k).map u8 ++ (be 4 v.sec).map u8 ++ v.sum.map u8 = (n.out (i + 1)).map u8 := by rw [ho]; simp [Rf.enc]
      refine j_head (kidsA n ⟨some ⟨kb, ko, none⟩, kc, va, vc, ra, rc⟩) ?_
      refine j_leni (fun _ _ hb => ?_)
      dsimp only at hb
      obtain ⟨vb, vo, hva⟩ := hb (by omega)
      subst hva
      have hc33 : ∀ y ∈ n.kids, (rcells y).length = 33 := fun y hy => by simp [(hw.kids y hy).sum.1]
      repeat refine s1 ?_
      refine ix rfl rfl (by omega) ?_
      repeat refine s1 ?_
      refine r_loadI (n := n.kids.length) (cap := rc) (E := T.api_Ref) (s := 33) (xs := n.kids.flatMap rcells) (off := vo) rfl (j := i * 33 + 0) (v := kU v.sec) (by omega) (flat_in hc33 hv (by omega)) rfl rfl ?_
      repeat refine s1 ?_
      refine cx (put32_c v.sec (by have := hvb.sec; omega) Φ) fun b7 _ => ?_
      refine r_append (n := (n.out i).length + 8) (m := 4) (s := 1) (xs := (n.out i).map u8 ++ (be 8 k).map u8) (ys := (be 4 v.sec).map u8) rfl rfl (by decide) (by rfl) (by simp [Value.oneCell']) (by omega) (by omega) rfl rfl (fun a3 c3 _ => ?_)
      repeat refine s1 ?_
      refine ix rfl rfl (by omega) ?_
      repeat refine s1 ?_
      refine j_head (kidsA n ⟨some ⟨kb, ko, none⟩, kc, va, vc, some ⟨vb, vo, none⟩, rc⟩) ?_
      refine j_ent (Ent.islSub (i * 33 + 1) 32 (vo + i * 33 + 1) (by omega) (v.sum.map u8) T.uint8 (by
        have := flat_at rcells 33 n.kids i v hc33 hv
        rw [← List.drop_drop, show 32 = 33 - 1 from rfl, ← List.drop_take, this]; rfl) (by simpa using hvb.sum.1) _) ?_
      refine r_append (n := (n.out i).length + 8 + 4) (m := 32) (s := 1) (xs := (n.out i).map u8 ++ (be 8 k).map u8 ++ (be 4 v.sec).map u8) (ys := v.sum.map u8) rfl rfl (by decide) (by rfl) (by simp [Value.oneCell']) (by omega) (by omega) rfl rfl (fun a4 c4 _ => ?_)
      rw [hlen, hmap]
      repeat refine s1 ?_
      exact j_again (i + 1, a4, c4) (by show i + 1 ≤ _; omega) (by show n.keys.length - (i + 1) < n.keys.length - i; omega) ⟨rfl, rfl, rfl, rfl, rfl, rfl, trivial⟩ (by dsimp only [List.cons_append, List.nil_append]; exact Le.ent)
  · have e : i = n.keys.length := by omega
    subst e
    have hout : padTo 512 (n.out n.keys.length) = n.enc := by
      rw [Nd.enc, Nd.out, List.take_of_length_le]
      unfold Nd.rows; split <;> simp <;> omega
    repeat refine s1 ?_
    refine fz ?_
    refine cx (pad_c a c (n.out n.keys.length) hfit Φ) fun p _ => ?_
    rw [hout]
    repeat refine s1 ?_
    exact f2 p
end Go.Proofs.YtcnpkmdooekmgaaGreatDoor
namespace Go.Proofs.YtcnpkmdooekmgaaGreatDoor
open Go Sl
theorem r_build0 {X : Cx} {e : Env} {L : List Assn} {A : List Assn} {S : List Nat} {ops : Array Oper} {k : Nat} {l : List Oper} {R : Act → World → Prop} {d : Nat} {T : TypeId} {pos : String} {af : Array Edge} {t E : TypeId} {s by_ : Nat} {z : Value}
    [tu : TUnd X.P t (.slice E)] [te : TElem X.P E s by_ z] (hs : S.contains k = false) (hd : Nat.blt d X.n = true) [st : ∀ b, Stay A (pt b (.cells [].toArray E (0, 0)) :: L)]
    (h : ∀ b, J X ((d, .slice (some ⟨b, 0, none⟩) 0 0) :: e) (vec (some ⟨b, 0, none⟩) 0 0 E s [] :: L) (sw X.P (Holds X.Φ A) S ops R (k + 1) l)) :
    J X e L (sw X.P (Holds X.Φ A) S ops R k (⟨some d, .buildSlice t 0 #[], T, pos, af, none⟩ :: l)) :=
  r_buildS (cells := []) (s := s) hs hd (by simp) (fun a w m => by
    obtain ⟨i, hi, h1, h2, h3⟩ := te.ex
    have hsz : ∀ w, (sizeOf E).run X.P w = .ok s w := fun w => by simp [sizeOf, typeInfo, hi, h1, go_sem]
    simp only [Instr.buildSlice, Sem.run_bind, tu.run, Result.andThen_ok, hsz, Nat.zero_mul, if_true]
    simp [Instr.fill, go_sem, newRow, newObj]
    rfl) h
/-- what is known of a row is known of each piece of it. -/
theorem Ent.islPiece {a : Option Addr} {n cap s : Nat} {E : TypeId} {xs : List Value} {lo hi : Nat} (h1 : lo ≤ hi) (h2 : hi ≤ n) (h3 : n ≤ cap) (L : List Assn) :
    Ent (Sl.isl a n cap E s xs :: L) (Sl.isl (if cap = lo then a else a.map (·.add (lo * s))) (hi - lo) (cap - lo) E s ((xs.drop (lo * s)).take ((hi - lo) * s)) :: Sl.isl a n cap E s xs :: L) := by
  rintro im h ⟨p1, p2, pa, pb, pc, ⟨hl, hc, hd⟩, st⟩
  refine ⟨Hp.emp, h, Hp.emp_le _, Hp.le_refl _, Hp.emp_dis _, ⟨?_, by omega, ?_⟩, p1, p2, pa, pb, pc, ⟨hl, hc, hd⟩, st⟩
  · rw [List.length_take, List.length_drop, hl]
    have : hi * s ≤ n * s := Nat.mul_le_mul_right _ h2
    have := Nat.sub_mul hi lo s
    have := Nat.mul_le_mul_right s h1
    omega
  · by_cases h0 : hi = lo
    · exact .inl (by omega)
    rcases hd with rfl | ⟨b', off', cs, U, fr, he, hb, hx⟩
    · omega
    · subst he
      refine .inr ⟨b', off' + lo * s, cs, U, fr, ?_, hb, fun j v hj => ?_⟩
      · rw [if_neg (by omega)]; simp [Addr.add]
      rw [Nat.add_assoc]
      refine hx (lo * s + j) v ?_
      rw [List.getElem?_take] at hj
      split at hj
      · rw [List.getElem?_drop] at hj; exact hj
      · cases hj
attribute [local irreducible] cw sw J Exit.then Exit.inBlock Exit.noGoto bodyPost swG swL permL
theorem cloneK_c (a : Option Addr) (n cap : Nat) (vs : List Value) (h1 : ∀ v ∈ vs, v.oneCell' = true) (hb : n ≤ 1000000) (Φ : Base) :
    Sl.Fn Tryz.prog Φ F.slices_Clone_uint64_uint64 [.slice a n cap] [isl a n cap T.uint64 1 vs] (fun _ : Option Addr × Nat => True) (fun p => .slice p.1 n p.2) (fun p => [vec p.1 n p.2 T.uint64 1 vs]) := by
  refine fo fun F => j_leni (fun hl hc ha => ?_)
  repeat refine s1 ?_
  refine r_seq rfl rfl rfl ?_
  repeat refine s1 ?_
  cases a with
  | none =>
    have hn : n = 0 := by
      rcases Nat.eq_zero_or_pos n with h | h
      · exact h
      · obtain ⟨b, off, h⟩ := ha h; cases h
    subst hn
    have hv : vs = [] := List.eq_nil_of_length_eq_zero (by simpa using hl)
    subst hv
    refine t_condT rfl rfl ?_
    repeat refine s1 ?_
    refine j_ent (Ent.vecNil (E := T.uint64) (s := 1) _) ?_
    exact f1 (none, 0)
  | some ad =>
    refine t_condF rfl rfl ?_
    repeat refine s1 ?_
    refine r_build0 (s := 1) rfl rfl (fun b => ?_)
    repeat refine s1 ?_
    refine r_append (n := 0) (m := n) (s := 1) (xs := []) (ys := vs) rfl rfl (by decide) (by rfl) h1 (by omega) (by omega) rfl rfl (fun a' cap' hn => ?_)
    repeat refine s1 ?_
    rw [Nat.zero_add, List.nil_append]
    exact f1 (a', cap')
theorem partK_c (a : Option Addr) (n cap fr to : Nat) (vs : List Value) (h1 : ∀ v ∈ vs, v.oneCell' = true) (hb : n ≤ 1000000) (h2 : fr ≤ to) (h3 : to ≤ n ∨ n = 0) (hto : to ≤ 1000000) (Φ : Base) :
    Sl.Fn Tryz.prog Φ F.node_part_uint64 [.slice a n cap, i64 fr, i64 to] [isl a n cap T.uint64 1 vs] (fun _ : Option Addr × Nat => True) (fun p => .slice p.1 (min to n - min fr n) p.2) (fun p => [vec p.1 (min to n - min fr n) p.2 T.uint64 1 ((vs.drop (fr * 1)).take ((to - fr) * 1))]) := by
  refine fo fun F => j_leni (fun hl hc ha => ?_)
  repeat' (first | refine s2 ?_ | (refine k_bin ?_; refine r_icmp rfl rfl rfl rfl ?_) | (refine g_mark ?_; first | refine gg_splitD rfl rfl (fun _ => ?_) (fun _ => ?_) | refine gg_splitN rfl rfl (fun _ => ?_) (fun _ => ?_) | refine gg_split rfl rfl (fun _ => ?_) (fun _ => ?_)) | (refine k_cond ?_; first | refine t_condS rfl (fun _ => ?_) (fun _ => ?_) | refine t_condSN rfl (fun _ => ?_) (fun _ => ?_) | refine t_condSB rfl (fun _ => ?_) (fun _ => ?_)))
  next hx =>
    have hn : n = 0 := by omega
    subst hn
    have hv : vs = [] := List.eq_nil_of_length_eq_zero (by simpa using hl)
    subst hv
    refine j_ent (Ent.vecNil (E := T.uint64) (s := 1) _) ?_
    have hq : min to 0 - min fr 0 = 0 := by omega
    rw [hq, List.drop_nil, List.take_nil]
    exact f1 (none, 0)
  next hx hy => exact absurd hy (by omega)
  next hx hy =>
    have hto2 : to ≤ n := by omega
    refine r_piece (s := 1) fr to cap rfl (.inr ⟨_, rfl⟩) (.inr ⟨_, rfl⟩) (.inl ⟨rfl, rfl⟩) h2 (by omega) (Nat.le_refl _) rfl ?_
    repeat refine s1 ?_
    refine j_ent (Ent.islPiece (E := T.uint64) (s := 1) (lo := fr) (hi := to) h2 hto2 hc _) ?_
    repeat refine s1 ?_
    refine cx (cloneK_c _ (to - fr) _ ((vs.drop (fr * 1)).take ((to - fr) * 1)) (fun v hv => h1 v (List.mem_of_mem_drop (List.mem_of_mem_take hv))) (by omega) Φ) (fun p _ => ?_)
    repeat refine s1 ?_
    have hq : min to n - min fr n = to - fr := by omega
    rw [hq]
    exact f1 p
theorem cloneV_c (a : Option Addr) (n cap : Nat) (vs : List Value) (h1 : ∀ v ∈ vs, v.oneCell' = true) (hb : n ≤ 1000000) (Φ : Base) :
    Sl.Fn Tryz.prog Φ F.slices_Clone_44_byte_44_byte [.slice a n cap] [isl a n cap T.a44_uint8 44 vs] (fun _ : Option Addr × Nat => True) (fun p => .slice p.1 n p.2) (fun p => [vec p.1 n p.2 T.a44_uint8 44 vs]) := by
  refine fo fun F => j_leni (fun hl hc ha => ?_)
  repeat refine s1 ?_
  refine r_seq rfl rfl rfl ?_
  repeat refine s1 ?_
  cases a with
  | none =>
    have hn : n = 0 := by
      rcases Nat.eq_zero_or_pos n with h | h
      · exact h
      · obtain ⟨b, off, h⟩ := ha h; cases h
    subst hn
    have hv : vs = [] := List.eq_nil_of_length_eq_zero (by simpa using hl)
    subst hv
    refine t_condT rfl rfl ?_
    repeat refine s1 ?_
    refine j_ent (Ent.vecNil (E := T.a44_uint8) (s := 44) _) ?_
    exact f1 (none, 0)
  | some ad =>
    refine t_condF rfl rfl ?_
    repeat refine s1 ?_
    refine r_build0 (s := 44) rfl rfl (fun b => ?_)
    repeat refine s1 ?_
    refine r_append (n := 0) (m := n) (s := 44) (xs := []) (ys := vs) rfl rfl (by decide) (by rfl) h1 (by omega) (by omega) rfl rfl (fun a' cap' hn => ?_)
    repeat refine s1 ?_
    rw [Nat.zero_add, List.nil_append]
    exact f1 (a', cap')
theorem partV_c (a : Option Addr) (n cap fr to : Nat) (vs : List Value) (h1 : ∀ v ∈ vs, v.oneCell' = true) (hb : n ≤ 1000000) (h2 : fr ≤ to) (h3 : to ≤ n ∨ n = 0) (hto : to ≤ 1000000) (Φ : Base) :
    Sl.Fn Tryz.prog Φ F.node_part_44_byte [.slice a n cap, i64 fr, i64 to] [isl a n cap T.a44_uint8 44 vs] (fun _ : Option Addr × Nat => True) (fun p => .slice p.1 (min to n - min fr n) p.2) (fun p => [vec p.1 (min to n - min fr n) p.2 T.a44_uint8 44 ((vs.drop (fr * 44)).take ((to - fr) * 44))]) := by
  refine fo fun F => j_leni (fun hl hc ha => ?_)
  repeat' (first | refine s2 ?_ | (refine k_bin ?_; refine r_icmp rfl rfl rfl rfl ?_) | (refine g_mark ?_; first | refine gg_splitD rfl rfl (fun _ => ?_) (fun _ => ?_) | refine gg_splitN rfl rfl (fun _ => ?_) (fun _ => ?_) | refine gg_split rfl rfl (fun _ => ?_) (fun _ => ?_)) | (refine k_cond ?_; first | refine t_condS rfl (fun _ => ?_) (fun _ => ?_) | refine t_condSN rfl (fun _ => ?_) (fun _ => ?_) | refine t_condSB rfl (fun _ => ?_) (fun _ => ?_)))
  next hx =>
    have hn : n = 0 := by omega
    subst hn
    have hv : vs = [] := List.eq_nil_of_length_eq_zero (by simpa using hl)
    subst hv
    refine j_ent (Ent.vecNil (E := T.a44_uint8) (s := 44) _) ?_
    have hq : min to 0 - min fr 0 = 0 := by omega
    rw [hq, List.drop_nil, List.take_nil]
    exact f1 (none, 0)
  next hx hy => exact absurd hy (by omega)
  next hx hy =>
    have hto2 : to ≤ n := by omega
    refine r_piece (s := 44) fr to cap rfl (.inr ⟨_, rfl⟩) (.inr ⟨_, rfl⟩) (.inl ⟨rfl, rfl⟩) h2 (by omega) (Nat.le_refl _) rfl ?_
    repeat refine s1 ?_
    refine j_ent (Ent.islPiece (E := T.a44_uint8) (s := 44) (lo := fr) (hi := to) h2 hto2 hc _) ?_
    repeat refine s1 ?_
    refine cx (cloneV_c _ (to - fr) _ ((vs.drop (fr * 44)).take ((to - fr) * 44)) (fun v hv => h1 v (List.mem_of_mem_drop (List.mem_of_mem_take hv))) (by omega) Φ) (fun p _ => ?_)
    repeat refine s1 ?_
    have hq : min to n - min fr n = to - fr := by omega
    rw [hq]
    exact f1 p
theorem cloneR_c (a : Option Addr) (n cap : Nat) (vs : List Value) (h1 : ∀ v ∈ vs, v.oneCell' = true) (hb : n ≤ 1000000) (Φ : Base) :
    Sl.Fn Tryz.prog Φ F.slices_Clone_api_Ref_api_Ref [.slice a n cap] [isl a n cap T.api_Ref 33 vs] (fun _ : Option Addr × Nat => True) (fun p => .slice p.1 n p.2) (fun p => [vec p.1 n p.2 T.api_Ref 33 vs]) := by
  refine fo fun F => j_leni (fun hl hc ha => ?_)
  repeat refine s1 ?_
  refine r_seq rfl rfl rfl ?_
  repeat refine s1 ?_
  cases a with
  | none =>
    have hn : n = 0 := by
      rcases Nat.eq_zero_or_pos n with h | h
      · exact h
      · obtain ⟨b, off, h⟩ := ha h; cases h
    subst hn
    have hv : vs = [] := List.eq_nil_of_length_eq_zero (by simpa using hl)
    subst hv
    refine t_condT rfl rfl ?_
    repeat refine s1 ?_
    refine j_ent (Ent.vecNil (E := T.api_Ref) (s := 33) _) ?_
    exact f1 (none, 0)
  | some ad =>
    refine t_condF rfl rfl ?_
    repeat refine s1 ?_
    refine r_build0 (s := 33) rfl rfl (fun b => ?_)
    repeat refine s1 ?_
    refine r_append (n := 0) (m := n) (s := 33) (xs := []) (ys := vs) rfl rfl (by decide) (by rfl) h1 (by omega) (by omega) rfl rfl (fun a' cap' hn => ?_)
    repeat refine s1 ?_
    rw [Nat.zero_add, List.nil_append]
    exact f1 (a', cap')
theorem partR_c (a : Option Addr) (n cap fr to : Nat) (vs : List Value) (h1 : ∀ v ∈ vs, v.oneCell' = true) (hb : n ≤ 1000000) (h2 : fr ≤ to) (h3 : to ≤ n ∨ n = 0) (hto : to ≤ 1000000) (Φ : Base) :
    Sl.Fn Tryz.prog Φ F.node_part_api_Ref [.slice a n cap, i64 fr, i64 to] [isl a n cap T.api_Ref 33 vs] (fun _ : Option Addr × Nat => True) (fun p => .slice p.1 (min to n - min fr n) p.2) (fun p => [vec p.1 (min to n - min fr n) p.2 T.api_Ref 33 ((vs.drop (fr * 33)).take ((to - fr) * 33))]) := by
  refine fo fun F => j_leni (fun hl hc ha => ?_)
  repeat' (first | refine s2 ?_ | (refine k_bin ?_; refine r_icmp rfl rfl rfl rfl ?_) | (refine g_mark ?_; first | refine gg_splitD rfl rfl (fun _ => ?_) (fun _ => ?_) | refine gg_splitN rfl rfl (fun _ => ?_) (fun _ => ?_) | refine gg_split rfl rfl (fun _ => ?_) (fun _ => ?_)) | (refine k_cond ?_; first | refine t_condS rfl (fun _ => ?_) (fun _ => ?_) | refine t_condSN rfl (fun _ => ?_) (fun _ => ?_) | refine t_condSB rfl (fun _ => ?_) (fun _ => ?_)))
  next hx =>
    have hn : n = 0 := by omega
    subst hn
    have hv : vs = [] := List.eq_nil_of_length_eq_zero (by simpa using hl)
    subst hv
    refine j_ent (Ent.vecNil (E := T.api_Ref) (s := 33) _) ?_
    have hq : min to 0 - min fr 0 = 0 := by omega
    rw [hq, List.drop_nil, List.take_nil]
    exact f1 (none, 0)
  next hx hy => exact absurd hy (by omega)
  next hx hy =>
    have hto2 : to ≤ n := by omega
    refine r_piece (s := 33) fr to cap rfl (.inr ⟨_, rfl⟩) (.inr ⟨_, rfl⟩) (.inl ⟨rfl, rfl⟩) h2 (by omega) (Nat.le_refl _) rfl ?_
    repeat refine s1 ?_
    refine j_ent (Ent.islPiece (E := T.api_Ref) (s := 33) (lo := fr) (hi := to) h2 hto2 hc _) ?_
    repeat refine s1 ?_
    refine cx (cloneR_c _ (to - fr) _ ((vs.drop (fr * 33)).take ((to - fr) * 33)) (fun v hv => h1 v (List.mem_of_mem_drop (List.mem_of_mem_take hv))) (by omega) Φ) (fun p _ => ?_)
    repeat refine s1 ?_
    have hq : min to n - min fr n = to - fr := by omega
    rw [hq]
    exact f1 p
end Go.Proofs.YtcnpkmdooekmgaaGreatDoor
namespace Go.Proofs.YtcnpkmdooekmgaaGreatDoor
open Go Sl
theorem flat_drop {α β : Type} (s : Nat) {f : α → List β} : ∀ {l : List α}, (∀ x ∈ l, (f x).length = s) → ∀ i, (l.flatMap f).drop (i * s) = (l.drop i).flatMap f := by
  intro l
  induction l with
  | nil => intro _ i; simp
  | cons a l ih =>
    intro h i
    cases i with
    | zero => simp
    | succ i =>
      have ha : (f a).length = s := h a (by simp)
      rw [List.flatMap_cons, Nat.add_one_mul, Nat.add_comm, ← List.drop_drop, List.drop_left' ha, List.drop_succ_cons]
      exact ih (fun x hx => h x (List.mem_cons_of_mem _ hx)) i
theorem flat_take {α β : Type} (s : Nat) {f : α → List β} : ∀ {l : List α}, (∀ x ∈ l, (f x).length = s) → ∀ i, (l.flatMap f).take (i * s) = (l.take i).flatMap f := by
  intro l
  induction l with
  | nil => intro _ i; simp
  | cons a l ih =>
    intro h i
    cases i with
    | zero => simp
    | succ i =>
      have ha : (f a).length = s := h a (by simp)
      rw [List.flatMap_cons, Nat.add_one_mul, Nat.add_comm, ← ha, List.take_length_add_append, List.take_succ_cons, List.flatMap_cons, ha]
      rw [ih (fun x hx => h x (List.mem_cons_of_mem _ hx)) i]
theorem flat_part {α β : Type} (s : Nat) {f : α → List β} {l : List α} (h : ∀ x ∈ l, (f x).length = s) (i j : Nat) :
    ((l.flatMap f).drop (i * s)).take ((j - i) * s) = ((l.take j).drop i).flatMap f := by
  rw [flat_drop s h, flat_take s (fun x hx => h x (List.mem_of_mem_drop hx)), List.drop_take]
theorem map_flat {α β : Type} (f : α → β) (l : List α) : l.map f = l.flatMap fun x => [f x] := by
  induction l with
  | nil => rfl
  | cons a l ih => rw [List.map_cons, List.flatMap_cons, ih]; rfl
theorem part_len {α : Type} (l : List α) (i j : Nat) : ((l.take j).drop i).length = min j l.length - min i l.length := by
  rw [List.length_drop, List.length_take]; omega
theorem Nd.wt.one {n : Nd} (_ : n.wt) : (∀ v ∈ n.keys.map w64, v.oneCell' = true) ∧ (∀ v ∈ n.vals.flatMap fun v => v.map u8, v.oneCell' = true) ∧ (∀ v ∈ n.kids.flatMap rcells, v.oneCell' = true) := by
  refine ⟨fun v hv => ?_, fun v hv => ?_, fun v hv => ?_⟩
  · obtain ⟨x, _, rfl⟩ := List.mem_map.1 hv; rfl
  · obtain ⟨x, _, hx⟩ := List.mem_flatMap.1 hv
    obtain ⟨y, _, rfl⟩ := List.mem_map.1 hx; rfl
  · obtain ⟨x, _, hx⟩ := List.mem_flatMap.1 hv
    rcases List.mem_cons.1 hx with rfl | hx
    · rfl
    · obtain ⟨y, _, rfl⟩ := List.mem_map.1 hx; rfl
/-- a node whose rows are as long as they are said to be. -/
structure Nd.whole (n : Nd) : Prop where
  keys : n.keys.length ≤ 1000
  leaf : n.leaf = true → n.vals.length = n.keys.length ∧ n.kids = []
  inner : n.leaf = false → n.kids.length = n.keys.length ∧ n.vals = []
theorem Nd.whole.lens {n : Nd} (h : n.whole) : (n.vals.length = n.keys.length ∨ n.vals.length = 0) ∧ (n.kids.length = n.keys.length ∨ n.kids.length = 0) := by
  cases hl : n.leaf
  · have := h.inner hl; simp [this]
  · have := h.leaf hl; simp [this]
theorem part_wt {n : Nd} (h : n.wt) (i j : Nat) : (n.part i j).wt :=
  ⟨fun k hk => h.keys k (List.mem_of_mem_take (List.mem_of_mem_drop hk)), fun v hv => h.vals v (List.mem_of_mem_take (List.mem_of_mem_drop hv)), fun r hr => h.kids r (List.mem_of_mem_take (List.mem_of_mem_drop hr))⟩
theorem part_whole {n : Nd} (h : n.whole) {i j : Nat} : (n.part i j).whole := by
  have hk := h.keys
  refine ⟨by simp only [Nd.part, part_len]; omega, fun hl => ?_, fun hl => ?_⟩
  · have := h.leaf hl
    simp only [Nd.part, part_len, this.1, this.2]; simp
  · have := h.inner hl
    simp only [Nd.part, part_len, this.1, this.2]; simp
/-- three fresh rows become a node. -/
theorem j_node {X : Cx} {e : Env} {L : List Assn} {G : Act → World → Prop} {m : Nd} (y : NR) (h : J X e (node m y :: L) G) :
    J X e (vec y.ra m.kids.length y.rc T.api_Ref 33 (m.kids.flatMap rcells) :: vec y.va m.vals.length y.vc T.a44_uint8 44 (m.vals.flatMap fun v => v.map u8) :: vec y.ka m.keys.length y.kc T.uint64 1 (m.keys.map w64) :: L) G := by
  refine fz ?_
  refine jh [vec y.va m.vals.length y.vc T.a44_uint8 44 (m.vals.flatMap fun v => v.map u8)] ?_
  refine fz ?_
  refine jh [vec y.ka m.keys.length y.kc T.uint64 1 (m.keys.map w64)] ?_
  refine fz ?_
  exact j_ent (Ent.node (n := m) (x := y) L) h
attribute [local irreducible] cw sw J Exit.then Exit.inBlock Exit.noGoto bodyPost swG swL permL
theorem some_c (n : Nd) (x : NR) (fr to : Nat) (hw : n.whole) (ht : n.wt) (h2 : fr ≤ to) (h3 : to ≤ n.keys.length) (Φ : Base) :
    Sl.Fn Tryz.prog Φ F.node_some [nV n x, i64 fr, i64 to] [node n x] (fun _ : NR => True) (fun y => nV (n.part fr to) y) (fun y => [node (n.part fr to) y]) := by
  have hk := hw.keys
  obtain ⟨hv, hr⟩ := hw.lens
  obtain ⟨o1, o2, o3⟩ := ht.one
  refine fo fun F => ?_
  repeat refine s1 ?_
  refine r_box (cs := nbx n x) rfl rfl rfl rfl (fun t3 => ?_)
  refine j_head (node n x) (j_ent (Ent.unnode _) ?_)
  repeat refine s1 ?_
  refine al (fun t6 => ?_)
  repeat refine s1 ?_
  refine t_draw [pt t3 (.cells (nbx n x).toArray T.node_Node (0, 0))] [1, 3, 8, 13] mixed (by decide +kernel) ?_
  repeat refine s1 ?_
  refine cx (partK_c x.ka n.keys.length x.kc fr to (n.keys.map w64) o1 (by omega) h2 (.inl h3) (by omega) Φ) (fun p1 _ => ?_)
  repeat refine s1 ?_
  refine cx (partV_c x.va n.vals.length x.vc fr to (n.vals.flatMap fun v => v.map u8) o2 (by omega) h2 (by omega) (by omega) Φ) (fun p2 _ => ?_)
  repeat refine s1 ?_
  refine cx (partR_c x.ra n.kids.length x.rc fr to (n.kids.flatMap rcells) o3 (by omega) h2 (by omega) (by omega) Φ) (fun p3 _ => ?_)
  repeat refine s1 ?_
  rw [flat_part 33 (f := rcells) (fun r hr => by simp [(ht.kids r hr).sum.1]), flat_part 44 (f := fun v : List Nat => v.map u8) (fun v hv => by simpa using (ht.vals v hv).1), map_flat w64, flat_part 1 (f := fun x : Nat => [w64 x]) (fun _ _ => rfl), ← map_flat w64,
    show min to n.keys.length - min fr n.keys.length = (n.part fr to).keys.length from (part_len ..).symm, show min to n.vals.length - min fr n.vals.length = (n.part fr to).vals.length from (part_len ..).symm,
    show min to n.kids.length - min fr n.kids.length = (n.part fr to).kids.length from (part_len ..).symm]
  refine r_build (cells := nbx (n.part fr to) ⟨p1.1, p1.2, p2.1, p2.2, p3.1, p3.2⟩) rfl (by rfl) rfl ?_
  refine r_storeW (vs := nbx (n.part fr to) ⟨p1.1, p1.2, p2.1, p2.2, p3.1, p3.2⟩) rfl rfl (by rfl) (by rfl) (by simp [Value.oneCell']) rfl ?_
  repeat refine s1 ?_
  refine j_node (m := n.part fr to) ⟨p1.1, p1.2, p2.1, p2.2, p3.1, p3.2⟩ ?_
  exact j_fin rfl (.cons (rv_agg (l := nbx (n.part fr to) ⟨p1.1, p1.2, p2.1, p2.2, p3.1, p3.2⟩) (U := T.node_Node) (fr := (0, 0)) rfl (by rfl)) .nil) ⟨p1.1, p1.2, p2.1, p2.2, p3.1, p3.2⟩ rfl trivial
theorem Nd.whole.is {n : Nd} (h : n.whole) : if n.leaf then n.vals.length = n.keys.length else n.kids.length = n.keys.length := by
  cases hl : n.leaf
  · simpa using (h.inner hl).1
  · simpa using (h.leaf hl).1
theorem halve_c (n : Nd) (x : NR) (hw : n.whole) (ht : n.wt) (Φ : Base) :
    Sl.Fn Tryz.prog Φ F.node_Halve [nV n x] [node n x] (fun _ : NR × NR => True) (fun y => .tuple #[nV (n.part 0 ((n.keys.length + 1) / 2)) y.1, nV (n.part ((n.keys.length + 1) / 2) n.keys.length) y.2])
      (fun y => [node (n.part 0 ((n.keys.length + 1) / 2)) y.1, node (n.part ((n.keys.length + 1) / 2) n.keys.length) y.2]) := by
  have hk := hw.keys
  refine fo fun F => ?_
  repeat refine s1 ?_
  refine r_box (cs := nbx n x) rfl rfl rfl rfl (fun t1 => ?_)
  repeat refine s1 ?_
  refine al (fun t2 => ?_)
  refine al (fun t3 => ?_)
  repeat refine s1 ?_
  refine cl (whole_c n x hw.is Φ) ?_
  repeat refine s1 ?_
  refine t_draw [pt t1 (.cells (nbx n x).toArray T.node_Node)] [0, 5] mixed (by decide +kernel) ?_
  repeat refine s1 ?_
  repeat refine s1 ?_
  refine r_quoN (m := n.keys.length + 1) (n := 2) rfl rfl (by omega) (by rw [i64_nat (by omega)]) rfl ?_
  refine cx (some_c n x 0 ((n.keys.length + 1) / 2) hw ht (Nat.zero_le _) (by omega) Φ) (fun y1 _ => ?_)
  repeat refine s1 ?_
  repeat refine s1 ?_
  refine r_quoN (m := n.keys.length + 1) (n := 2) rfl rfl (by omega) (by rw [i64_nat (by omega)]) rfl ?_
  repeat refine s1 ?_
  refine cx (some_c n x ((n.keys.length + 1) / 2) n.keys.length hw ht (by omega) (by omega) Φ) (fun y2 _ => ?_)
  repeat refine s1 ?_
  generalize hA : n.part 0 ((n.keys.length + 1) / 2) = nA
  generalize hB : n.part ((n.keys.length + 1) / 2) n.keys.length = nB
  refine r_storeW (vs := nbx nA y1) rfl rfl (by rfl) (by rfl) (by simp [Value.oneCell']) rfl ?_
  refine r_storeW (vs := nbx nB y2) rfl rfl (by rfl) (by rfl) (by simp [Value.oneCell']) rfl ?_
  repeat refine s1 ?_
  exact j_fin rfl (.cons (rv_agg (l := nbx nA y1) (U := T.node_Node) (fr := (0, 0)) rfl (by rfl)) (.cons (rv_agg (l := nbx nB y2) (U := T.node_Node) (fr := (0, 0)) rfl (by rfl)) .nil)) (y1, y2) rfl trivial
end Go.Proofs.YtcnpkmdooekmgaaGreatDoor
namespace Go.Proofs.YtcnpkmdooekmgaaGreatDoor
open Go Sl
theorem run_append_zeros0 {P : Program} {w : World} {t u ty E : TypeId} {ki : IntKind} {s by_ : Nat} {z : Value} [tu : TUnd P t (.slice E)] [tv : TUnd P u (.int ki)] [te : TElem P E s by_ z] {m : Nat} (hs : 0 < s) (hm : 0 < m) (hb : m * by_ ≤ 140737488355328) (h63 : m ≤ 9223372036854775807) :
    ∃ (nc : Nat) (zs : List Value), m ≤ nc ∧ zs.length = nc * z.cells.size ∧ (Builtin.append_ #[t, u] ty #[.slice none 0 0, .int .i64 (m : Int)]).run P w = .ok (.slice (some ⟨w.heap.size, 0, none⟩) m nc) (w.drew.alloc (.cells zs.toArray E)) := by
  obtain ⟨i, hi, his, hib, hz⟩ := te.ex
  have hw : IntKind.i64.wrap (m : Int) = (m : Int) := i64_nat (by omega)
  have hbm : (m : Int) * (by_ : Int) ≤ 140737488355328 := by
    have h3 : ((m * by_ : Nat) : Int) ≤ 140737488355328 := by omega
    rwa [Int.natCast_mul] at h3
  have hf := growslice_fits (old := 0) (need := m) (by omega) hb
  have hnc : m ≤ grownCap w m 0 E := by unfold grownCap Question.cut; exact Nat.le_add_right _ _
  refine ⟨grownCap w m 0 E, (Builtin.zeroCells z.cells m ++ Builtin.zeroCells z.cells (grownCap w m 0 E - m)).toList, hnc, ?_, ?_⟩
  · simp [Builtin.zeroCells, ← Nat.add_mul]
    congr 1; omega
  have h0 : ¬ ((m : Int) < 0) := by omega
  have h2 : ¬ ((m : Int) * (i.bytes : Int) > 2 ^ 48) := by rw [hib]; omega
  have h4 : ¬ (((m : Nat) : Int) > IntKind.i64.max) := by simp [IntKind.max, IntKind.signed, IntKind.bits]; omega
  have h5 : ¬ (Builtin.nextslicecap m 0 * i.bytes > 2 ^ 48) := by rw [hib]; omega
  have hfo : (Builtin.firstCells s 0 (.slice none 0 0)).run P w.drew = .ok #[] w.drew := run_first (P := P) (len := 0) (cap := 0) (a := none) (n := 0) (s := s) (xs := []) ⟨by simp, .inl rfl⟩
  have h6 : ¬ (m = 0) := by omega
  have h2' : ¬ (281474976710656 < (m : Int) * (by_ : Int)) := by omega
  have h4' : ¬ (9223372036854775807 < (m : Int)) := by omega
  have h5' : ¬ (281474976710656 < Builtin.nextslicecap m 0 * by_) := by omega
  simp [Builtin.append_, run_underlying tu.eq, run_underlying tv.eq, sizeOf, typeInfo, zeroValue, hi, hz, his, hib, asInt, asIntOf, hw, Builtin.lenOf, h0, h2', h4', h5', h6, Question.forced, hfo, newRow, grownCap]
  rw [if_neg (Nat.ne_of_gt (Nat.mul_pos hm hs))]
  congr 3
  apply Array.ext'
  simp
section
variable {X : Cx} {e : Env} {L L1 F : List Assn} {A : List Assn} {S : List Nat} {ops : Array Oper} {k : Nat} {l : List Oper} {R : Act → World → Prop} {G : Act → World → Prop}
variable {d : Nat} {T : TypeId} {pos : String} {af : Array Edge}
/-- append of noughts to no row. -/
theorem r_append0 {t u E : TypeId} {ki : IntKind} {x y : Operand} {s by_ : Nat} {z : Value} {m : Nat} [tu : TUnd X.P t (.slice E)] [tv : TUnd X.P u (.int ki)] [te : TElem X.P E s by_ z]
    (hx : ev e x = some (.slice none 0 0)) (hy : ev e y = some (.int .i64 (m : Int))) (hs : 0 < s) (hzc : z.cells.size = s) (hm : 0 < m) (hb : m * by_ ≤ 140737488355328) (h63 : m ≤ 9223372036854775807) (hS : S.contains k = false) (hd : Nat.blt d X.n = true)
    [st : ∀ q : Nat × Nat × List Value, Stay A (pt q.1 (.cells q.2.2.toArray E (0, 0)) :: L)]
    (h : ∀ (b nc : Nat) (zs : List Value), m ≤ nc → zs.length = nc * s → J X ((d, .slice (some ⟨b, 0, none⟩) m nc) :: e) (pt b (.cells zs.toArray E (0, 0)) :: L) (sw X.P (Holds X.Φ A) S ops R (k + 1) l)) :
    J X e L (sw X.P (Holds X.Φ A) S ops R k (⟨some d, .call { callee := .builtin .append, args := #[x, y], argTypes := #[t, u] }, T, pos, af, none⟩ :: l)) :=
  r_write (α := Nat × Nat × List Value) (q := fun p => m ≤ p.2.1 ∧ p.2.2.length = p.2.1 * s) (V := fun p => .slice (some ⟨p.1, 0, none⟩) m p.2.1) (M := fun p => pt p.1 (.cells p.2.2.toArray E (0, 0)) :: L) rfl (cls_write rfl hS rfl) (blt_some hd) st
    (fun act w mt hh => by
      have hop : ∀ r, (Builtin.append_ #[t, u] T #[.slice none 0 0, .int .i64 (m : Int)]).run X.P w = r → (execOp act.eval (⟨some d, .call { callee := .builtin .append, args := #[x, y], argTypes := #[t, u] }, T, pos, af, none⟩ : Oper)).run X.P w = r.andThen fun v w' => .ok (.value v) w' := fun r hr => by
        simp only [execOp, resolve, invoke, builtin, Sem.run_bind, Sem.run_pure, Result.andThen_ok, List.map_toArray, List.map_cons, List.map_nil, mt.ev hx, mt.ev hy, hr]
      obtain ⟨nc, zs, h1, h2, hr⟩ := run_append_zeros0 (P := X.P) (w := w) (t := t) (u := u) (ty := T) (E := E) hs hm hb h63
      rw [hop _ hr]
      exact ⟨(w.heap.size, nc, zs), ⟨h1, by rw [h2, hzc]⟩, rfl, hh.alloc _ rfl rfl rfl rfl⟩)
    (fun p hp => h p.1 p.2.1 p.2.2 hp.1 hp.2)
theorem Ent.ptVec {b nc s : Nat} {E : TypeId} {zs : List Value} (hz : zs.length = nc * s) (L : List Assn) : Ent (pt b (.cells zs.toArray E (0, 0)) :: L) (vec (some ⟨b, 0, none⟩) 0 nc E s [] :: L) := by
  rintro im h ⟨p1, p2, pa, pb, pc, hp, st⟩
  exact ⟨p1, p2, pa, pb, pc, ⟨by simp, Nat.zero_le _, .inr ⟨b, 0, [], zs, rfl, rfl, by simpa using hz, hp⟩⟩, st⟩
theorem r_capS {t E : TypeId} {x : Operand} {base : Option Addr} {n cap : Nat} [tu : TUnd X.P t (.slice E)] [st : Stay A L] (hx : ev e x = some (.slice base n cap)) (hd : Nat.blt d X.n = true) (h : J X ((d, .int .i64 cap) :: e) L (sw X.P (Holds X.Φ A) S ops R (k + 1) l)) :
    J X e L (sw X.P (Holds X.Φ A) S ops R k (⟨some d, .call { callee := .builtin .cap, args := #[x], argTypes := #[t] }, T, pos, af, none⟩ :: l)) := by
  have hrun : ∀ a, Mt X.ds X.n e a → ∀ w, (execOp a.eval (⟨some d, .call { callee := .builtin .cap, args := #[x], argTypes := #[t] }, T, pos, af, none⟩ : Oper)).run X.P w = .ok (.value (.int .i64 cap)) w := fun a m w => by
    simp only [execOp, resolve, invoke, builtin, m.ev hx, List.map_toArray, List.map_cons, List.map_nil, pure_bind, Builtin.cap_, List.getElem?_toArray, List.getElem?_cons_zero, Sem.run_bind, tu.run, Result.andThen_ok, Sem.run_pure, goInt]
  by_cases hs : S.contains k = true
  · exact r_stable rfl hs rfl hd (fun a w m _ => hrun a m w) h
  · exact r_pureW rfl hrun hd h
end
/-- of two, the first i: how many, and which. -/
def tot2 (n m i : Nat) : Nat := if i = 0 then 0 else if i = 1 then n else n + m
def acc2 (xs ys : List Value) (i : Nat) : List Value := if i = 0 then [] else if i = 1 then xs else xs ++ ys
attribute [local irreducible] cw sw J Exit.then Exit.inBlock Exit.noGoto bodyPost swG swL permL
theorem growK_c (m : Nat) (hb : m ≤ 1000000) (Φ : Base) :
    Sl.Fn Tryz.prog Φ F.slices_Grow_uint64_uint64 [.slice none 0 0, i64 m] [] (fun _ : Option Addr × Nat => True) (fun p => .slice p.1 0 p.2) (fun p => [vec p.1 0 p.2 T.uint64 1 []]) := by
  refine fo fun F => ?_
  repeat' (first | refine s2 ?_ | (refine k_bin ?_; refine r_icmp rfl rfl rfl rfl ?_) | (refine g_mark ?_; first | refine gg_splitD rfl rfl (fun _ => ?_) (fun _ => ?_) | refine gg_splitN rfl rfl (fun _ => ?_) (fun _ => ?_) | refine gg_split rfl rfl (fun _ => ?_) (fun _ => ?_)) | (refine k_cond ?_; first | refine t_condS rfl (fun _ => ?_) (fun _ => ?_) | refine t_condSN rfl (fun _ => ?_) (fun _ => ?_) | refine t_condSB rfl (fun _ => ?_) (fun _ => ?_)))
  refine r_capS rfl rfl ?_
  repeat refine s1 ?_
  refine r_subN (m := 0) (n := 0) rfl rfl (Nat.le_refl _) (by omega) rfl ?_
  refine r_subN (m := m) (n := 0) rfl rfl (Nat.zero_le _) (by omega) rfl ?_
  rw [Nat.sub_zero]
  repeat' (first | refine s2 ?_ | (refine k_bin ?_; refine r_icmp rfl rfl rfl rfl ?_) | (refine g_mark ?_; first | refine gg_splitD rfl rfl (fun _ => ?_) (fun _ => ?_) | refine gg_splitN rfl rfl (fun _ => ?_) (fun _ => ?_) | refine gg_split rfl rfl (fun _ => ?_) (fun _ => ?_)) | (refine k_cond ?_; first | refine t_condS rfl (fun _ => ?_) (fun _ => ?_) | refine t_condSN rfl (fun _ => ?_) (fun _ => ?_) | refine t_condSB rfl (fun _ => ?_) (fun _ => ?_)))
  next hm =>
    refine r_capS rfl rfl ?_
    refine r_piece (s := 1) 0 0 0 rfl (.inl ⟨rfl, rfl⟩) (.inr ⟨_, rfl⟩) (.inl ⟨rfl, rfl⟩) (Nat.le_refl _) (Nat.le_refl _) (Nat.le_refl _) rfl ?_
    repeat refine s1 ?_
    refine r_append0 (s := 1) (m := m) rfl rfl (by decide) (by rfl) (by omega) (by omega) (by omega) rfl rfl (fun b nc zs hn hz => ?_)
    refine j_ent (Ent.ptVec hz _) ?_
    repeat refine s1 ?_
    refine r_piece (s := 1) 0 0 nc rfl (.inl ⟨rfl, rfl⟩) (.inr ⟨_, rfl⟩) (.inl ⟨rfl, rfl⟩) (Nat.le_refl _) (by omega) (Nat.le_refl _) rfl ?_
    rw [if_neg (show ¬ nc = 0 by omega), Option.map_some, add_at, Nat.zero_mul, Nat.add_zero, Nat.sub_zero]
    repeat refine s1 ?_
    exact f1 (some ⟨b, 0, none⟩, nc)
  next hm =>
    refine j_ent (Ent.vecNil (E := T.uint64) (s := 1) _) ?_
    exact f1 (none, 0)
theorem growV_c (m : Nat) (hb : m ≤ 1000000) (Φ : Base) :
    Sl.Fn Tryz.prog Φ F.slices_Grow_44_byte_44_byte [.slice none 0 0, i64 m] [] (fun _ : Option Addr × Nat => True) (fun p => .slice p.1 0 p.2) (fun p => [vec p.1 0 p.2 T.a44_uint8 44 []]) := by
  refine fo fun F => ?_
  repeat' (first | refine s2 ?_ | (refine k_bin ?_; refine r_icmp rfl rfl rfl rfl ?_) | (refine g_mark ?_; first | refine gg_splitD rfl rfl (fun _ => ?_) (fun _ => ?_) | refine gg_splitN rfl rfl (fun _ => ?_) (fun _ => ?_) | refine gg_split rfl rfl (fun _ => ?_) (fun _ => ?_)) | (refine k_cond ?_; first | refine t_condS rfl (fun _ => ?_) (fun _ => ?_) | refine t_condSN rfl (fun _ => ?_) (fun _ => ?_) | refine t_condSB rfl (fun _ => ?_) (fun _ => ?_)))
  refine r_capS rfl rfl ?_
  repeat refine s1 ?_
  refine r_subN (m := 0) (n := 0) rfl rfl (Nat.le_refl _) (by omega) rfl ?_
  refine r_subN (m := m) (n := 0) rfl rfl (Nat.zero_le _) (by omega) rfl ?_
  rw [Nat.sub_zero]
  repeat' (first | refine s2 ?_ | (refine k_bin ?_; refine r_icmp rfl rfl rfl rfl ?_) | (refine g_mark ?_; first | refine gg_splitD rfl rfl (fun _ => ?_) (fun _ => ?_) | refine gg_splitN rfl rfl (fun _ => ?_) (fun _ => ?_) | refine gg_split rfl rfl (fun _ => ?_) (fun _ => ?_)) | (refine k_cond ?_; first | refine t_condS rfl (fun _ => ?_) (fun _ => ?_) | refine t_condSN rfl (fun _ => ?_) (fun _ => ?_) | refine t_condSB rfl (fun _ => ?_) (fun _ => ?_)))
  next hm =>
    refine r_capS rfl rfl ?_
    refine r_piece (s := 44) 0 0 0 rfl (.inl ⟨rfl, rfl⟩) (.inr ⟨_, rfl⟩) (.inl ⟨rfl, rfl⟩) (Nat.le_refl _) (Nat.le_refl _) (Nat.le_refl _) rfl ?_
    repeat refine s1 ?_
    refine r_append0 (s := 44) (m := m) rfl rfl (by decide) (by rfl) (by omega) (by omega) (by omega) rfl rfl (fun b nc zs hn hz => ?_)
    refine j_ent (Ent.ptVec hz _) ?_
    repeat refine s1 ?_
    refine r_piece (s := 44) 0 0 nc rfl (.inl ⟨rfl, rfl⟩) (.inr ⟨_, rfl⟩) (.inl ⟨rfl, rfl⟩) (Nat.le_refl _) (by omega) (Nat.le_refl _) rfl ?_
    rw [if_neg (show ¬ nc = 0 by omega), Option.map_some, add_at, Nat.zero_mul, Nat.add_zero, Nat.sub_zero]
    repeat refine s1 ?_
    exact f1 (some ⟨b, 0, none⟩, nc)
  next hm =>
    refine j_ent (Ent.vecNil (E := T.a44_uint8) (s := 44) _) ?_
    exact f1 (none, 0)
theorem growR_c (m : Nat) (hb : m ≤ 1000000) (Φ : Base) :
    Sl.Fn Tryz.prog Φ F.slices_Grow_api_Ref_api_Ref [.slice none 0 0, i64 m] [] (fun _ : Option Addr × Nat => True) (fun p => .slice p.1 0 p.2) (fun p => [vec p.1 0 p.2 T.api_Ref 33 []]) := by
  refine fo fun F => ?_
  repeat' (first | refine s2 ?_ | (refine k_bin ?_; refine r_icmp rfl rfl rfl rfl ?_) | (refine g_mark ?_; first | refine gg_splitD rfl rfl (fun _ => ?_) (fun _ => ?_) | refine gg_splitN rfl rfl (fun _ => ?_) (fun _ => ?_) | refine gg_split rfl rfl (fun _ => ?_) (fun _ => ?_)) | (refine k_cond ?_; first | refine t_condS rfl (fun _ => ?_) (fun _ => ?_) | refine t_condSN rfl (fun _ => ?_) (fun _ => ?_) | refine t_condSB rfl (fun _ => ?_) (fun _ => ?_)))
  refine r_capS rfl rfl ?_
  repeat refine s1 ?_
  refine r_subN (m := 0) (n := 0) rfl rfl (Nat.le_refl _) (by omega) rfl ?_
  refine r_subN (m := m) (n := 0) rfl rfl (Nat.zero_le _) (by omega) rfl ?_
  rw [Nat.sub_zero]
  repeat' (first | refine s2 ?_ | (refine k_bin ?_; refine r_icmp rfl rfl rfl rfl ?_) | (refine g_mark ?_; first | refine gg_splitD rfl rfl (fun _ => ?_) (fun _ => ?_) | refine gg_splitN rfl rfl (fun _ => ?_) (fun _ => ?_) | refine gg_split rfl rfl (fun _ => ?_) (fun _ => ?_)) | (refine k_cond ?_; first | refine t_condS rfl (fun _ => ?_) (fun _ => ?_) | refine t_condSN rfl (fun _ => ?_) (fun _ => ?_) | refine t_condSB rfl (fun _ => ?_) (fun _ => ?_)))
  next hm =>
    refine r_capS rfl rfl ?_
    refine r_piece (s := 33) 0 0 0 rfl (.inl ⟨rfl, rfl⟩) (.inr ⟨_, rfl⟩) (.inl ⟨rfl, rfl⟩) (Nat.le_refl _) (Nat.le_refl _) (Nat.le_refl _) rfl ?_
    repeat refine s1 ?_
    refine r_append0 (s := 33) (m := m) rfl rfl (by decide) (by rfl) (by omega) (by omega) (by omega) rfl rfl (fun b nc zs hn hz => ?_)
    refine j_ent (Ent.ptVec hz _) ?_
    repeat refine s1 ?_
    refine r_piece (s := 33) 0 0 nc rfl (.inl ⟨rfl, rfl⟩) (.inr ⟨_, rfl⟩) (.inl ⟨rfl, rfl⟩) (Nat.le_refl _) (by omega) (Nat.le_refl _) rfl ?_
    rw [if_neg (show ¬ nc = 0 by omega), Option.map_some, add_at, Nat.zero_mul, Nat.add_zero, Nat.sub_zero]
    repeat refine s1 ?_
    exact f1 (some ⟨b, 0, none⟩, nc)
  next hm =>
    refine j_ent (Ent.vecNil (E := T.api_Ref) (s := 33) _) ?_
    exact f1 (none, 0)
theorem concatK_c (b0 o0 qc : Nat) (a a2 : Option Addr) (n cap m cap2 : Nat) (xs ys : List Value) (h1 : ∀ v ∈ xs, v.oneCell' = true) (h2 : ∀ v ∈ ys, v.oneCell' = true) (hb : n + m ≤ 1000000) (Φ : Base) :
    Sl.Fn Tryz.prog Φ F.slices_Concat_uint64_uint64 [.slice (some ⟨b0, o0, none⟩) 2 qc] [isl (some ⟨b0, o0, none⟩) 2 qc T.sl_uint64 1 [.slice a n cap, .slice a2 m cap2], isl a n cap T.uint64 1 xs, isl a2 m cap2 T.uint64 1 ys] (fun _ : Option Addr × Nat => True) (fun p => .slice p.1 (n + m) p.2) (fun p => [vec p.1 (n + m) p.2 T.uint64 1 (xs ++ ys)]) := by
  refine fo fun F => ?_
  repeat refine s1 ?_
  refine t_loop (σ := Nat) (fun i => [(11, i64 i), (3, i64 (tot2 n m i)), (9, .slice (some ⟨b0, o0, none⟩) 2 qc), (10, i64 2), (0, .slice (some ⟨b0, o0, none⟩) 2 qc)]) (fun _ => [isl (some ⟨b0, o0, none⟩) 2 qc T.sl_uint64 1 [.slice a n cap, .slice a2 m cap2], isl a n cap T.uint64 1 xs, isl a2 m cap2 T.uint64 1 ys] ++ F)
    (fun i => i ≤ 2) (fun i => 2 - i) 0 (Nat.zero_le _) ⟨rfl, rfl, rfl, rfl, rfl, trivial⟩ (Ent.refl _) ?_
  intro i hi
  dsimp only [List.cons_append, List.nil_append]
  have hi3 : i = 0 ∨ i = 1 ∨ i = 2 := by omega
  rcases hi3 with rfl | rfl | rfl
  · repeat refine s1 ?_
    refine r_icmp rfl rfl rfl rfl ?_
    repeat refine s1 ?_
    refine t_condS rfl (fun hlt => ?_) (fun hlt => absurd (show ((0 : Nat) : Int) < 2 by omega) hlt)
    repeat refine s1 ?_
    refine ix rfl rfl (by omega) ?_
    refine r_loadI (n := 2) (cap := qc) (E := T.sl_uint64) (s := 1) (xs := [.slice a n cap, .slice a2 m cap2]) (off := o0) rfl (j := 0) (v := .slice a n cap) (by omega) (by rfl) rfl rfl ?_
    repeat refine s1 ?_
    refine r_addN (m := 0) (n := n) rfl rfl (by omega) rfl ?_
    repeat refine s1 ?_
    refine r_icmp rfl rfl rfl rfl ?_
    repeat refine s1 ?_
    refine t_condS rfl (fun hlt => absurd hlt (by omega)) (fun hlt => ?_)
    repeat refine s1 ?_
    exact j_again (1 : Nat) (by omega) (by omega) ⟨rfl, by simp [lk, tot2], rfl, rfl, rfl, trivial⟩ (Ent.refl _)
  · repeat refine s1 ?_
    refine r_icmp rfl rfl rfl rfl ?_
    repeat refine s1 ?_
    refine t_condS rfl (fun hlt => ?_) (fun hlt => absurd (show ((1 : Nat) : Int) < 2 by omega) hlt)
    repeat refine s1 ?_
    refine ix rfl rfl (by omega) ?_
    refine r_loadI (n := 2) (cap := qc) (E := T.sl_uint64) (s := 1) (xs := [.slice a n cap, .slice a2 m cap2]) (off := o0) rfl (j := 1) (v := .slice a2 m cap2) (by omega) (by rfl) rfl rfl ?_
    repeat refine s1 ?_
    refine r_addN (m := n) (n := m) rfl rfl (by omega) rfl ?_
    repeat refine s1 ?_
    refine r_icmp rfl rfl rfl rfl ?_
    repeat refine s1 ?_
    refine t_condS rfl (fun hlt => absurd hlt (by omega)) (fun hlt => ?_)
    repeat refine s1 ?_
    exact j_again (2 : Nat) (by omega) (by omega) ⟨rfl, rfl, rfl, rfl, rfl, trivial⟩ (Ent.refl _)
  · repeat refine s1 ?_
    refine r_icmp rfl rfl rfl rfl ?_
    repeat refine s1 ?_
    refine t_condS rfl (fun hlt => absurd hlt (by omega)) (fun hlt => ?_)
    repeat refine s1 ?_
    refine cx (growK_c (n + m) hb Φ) (fun p _ => ?_)
    repeat refine s1 ?_
    refine t_loop (σ := Nat × Option Addr × Nat) (fun s => [(27, i64 s.1), (6, .slice s.2.1 (tot2 n m s.1) s.2.2), (25, .slice (some ⟨b0, o0, none⟩) 2 qc), (26, i64 2)]) (fun s => [vec s.2.1 (tot2 n m s.1) s.2.2 T.uint64 1 (acc2 xs ys s.1), isl (some ⟨b0, o0, none⟩) 2 qc T.sl_uint64 1 [.slice a n cap, .slice a2 m cap2], isl a n cap T.uint64 1 xs, isl a2 m cap2 T.uint64 1 ys] ++ F)
      (fun s => s.1 ≤ 2) (fun s => 2 - s.1) (0, p.1, p.2) (Nat.zero_le _) ⟨rfl, rfl, rfl, rfl, trivial⟩ (Ent.refl _) ?_
    rintro ⟨i, a', c'⟩ hi
    dsimp only [List.cons_append, List.nil_append] at *
    have hi3 : i = 0 ∨ i = 1 ∨ i = 2 := by omega
    rcases hi3 with rfl | rfl | rfl
    · rw [show tot2 n m 0 = 0 from rfl, show acc2 xs ys 0 = [] from rfl]
      repeat refine s1 ?_
      refine r_icmp rfl rfl rfl rfl ?_
      repeat refine s1 ?_
      refine t_condS rfl (fun hlt => ?_) (fun hlt => absurd (show ((0 : Nat) : Int) < 2 by omega) hlt)
      repeat refine s1 ?_
      refine ix rfl rfl (by omega) ?_
      refine r_loadI (n := 2) (cap := qc) (E := T.sl_uint64) (s := 1) (xs := [.slice a n cap, .slice a2 m cap2]) (off := o0) rfl (j := 0) (v := .slice a n cap) (by omega) (by rfl) rfl rfl ?_
      repeat refine s1 ?_
      refine r_append (n := 0) (m := n) (s := 1) (xs := []) (ys := xs) rfl rfl (by decide) (by rfl) h1 (by omega) (by omega) rfl rfl (fun a'' c'' hn => ?_)
      repeat refine s1 ?_
      exact j_again (1, a'', c'') (show 1 ≤ 2 by omega) (show 2 - 1 < 2 - 0 by omega) ⟨rfl, by simp [lk, tot2], rfl, rfl, trivial⟩ (by simp only [Nat.zero_add, List.nil_append, tot2, acc2, if_pos]; exact Ent.refl _)
    · rw [show tot2 n m 1 = n from rfl, show acc2 xs ys 1 = xs from rfl]
      repeat refine s1 ?_
      refine r_icmp rfl rfl rfl rfl ?_
      repeat refine s1 ?_
      refine t_condS rfl (fun hlt => ?_) (fun hlt => absurd (show ((1 : Nat) : Int) < 2 by omega) hlt)
      repeat refine s1 ?_
      refine ix rfl rfl (by omega) ?_
      refine r_loadI (n := 2) (cap := qc) (E := T.sl_uint64) (s := 1) (xs := [.slice a n cap, .slice a2 m cap2]) (off := o0) rfl (j := 1) (v := .slice a2 m cap2) (by omega) (by rfl) rfl rfl ?_
      repeat refine s1 ?_
      refine r_append (n := n) (m := m) (s := 1) (xs := xs) (ys := ys) rfl rfl (by decide) (by rfl) h2 (by omega) (by omega) rfl rfl (fun a'' c'' hn => ?_)
      repeat refine s1 ?_
      exact j_again (2, a'', c'') (show 2 ≤ 2 by omega) (show 2 - 2 < 2 - 1 by omega) ⟨rfl, rfl, rfl, rfl, trivial⟩ (Ent.refl _)
    · rw [show tot2 n m 2 = n + m from rfl, show acc2 xs ys 2 = xs ++ ys from rfl]
      repeat refine s1 ?_
      refine r_icmp rfl rfl rfl rfl ?_
      repeat refine s1 ?_
      refine t_condS rfl (fun hlt => absurd hlt (by omega)) (fun hlt => ?_)
      repeat refine s1 ?_
      exact f1 (a', c')
theorem concatV_c (b0 o0 qc : Nat) (a a2 : Option Addr) (n cap m cap2 : Nat) (xs ys : List Value) (h1 : ∀ v ∈ xs, v.oneCell' = true) (h2 : ∀ v ∈ ys, v.oneCell' = true) (hb : n + m ≤ 1000000) (Φ : Base) :
    Sl.Fn Tryz.prog Φ F.slices_Concat_44_byte_44_byte [.slice (some ⟨b0, o0, none⟩) 2 qc] [isl (some ⟨b0, o0, none⟩) 2 qc T.sl_a44_uint8 1 [.slice a n cap, .slice a2 m cap2], isl a n cap T.a44_uint8 44 xs, isl a2 m cap2 T.a44_uint8 44 ys] (fun _ : Option Addr × Nat => True) (fun p => .slice p.1 (n + m) p.2) (fun p => [vec p.1 (n + m) p.2 T.a44_uint8 44 (xs ++ ys)]) := by
  refine fo fun F => ?_
  repeat refine s1 ?_
  refine t_loop (σ := Nat) (fun i => [(11, i64 i), (3, i64 (tot2 n m i)), (9, .slice (some ⟨b0, o0, none⟩) 2 qc), (10, i64 2), (0, .slice (some ⟨b0, o0, none⟩) 2 qc)]) (fun _ => [isl (some ⟨b0, o0, none⟩) 2 qc T.sl_a44_uint8 1 [.slice a n cap, .slice a2 m cap2], isl a n cap T.a44_uint8 44 xs, isl a2 m cap2 T.a44_uint8 44 ys] ++ F)
    (fun i => i ≤ 2) (fun i => 2 - i) 0 (Nat.zero_le _) ⟨rfl, rfl, rfl, rfl, rfl, trivial⟩ (Ent.refl _) ?_
  intro i hi
  dsimp only [List.cons_append, List.nil_append]
  have hi3 : i = 0 ∨ i = 1 ∨ i = 2 := by omega
  rcases hi3 with rfl | rfl | rfl
  · repeat refine s1 ?_
    refine r_icmp rfl rfl rfl rfl ?_
    repeat refine s1 ?_
    refine t_condS rfl (fun hlt => ?_) (fun hlt => absurd (show ((0 : Nat) : Int) < 2 by omega) hlt)
    repeat refine s1 ?_
    refine ix rfl rfl (by omega) ?_
    refine r_loadI (n := 2) (cap := qc) (E := T.sl_a44_uint8) (s := 1) (xs := [.slice a n cap, .slice a2 m cap2]) (off := o0) rfl (j := 0) (v := .slice a n cap) (by omega) (by rfl) rfl rfl ?_
    repeat refine s1 ?_
    refine r_addN (m := 0) (n := n) rfl rfl (by omega) rfl ?_
    repeat refine s1 ?_
    refine r_icmp rfl rfl rfl rfl ?_
    repeat refine s1 ?_
    refine t_condS rfl (fun hlt => absurd hlt (by omega)) (fun hlt => ?_)
    repeat refine s1 ?_
    exact j_again (1 : Nat) (by omega) (by omega) ⟨rfl, by simp [lk, tot2], rfl, rfl, rfl, trivial⟩ (Ent.refl _)
  · repeat refine s1 ?_
    refine r_icmp rfl rfl rfl rfl ?_
    repeat refine s1 ?_
    refine t_condS rfl (fun hlt => ?_) (fun hlt => absurd (show ((1 : Nat) : Int) < 2 by omega) hlt)
    repeat refine s1 ?_
    refine ix rfl rfl (by omega) ?_
    refine r_loadI (n := 2) (cap := qc) (E := T.sl_a44_uint8) (s := 1) (xs := [.slice a n cap, .slice a2 m cap2]) (off := o0) rfl (j := 1) (v := .slice a2 m cap2) (by omega) (by rfl) rfl rfl ?_
    repeat refine s1 ?_
    refine r_addN (m := n) (n := m) rfl rfl (by omega) rfl ?_
    repeat refine s1 ?_
    refine r_icmp rfl rfl rfl rfl ?_
    repeat refine s1 ?_
    refine t_condS rfl (fun hlt => absurd hlt (by omega)) (fun hlt => ?_)
    repeat refine s1 ?_
    exact j_again (2 : Nat) (by omega) (by omega) ⟨rfl, rfl, rfl, rfl, rfl, trivial⟩ (Ent.refl _)
  · repeat refine s1 ?_
    refine r_icmp rfl rfl rfl rfl ?_
    repeat refine s1 ?_
    refine t_condS rfl (fun hlt => absurd hlt (by omega)) (fun hlt => ?_)
    repeat refine s1 ?_
    refine cx (growV_c (n + m) hb Φ) (fun p _ => ?_)
    repeat refine s1 ?_
    refine t_loop (σ := Nat × Option Addr × Nat) (fun s => [(27, i64 s.1), (6, .slice s.2.1 (tot2 n m s.1) s.2.2), (25, .slice (some ⟨b0, o0, none⟩) 2 qc), (26, i64 2)]) (fun s => [vec s.2.1 (tot2 n m s.1) s.2.2 T.a44_uint8 44 (acc2 xs ys s.1), isl (some ⟨b0, o0, none⟩) 2 qc T.sl_a44_uint8 1 [.slice a n cap, .slice a2 m cap2], isl a n cap T.a44_uint8 44 xs, isl a2 m cap2 T.a44_uint8 44 ys] ++ F)
      (fun s => s.1 ≤ 2) (fun s => 2 - s.1) (0, p.1, p.2) (Nat.zero_le _) ⟨rfl, rfl, rfl, rfl, trivial⟩ (Ent.refl _) ?_
    rintro ⟨i, a', c'⟩ hi
    dsimp only [List.cons_append, List.nil_append] at *
    have hi3 : i = 0 ∨ i = 1 ∨ i = 2 := by omega
    rcases hi3 with rfl | rfl | rfl
    · rw [show tot2 n m 0 = 0 from rfl, show acc2 xs ys 0 = [] from rfl]
      repeat refine s1 ?_
      refine r_icmp rfl rfl rfl rfl ?_
      repeat refine s1 ?_
      refine t_condS rfl (fun hlt => ?_) (fun hlt => absurd (show ((0 : Nat) : Int) < 2 by omega) hlt)
      repeat refine s1 ?_
      refine ix rfl rfl (by omega) ?_
      refine r_loadI (n := 2) (cap := qc) (E := T.sl_a44_uint8) (s := 1) (xs := [.slice a n cap, .slice a2 m cap2]) (off := o0) rfl (j := 0) (v := .slice a n cap) (by omega) (by rfl) rfl rfl ?_
      repeat refine s1 ?_
      refine r_append (n := 0) (m := n) (s := 44) (xs := []) (ys := xs) rfl rfl (by decide) (by rfl) h1 (by omega) (by omega) rfl rfl (fun a'' c'' hn => ?_)
      repeat refine s1 ?_
      exact j_again (1, a'', c'') (show 1 ≤ 2 by omega) (show 2 - 1 < 2 - 0 by omega) ⟨rfl, by simp [lk, tot2], rfl, rfl, trivial⟩ (by simp only [Nat.zero_add, List.nil_append, tot2, acc2, if_pos]; exact Ent.refl _)
    · rw [show tot2 n m 1 = n from rfl, show acc2 xs ys 1 = xs from rfl]
      repeat refine s1 ?_
      refine r_icmp rfl rfl rfl rfl ?_
      repeat refine s1 ?_
      refine t_condS rfl (fun hlt => ?_) (fun hlt => absurd (show ((1 : Nat) : Int) < 2 by omega) hlt)
      repeat refine s1 ?_
      refine ix rfl rfl (by omega) ?_
      refine r_loadI (n := 2) (cap := qc) (E := T.sl_a44_uint8) (s := 1) (xs := [.slice a n cap, .slice a2 m cap2]) (off := o0) rfl (j := 1) (v := .slice a2 m cap2) (by omega) (by rfl) rfl rfl ?_
      repeat refine s1 ?_
      refine r_append (n := n) (m := m) (s := 44) (xs := xs) (ys := ys) rfl rfl (by decide) (by rfl) h2 (by omega) (by omega) rfl rfl (fun a'' c'' hn => ?_)
      repeat refine s1 ?_
      exact j_again (2, a'', c'') (show 2 ≤ 2 by omega) (show 2 - 2 < 2 - 1 by omega) ⟨rfl, rfl, rfl, rfl, trivial⟩ (Ent.refl _)
    · rw [show tot2 n m 2 = n + m from rfl, show acc2 xs ys 2 = xs ++ ys from rfl]
      repeat refine s1 ?_
      refine r_icmp rfl rfl rfl rfl ?_
      repeat refine s1 ?_
      refine t_condS rfl (fun hlt => absurd hlt (by omega)) (fun hlt => ?_)
      repeat refine s1 ?_
      exact f1 (a', c')
theorem concatR_c (b0 o0 qc : Nat) (a a2 : Option Addr) (n cap m cap2 : Nat) (xs ys : List Value) (h1 : ∀ v ∈ xs, v.oneCell' = true) (h2 : ∀ v ∈ ys, v.oneCell' = true) (hb : n + m ≤ 1000000) (Φ : Base) :
    Sl.Fn Tryz.prog Φ F.slices_Concat_api_Ref_api_Ref [.slice (some ⟨b0, o0, none⟩) 2 qc] [isl (some ⟨b0, o0, none⟩) 2 qc T.sl_api_Ref 1 [.slice a n cap, .slice a2 m cap2], isl a n cap T.api_Ref 33 xs, isl a2 m cap2 T.api_Ref 33 ys] (fun _ : Option Addr × Nat => True) (fun p => .slice p.1 (n + m) p.2) (fun p => [vec p.1 (n + m) p.2 T.api_Ref 33 (xs ++ ys)]) := by
  refine fo fun F => ?_
  repeat refine s1 ?_
  refine t_loop (σ := Nat) (fun i => [(11, i64 i), (3, i64 (tot2 n m i)), (9, .slice (some ⟨b0, o0, none⟩) 2 qc), (10, i64 2), (0, .slice (some ⟨b0, o0, none⟩) 2 qc)]) (fun _ => [isl (some ⟨b0, o0, none⟩) 2 qc T.sl_api_Ref 1 [.slice a n cap, .slice a2 m cap2], isl a n cap T.api_Ref 33 xs, isl a2 m cap2 T.api_Ref 33 ys] ++ F)
    (fun i => i ≤ 2) (fun i => 2 - i) 0 (Nat.zero_le _) ⟨rfl, rfl, rfl, rfl, rfl, trivial⟩ (Ent.refl _) ?_
  intro i hi
  dsimp only [List.cons_append, List.nil_append]
  have hi3 : i = 0 ∨ i = 1 ∨ i = 2 := by omega
  rcases hi3 with rfl | rfl | rfl
  · repeat refine s1 ?_
    refine r_icmp rfl rfl rfl rfl ?_
    repeat refine s1 ?_
    refine t_condS rfl (fun hlt => ?_) (fun hlt => absurd (show ((0 : Nat) : Int) < 2 by omega) hlt)
    repeat refine s1 ?_
    refine ix rfl rfl (by omega) ?_
    refine r_loadI (n := 2) (cap := qc) (E := T.sl_api_Ref) (s := 1) (xs := [.slice a n cap, .slice a2 m cap2]) (off := o0) rfl (j := 0) (v := .slice a n cap) (by omega) (by rfl) rfl rfl ?_
    repeat refine s1 ?_
    refine r_addN (m := 0) (n := n) rfl rfl (by omega) rfl ?_
    repeat refine s1 ?_
    refine r_icmp rfl rfl rfl rfl ?_
    repeat refine s1 ?_
    refine t_condS rfl (fun hlt => absurd hlt (by omega)) (fun hlt => ?_)
    repeat refine s1 ?_
    exact j_again (1 : Nat) (by omega) (by omega) ⟨rfl, by simp [lk, tot2], rfl, rfl, rfl, trivial⟩ (Ent.refl _)
  · repeat refine s1 ?_
    refine r_icmp rfl rfl rfl rfl ?_
    repeat refine s1 ?_
    refine t_condS rfl (fun hlt => ?_) (fun hlt => absurd (show ((1 : Nat) : Int) < 2 by omega) hlt)
    repeat refine s1 ?_
    refine ix rfl rfl (by omega) ?_
    refine r_loadI (n := 2) (cap := qc) (E := T.sl_api_Ref) (s := 1) (xs := [.slice a n cap, .slice a2 m cap2]) (off := o0) rfl (j := 1) (v := .slice a2 m cap2) (by omega) (by rfl) rfl rfl ?_
    repeat refine s1 ?_
    refine r_addN (m := n) (n := m) rfl rfl (by omega) rfl ?_
    repeat refine s1 ?_
    refine r_icmp rfl rfl rfl rfl ?_
    repeat refine s1 ?_
    refine t_condS rfl (fun hlt => absurd hlt (by omega)) (fun hlt => ?_)
    repeat refine s1 ?_
    exact j_again (2 : Nat) (by omega) (by omega) ⟨rfl, rfl, rfl, rfl, rfl, trivial⟩ (Ent.refl _)
  · repeat refine s1 ?_
    refine r_icmp rfl rfl rfl rfl ?_
    repeat refine s1 ?_
    refine t_condS rfl (fun hlt => absurd hlt (by omega)) (fun hlt => ?_)
    repeat refine s1 ?_
    refine cx (growR_c (n + m) hb Φ) (fun p _ => ?_)
    repeat refine s1 ?_
    refine t_loop (σ := Nat × Option Addr × Nat) (fun s => [(27, i64 s.1), (6, .slice s.2.1 (tot2 n m s.1) s.2.2), (25, .slice (some ⟨b0, o0, none⟩) 2 qc), (26, i64 2)]) (fun s => [vec s.2.1 (tot2 n m s.1) s.2.2 T.api_Ref 33 (acc2 xs ys s.1), isl (some ⟨b0, o0, none⟩) 2 qc T.sl_api_Ref 1 [.slice a n cap, .slice a2 m cap2], isl a n cap T.api_Ref 33 xs, isl a2 m cap2 T.api_Ref 33 ys] ++ F)
      (fun s => s.1 ≤ 2) (fun s => 2 - s.1) (0, p.1, p.2) (Nat.zero_le _) ⟨rfl, rfl, rfl, rfl, trivial⟩ (Ent.refl _) ?_
    rintro ⟨i, a', c'⟩ hi
    dsimp only [List.cons_append, List.nil_append] at *
    have hi3 : i = 0 ∨ i = 1 ∨ i = 2 := by omega
    rcases hi3 with rfl | rfl | rfl
    · rw [show tot2 n m 0 = 0 from rfl, show acc2 xs ys 0 = [] from rfl]
      repeat refine s1 ?_
      refine r_icmp rfl rfl rfl rfl ?_
      repeat refine s1 ?_
      refine t_condS rfl (fun hlt => ?_) (fun hlt => absurd (show ((0 : Nat) : Int) < 2 by omega) hlt)
      repeat refine s1 ?_
      refine ix rfl rfl (by omega) ?_
      refine r_loadI (n := 2) (cap := qc) (E := T.sl_api_Ref) (s := 1) (xs := [.slice a n cap, .slice a2 m cap2]) (off := o0) rfl (j := 0) (v := .slice a n cap) (by omega) (by rfl) rfl rfl ?_
      repeat refine s1 ?_
      refine r_append (n := 0) (m := n) (s := 33) (xs := []) (ys := xs) rfl rfl (by decide) (by rfl) h1 (by omega) (by omega) rfl rfl (fun a'' c'' hn => ?_)
      repeat refine s1 ?_
      exact j_again (1, a'', c'') (show 1 ≤ 2 by omega) (show 2 - 1 < 2 - 0 by omega) ⟨rfl, by simp [lk, tot2], rfl, rfl, trivial⟩ (by simp only [Nat.zero_add, List.nil_append, tot2, acc2, if_pos]; exact Ent.refl _)
    · rw [show tot2 n m 1 = n from rfl, show acc2 xs ys 1 = xs from rfl]
      repeat refine s1 ?_
      refine r_icmp rfl rfl rfl rfl ?_
      repeat refine s1 ?_
      refine t_condS rfl (fun hlt => ?_) (fun hlt => absurd (show ((1 : Nat) : Int) < 2 by omega) hlt)
      repeat refine s1 ?_
      refine ix rfl rfl (by omega) ?_
      refine r_loadI (n := 2) (cap := qc) (E := T.sl_api_Ref) (s := 1) (xs := [.slice a n cap, .slice a2 m cap2]) (off := o0) rfl (j := 1) (v := .slice a2 m cap2) (by omega) (by rfl) rfl rfl ?_
      repeat refine s1 ?_
      refine r_append (n := n) (m := m) (s := 33) (xs := xs) (ys := ys) rfl rfl (by decide) (by rfl) h2 (by omega) (by omega) rfl rfl (fun a'' c'' hn => ?_)
      repeat refine s1 ?_
      exact j_again (2, a'', c'') (show 2 ≤ 2 by omega) (show 2 - 2 < 2 - 1 by omega) ⟨rfl, rfl, rfl, rfl, trivial⟩ (Ent.refl _)
    · rw [show tot2 n m 2 = n + m from rfl, show acc2 xs ys 2 = xs ++ ys from rfl]
      repeat refine s1 ?_
      refine r_icmp rfl rfl rfl rfl ?_
      repeat refine s1 ?_
      refine t_condS rfl (fun hlt => absurd hlt (by omega)) (fun hlt => ?_)
      repeat refine s1 ?_
      exact f1 (a', c')
end Go.Proofs.YtcnpkmdooekmgaaGreatDoor
namespace Go.Proofs.YtcnpkmdooekmgaaGreatDoor
open Go Sl
section
variable {ro : Option Nat} {P : Program} {C : World → Prop} {S : List Nat} {ops : Array Oper}
/-- a wood: a first tree (its head, what follows at once, its wood), and the other trees. -/
inductive Tr where
  | done
  | br (h : Nat) (l : List Nat) (k : Tr) (alt : Tr)
def Tr.heads : Tr → List Nat
  | .done => []
  | .br h _ _ alt => h :: alt.heads
def Tr.gate (ops : Array Oper) (D : List Nat) : Tr → Bool
  | .done => D.isEmpty
  | k => D.all fun d => k.heads.contains d || D.any fun p => ((Region.before ops).getD d 0).testBit p
def mayN (S : List Nat) (ops : Array Oper) (p q : Nat) : Bool :=
  match ops[p]?, ops[q]? with
  | some o, some o' => mayAhead S ops (ops.size, ops.size) (p, o) (q, o')
  | _, _ => false
def okN (S : List Nat) (ops : Array Oper) : List Nat → Bool
  | [] => true
  | p :: l => l.all (mayN S ops p) && okN S ops l
def nodupB : List Nat → Bool
  | [] => true
  | p :: l => !l.contains p && nodupB l
def Tr.chk (S : List Nat) (ops : Array Oper) : Tr → List Nat → List Nat → Bool
  | .done, _, _ => true
  | .br h l k alt, pend, D => D.contains h && (l.all D.contains && (nodupB (h :: l) && (pend.all (fun p => mayN S ops p h) && (okN S ops (pend ++ l) &&
      (k.gate ops (D.filter fun d => !(h :: l).contains d) && (k.chk S ops (pend ++ l) (D.filter fun d => !(h :: l).contains d) && alt.chk S ops pend D))))))
/-- each tree's walk. -/
def Tr.walk (P : Program) (C : World → Prop) (S : List Nat) (ops : Array Oper) (Q : Act → World → Prop) : Tr → Act → World → Prop
  | .done => fun _ _ => True
  | .br h l .done alt => fun a w => swL P C S ops Q (permL ops (h :: l)) a w ∧ alt.walk P C S ops Q a w
  | .br h l k alt => fun a w => swL P C S ops (k.walk P C S ops Q) (permL ops (h :: l)) a w ∧ alt.walk P C S ops Q a w
def Tr.fin (P : Program) (C : World → Prop) (S : List Nat) (ops : Array Oper) (Q : Act → World → Prop) : Tr → Act → World → Prop
  | .done => Q
  | k => k.walk P C S ops Q
theorem Tr.walk_br {Q : Act → World → Prop} {h : Nat} {l : List Nat} {k alt : Tr} {a : Act} {w : World} (hw : (Tr.br h l k alt).walk P C S ops Q a w) : swL P C S ops (k.fin P C S ops Q) (permL ops (h :: l)) a w ∧ alt.walk P C S ops Q a w := by
  cases k with
  | done => exact hw
  | br _ _ _ _ => exact hw
theorem swL_mono (hnx : ∀ i, exm S i = false) {Q Q' : Act → World → Prop} : ∀ {l : List (Nat × Oper)} {a : Act} {w : World}, C w → (∀ a w, C w → Q a w → Q' a w) → swL P C S ops Q l a w → swL P C S ops Q' l a w
  | [], a, w, hC, hq, h => hq a w hC h
  | (i, o) :: l, a, w, hC, hq, h => swOp_mono hC (fun a w hC' hk => swL_mono hnx (hC'.resolve_left (by rw [hnx]; simp)) hq hk) h
theorem swL_app {Q : Act → World → Prop} {l2 : List (Nat × Oper)} : ∀ {l : List (Nat × Oper)}, swL P C S ops Q (l ++ l2) = swL P C S ops (swL P C S ops Q l2) l
  | [] => rfl
  | (i, o) :: l => by
    funext a w
    show swOp P C S ops i o (swL P C S ops Q (l ++ l2)) a w = swOp P C S ops i o (swL P C S ops (swL P C S ops Q l2) l) a w
    rw [swL_app]
theorem permL_app (ops : Array Oper) : ∀ (l l2 : List Nat), permL ops (l ++ l2) = permL ops l ++ permL ops l2
  | [], _ => rfl
  | k :: l, l2 => by
    simp only [List.cons_append, permL]
    cases ops[k]? with
    | none => exact permL_app ops l l2
    | some o => simp only [List.cons_append, permL_app ops l l2]
theorem Tr.pick {Q : Act → World → Prop} {m : Nat} {pend D : List Nat} : ∀ {k : Tr}, k.chk S ops pend D = true → m ∈ k.heads → ∃ l k', D.contains m = true ∧ l.all D.contains = true ∧ nodupB (m :: l) = true ∧ pend.all (fun p => mayN S ops p m) = true ∧ okN S ops (pend ++ l) = true ∧
    Tr.gate ops (D.filter fun d => !(m :: l).contains d) k' = true ∧ k'.chk S ops (pend ++ l) (D.filter fun d => !(m :: l).contains d) = true ∧ ∀ a w, k.walk P C S ops Q a w → swL P C S ops (k'.fin P C S ops Q) (permL ops (m :: l)) a w
  | .done, _, hm => by cases hm
  | .br h l k alt, hc, hm => by
    simp only [Tr.chk, Bool.and_eq_true] at hc
    obtain ⟨c1, c2, c3, c4, c5, c6, c7, c8⟩ := hc
    by_cases he : m = h
    · subst he
      exact ⟨l, k, c1, c2, c3, c4, c5, c6, c7, fun a w hw => (Tr.walk_br hw).1⟩
    · have hm2 : m ∈ alt.heads := (List.mem_cons.1 hm).resolve_left he
      obtain ⟨l', k', d1, d2, d3, d4, d5, d6, d7, d8⟩ := Tr.pick (Q := Q) c8 hm2
      exact ⟨l', k', d1, d2, d3, d4, d5, d6, d7, fun a w hw => d8 a w (Tr.walk_br hw).2⟩
theorem nodupB_spec : ∀ {l : List Nat}, nodupB l = true → l.Nodup
  | [], _ => List.nodup_nil
  | p :: l, h => by
    simp only [nodupB, Bool.and_eq_true, Bool.not_eq_true'] at h
    exact List.nodup_cons.2 ⟨fun hm => by have := h.1; simp [hm] at this, nodupB_spec h.2⟩
theorem okN_sub : ∀ {l l' : List Nat}, l.Sublist l' → okN S ops l' = true → okN S ops l = true
  | _, _, .slnil, h => h
  | _, _, .cons _ hs, h => by
    simp only [okN, Bool.and_eq_true] at h
    exact okN_sub hs h.2
  | _, _, .cons_cons _ hs, h => by
    simp only [okN, Bool.and_eq_true, List.all_eq_true] at h ⊢
    exact ⟨fun q hq => h.1 q (hs.subset hq), okN_sub hs h.2⟩
theorem okN_mid {m : Nat} {post : List Nat} : ∀ {pre : List Nat}, okN S ops (pre ++ m :: post) = true → ∀ p ∈ pre, mayN S ops p m = true
  | [], _, _, hp => by cases hp
  | p :: pre, h, q, hq => by
    simp only [List.cons_append, okN, Bool.and_eq_true, List.all_eq_true] at h
    rcases List.mem_cons.1 hq with rfl | hq
    · exact h.1 m (by simp)
    · exact okN_mid h.2 q hq
/-- the first step: an operation that may be moved to the front. -/
theorem stepN {Q : Act → World → Prop} {listed : Array Bool} {pre : List Nat} {post : List (Nat × Oper)} {j : Nat} {oj : Oper} {a : Act} {w : World} (hsel : Region.noSelect ops = true) (hnx : ∀ i, exm S i = false)
    (down : ∀ (j : Nat) (o : Oper), ops[j]? = some o → listed.getD j false = true → ∀ e ∈ o.after, Region.binds .any e = true → listed.getD e.on false = true)
    (hun : ∀ p ∈ pre, listed.getD p true = false) (hmay : ∀ p ∈ pre, mayN S ops p j = true)
    (hoj : ops[j]? = some oj) (hall : ∀ e ∈ oj.after, Region.binds .any e = true → listed.getD e.on false = true) (hC : C w) (h : swL P C S ops Q (permL ops pre ++ (j, oj) :: post) a w) :
    swOp P C S ops j oj (swL P C S ops Q (permL ops pre ++ post)) a w := by
  have hns := Region.noSelect_spec (ops := ops) hsel
  refine front (fun cs b => hns j oj cs b hoj) (hnx j) (permL ops pre) (fun p hp => ?_) hC h
  obtain ⟨hp1, hp2⟩ := (permL_mem ops pre p).1 hp
  have hb := unlisted_before down hoj hall (hun p.1 hp1)
  have h1 := hmay p.1 hp1
  have hps := (Array.getElem?_eq_some_iff.1 hp2).1
  simp only [mayN, hp2, hoj, mayAhead, hb, Bool.false_or, Bool.or_eq_true, Bool.and_eq_true, Bool.not_eq_true'] at h1
  rcases h1 with ⟨⟨⟨e1, e2⟩, e3⟩, e4⟩ | ⟨e1, e2⟩
  · exact ⟨e1, fun cs b => hns p.1 p.2 cs b hp2, e2, e3⟩
  · have := Nat.eq_of_beq_eq_true e1; omega
theorem left2_same {listed : Array Bool} {l l' : List (Nat × Oper)} (h : Left2 ops listed l) (hm : ∀ p, p ∈ l' ↔ p ∈ l) (hn : (l'.map Prod.fst).Nodup) : Left2 ops listed l' :=
  ⟨h.size, fun p => (hm p).trans (h.mem p), hn, h.down⟩
theorem wpAny_tree {Q : Exit → Act → World → Prop} (hsel : Region.noSelect ops = true) (hnx : ∀ i, exm S i = false) (hedge : ∀ (j : Nat) (o : Oper), ops[j]? = some o → ∀ e ∈ o.after, Region.binds .any e = true → e.on < j) :
    ∀ (fuel : Nat) (listed : Array Bool) (l0 D pend : List Nat) (k : Tr) (a : Act) (w : World), (l0 ++ D).length = fuel → (∀ i ∈ l0 ++ D, i < ops.size) → Left2 ops listed (permL ops (l0 ++ D)) → l0.Sublist pend → okN S ops pend = true →
      k.gate ops D = true → k.chk S ops pend D = true → C w → swL P C S ops (k.fin P C S ops (fun a w => Q .normal a w)) (permL ops l0) a w → wpAnyIn (fen ro) 0 P .any ops Q fuel listed a w := by
  intro fuel
  induction fuel with
  | zero =>
    intro listed l0 D pend k a w hlen hin hL hsub hok hg hck hC h
    have h0 : l0 ++ D = [] := List.length_eq_zero_iff.1 hlen
    obtain ⟨rfl, rfl⟩ := List.append_eq_nil_iff.1 h0
    have hk : k = .done := by
      cases k with
      | done => rfl
      | br h l k alt => simp [Tr.chk] at hck
    subst hk
    refine ⟨?_, h⟩
    rw [List.eq_nil_iff_forall_not_mem]
    intro j hj
    obtain ⟨h0, o, ho, _⟩ := mem_ready.1 hj
    have := (hL.mem (j, o)).2 ⟨ho, h0⟩
    simp [permL] at this
  | succ fuel ih =>
    intro listed l0 D pend k a w hlen hin hL hsub hok hg hck hC h
    have hfst : (permL ops (l0 ++ D)).map Prod.fst = l0 ++ D := permL_fst ops _ hin
    have hne : permL ops (l0 ++ D) ≠ [] := fun e => by rw [e] at hfst; simp [← hfst] at hlen
    refine ⟨fun h0 => absurd h0 (ready2 hedge hL hne), fun m hm => ?_⟩
    obtain ⟨hun, om, hom, hall⟩ := mem_ready.1 hm
    have hmem : m ∈ l0 ++ D := ((permL_mem ops _ _).1 ((hL.mem (m, om)).2 ⟨hom, hun⟩)).1
    have hund : ∀ p ∈ l0 ++ D, listed.getD p true = false := fun p hp => by
      have hps := hin p hp
      exact ((hL.mem (p, ops[p])).1 ((permL_mem ops _ _).2 ⟨hp, Array.getElem?_eq_getElem hps⟩)).2
    have hnd : (l0 ++ D).Nodup := by rw [← hfst]; exact hL.nd
    by_cases hm0 : m ∈ l0
    · obtain ⟨pre, post, rfl⟩ := List.append_of_mem hm0
      have hcons : ∀ (l : List Nat), permL ops (m :: l) = (m, om) :: permL ops l := fun l => by simp only [permL, hom]
      rw [permL_app, hcons] at h
      have hL' : Left2 ops listed (permL ops pre ++ (m, om) :: permL ops (post ++ D)) := by
        rw [← hcons, ← permL_app]; simpa using hL
      have hf := stepN (Q := k.fin P C S ops (fun a w => Q .normal a w)) hsel hnx hL.down (fun p hp => hund p (by simp [hp])) (okN_mid (okN_sub hsub hok)) hom hall hC h
      refine wpOpIn_mono (fun a' w' ⟨hC', hk⟩ => ih (listed.setIfInBounds m true) (pre ++ post) D pend k a' w' (by simp at hlen ⊢; omega) (fun i hi => hin i ?_) ?_ ?_ hok hg hck (hC'.resolve_left (by rw [hnx]; simp)) ?_) (wpOp_of_swOp ro hom hC hf)
      · simp only [List.mem_append, List.mem_cons] at hi ⊢; rcases hi with (hi | hi) | hi <;> simp [hi]
      · have := left2_erase hL' hom hall
        rw [← permL_app] at this
        simpa using this
      · exact ((List.Sublist.refl pre).append (List.sublist_cons_self m post)).trans hsub
      · rw [permL_app]; exact hk
    · have hmD : m ∈ D := (List.mem_append.1 hmem).resolve_left hm0
      have hhead : m ∈ k.heads := by
        cases k with
        | done => simp [Tr.gate] at hg; subst hg; cases hmD
        | br h0 l k alt =>
          simp only [Tr.gate, List.all_eq_true, Bool.or_eq_true, List.any_eq_true] at hg
          rcases hg m hmD with h1 | ⟨p, hp, hb⟩
          · simpa using h1
          · have := unlisted_before hL.down hom hall (hund p (by simp [hp]))
            rw [hb] at this; cases this
      have hkd : k.fin P C S ops (fun a w => Q .normal a w) = k.walk P C S ops (fun a w => Q .normal a w) := by
        cases k with
        | done => cases hhead
        | br _ _ _ _ => rfl
      obtain ⟨l', k', d1, d2, d3, d4, d5, d6, d7, d8⟩ := Tr.pick (Q := fun a w => Q .normal a w) hck hhead
      have hcons : ∀ (l : List Nat), permL ops (m :: l) = (m, om) :: permL ops l := fun l => by simp only [permL, hom]
      rw [hkd] at h
      have h2 := swL_mono hnx hC (fun a w _ hw => d8 a w hw) h
      rw [← swL_app, hcons] at h2
      have hf := stepN (Q := k'.fin P C S ops (fun a w => Q .normal a w)) hsel hnx hL.down (fun p hp => hund p (by simp [hp])) (fun p hp => (List.all_eq_true.1 d4) p (hsub.subset hp)) hom hall hC h2
      have hDm : ∀ x, x ∈ D ↔ x ∈ m :: (l' ++ D.filter fun d => !(m :: l').contains d) := fun x => by
        simp only [List.mem_cons, List.mem_append, List.mem_filter, Bool.not_eq_true', List.contains_eq_mem, decide_eq_false_iff_not, not_or]
        constructor
        · intro hx
          by_cases e1 : x = m
          · exact .inl e1
          · by_cases e2 : x ∈ l'
            · exact .inr (.inl e2)
            · exact .inr (.inr ⟨hx, e1, e2⟩)
        · rintro (rfl | hx | hx)
          · exact hmD
          · simpa using (List.all_eq_true.1 d2) x hx
          · exact hx.1
      have hnd0 := List.nodup_append.1 hnd
      have hnl := List.nodup_cons.1 (nodupB_spec d3)
      have hnd2 : (l0 ++ m :: (l' ++ D.filter fun d => !(m :: l').contains d)).Nodup := by
        refine List.nodup_append.2 ⟨hnd0.1, List.nodup_cons.2 ⟨?_, List.nodup_append.2 ⟨hnl.2, hnd0.2.1.filter _, ?_⟩⟩, fun x hx y hy => hnd0.2.2 x hx y ((hDm y).2 hy)⟩
        · intro hx
          rcases List.mem_append.1 hx with hx | hx
          · exact hnl.1 hx
          · simp at hx
        · intro x hx y hy e
          subst e
          simp [hx] at hy
      have hin2 : ∀ i ∈ l0 ++ m :: (l' ++ D.filter fun d => !(m :: l').contains d), i < ops.size := fun i hi => by
        rcases List.mem_append.1 hi with hi | hi
        · exact hin i (by simp [hi])
        · exact hin i (by simp [(hDm i).2 hi])
      have hL' : Left2 ops listed (permL ops l0 ++ (m, om) :: permL ops (l' ++ D.filter fun d => !(m :: l').contains d)) := by
        rw [← hcons, ← permL_app]
        refine left2_same hL (fun p => ?_) (by rw [permL_fst ops _ hin2]; exact hnd2)
        rw [permL_mem, permL_mem, List.mem_append, List.mem_append, ← hDm]
      refine wpOpIn_mono (fun a' w' ⟨hC', hk⟩ => ih (listed.setIfInBounds m true) (l0 ++ l') (D.filter fun d => !(m :: l').contains d) (pend ++ l') k' a' w' ?_ (fun i hi => hin2 i ?_) ?_ (hsub.append (List.Sublist.refl l')) d5 d6 d7 (hC'.resolve_left (by rw [hnx]; simp)) ?_) (wpOp_of_swOp ro hom hC hf)
      · have hp : (l0 ++ D).length = (l0 ++ m :: (l' ++ D.filter fun d => !(m :: l').contains d)).length := by
          have := (List.perm_ext_iff_of_nodup hnd hnd2).2 (fun x => by rw [List.mem_append, List.mem_append, hDm])
          exact this.length_eq
        simp only [List.length_append, List.length_cons] at hp hlen ⊢
        omega
      · rcases List.mem_append.1 hi with hi | hi
        · rcases List.mem_append.1 hi with hi | hi
          · exact List.mem_append_left _ hi
          · exact List.mem_append_right _ (List.mem_cons_of_mem _ (List.mem_append_left _ hi))
        · exact List.mem_append_right _ (List.mem_cons_of_mem _ (List.mem_append_right _ hi))
      · have := left2_erase hL' hom hall
        rw [← permL_app] at this
        simpa using this
      · rw [permL_app]; exact hk
def chkT (S : List Nat) (ops : Array Oper) (l0 : List Nat) (k : Tr) : Bool :=
  Region.noSelect ops && (S.all (fun i => Nat.blt i 1000000) && (((List.range ops.size).all fun k => match ops[k]? with
    | some o => o.after.all fun e => !Region.binds .any e || decide (e.on < k)
    | none => true) && (l0.all (fun i => Nat.blt i ops.size) && (nodupB l0 && (okN S ops l0 && (k.gate ops ((List.range ops.size).filter fun d => !l0.contains d) && k.chk S ops l0 ((List.range ops.size).filter fun d => !l0.contains d)))))))
theorem wp_region_tree {id : Nat} {l0 : List Nat} {k : Tr} {Q : Exit → Act → World → Prop} {a : Act} {w : World} (hm : P.follows .mixedOrders = true) (hchk : chkT S ops l0 k = true)
    (hC : C { w with drawn := w.drawn + 1 }) (h : swL P C S ops (k.fin P C S ops (fun a w => Q .normal a w)) (permL ops l0) a { w with drawn := w.drawn + 1 }) : (Code.region id ops true).wpIn (fen ro) 0 P Q a w := by
  simp only [chkT, Bool.and_eq_true, List.all_eq_true, List.mem_range] at hchk
  obtain ⟨c1, c2, c3, c4, c5, c6, c7, c8⟩ := hchk
  have hnx : ∀ i, exm S i = false := fun i => by
    cases hx : exm S i with
    | false => rfl
    | true =>
      have h1 : i + 1000000 ∈ S := by simpa [exm] using hx
      have h2 := c2 _ h1
      simp only [Nat.blt_eq] at h2
      omega
  have hmem : ∀ i, i ∈ l0 ++ ((List.range ops.size).filter fun d => !l0.contains d) ↔ i < ops.size := fun i => by
    simp only [List.mem_append, List.mem_filter, List.mem_range, Bool.not_eq_true', List.contains_eq_mem, decide_eq_false_iff_not]
    constructor
    · rintro (hi | hi)
      · have := c4 i hi; simpa [Nat.blt_eq] using this
      · exact hi.1
    · intro hi
      by_cases h0 : i ∈ l0
      · exact .inl h0
      · exact .inr ⟨hi, h0⟩
  have hnd : (l0 ++ ((List.range ops.size).filter fun d => !l0.contains d)).Nodup := by
    refine List.nodup_append.2 ⟨nodupB_spec c5, List.nodup_range.filter _, fun x hx y hy e => ?_⟩
    subst e
    simp [hx] at hy
  have hlen : (l0 ++ ((List.range ops.size).filter fun d => !l0.contains d)).length = ops.size := by
    have := (List.perm_ext_iff_of_nodup hnd (List.nodup_range (n := ops.size))).2 (fun x => by rw [hmem, List.mem_range])
    rw [this.length_eq, List.length_range]
  have hun : ∀ k, k < ops.size → (Array.replicate ops.size false).getD k true = false := fun k hk => by simp [hk]
  refine wpIn_region_any hm (wpAny_tree (pend := l0) c1 hnx (fun k o ho e he hb => ?_) ops.size _ l0 _ k a _ hlen (fun i hi => (hmem i).1 hi) ?_ (List.Sublist.refl _) c6 c7 c8 hC h)
  · have h1 := c3 k (Array.getElem?_eq_some_iff.1 ho).1
    rw [ho] at h1
    have h2 := Array.all_eq_true_iff_forall_mem.1 h1 e he
    simpa [hb] using h2
  · refine ⟨by simp, fun p => ?_, by rw [permL_fst ops _ (fun i hi => (hmem i).1 hi)]; exact hnd, fun k o ho hl => ?_⟩
    · rw [permL_mem, hmem]
      constructor
      · exact fun ⟨h1, h2⟩ => ⟨h2, hun _ h1⟩
      · exact fun ⟨h1, _⟩ => ⟨(Array.getElem?_eq_some_iff.1 h1).1, h1⟩
    · have hlt := (Array.getElem?_eq_some_iff.1 ho).1
      simp [hlt] at hl
end
section
variable {X : Cx} {e : Env} {L : List Assn} {Q : Exit → Act → World → Prop} {R : Act → World → Prop} {l : List Oper} {C : World → Prop} {S : List Nat} {ops : Array Oper}
/-- a region by a tree of orders. -/
theorem t_tree (A : List Assn) (S : List Nat) (l0 : List Nat) (k : Tr) {id : Nat} (hm : X.P.follows .mixedOrders = true) (hchk : chkT S l.toArray l0 k = true) [st : Stay A L]
    (h : J X e L (swL X.P (Holds X.Φ A) S l.toArray (k.fin X.P (Holds X.Φ A) S l.toArray (Q .normal)) (permL l.toArray l0))) : J X e L (cw X.P (Code.region id l.toArray true) Q) := fun a w m hh _ro _ =>
  have hh' : Holds X.Φ L { w with drawn := w.drawn + 1 } := hh.draws rfl rfl rfl rfl
  wp_region_tree (C := Holds X.Φ A) (S := S) hm hchk (hh'.ent st.ent) (h a _ m hh')
theorem t_br {h : Nat} {l0 : List Nat} {k alt : Tr} (h1 : J X e L (swL X.P C S ops (k.fin X.P C S ops R) (permL ops (h :: l0)))) (h2 : J X e L (alt.walk X.P C S ops R)) : J X e L ((Tr.br h l0 k alt).walk X.P C S ops R) := fun a w m hh => by
  cases k with
  | done => exact ⟨h1 a w m hh, h2 a w m hh⟩
  | br _ _ _ _ => exact ⟨h1 a w m hh, h2 a w m hh⟩
theorem t_brF {h : Nat} {l0 : List Nat} {k alt : Tr} (h1 : J X e L (swL X.P C S ops (k.fin X.P C S ops R) (permL ops (h :: l0)))) (h2 : J X e L (alt.walk X.P C S ops R)) : J X e L ((Tr.br h l0 k alt).fin X.P C S ops R) := t_br h1 h2
theorem t_brN : J X e L (Tr.done.walk X.P C S ops R) := fun _ _ _ _ => trivial
end
end Go.Proofs.YtcnpkmdooekmgaaGreatDoor
namespace Go.Proofs.YtcnpkmdooekmgaaGreatDoor
open Go Sl
attribute [local irreducible] cw sw J Exit.then Exit.inBlock Exit.noGoto bodyPost swG swL permL
set_option maxHeartbeats 4000000 in
theorem join_c (n m : Nd) (x y : NR) (hn : n.whole) (hm : m.whole) (hl : n.leaf = m.leaf) (tn : n.wt) (tm : m.wt) (Φ : Base) :
    Sl.Fn Tryz.prog Φ F.node_Join [nV n x, nV m y] [node n x, node m y] (fun _ : NR => True) (fun q => nV (n.join m) q) (fun q => [node (n.join m) q]) := by
  have hk := hn.keys
  have hk2 := hm.keys
  obtain ⟨hv, hr⟩ := hn.lens
  obtain ⟨hv2, hr2⟩ := hm.lens
  obtain ⟨o1, o2, o3⟩ := tn.one
  obtain ⟨q1, q2, q3⟩ := tm.one
  have e1 : n.keys.map w64 ++ m.keys.map w64 = (n.join m).keys.map w64 := List.map_append.symm
  have e2 : (n.vals.flatMap fun v => v.map u8) ++ (m.vals.flatMap fun v => v.map u8) = (n.join m).vals.flatMap fun v => v.map u8 := List.flatMap_append.symm
  have e3 : n.kids.flatMap rcells ++ m.kids.flatMap rcells = (n.join m).kids.flatMap rcells := List.flatMap_append.symm
  have e4 : n.keys.length + m.keys.length = (n.join m).keys.length := List.length_append.symm
  have e5 : n.vals.length + m.vals.length = (n.join m).vals.length := List.length_append.symm
  have e6 : n.kids.length + m.kids.length = (n.join m).kids.length := List.length_append.symm
  refine fo fun F => ?_
  repeat refine s1 ?_
  refine r_box (cs := nbx n x) rfl rfl rfl rfl (fun t2 => ?_)
  repeat refine s1 ?_
  refine r_box (cs := nbx m y) rfl rfl rfl rfl (fun t3 => ?_)
  repeat refine s1 ?_
  refine al (fun t4 => ?_)
  repeat refine s1 ?_
  refine cl (whole_c n x hn.is Φ) ?_
  repeat refine s1 ?_
  refine cl (whole_c m y hm.is Φ) ?_
  repeat refine s1 ?_
  refine r_bne rfl rfl rfl ?_
  rw [show (!(n.leaf == m.leaf)) = false by simp [hl]]
  repeat refine s1 ?_
  refine j_head (node n x) (j_ent (Ent.unnode _) ?_)
  refine j_head (node m y) (j_ent (Ent.unnode _) ?_)
  refine t_tree [pt t2 (.cells (nbx n x).toArray T.node_Node (0, 0)), pt t3 (.cells (nbx m y).toArray T.node_Node (0, 0))] [1, 3, 5, 9, 11, 15, 17] [0, 1, 2, 3, 4, 5, 8, 9, 10, 11, 14, 15, 16, 17] (.br 6 [] (.br 7 [] (.br 12 [] (.br 13 [] (.br 18 [] (.br 19 [20, 21] .done .done) .done) (.br 18 [] (.br 13 [] (.br 19 [20, 21] .done .done) .done) .done)) (.br 18 [] (.br 12 [] (.br 13 [] (.br 19 [20, 21] .done .done) .done) .done) .done)) (.br 12 [] (.br 7 [] (.br 13 [] (.br 18 [] (.br 19 [20, 21] .done .done) .done) (.br 18 [] (.br 13 [] (.br 19 [20, 21] .done .done) .done) .done)) (.br 18 [] (.br 7 [] (.br 13 [] (.br 19 [20, 21] .done .done) .done) .done) .done)) (.br 18 [] (.br 7 [] (.br 12 [] (.br 13 [] (.br 19 [20, 21] .done .done) .done) .done) (.br 12 [] (.br 7 [] (.br 13 [] (.br 19 [20, 21] .done .done) .done) .done) .done)) .done))) (.br 12 [] (.br 6 [] (.br 7 [] (.br 13 [] (.br 18 [] (.br 19 [20, 21] .done .done) .done) (.br 18 [] (.br 13 [] (.br 19 [20, 21] .done .done) .done) .done)) (.br 18 [] (.br 7 [] (.br 13 [] (.br 19 [20, 21] .done .done) .done) .done) .done)) (.br 18 [] (.br 6 [] (.br 7 [] (.br 13 [] (.br 19 [20, 21] .done .done) .done) .done) .done) .done)) (.br 18 [] (.br 6 [] (.br 7 [] (.br 12 [] (.br 13 [] (.br 19 [20, 21] .done .done) .done) .done) (.br 12 [] (.br 7 [] (.br 13 [] (.br 19 [20, 21] .done .done) .done) .done) .done)) (.br 12 [] (.br 6 [] (.br 7 [] (.br 13 [] (.br 19 [20, 21] .done .done) .done) .done) .done) .done)) .done))) mixed (by decide +kernel) ?_
  repeat refine s1 ?_
  refine t_brF ?_ ?_
  · repeat refine s1 ?_
    refine r_build1s [.tmp 24, .tmp 26] [.slice x.ka n.keys.length x.kc, .slice y.ka m.keys.length y.kc] rfl rfl (by simp [Value.oneCell']) (by simp) rfl rfl rfl (fun b6 => ?_)
    refine fz ?_
    repeat refine s1 ?_
    refine t_brF ?_ ?_
    · repeat refine s1 ?_
      refine cx (concatK_c b6 0 2 x.ka y.ka n.keys.length x.kc m.keys.length y.kc (n.keys.map w64) (m.keys.map w64) o1 q1 (by omega) Φ) (fun p1 _ => ?_)
      repeat refine s1 ?_
      refine t_brF ?_ ?_
      · repeat refine s1 ?_
        refine r_build1s [.tmp 30, .tmp 32] [.slice x.va n.vals.length x.vc, .slice y.va m.vals.length y.vc] rfl rfl (by simp [Value.oneCell']) (by simp) rfl rfl rfl (fun b12 => ?_)
        refine fz ?_
        repeat refine s1 ?_
        refine t_brF ?_ ?_
        · repeat refine s1 ?_
          refine cx (concatV_c b12 0 2 x.va y.va n.vals.length x.vc m.vals.length y.vc (n.vals.flatMap fun v => v.map u8) (m.vals.flatMap fun v => v.map u8) o2 q2 (by omega) Φ) (fun p2 _ => ?_)
          repeat refine s1 ?_
          refine t_brF ?_ ?_
          · repeat refine s1 ?_
            refine r_build1s [.tmp 36, .tmp 38] [.slice x.ra n.kids.length x.rc, .slice y.ra m.kids.length y.rc] rfl rfl (by simp [Value.oneCell']) (by simp) rfl rfl rfl (fun b18 => ?_)
            refine fz ?_
            repeat refine s1 ?_
            refine t_brF ?_ ?_
            · repeat refine s1 ?_
              refine cx (concatR_c b18 0 2 x.ra y.ra n.kids.length x.rc m.kids.length y.rc (n.kids.flatMap rcells) (m.kids.flatMap rcells) o3 q3 (by omega) Φ) (fun p3 _ => ?_)
              rw [e1, e2, e3, e4, e5, e6]
              repeat refine s1 ?_
              refine r_build (cells := nbx (n.join m) ⟨p1.1, p1.2, p2.1, p2.2, p3.1, p3.2⟩) rfl (by rfl) rfl ?_
              repeat refine s1 ?_
              refine r_storeW (vs := nbx (n.join m) ⟨p1.1, p1.2, p2.1, p2.2, p3.1, p3.2⟩) rfl rfl (by rfl) (by rfl) (by simp [Value.oneCell']) rfl ?_
              repeat refine s1 ?_
              refine jh [vec p3.1 (n.join m).kids.length p3.2 T.api_Ref 33 ((n.join m).kids.flatMap rcells), vec p2.1 (n.join m).vals.length p2.2 T.a44_uint8 44 ((n.join m).vals.flatMap fun v => v.map u8), vec p1.1 (n.join m).keys.length p1.2 T.uint64 1 ((n.join m).keys.map w64)] ?_
              refine j_node (m := n.join m) ⟨p1.1, p1.2, p2.1, p2.2, p3.1, p3.2⟩ ?_
              exact j_fin rfl (.cons (rv_agg (l := nbx (n.join m) ⟨p1.1, p1.2, p2.1, p2.2, p3.1, p3.2⟩) (U := T.node_Node) (fr := (0, 0)) rfl (by rfl)) .nil) ⟨p1.1, p1.2, p2.1, p2.2, p3.1, p3.2⟩ rfl trivial
            exact t_brN
          exact t_brN
        refine t_br ?_ ?_
        · repeat refine s1 ?_
          refine r_build1s [.tmp 36, .tmp 38] [.slice x.ra n.kids.length x.rc, .slice y.ra m.kids.length y.rc] rfl rfl (by simp [Value.oneCell']) (by simp) rfl rfl rfl (fun b18 => ?_)
          refine fz ?_
          repeat refine s1 ?_
          refine t_brF ?_ ?_
          · repeat refine s1 ?_
            refine cx (concatV_c b12 0 2 x.va y.va n.vals.length x.vc m.vals.length y.vc (n.vals.flatMap fun v => v.map u8) (m.vals.flatMap fun v => v.map u8) o2 q2 (by omega) Φ) (fun p2 _ => ?_)
            repeat refine s1 ?_
            refine t_brF ?_ ?_
            · repeat refine s1 ?_
              refine cx (concatR_c b18 0 2 x.ra y.ra n.kids.length x.rc m.kids.length y.rc (n.kids.flatMap rcells) (m.kids.flatMap rcells) o3 q3 (by omega) Φ) (fun p3 _ => ?_)
              rw [e1, e2, e3, e4, e5, e6]
              repeat refine s1 ?_
              refine r_build (cells := nbx (n.join m) ⟨p1.1, p1.2, p2.1, p2.2, p3.1, p3.2⟩) rfl (by rfl) rfl ?_
              repeat refine s1 ?_
              refine r_storeW (vs := nbx (n.join m) ⟨p1.1, p1.2, p2.1, p2.2, p3.1, p3.2⟩) rfl rfl (by rfl) (by rfl) (by simp [Value.oneCell']) rfl ?_
              repeat refine s1 ?_
              refine jh [vec p3.1 (n.join m).kids.length p3.2 T.api_Ref 33 ((n.join m).kids.flatMap rcells), vec p2.1 (n.join m).vals.length p2.2 T.a44_uint8 44 ((n.join m).vals.flatMap fun v => v.map u8), vec p1.1 (n.join m).keys.length p1.2 T.uint64 1 ((n.join m).keys.map w64)] ?_
              refine j_node (m := n.join m) ⟨p1.1, p1.2, p2.1, p2.2, p3.1, p3.2⟩ ?_
              exact j_fin rfl (.cons (rv_agg (l := nbx (n.join m) ⟨p1.1, p1.2, p2.1, p2.2, p3.1, p3.2⟩) (U := T.node_Node) (fr := (0, 0)) rfl (by rfl)) .nil) ⟨p1.1, p1.2, p2.1, p2.2, p3.1, p3.2⟩ rfl trivial
            exact t_brN
          exact t_brN
        exact t_brN
      refine t_br ?_ ?_
      · repeat refine s1 ?_
        refine r_build1s [.tmp 36, .tmp 38] [.slice x.ra n.kids.length x.rc, .slice y.ra m.kids.length y.rc] rfl rfl (by simp [Value.oneCell']) (by simp) rfl rfl rfl (fun b18 => ?_)
        refine fz ?_
        repeat refine s1 ?_
        refine t_brF ?_ ?_
        · repeat refine s1 ?_
          refine r_build1s [.tmp 30, .tmp 32] [.slice x.va n.vals.length x.vc, .slice y.va m.vals.length y.vc] rfl rfl (by simp [Value.oneCell']) (by simp) rfl rfl rfl (fun b12 => ?_)
          refine fz ?_
          repeat refine s1 ?_
          refine t_brF ?_ ?_
          · repeat refine s1 ?_
            refine cx (concatV_c b12 0 2 x.va y.va n.vals.length x.vc m.vals.length y.vc (n.vals.flatMap fun v => v.map u8) (m.vals.flatMap fun v => v.map u8) o2 q2 (by omega) Φ) (fun p2 _ => ?_)
            repeat refine s1 ?_
            refine t_brF ?_ ?_
            · repeat refine s1 ?_
              refine cx (concatR_c b18 0 2 x.ra y.ra n.kids.length x.rc m.kids.length y.rc (n.kids.flatMap rcells) (m.kids.flatMap rcells) o3 q3 (by omega) Φ) (fun p3 _ => ?_)
              rw [e1, e2, e3, e4, e5, e6]
              repeat refine s1 ?_
              refine r_build (cells := nbx (n.join m) ⟨p1.1, p1.2, p2.1, p2.2, p3.1, p3.2⟩) rfl (by rfl) rfl ?_
              repeat refine s1 ?_
              refine r_storeW (vs := nbx (n.join m) ⟨p1.1, p1.2, p2.1, p2.2, p3.1, p3.2⟩) rfl rfl (by rfl) (by rfl) (by simp [Value.oneCell']) rfl ?_
              repeat refine s1 ?_
              refine jh [vec p3.1 (n.join m).kids.length p3.2 T.api_Ref 33 ((n.join m).kids.flatMap rcells), vec p2.1 (n.join m).vals.length p2.2 T.a44_uint8 44 ((n.join m).vals.flatMap fun v => v.map u8), vec p1.1 (n.join m).keys.length p1.2 T.uint64 1 ((n.join m).keys.map w64)] ?_
              refine j_node (m := n.join m) ⟨p1.1, p1.2, p2.1, p2.2, p3.1, p3.2⟩ ?_
              exact j_fin rfl (.cons (rv_agg (l := nbx (n.join m) ⟨p1.1, p1.2, p2.1, p2.2, p3.1, p3.2⟩) (U := T.node_Node) (fr := (0, 0)) rfl (by rfl)) .nil) ⟨p1.1, p1.2, p2.1, p2.2, p3.1, p3.2⟩ rfl trivial
            exact t_brN
          exact t_brN
        exact t_brN
      exact t_brN
    refine t_br ?_ ?_
    · repeat refine s1 ?_
      refine r_build1s [.tmp 30, .tmp 32] [.slice x.va n.vals.length x.vc, .slice y.va m.vals.length y.vc] rfl rfl (by simp [Value.oneCell']) (by simp) rfl rfl rfl (fun b12 => ?_)
      refine fz ?_
      repeat refine s1 ?_
      refine t_brF ?_ ?_
      · repeat refine s1 ?_
        refine cx (concatK_c b6 0 2 x.ka y.ka n.keys.length x.kc m.keys.length y.kc (n.keys.map w64) (m.keys.map w64) o1 q1 (by omega) Φ) (fun p1 _ => ?_)
        repeat refine s1 ?_
        refine t_brF ?_ ?_
        · repeat refine s1 ?_
          refine cx (concatV_c b12 0 2 x.va y.va n.vals.length x.vc m.vals.length y.vc (n.vals.flatMap fun v => v.map u8) (m.vals.flatMap fun v => v.map u8) o2 q2 (by omega) Φ) (fun p2 _ => ?_)
          repeat refine s1 ?_
          refine t_brF ?_ ?_
          · repeat refine s1 ?_
            refine r_build1s [.tmp 36, .tmp 38] [.slice x.ra n.kids.length x.rc, .slice y.ra m.kids.length y.rc] rfl rfl (by simp [Value.oneCell']) (by simp) rfl rfl rfl (fun b18 => ?_)
            refine fz ?_
            repeat refine s1 ?_
            refine t_brF ?_ ?_
            · repeat refine s1 ?_
              refine cx (concatR_c b18 0 2 x.ra y.ra n.kids.length x.rc m.kids.length y.rc (n.kids.flatMap rcells) (m.kids.flatMap rcells) o3 q3 (by omega) Φ) (fun p3 _ => ?_)
              rw [e1, e2, e3, e4, e5, e6]
              repeat refine s1 ?_
              refine r_build (cells := nbx (n.join m) ⟨p1.1, p1.2, p2.1, p2.2, p3.1, p3.2⟩) rfl (by rfl) rfl ?_
              repeat refine s1 ?_
              refine r_storeW (vs := nbx (n.join m) ⟨p1.1, p1.2, p2.1, p2.2, p3.1, p3.2⟩) rfl rfl (by rfl) (by rfl) (by simp [Value.oneCell']) rfl ?_
              repeat refine s1 ?_
              refine jh [vec p3.1 (n.join m).kids.length p3.2 T.api_Ref 33 ((n.join m).kids.flatMap rcells), vec p2.1 (n.join m).vals.length p2.2 T.a44_uint8 44 ((n.join m).vals.flatMap fun v => v.map u8), vec p1.1 (n.join m).keys.length p1.2 T.uint64 1 ((n.join m).keys.map w64)] ?_
              refine j_node (m := n.join m) ⟨p1.1, p1.2, p2.1, p2.2, p3.1, p3.2⟩ ?_
              exact j_fin rfl (.cons (rv_agg (l := nbx (n.join m) ⟨p1.1, p1.2, p2.1, p2.2, p3.1, p3.2⟩) (U := T.node_Node) (fr := (0, 0)) rfl (by rfl)) .nil) ⟨p1.1, p1.2, p2.1, p2.2, p3.1, p3.2⟩ rfl trivial
            exact t_brN
          exact t_brN
        refine t_br ?_ ?_
        · repeat refine s1 ?_
          refine r_build1s [.tmp 36, .tmp 38] [.slice x.ra n.kids.length x.rc, .slice y.ra m.kids.length y.rc] rfl rfl (by simp [Value.oneCell']) (by simp) rfl rfl rfl (fun b18 => ?_)
          refine fz ?_
          repeat refine s1 ?_
          refine t_brF ?_ ?_
          · repeat refine s1 ?_
            refine cx (concatV_c b12 0 2 x.va y.va n.vals.length x.vc m.vals.length y.vc (n.vals.flatMap fun v => v.map u8) (m.vals.flatMap fun v => v.map u8) o2 q2 (by omega) Φ) (fun p2 _ => ?_)
            repeat refine s1 ?_
            refine t_brF ?_ ?_
            · repeat refine s1 ?_
              refine cx (concatR_c b18 0 2 x.ra y.ra n.kids.length x.rc m.kids.length y.rc (n.kids.flatMap rcells) (m.kids.flatMap rcells) o3 q3 (by omega) Φ) (fun p3 _ => ?_)
              rw [e1, e2, e3, e4, e5, e6]
              repeat refine s1 ?_
              refine r_build (cells := nbx (n.join m) ⟨p1.1, p1.2, p2.1, p2.2, p3.1, p3.2⟩) rfl (by rfl) rfl ?_
              repeat refine s1 ?_
              refine r_storeW (vs := nbx (n.join m) ⟨p1.1, p1.2, p2.1, p2.2, p3.1, p3.2⟩) rfl rfl (by rfl) (by rfl) (by simp [Value.oneCell']) rfl ?_
              repeat refine s1 ?_
              refine jh [vec p3.1 (n.join m).kids.length p3.2 T.api_Ref 33 ((n.join m).kids.flatMap rcells), vec p2.1 (n.join m).vals.length p2.2 T.a44_uint8 44 ((n.join m).vals.flatMap fun v => v.map u8), vec p1.1 (n.join m).keys.length p1.2 T.uint64 1 ((n.join m).keys.map w64)] ?_
              refine j_node (m := n.join m) ⟨p1.1, p1.2, p2.1, p2.2, p3.1, p3.2⟩ ?_
              exact j_fin rfl (.cons (rv_agg (l := nbx (n.join m) ⟨p1.1, p1.2, p2.1, p2.2, p3.1, p3.2⟩) (U := T.node_Node) (fr := (0, 0)) rfl (by rfl)) .nil) ⟨p1.1, p1.2, p2.1, p2.2, p3.1, p3.2⟩ rfl trivial
            exact t_brN
          exact t_brN
        exact t_brN
      refine t_br ?_ ?_
      · repeat refine s1 ?_
        refine r_build1s [.tmp 36, .tmp 38] [.slice x.ra n.kids.length x.rc, .slice y.ra m.kids.length y.rc] rfl rfl (by simp [Value.oneCell']) (by simp) rfl rfl rfl (fun b18 => ?_)
        refine fz ?_
        repeat refine s1 ?_
        refine t_brF ?_ ?_
        · repeat refine s1 ?_
          refine cx (concatK_c b6 0 2 x.ka y.ka n.keys.length x.kc m.keys.length y.kc (n.keys.map w64) (m.keys.map w64) o1 q1 (by omega) Φ) (fun p1 _ => ?_)
          repeat refine s1 ?_
          refine t_brF ?_ ?_
          · repeat refine s1 ?_
            refine cx (concatV_c b12 0 2 x.va y.va n.vals.length x.vc m.vals.length y.vc (n.vals.flatMap fun v => v.map u8) (m.vals.flatMap fun v => v.map u8) o2 q2 (by omega) Φ) (fun p2 _ => ?_)
            repeat refine s1 ?_
            refine t_brF ?_ ?_
            · repeat refine s1 ?_
              refine cx (concatR_c b18 0 2 x.ra y.ra n.kids.length x.rc m.kids.length y.rc (n.kids.flatMap rcells) (m.kids.flatMap rcells) o3 q3 (by omega) Φ) (fun p3 _ => ?_)
              rw [e1, e2, e3, e4, e5, e6]
              repeat refine s1 ?_
              refine r_build (cells := nbx (n.join m) ⟨p1.1, p1.2, p2.1, p2.2, p3.1, p3.2⟩) rfl (by rfl) rfl ?_
              repeat refine s1 ?_
              refine r_storeW (vs := nbx (n.join m) ⟨p1.1, p1.2, p2.1, p2.2, p3.1, p3.2⟩) rfl rfl (by rfl) (by rfl) (by simp [Value.oneCell']) rfl ?_
              repeat refine s1 ?_
              refine jh [vec p3.1 (n.join m).kids.length p3.2 T.api_Ref 33 ((n.join m).kids.flatMap rcells), vec p2.1 (n.join m).vals.length p2.2 T.a44_uint8 44 ((n.join m).vals.flatMap fun v => v.map u8), vec p1.1 (n.join m).keys.length p1.2 T.uint64 1 ((n.join m).keys.map w64)] ?_
              refine j_node (m := n.join m) ⟨p1.1, p1.2, p2.1, p2.2, p3.1, p3.2⟩ ?_
              exact j_fin rfl (.cons (rv_agg (l := nbx (n.join m) ⟨p1.1, p1.2, p2.1, p2.2, p3.1, p3.2⟩) (U := T.node_Node) (fr := (0, 0)) rfl (by rfl)) .nil) ⟨p1.1, p1.2, p2.1, p2.2, p3.1, p3.2⟩ rfl trivial
            exact t_brN
          exact t_brN
        exact t_brN
      exact t_brN
    refine t_br ?_ ?_
    · repeat refine s1 ?_
      refine r_build1s [.tmp 36, .tmp 38] [.slice x.ra n.kids.length x.rc, .slice y.ra m.kids.length y.rc] rfl rfl (by simp [Value.oneCell']) (by simp) rfl rfl rfl (fun b18 => ?_)
      refine fz ?_
      repeat refine s1 ?_
      refine t_brF ?_ ?_
      · repeat refine s1 ?_
        refine cx (concatK_c b6 0 2 x.ka y.ka n.keys.length x.kc m.keys.length y.kc (n.keys.map w64) (m.keys.map w64) o1 q1 (by omega) Φ) (fun p1 _ => ?_)
        repeat refine s1 ?_
        refine t_brF ?_ ?_
        · repeat refine s1 ?_
          refine r_build1s [.tmp 30, .tmp 32] [.slice x.va n.vals.length x.vc, .slice y.va m.vals.length y.vc] rfl rfl (by simp [Value.oneCell']) (by simp) rfl rfl rfl (fun b12 => ?_)
          refine fz ?_
          repeat refine s1 ?_
          refine t_brF ?_ ?_
          · repeat refine s1 ?_
            refine cx (concatV_c b12 0 2 x.va y.va n.vals.length x.vc m.vals.length y.vc (n.vals.flatMap fun v => v.map u8) (m.vals.flatMap fun v => v.map u8) o2 q2 (by omega) Φ) (fun p2 _ => ?_)
            repeat refine s1 ?_
            refine t_brF ?_ ?_
            · repeat refine s1 ?_
              refine cx (concatR_c b18 0 2 x.ra y.ra n.kids.length x.rc m.kids.length y.rc (n.kids.flatMap rcells) (m.kids.flatMap rcells) o3 q3 (by omega) Φ) (fun p3 _ => ?_)
              rw [e1, e2, e3, e4, e5, e6]
              repeat refine s1 ?_
              refine r_build (cells := nbx (n.join m) ⟨p1.1, p1.2, p2.1, p2.2, p3.1, p3.2⟩) rfl (by rfl) rfl ?_
              repeat refine s1 ?_
              refine r_storeW (vs := nbx (n.join m) ⟨p1.1, p1.2, p2.1, p2.2, p3.1, p3.2⟩) rfl rfl (by rfl) (by rfl) (by simp [Value.oneCell']) rfl ?_
              repeat refine s1 ?_
              refine jh [vec p3.1 (n.join m).kids.length p3.2 T.api_Ref 33 ((n.join m).kids.flatMap rcells), vec p2.1 (n.join m).vals.length p2.2 T.a44_uint8 44 ((n.join m).vals.flatMap fun v => v.map u8), vec p1.1 (n.join m).keys.length p1.2 T.uint64 1 ((n.join m).keys.map w64)] ?_
              refine j_node (m := n.join m) ⟨p1.1, p1.2, p2.1, p2.2, p3.1, p3.2⟩ ?_
              exact j_fin rfl (.cons (rv_agg (l := nbx (n.join m) ⟨p1.1, p1.2, p2.1, p2.2, p3.1, p3.2⟩) (U := T.node_Node) (fr := (0, 0)) rfl (by rfl)) .nil) ⟨p1.1, p1.2, p2.1, p2.2, p3.1, p3.2⟩ rfl trivial
            exact t_brN
          exact t_brN
        exact t_brN
      refine t_br ?_ ?_
      · repeat refine s1 ?_
        refine r_build1s [.tmp 30, .tmp 32] [.slice x.va n.vals.length x.vc, .slice y.va m.vals.length y.vc] rfl rfl (by simp [Value.oneCell']) (by simp) rfl rfl rfl (fun b12 => ?_)
        refine fz ?_
        repeat refine s1 ?_
        refine t_brF ?_ ?_
        · repeat refine s1 ?_
          refine cx (concatK_c b6 0 2 x.ka y.ka n.keys.length x.kc m.keys.length y.kc (n.keys.map w64) (m.keys.map w64) o1 q1 (by omega) Φ) (fun p1 _ => ?_)
          repeat refine s1 ?_
          refine t_brF ?_ ?_
          · repeat refine s1 ?_
            refine cx (concatV_c b12 0 2 x.va y.va n.vals.length x.vc m.vals.length y.vc (n.vals.flatMap fun v => v.map u8) (m.vals.flatMap fun v => v.map u8) o2 q2 (by omega) Φ) (fun p2 _ => ?_)
            repeat refine s1 ?_
            refine t_brF ?_ ?_
            · repeat refine s1 ?_
              refine cx (concatR_c b18 0 2 x.ra y.ra n.kids.length x.rc m.kids.length y.rc (n.kids.flatMap rcells) (m.kids.flatMap rcells) o3 q3 (by omega) Φ) (fun p3 _ => ?_)
              rw [e1, e2, e3, e4, e5, e6]
              repeat refine s1 ?_
              refine r_build (cells := nbx (n.join m) ⟨p1.1, p1.2, p2.1, p2.2, p3.1, p3.2⟩) rfl (by rfl) rfl ?_
              repeat refine s1 ?_
              refine r_storeW (vs := nbx (n.join m) ⟨p1.1, p1.2, p2.1, p2.2, p3.1, p3.2⟩) rfl rfl (by rfl) (by rfl) (by simp [Value.oneCell']) rfl ?_
              repeat refine s1 ?_
              refine jh [vec p3.1 (n.join m).kids.length p3.2 T.api_Ref 33 ((n.join m).kids.flatMap rcells), vec p2.1 (n.join m).vals.length p2.2 T.a44_uint8 44 ((n.join m).vals.flatMap fun v => v.map u8), vec p1.1 (n.join m).keys.length p1.2 T.uint64 1 ((n.join m).keys.map w64)] ?_
              refine j_node (m := n.join m) ⟨p1.1, p1.2, p2.1, p2.2, p3.1, p3.2⟩ ?_
              exact j_fin rfl (.cons (rv_agg (l := nbx (n.join m) ⟨p1.1, p1.2, p2.1, p2.2, p3.1, p3.2⟩) (U := T.node_Node) (fr := (0, 0)) rfl (by rfl)) .nil) ⟨p1.1, p1.2, p2.1, p2.2, p3.1, p3.2⟩ rfl trivial
            exact t_brN
          exact t_brN
        exact t_brN
      exact t_brN
    exact t_brN
  refine t_br ?_ ?_
  · repeat refine s1 ?_
    refine r_build1s [.tmp 30, .tmp 32] [.slice x.va n.vals.length x.vc, .slice y.va m.vals.length y.vc] rfl rfl (by simp [Value.oneCell']) (by simp) rfl rfl rfl (fun b12 => ?_)
    refine fz ?_
    repeat refine s1 ?_
    refine t_brF ?_ ?_
    · repeat refine s1 ?_
      refine r_build1s [.tmp 24, .tmp 26] [.slice x.ka n.keys.length x.kc, .slice y.ka m.keys.length y.kc] rfl rfl (by simp [Value.oneCell']) (by simp) rfl rfl rfl (fun b6 => ?_)
      refine fz ?_
      repeat refine s1 ?_
      refine t_brF ?_ ?_
      · repeat refine s1 ?_
        refine cx (concatK_c b6 0 2 x.ka y.ka n.keys.length x.kc m.keys.length y.kc (n.keys.map w64) (m.keys.map w64) o1 q1 (by omega) Φ) (fun p1 _ => ?_)
        repeat refine s1 ?_
        refine t_brF ?_ ?_
        · repeat refine s1 ?_
          refine cx (concatV_c b12 0 2 x.va y.va n.vals.length x.vc m.vals.length y.vc (n.vals.flatMap fun v => v.map u8) (m.vals.flatMap fun v => v.map u8) o2 q2 (by omega) Φ) (fun p2 _ => ?_)
          repeat refine s1 ?_
          refine t_brF ?_ ?_
          · repeat refine s1 ?_
            refine r_build1s [.tmp 36, .tmp 38] [.slice x.ra n.kids.length x.rc, .slice y.ra m.kids.length y.rc] rfl rfl (by simp [Value.oneCell']) (by simp) rfl rfl rfl (fun b18 => ?_)
            refine fz ?_
            repeat refine s1 ?_
            refine t_brF ?_ ?_
            · repeat refine s1 ?_
              refine cx (concatR_c b18 0 2 x.ra y.ra n.kids.length x.rc m.kids.length y.rc (n.kids.flatMap rcells) (m.kids.flatMap rcells) o3 q3 (by omega) Φ) (fun p3 _ => ?_)
              rw [e1, e2, e3, e4, e5, e6]
              repeat refine s1 ?_
              refine r_build (cells := nbx (n.join m) ⟨p1.1, p1.2, p2.1, p2.2, p3.1, p3.2⟩) rfl (by rfl) rfl ?_
              repeat refine s1 ?_
              refine r_storeW (vs := nbx (n.join m) ⟨p1.1, p1.2, p2.1, p2.2, p3.1, p3.2⟩) rfl rfl (by rfl) (by rfl) (by simp [Value.oneCell']) rfl ?_
              repeat refine s1 ?_
              refine jh [vec p3.1 (n.join m).kids.length p3.2 T.api_Ref 33 ((n.join m).kids.flatMap rcells), vec p2.1 (n.join m).vals.length p2.2 T.a44_uint8 44 ((n.join m).vals.flatMap fun v => v.map u8), vec p1.1 (n.join m).keys.length p1.2 T.uint64 1 ((n.join m).keys.map w64)] ?_
              refine j_node (m := n.join m) ⟨p1.1, p1.2, p2.1, p2.2, p3.1, p3.2⟩ ?_
              exact j_fin rfl (.cons (rv_agg (l := nbx (n.join m) ⟨p1.1, p1.2, p2.1, p2.2, p3.1, p3.2⟩) (U := T.node_Node) (fr := (0, 0)) rfl (by rfl)) .nil) ⟨p1.1, p1.2, p2.1, p2.2, p3.1, p3.2⟩ rfl trivial
            exact t_brN
          exact t_brN
        refine t_br ?_ ?_
        · repeat refine s1 ?_
          refine r_build1s [.tmp 36, .tmp 38] [.slice x.ra n.kids.length x.rc, .slice y.ra m.kids.length y.rc] rfl rfl (by simp [Value.oneCell']) (by simp) rfl rfl rfl (fun b18 => ?_)
          refine fz ?_
          repeat refine s1 ?_
          refine t_brF ?_ ?_
          · repeat refine s1 ?_
            refine cx (concatV_c b12 0 2 x.va y.va n.vals.length x.vc m.vals.length y.vc (n.vals.flatMap fun v => v.map u8) (m.vals.flatMap fun v => v.map u8) o2 q2 (by omega) Φ) (fun p2 _ => ?_)
            repeat refine s1 ?_
            refine t_brF ?_ ?_
            · repeat refine s1 ?_
              refine cx (concatR_c b18 0 2 x.ra y.ra n.kids.length x.rc m.kids.length y.rc (n.kids.flatMap rcells) (m.kids.flatMap rcells) o3 q3 (by omega) Φ) (fun p3 _ => ?_)
              rw [e1, e2, e3, e4, e5, e6]
              repeat refine s1 ?_
              refine r_build (cells := nbx (n.join m) ⟨p1.1, p1.2, p2.1, p2.2, p3.1, p3.2⟩) rfl (by rfl) rfl ?_
              repeat refine s1 ?_
              refine r_storeW (vs := nbx (n.join m) ⟨p1.1, p1.2, p2.1, p2.2, p3.1, p3.2⟩) rfl rfl (by rfl) (by rfl) (by simp [Value.oneCell']) rfl ?_
              repeat refine s1 ?_
              refine jh [vec p3.1 (n.join m).kids.length p3.2 T.api_Ref 33 ((n.join m).kids.flatMap rcells), vec p2.1 (n.join m).vals.length p2.2 T.a44_uint8 44 ((n.join m).vals.flatMap fun v => v.map u8), vec p1.1 (n.join m).keys.length p1.2 T.uint64 1 ((n.join m).keys.map w64)] ?_
              refine j_node (m := n.join m) ⟨p1.1, p1.2, p2.1, p2.2, p3.1, p3.2⟩ ?_
              exact j_fin rfl (.cons (rv_agg (l := nbx (n.join m) ⟨p1.1, p1.2, p2.1, p2.2, p3.1, p3.2⟩) (U := T.node_Node) (fr := (0, 0)) rfl (by rfl)) .nil) ⟨p1.1, p1.2, p2.1, p2.2, p3.1, p3.2⟩ rfl trivial
            exact t_brN
          exact t_brN
        exact t_brN
      refine t_br ?_ ?_
      · repeat refine s1 ?_
        refine r_build1s [.tmp 36, .tmp 38] [.slice x.ra n.kids.length x.rc, .slice y.ra m.kids.length y.rc] rfl rfl (by simp [Value.oneCell']) (by simp) rfl rfl rfl (fun b18 => ?_)
        refine fz ?_
        repeat refine s1 ?_
        refine t_brF ?_ ?_
        · repeat refine s1 ?_
          refine cx (concatK_c b6 0 2 x.ka y.ka n.keys.length x.kc m.keys.length y.kc (n.keys.map w64) (m.keys.map w64) o1 q1 (by omega) Φ) (fun p1 _ => ?_)
          repeat refine s1 ?_
          refine t_brF ?_ ?_
          · repeat refine s1 ?_
            refine cx (concatV_c b12 0 2 x.va y.va n.vals.length x.vc m.vals.length y.vc (n.vals.flatMap fun v => v.map u8) (m.vals.flatMap fun v => v.map u8) o2 q2 (by omega) Φ) (fun p2 _ => ?_)
            repeat refine s1 ?_
            refine t_brF ?_ ?_
            · repeat refine s1 ?_
              refine cx (concatR_c b18 0 2 x.ra y.ra n.kids.length x.rc m.kids.length y.rc (n.kids.flatMap rcells) (m.kids.flatMap rcells) o3 q3 (by omega) Φ) (fun p3 _ => ?_)
              rw [e1, e2, e3, e4, e5, e6]
              repeat refine s1 ?_
              refine r_build (cells := nbx (n.join m) ⟨p1.1, p1.2, p2.1, p2.2, p3.1, p3.2⟩) rfl (by rfl) rfl ?_
              repeat refine s1 ?_
              refine r_storeW (vs := nbx (n.join m) ⟨p1.1, p1.2, p2.1, p2.2, p3.1, p3.2⟩) rfl rfl (by rfl) (by rfl) (by simp [Value.oneCell']) rfl ?_
              repeat refine s1 ?_
              refine jh [vec p3.1 (n.join m).kids.length p3.2 T.api_Ref 33 ((n.join m).kids.flatMap rcells), vec p2.1 (n.join m).vals.length p2.2 T.a44_uint8 44 ((n.join m).vals.flatMap fun v => v.map u8), vec p1.1 (n.join m).keys.length p1.2 T.uint64 1 ((n.join m).keys.map w64)] ?_
              refine j_node (m := n.join m) ⟨p1.1, p1.2, p2.1, p2.2, p3.1, p3.2⟩ ?_
              exact j_fin rfl (.cons (rv_agg (l := nbx (n.join m) ⟨p1.1, p1.2, p2.1, p2.2, p3.1, p3.2⟩) (U := T.node_Node) (fr := (0, 0)) rfl (by rfl)) .nil) ⟨p1.1, p1.2, p2.1, p2.2, p3.1, p3.2⟩ rfl trivial
            exact t_brN
          exact t_brN
        exact t_brN
      exact t_brN
    refine t_br ?_ ?_
    · repeat refine s1 ?_
      refine r_build1s [.tmp 36, .tmp 38] [.slice x.ra n.kids.length x.rc, .slice y.ra m.kids.length y.rc] rfl rfl (by simp [Value.oneCell']) (by simp) rfl rfl rfl (fun b18 => ?_)
      refine fz ?_
      repeat refine s1 ?_
      refine t_brF ?_ ?_
      · repeat refine s1 ?_
        refine r_build1s [.tmp 24, .tmp 26] [.slice x.ka n.keys.length x.kc, .slice y.ka m.keys.length y.kc] rfl rfl (by simp [Value.oneCell']) (by simp) rfl rfl rfl (fun b6 => ?_)
        refine fz ?_
        repeat refine s1 ?_
        refine t_brF ?_ ?_
        · repeat refine s1 ?_
          refine cx (concatK_c b6 0 2 x.ka y.ka n.keys.length x.kc m.keys.length y.kc (n.keys.map w64) (m.keys.map w64) o1 q1 (by omega) Φ) (fun p1 _ => ?_)
          repeat refine s1 ?_
          refine t_brF ?_ ?_
          · repeat refine s1 ?_
            refine cx (concatV_c b12 0 2 x.va y.va n.vals.length x.vc m.vals.length y.vc (n.vals.flatMap fun v => v.map u8) (m.vals.flatMap fun v => v.map u8) o2 q2 (by omega) Φ) (fun p2 _ => ?_)
            repeat refine s1 ?_
            refine t_brF ?_ ?_
            · repeat refine s1 ?_
              refine cx (concatR_c b18 0 2 x.ra y.ra n.kids.length x.rc m.kids.length y.rc (n.kids.flatMap rcells) (m.kids.flatMap rcells) o3 q3 (by omega) Φ) (fun p3 _ => ?_)
              rw [e1, e2, e3, e4, e5, e6]
              repeat refine s1 ?_
              refine r_build (cells := nbx (n.join m) ⟨p1.1, p1.2, p2.1, p2.2, p3.1, p3.2⟩) rfl (by rfl) rfl ?_
              repeat refine s1 ?_
              refine r_storeW (vs := nbx (n.join m) ⟨p1.1, p1.2, p2.1, p2.2, p3.1, p3.2⟩) rfl rfl (by rfl) (by rfl) (by simp [Value.oneCell']) rfl ?_
              repeat refine s1 ?_
              refine jh [vec p3.1 (n.join m).kids.length p3.2 T.api_Ref 33 ((n.join m).kids.flatMap rcells), vec p2.1 (n.join m).vals.length p2.2 T.a44_uint8 44 ((n.join m).vals.flatMap fun v => v.map u8), vec p1.1 (n.join m).keys.length p1.2 T.uint64 1 ((n.join m).keys.map w64)] ?_
              refine j_node (m := n.join m) ⟨p1.1, p1.2, p2.1, p2.2, p3.1, p3.2⟩ ?_
              exact j_fin rfl (.cons (rv_agg (l := nbx (n.join m) ⟨p1.1, p1.2, p2.1, p2.2, p3.1, p3.2⟩) (U := T.node_Node) (fr := (0, 0)) rfl (by rfl)) .nil) ⟨p1.1, p1.2, p2.1, p2.2, p3.1, p3.2⟩ rfl trivial
            exact t_brN
          exact t_brN
        exact t_brN
      exact t_brN
    exact t_brN
  refine t_br ?_ ?_
  · repeat refine s1 ?_
    refine r_build1s [.tmp 36, .tmp 38] [.slice x.ra n.kids.length x.rc, .slice y.ra m.kids.length y.rc] rfl rfl (by simp [Value.oneCell']) (by simp) rfl rfl rfl (fun b18 => ?_)
    refine fz ?_
    repeat refine s1 ?_
    refine t_brF ?_ ?_
    · repeat refine s1 ?_
      refine r_build1s [.tmp 24, .tmp 26] [.slice x.ka n.keys.length x.kc, .slice y.ka m.keys.length y.kc] rfl rfl (by simp [Value.oneCell']) (by simp) rfl rfl rfl (fun b6 => ?_)
      refine fz ?_
      repeat refine s1 ?_
      refine t_brF ?_ ?_
      · repeat refine s1 ?_
        refine cx (concatK_c b6 0 2 x.ka y.ka n.keys.length x.kc m.keys.length y.kc (n.keys.map w64) (m.keys.map w64) o1 q1 (by omega) Φ) (fun p1 _ => ?_)
        repeat refine s1 ?_
        refine t_brF ?_ ?_
        · repeat refine s1 ?_
          refine r_build1s [.tmp 30, .tmp 32] [.slice x.va n.vals.length x.vc, .slice y.va m.vals.length y.vc] rfl rfl (by simp [Value.oneCell']) (by simp) rfl rfl rfl (fun b12 => ?_)
          refine fz ?_
          repeat refine s1 ?_
          refine t_brF ?_ ?_
          · repeat refine s1 ?_
            refine cx (concatV_c b12 0 2 x.va y.va n.vals.length x.vc m.vals.length y.vc (n.vals.flatMap fun v => v.map u8) (m.vals.flatMap fun v => v.map u8) o2 q2 (by omega) Φ) (fun p2 _ => ?_)
            repeat refine s1 ?_
            refine t_brF ?_ ?_
            · repeat refine s1 ?_
              refine cx (concatR_c b18 0 2 x.ra y.ra n.kids.length x.rc m.kids.length y.rc (n.kids.flatMap rcells) (m.kids.flatMap rcells) o3 q3 (by omega) Φ) (fun p3 _ => ?_)
              rw [e1, e2, e3, e4, e5, e6]
              repeat refine s1 ?_
              refine r_build (cells := nbx (n.join m) ⟨p1.1, p1.2, p2.1, p2.2, p3.1, p3.2⟩) rfl (by rfl) rfl ?_
              repeat refine s1 ?_
              refine r_storeW (vs := nbx (n.join m) ⟨p1.1, p1.2, p2.1, p2.2, p3.1, p3.2⟩) rfl rfl (by rfl) (by rfl) (by simp [Value.oneCell']) rfl ?_
              repeat refine s1 ?_
              refine jh [vec p3.1 (n.join m).kids.length p3.2 T.api_Ref 33 ((n.join m).kids.flatMap rcells), vec p2.1 (n.join m).vals.length p2.2 T.a44_uint8 44 ((n.join m).vals.flatMap fun v => v.map u8), vec p1.1 (n.join m).keys.length p1.2 T.uint64 1 ((n.join m).keys.map w64)] ?_
              refine j_node (m := n.join m) ⟨p1.1, p1.2, p2.1, p2.2, p3.1, p3.2⟩ ?_
              exact j_fin rfl (.cons (rv_agg (l := nbx (n.join m) ⟨p1.1, p1.2, p2.1, p2.2, p3.1, p3.2⟩) (U := T.node_Node) (fr := (0, 0)) rfl (by rfl)) .nil) ⟨p1.1, p1.2, p2.1, p2.2, p3.1, p3.2⟩ rfl trivial
            exact t_brN
          exact t_brN
        exact t_brN
      refine t_br ?_ ?_
      · repeat refine s1 ?_
        refine r_build1s [.tmp 30, .tmp 32] [.slice x.va n.vals.length x.vc, .slice y.va m.vals.length y.vc] rfl rfl (by simp [Value.oneCell']) (by simp) rfl rfl rfl (fun b12 => ?_)
        refine fz ?_
        repeat refine s1 ?_
        refine t_brF ?_ ?_
        · repeat refine s1 ?_
          refine cx (concatK_c b6 0 2 x.ka y.ka n.keys.length x.kc m.keys.length y.kc (n.keys.map w64) (m.keys.map w64) o1 q1 (by omega) Φ) (fun p1 _ => ?_)
          repeat refine s1 ?_
          refine t_brF ?_ ?_
          · repeat refine s1 ?_
            refine cx (concatV_c b12 0 2 x.va y.va n.vals.length x.vc m.vals.length y.vc (n.vals.flatMap fun v => v.map u8) (m.vals.flatMap fun v => v.map u8) o2 q2 (by omega) Φ) (fun p2 _ => ?_)
            repeat refine s1 ?_
            refine t_brF ?_ ?_
            · repeat refine s1 ?_
              refine cx (concatR_c b18 0 2 x.ra y.ra n.kids.length x.rc m.kids.length y.rc (n.kids.flatMap rcells) (m.kids.flatMap rcells) o3 q3 (by omega) Φ) (fun p3 _ => ?_)
              rw [e1, e2, e3, e4, e5, e6]
              repeat refine s1 ?_
              refine r_build (cells := nbx (n.join m) ⟨p1.1, p1.2, p2.1, p2.2, p3.1, p3.2⟩) rfl (by rfl) rfl ?_
              repeat refine s1 ?_
              refine r_storeW (vs := nbx (n.join m) ⟨p1.1, p1.2, p2.1, p2.2, p3.1, p3.2⟩) rfl rfl (by rfl) (by rfl) (by simp [Value.oneCell']) rfl ?_
              repeat refine s1 ?_
              refine jh [vec p3.1 (n.join m).kids.length p3.2 T.api_Ref 33 ((n.join m).kids.flatMap rcells), vec p2.1 (n.join m).vals.length p2.2 T.a44_uint8 44 ((n.join m).vals.flatMap fun v => v.map u8), vec p1.1 (n.join m).keys.length p1.2 T.uint64 1 ((n.join m).keys.map w64)] ?_
              refine j_node (m := n.join m) ⟨p1.1, p1.2, p2.1, p2.2, p3.1, p3.2⟩ ?_
              exact j_fin rfl (.cons (rv_agg (l := nbx (n.join m) ⟨p1.1, p1.2, p2.1, p2.2, p3.1, p3.2⟩) (U := T.node_Node) (fr := (0, 0)) rfl (by rfl)) .nil) ⟨p1.1, p1.2, p2.1, p2.2, p3.1, p3.2⟩ rfl trivial
            exact t_brN
          exact t_brN
        exact t_brN
      exact t_brN
    refine t_br ?_ ?_
    · repeat refine s1 ?_
      refine r_build1s [.tmp 30, .tmp 32] [.slice x.va n.vals.length x.vc, .slice y.va m.vals.length y.vc] rfl rfl (by simp [Value.oneCell']) (by simp) rfl rfl rfl (fun b12 => ?_)
      refine fz ?_
      repeat refine s1 ?_
      refine t_brF ?_ ?_
      · repeat refine s1 ?_
        refine r_build1s [.tmp 24, .tmp 26] [.slice x.ka n.keys.length x.kc, .slice y.ka m.keys.length y.kc] rfl rfl (by simp [Value.oneCell']) (by simp) rfl rfl rfl (fun b6 => ?_)
        refine fz ?_
        repeat refine s1 ?_
        refine t_brF ?_ ?_
        · repeat refine s1 ?_
          refine cx (concatK_c b6 0 2 x.ka y.ka n.keys.length x.kc m.keys.length y.kc (n.keys.map w64) (m.keys.map w64) o1 q1 (by omega) Φ) (fun p1 _ => ?_)
          repeat refine s1 ?_
          refine t_brF ?_ ?_
          · repeat refine s1 ?_
            refine cx (concatV_c b12 0 2 x.va y.va n.vals.length x.vc m.vals.length y.vc (n.vals.flatMap fun v => v.map u8) (m.vals.flatMap fun v => v.map u8) o2 q2 (by omega) Φ) (fun p2 _ => ?_)
            repeat refine s1 ?_
            refine t_brF ?_ ?_
            · repeat refine s1 ?_
              refine cx (concatR_c b18 0 2 x.ra y.ra n.kids.length x.rc m.kids.length y.rc (n.kids.flatMap rcells) (m.kids.flatMap rcells) o3 q3 (by omega) Φ) (fun p3 _ => ?_)
              rw [e1, e2, e3, e4, e5, e6]
              repeat refine s1 ?_
              refine r_build (cells := nbx (n.join m) ⟨p1.1, p1.2, p2.1, p2.2, p3.1, p3.2⟩) rfl (by rfl) rfl ?_
              repeat refine s1 ?_
              refine r_storeW (vs := nbx (n.join m) ⟨p1.1, p1.2, p2.1, p2.2, p3.1, p3.2⟩) rfl rfl (by rfl) (by rfl) (by simp [Value.oneCell']) rfl ?_
              repeat refine s1 ?_
              refine jh [vec p3.1 (n.join m).kids.length p3.2 T.api_Ref 33 ((n.join m).kids.flatMap rcells), vec p2.1 (n.join m).vals.length p2.2 T.a44_uint8 44 ((n.join m).vals.flatMap fun v => v.map u8), vec p1.1 (n.join m).keys.length p1.2 T.uint64 1 ((n.join m).keys.map w64)] ?_
              refine j_node (m := n.join m) ⟨p1.1, p1.2, p2.1, p2.2, p3.1, p3.2⟩ ?_
              exact j_fin rfl (.cons (rv_agg (l := nbx (n.join m) ⟨p1.1, p1.2, p2.1, p2.2, p3.1, p3.2⟩) (U := T.node_Node) (fr := (0, 0)) rfl (by rfl)) .nil) ⟨p1.1, p1.2, p2.1, p2.2, p3.1, p3.2⟩ rfl trivial
            exact t_brN
          exact t_brN
        exact t_brN
      exact t_brN
    exact t_brN
  exact t_brN

end Go.Proofs.YtcnpkmdooekmgaaGreatDoor
namespace Go.Proofs.YtcnpkmdooekmgaaGreatDoor
open Go Sl
attribute [local irreducible] cw sw J Exit.then Exit.inBlock Exit.noGoto bodyPost swG swL permL
theorem cut_c (n : Nd) (x : NR) (i : Nat) (hw : n.whole) (ht : n.wt) (hi : i < n.keys.length) (Φ : Base) :
    Sl.Fn Tryz.prog Φ F.node_Cut [nV n x, i64 i] [node n x] (fun _ : NR => True) (fun q => nV ((n.part 0 i).join (n.part (i + 1) n.keys.length)) q) (fun q => [node ((n.part 0 i).join (n.part (i + 1) n.keys.length)) q]) := by
  have hk := hw.keys
  refine fo fun F => ?_
  repeat refine s1 ?_
  refine r_box (cs := nbx n x) rfl rfl rfl rfl (fun t2 => ?_)
  repeat refine s1 ?_
  refine al (fun t4 => ?_)
  repeat refine s1 ?_
  refine cl (whole_c n x hw.is Φ) ?_
  repeat' (first | refine s2 ?_ | (refine k_bin ?_; refine r_icmp rfl rfl rfl rfl ?_) | (refine g_mark ?_; first | refine gg_splitD rfl rfl (fun _ => ?_) (fun _ => ?_) | refine gg_splitN rfl rfl (fun _ => ?_) (fun _ => ?_) | refine gg_split rfl rfl (fun _ => ?_) (fun _ => ?_)) | (refine k_cond ?_; first | refine t_condS rfl (fun _ => ?_) (fun _ => ?_) | refine t_condSN rfl (fun _ => ?_) (fun _ => ?_) | refine t_condSB rfl (fun _ => ?_) (fun _ => ?_)))
  next h0 => exact absurd h0 (by omega)
  next h0 =>
    refine t_draw [pt t2 (.cells (nbx n x).toArray T.node_Node (0, 0))] [0, 3] mixed (by decide +kernel) ?_
    repeat refine s1 ?_
    refine cx (some_c n x 0 i hw ht (Nat.zero_le _) (by omega) Φ) (fun y1 _ => ?_)
    repeat refine s1 ?_
    refine cx (some_c n x (i + 1) n.keys.length hw ht (by omega) (by omega) Φ) (fun y2 _ => ?_)
    repeat refine s1 ?_
    refine cx (join_c (n.part 0 i) (n.part (i + 1) n.keys.length) y1 y2 (part_whole hw) (part_whole hw) rfl (part_wt ht _ _) (part_wt ht _ _) Φ) (fun q _ => ?_)
    generalize (n.part 0 i).join (n.part (i + 1) n.keys.length) = nA
    repeat refine s1 ?_
    refine r_storeW (vs := nbx nA q) rfl rfl (by rfl) (by rfl) (by simp [Value.oneCell']) rfl ?_
    repeat refine s1 ?_
    exact j_fin rfl (.cons (rv_agg (l := nbx nA q) (U := T.node_Node) (fr := (0, 0)) rfl (by rfl)) .nil) q rfl trivial
/-- the same, with rows of one's own. -/
theorem someO_c (n : Nd) (x : NR) (fr to : Nat) (hw : n.whole) (ht : n.wt) (h2 : fr ≤ to) (h3 : to ≤ n.keys.length) (Φ : Base) :
    Sl.Fn Tryz.prog Φ F.node_some [nV n x, i64 fr, i64 to] [node n x] (fun _ : NR => True) (fun y => nV (n.part fr to) y) (fun y => [vec y.ra (n.part fr to).kids.length y.rc T.api_Ref 33 ((n.part fr to).kids.flatMap rcells), vec y.va (n.part fr to).vals.length y.vc T.a44_uint8 44 ((n.part fr to).vals.flatMap fun v => v.map u8), vec y.ka (n.part fr to).keys.length y.kc T.uint64 1 ((n.part fr to).keys.map w64)]) := by
  have hk := hw.keys
  obtain ⟨hv, hr⟩ := hw.lens
  obtain ⟨o1, o2, o3⟩ := ht.one
  refine fo fun F => ?_
  repeat refine s1 ?_
  refine r_box (cs := nbx n x) rfl rfl rfl rfl (fun t3 => ?_)
  refine j_head (node n x) (j_ent (Ent.unnode _) ?_)
  repeat refine s1 ?_
  refine al (fun t6 => ?_)
  repeat refine s1 ?_
  refine t_draw [pt t3 (.cells (nbx n x).toArray T.node_Node (0, 0))] [1, 3, 8, 13] mixed (by decide +kernel) ?_
  repeat refine s1 ?_
  refine cx (partK_c x.ka n.keys.length x.kc fr to (n.keys.map w64) o1 (by omega) h2 (.inl h3) (by omega) Φ) (fun p1 _ => ?_)
  repeat refine s1 ?_
  refine cx (partV_c x.va n.vals.length x.vc fr to (n.vals.flatMap fun v => v.map u8) o2 (by omega) h2 (by omega) (by omega) Φ) (fun p2 _ => ?_)
  repeat refine s1 ?_
  refine cx (partR_c x.ra n.kids.length x.rc fr to (n.kids.flatMap rcells) o3 (by omega) h2 (by omega) (by omega) Φ) (fun p3 _ => ?_)
  repeat refine s1 ?_
  rw [flat_part 33 (f := rcells) (fun r hr => by simp [(ht.kids r hr).sum.1]), flat_part 44 (f := fun v : List Nat => v.map u8) (fun v hv => by simpa using (ht.vals v hv).1), map_flat w64, flat_part 1 (f := fun x : Nat => [w64 x]) (fun _ _ => rfl), ← map_flat w64,
    show min to n.keys.length - min fr n.keys.length = (n.part fr to).keys.length from (part_len ..).symm, show min to n.vals.length - min fr n.vals.length = (n.part fr to).vals.length from (part_len ..).symm,
    show min to n.kids.length - min fr n.kids.length = (n.part fr to).kids.length from (part_len ..).symm]
  refine r_build (cells := nbx (n.part fr to) ⟨p1.1, p1.2, p2.1, p2.2, p3.1, p3.2⟩) rfl (by rfl) rfl ?_
  refine r_storeW (vs := nbx (n.part fr to) ⟨p1.1, p1.2, p2.1, p2.2, p3.1, p3.2⟩) rfl rfl (by rfl) (by rfl) (by simp [Value.oneCell']) rfl ?_
  repeat refine s1 ?_
  change J _ _ (vec (NR.mk p1.1 p1.2 p2.1 p2.2 p3.1 p3.2).ra (n.part fr to).kids.length (NR.mk p1.1 p1.2 p2.1 p2.2 p3.1 p3.2).rc T.api_Ref 33 ((n.part fr to).kids.flatMap rcells) :: vec (NR.mk p1.1 p1.2 p2.1 p2.2 p3.1 p3.2).va (n.part fr to).vals.length (NR.mk p1.1 p1.2 p2.1 p2.2 p3.1 p3.2).vc T.a44_uint8 44 ((n.part fr to).vals.flatMap fun v => v.map u8) :: vec (NR.mk p1.1 p1.2 p2.1 p2.2 p3.1 p3.2).ka (n.part fr to).keys.length (NR.mk p1.1 p1.2 p2.1 p2.2 p3.1 p3.2).kc T.uint64 1 ((n.part fr to).keys.map w64) :: _) _
  exact j_fin rfl (.cons (rv_agg (l := nbx (n.part fr to) ⟨p1.1, p1.2, p2.1, p2.2, p3.1, p3.2⟩) (U := T.node_Node) (fr := (0, 0)) rfl (by rfl)) .nil) ⟨p1.1, p1.2, p2.1, p2.2, p3.1, p3.2⟩ rfl trivial
end Go.Proofs.YtcnpkmdooekmgaaGreatDoor
namespace Go.Proofs.YtcnpkmdooekmgaaGreatDoor
open Go Sl
theorem run_copyG {P : Program} {w : World} {dT sT ty elem : TypeId} {s : Nat} [tu : TUnd P dT (.slice elem)] [ts : TSize P elem s] {g o dl dc m cap2 : Nat} {a2 : Option Addr} {cur ys : List Value} {U : TypeId}
    (hg : w.heap[g]? = some (.cells cur.toArray U (0, 0))) (hy : Reads w a2 (min m dl) s ys) (hfit : o + ys.length ≤ cur.length) (h1 : ∀ v ∈ ys, v.oneCell' = true) :
    (Builtin.copy_ #[dT, sT] ty #[.slice (some ⟨g, o, none⟩) dl dc, .slice a2 m cap2]).run P w = .ok (goInt ((min m dl : Nat) : Int)) (w.setRow g (cur.take o ++ ys ++ cur.drop (o + ys.length)).toArray) := by
  have hf := run_first (P := P) (len := m) (cap := cap2) hy
  have hst := run_storeCells_at P g o U ys 0 cur.toArray w hg (by simp only [List.size_toArray]; omega) h1
  simp only [Nat.add_zero] at hst
  simp only [Builtin.copy_, List.getElem?_toArray, List.getElem?_cons_zero, List.getElem?_cons_succ, Sem.run_bind, tu.run, Result.andThen_ok, Builtin.lenOf, Sem.run_pure, ts.run, Nat.min_def] at hf hst ⊢
  simp only [hf, Result.andThen_ok, hst]
theorem run_append_zerosG {P : Program} {w : World} {t u ty E : TypeId} {ki : IntKind} {s by_ : Nat} {z : Value} [tu : TUnd P t (.slice E)] [tv : TUnd P u (.int ki)] [te : TElem P E s by_ z] {ad : Addr} {n cap m : Nat} {xs : List Value} (hx : Reads w (some ad) n s xs) (hs : 0 < s) (hm : 0 < m) (hc : n ≤ cap) (hg : cap < n + m)
    (hb : (n + m) * by_ ≤ 140737488355328) (h63 : n + m ≤ 9223372036854775807) :
    ∃ (nc : Nat) (zs : List Value), n + m ≤ nc ∧ zs.length = (nc - n) * z.cells.size ∧ (Builtin.append_ #[t, u] ty #[.slice (some ad) n cap, .int .i64 (m : Int)]).run P w = .ok (.slice (some ⟨w.heap.size, 0, none⟩) (n + m) nc) (w.drew.alloc (.cells (xs ++ zs).toArray E)) := by
  obtain ⟨i, hi, his, hib, hz⟩ := te.ex
  have hw : IntKind.i64.wrap (m : Int) = (m : Int) := i64_nat (by omega)
  have hbm : (m : Int) * (by_ : Int) ≤ 140737488355328 := by
    have h2 : m * by_ ≤ (n + m) * by_ := Nat.mul_le_mul_right _ (by omega)
    have h3 : ((m * by_ : Nat) : Int) ≤ 140737488355328 := by omega
    rwa [Int.natCast_mul] at h3
  have hf := growslice_fits hg hb
  have hnc : n + m ≤ grownCap w (n + m) cap E := by unfold grownCap Question.cut; exact Nat.le_add_right _ _
  refine ⟨grownCap w (n + m) cap E, (Builtin.zeroCells z.cells m ++ Builtin.zeroCells z.cells (grownCap w (n + m) cap E - (n + m))).toList, hnc, ?_, ?_⟩
  · simp [Builtin.zeroCells, ← Nat.add_mul]
    congr 1; omega
  have h0 : ¬ ((m : Int) < 0) := by omega
  have h3 : ¬ (n + m ≤ cap) := by omega
  have hfo : (Builtin.firstCells s n (.slice (some ad) n cap)).run P w.drew = .ok xs.toArray w.drew := run_first (P := P) (len := n) (cap := cap) (hx.drew rfl)
  have h6 : ¬ (m = 0) := by omega
  have h2' : ¬ (281474976710656 < (m : Int) * (by_ : Int)) := by omega
  have h4' : ¬ (9223372036854775807 < (n : Int) + (m : Int)) := by omega
  have h5' : ¬ (281474976710656 < Builtin.nextslicecap (n + m) cap * by_) := by omega
  simp [Builtin.append_, run_underlying tu.eq, run_underlying tv.eq, sizeOf, typeInfo, zeroValue, hi, hz, his, hib, asInt, asIntOf, hw, Builtin.lenOf, h0, h2', h3, h4', h5', Question.forced, hfo, newRow, grownCap]
  rw [if_neg (Nat.ne_of_gt (Nat.mul_pos hm hs))]
  congr 3
  apply Array.ext'
  simp
section
variable {X : Cx} {e : Env} {L L1 F : List Assn} {A : List Assn} {S : List Nat} {ops : Array Oper} {k : Nat} {l : List Oper} {R : Act → World → Prop} {G : Act → World → Prop}
variable {d : Nat} {T : TypeId} {pos : String} {af : Array Edge}
/-- a copy out of what can be read, elements of any size. -/
theorem r_copyG {dT sT elem : TypeId} {x y : Operand} {dst : Option Nat} {b o dl dc m cap2 s : Nat} {a2 : Option Addr} {cur : List Value} (cur' ys : List Value) {U : TypeId} {f : Obj → List Assn} [tu : TUnd X.P dT (.slice elem)] [ts : TSize X.P elem s]
    (hx : ev e x = some (.slice (some ⟨b, o, none⟩) dl dc)) (hy : ev e y = some (.slice a2 m cap2)) [g : Own b L (.cells cur.toArray U (0, 0)) f] (hrd : ∀ w, Holds X.Φ L w → Reads w a2 (min m dl) s ys) (hfit : o + ys.length ≤ cur.length) (h1 : ∀ v ∈ ys, v.oneCell' = true)
    (hc : cur.take o ++ ys ++ cur.drop (o + ys.length) = cur') [st : Stay A (f (.cells cur'.toArray U (0, 0)))]
    (h : J X (bnd dst (.int .i64 ((min m dl : Nat) : Int)) e) (f (.cells cur'.toArray U (0, 0))) (sw X.P (Holds X.Φ A) S ops R (k + 1) l)) (hs : S.contains k = false := by rfl) (hd : ∀ j, dst = some j → Nat.blt j X.n = true := by exact blt_any rfl) :
    J X e L (sw X.P (Holds X.Φ A) S ops R k (⟨dst, .call { callee := .builtin .copy, args := #[x, y], argTypes := #[dT, sT] }, T, pos, af, none⟩ :: l)) :=
  r_write (α := Unit) (q := fun _ => True) (V := fun _ => .int .i64 ((min m dl : Nat) : Int)) (M := fun _ => f (.cells cur'.toArray U (0, 0))) rfl (cls_write rfl hs rfl) hd (fun _ => st)
    (fun a w mt hh => by
      have hb : w.heap[b]? = some (.cells cur.toArray U (0, 0)) := by obtain ⟨im, hp, r, s⟩ := hh; exact r.hw _ _ (g.get _ _ s)
      have hrun := run_copyG (P := X.P) (dT := dT) (sT := sT) (ty := T) (dc := dc) (cap2 := cap2) hb (hrd w hh) hfit h1
      rw [hc] at hrun
      have h2 : (execOp a.eval (⟨dst, .call { callee := .builtin .copy, args := #[x, y], argTypes := #[dT, sT] }, T, pos, af, none⟩ : Oper)).run X.P w = .ok (.value (.int .i64 ((min m dl : Nat) : Int))) (w.setRow b cur'.toArray) := by
        simp only [execOp, resolve, invoke, builtin, Sem.run_bind, Sem.run_pure, Result.andThen_ok, List.map_toArray, List.map_cons, List.map_nil, mt.ev hx, mt.ev hy, pure_bind, hrun, goInt]
      rw [h2]
      refine ⟨(), trivial, rfl, hh.upd (b := b) (g := g) (o' := .cells cur'.toArray U (0, 0)) ?_ (fun c hc => ?_) rfl rfl rfl⟩
      · simp [World.setRow, Array.getElem?_modify, hb]
      · simp [World.setRow, Array.getElem?_modify, Ne.symm hc]) (fun _ _ => h)
/-- append of noughts beyond the room of a row that can be read. -/
theorem r_appendG {t u E : TypeId} {ki : IntKind} {x y : Operand} {s by_ : Nat} {z : Value} {ad : Addr} {n cap m : Nat} {xs : List Value} [tu : TUnd X.P t (.slice E)] [tv : TUnd X.P u (.int ki)] [te : TElem X.P E s by_ z]
    (hx : ev e x = some (.slice (some ad) n cap)) (hy : ev e y = some (.int .i64 (m : Int))) (hrd : ∀ w, Holds X.Φ L w → Reads w (some ad) n s xs) (hs : 0 < s) (hzc : z.cells.size = s) (hm : 0 < m) (hc : n ≤ cap) (hg : cap < n + m) (hb : (n + m) * by_ ≤ 140737488355328) (h63 : n + m ≤ 9223372036854775807)
    (hS : S.contains k = false) (hd : Nat.blt d X.n = true) [st : ∀ q : Nat × Nat × List Value, Stay A (pt q.1 (.cells (xs ++ q.2.2).toArray E (0, 0)) :: L)]
    (h : ∀ (b nc : Nat) (zs : List Value), n + m ≤ nc → zs.length = (nc - n) * s → J X ((d, .slice (some ⟨b, 0, none⟩) (n + m) nc) :: e) (pt b (.cells (xs ++ zs).toArray E (0, 0)) :: L) (sw X.P (Holds X.Φ A) S ops R (k + 1) l)) :
    J X e L (sw X.P (Holds X.Φ A) S ops R k (⟨some d, .call { callee := .builtin .append, args := #[x, y], argTypes := #[t, u] }, T, pos, af, none⟩ :: l)) :=
  r_write (α := Nat × Nat × List Value) (q := fun p => n + m ≤ p.2.1 ∧ p.2.2.length = (p.2.1 - n) * s) (V := fun p => .slice (some ⟨p.1, 0, none⟩) (n + m) p.2.1) (M := fun p => pt p.1 (.cells (xs ++ p.2.2).toArray E (0, 0)) :: L) rfl (cls_write rfl hS rfl) (blt_some hd) st
    (fun act w mt hh => by
      have hop : ∀ r, (Builtin.append_ #[t, u] T #[.slice (some ad) n cap, .int .i64 (m : Int)]).run X.P w = r → (execOp act.eval (⟨some d, .call { callee := .builtin .append, args := #[x, y], argTypes := #[t, u] }, T, pos, af, none⟩ : Oper)).run X.P w = r.andThen fun v w' => .ok (.value v) w' := fun r hr => by
        simp only [execOp, resolve, invoke, builtin, Sem.run_bind, Sem.run_pure, Result.andThen_ok, List.map_toArray, List.map_cons, List.map_nil, mt.ev hx, mt.ev hy, hr]
      obtain ⟨nc, zs, h1, h2, hr⟩ := run_append_zerosG (P := X.P) (w := w) (t := t) (u := u) (ty := T) (E := E) (hrd w hh) hs hm hc hg hb h63
      rw [hop _ hr]
      exact ⟨(w.heap.size, nc, zs), ⟨h1, by rw [h2, hzc]⟩, rfl, hh.alloc _ rfl rfl rfl rfl⟩)
    (fun p hp => h p.1 p.2.1 p.2.2 hp.1 hp.2)
/-- a row of one's own, opened: its block. -/
theorem Ent.openV {a : Option Addr} {n cap s : Nat} {E : TypeId} {xs : List Value} (h0 : 0 < n) (L : List Assn) :
    Ent (vec a n cap E s xs :: L) (box (fun q : Nat × List Value × List Value => a = some ⟨q.1, q.2.1.length, none⟩ ∧ q.2.2.length = (cap - n) * s ∧ xs.length = n * s ∧ n ≤ cap) (fun q => [pt q.1 (.cells (q.2.1 ++ xs ++ q.2.2).toArray E (0, 0))]) :: L) := by
  rintro im h ⟨p1, p2, pa, pb, pc, ⟨hl, hc, hd⟩, st⟩
  rcases hd with ⟨_, h1, _⟩ | ⟨b, off, pre, post, ha, hp, hq, hb⟩
  · omega
  · have hs := Ent.shut (L := L) (B := fun q : Nat × List Value × List Value => [pt q.1 (.cells (q.2.1 ++ xs ++ q.2.2).toArray E (0, 0))]) (Q := fun q => a = some ⟨q.1, q.2.1.length, none⟩ ∧ q.2.2.length = (cap - n) * s ∧ xs.length = n * s ∧ n ≤ cap) (b, pre, post) ⟨by rw [ha, hp], hq, hl, hc⟩
    exact hs im h ⟨p1, p2, pa, pb, pc, hb, st⟩
end
end Go.Proofs.YtcnpkmdooekmgaaGreatDoor
namespace Go.Proofs.YtcnpkmdooekmgaaGreatDoor
open Go Sl
theorem Ent.mkV {b n nc s : Nat} {E : TypeId} {xs post : List Value} (h1 : xs.length = n * s) (h2 : n ≤ nc) (h3 : post.length = (nc - n) * s) (L : List Assn) : Ent (pt b (.cells (xs ++ post).toArray E (0, 0)) :: L) (vec (some ⟨b, 0, none⟩) n nc E s xs :: L) := by
  rintro im h ⟨p1, p2, pa, pb, pc, hp, st⟩
  exact ⟨p1, p2, pa, pb, pc, ⟨h1, h2, .inr ⟨b, 0, [], post, rfl, rfl, h3, hp⟩⟩, st⟩
/-- a function that has no body: do two rows overlap? -/
class TOver (P : Program) (f : FuncId) (tS tR : outParam TypeId) : Prop where
  run : ∀ args w, (callFunc f args).run P w = ((Extern.SlicesOverlaps.overlaps #[tS, tS] #[tR] args).run P w).andThen fun v w' => .ok (.value v) w'
instance : TOver Tryz.prog F.slices_overlaps_uint64 T.sl_uint64 T.bool := ⟨fun args w => run_callFunc_extern (f := F.slices_overlaps_uint64) (P := Tryz.prog) Tryz.func184 (by kernel_rfl) (by kernel_rfl) (by kernel_rfl) (e := Extern.SlicesOverlaps.overlaps #[T.sl_uint64, T.sl_uint64] #[T.bool]) (by kernel_rfl) args w⟩
instance : TOver Tryz.prog F.slices_overlaps_44_byte T.sl_a44_uint8 T.bool := ⟨fun args w => run_callFunc_extern (f := F.slices_overlaps_44_byte) (P := Tryz.prog) Tryz.func186 (by kernel_rfl) (by kernel_rfl) (by kernel_rfl) (e := Extern.SlicesOverlaps.overlaps #[T.sl_a44_uint8, T.sl_a44_uint8] #[T.bool]) (by kernel_rfl) args w⟩
theorem two_pts {Φ : Base} {L : List Assn} {w : World} {b c : Nat} {o p : Obj} (h : Holds Φ (pt b o :: pt c p :: L) w) : b ≠ c ∧ w.heap[b]? = some o ∧ w.heap[c]? = some p := by
  obtain ⟨im, hp, r, h1, h2, e1, e2, e3, hb, k1, k2, f1, f2, f3, hc, _⟩ := h
  refine ⟨fun e => ?_, r.hw _ _ (e1 _ _ hb), r.hw _ _ (e2 _ _ (f1 _ _ hc))⟩
  subst e
  rcases e3 b with h | h
  · rw [show h1 b = some o from hb] at h; cases h
  · rw [f1 _ _ hc] at h; cases h
theorem r_over {X : Cx} {e : Env} {L A : List Assn} {S : List Nat} {ops : Array Oper} {k : Nat} {l : List Oper} {R : Act → World → Prop} {d : Nat} {T : TypeId} {pos : String} {af : Array Edge} {f : FuncId} {tS tR E : TypeId} {s : Nat} {x y : Operand} {ts : Array TypeId} {b o la ca c p lb cb : Nat} {c1 c2 : List Value} {U V : TypeId}
    [ov : TOver X.P f tS tR] [tu : TUnd X.P tS (.slice E)] [te : TSize X.P E s] (hx : ev e x = some (.slice (some ⟨b, o, none⟩) la ca)) (hy : ev e y = some (.slice (some ⟨c, p, none⟩) lb cb)) (hn : c2 ≠ []) [st : Stay A (pt b (.cells c1.toArray U (0, 0)) :: pt c (.cells c2.toArray V (0, 0)) :: L)] 
    (h : J X ((d, .bool false) :: e) (pt b (.cells c1.toArray U (0, 0)) :: pt c (.cells c2.toArray V (0, 0)) :: L) (sw X.P (Holds X.Φ A) S ops R (k + 1) l)) (hs : S.contains k = false := by rfl) (hd : Nat.blt d X.n = true := by rfl) :
    J X e (pt b (.cells c1.toArray U (0, 0)) :: pt c (.cells c2.toArray V (0, 0)) :: L) (sw X.P (Holds X.Φ A) S ops R k (⟨some d, .call { callee := .value (.func f), args := #[x, y], argTypes := ts }, T, pos, af, none⟩ :: l)) :=
  r_write (α := Unit) (q := fun _ => True) (V := fun _ => .bool false) (M := fun _ => pt b (.cells c1.toArray U (0, 0)) :: pt c (.cells c2.toArray V (0, 0)) :: L) rfl (cls_write rfl hs rfl) (blt_some hd) (fun _ => st)
    (fun a w m hh => by
      obtain ⟨hne, hb, hc⟩ := two_pts hh
      have h1 := Lib.run_overlaps_apart (P := X.P) w tS tR E tu.eq s te.run ⟨b, o, none⟩ ⟨c, p, none⟩ la ca lb cb hne U V c1.length c2.length (by simp [World.shape?, hb]) (by simp [World.shape?, hc]) (by simpa using hn) (by simp [World.frozen?, hb]) (by simp [World.frozen?, hb])
      have h2 : (execOp a.eval (⟨some d, .call { callee := .value (.func f), args := #[x, y], argTypes := ts }, T, pos, af, none⟩ : Oper)).run X.P w = .ok (.value (.bool false)) w := by
        have h3 : a.eval (.func f) = .func (.func f) #[] #[] := rfl
        simp only [execOp, resolve, h3, List.map_toArray, List.map_cons, List.map_nil, m.ev hx, m.ev hy]
        simp [Deferred.ofValue, invoke, ov.run, h1, go_sem]
      rw [h2]
      exact ⟨(), trivial, rfl, hh⟩) (fun _ _ => h)
theorem mid_take {α : Type} {pre xs post : List α} {off k : Nat} (h : pre.length = off) (hk : k ≤ xs.length) : (pre ++ xs ++ post).take (off + k) = pre ++ xs.take k := by
  subst h
  rw [List.append_assoc, List.take_length_add_append, List.take_append_of_le_length hk]
theorem mid_drop {α : Type} {pre xs post : List α} {off k m : Nat} (h : pre.length = off) (hk : k = xs.length + m) : (pre ++ xs ++ post).drop (off + k) = post.drop m := by
  subst h; subst hk
  rw [List.append_assoc, List.drop_length_add_append, List.drop_length_add_append]
attribute [local irreducible] cw sw J Exit.then Exit.inBlock Exit.noGoto bodyPost swG swL permL
set_option maxHeartbeats 2000000 in
theorem insertK_c (a : Option Addr) (n cap i c1 : Nat) (a1 : Addr) (xs ys : List Value) (h1 : ∀ v ∈ xs, v.oneCell' = true) (h2 : ∀ v ∈ ys, v.oneCell' = true) (hi : i ≤ n) (hn : n ≤ 1000) (hl : xs.length = n * 1) (hc : n ≤ cap) (hy : ys.length = 1) (Φ : Base) :
    Sl.Fn Tryz.prog Φ F.slices_Insert_uint64_uint64 [.slice a n cap, i64 i, .slice (some a1) 1 c1] [vec a n cap T.uint64 1 xs, vec (some a1) 1 c1 T.uint64 1 ys] (fun _ : Option Addr × Nat => True) (fun p => .slice p.1 (n + 1) p.2) (fun p => [vec p.1 (n + 1) p.2 T.uint64 1 (xs.take (i * 1) ++ ys ++ xs.drop (i * 1))]) := by
  refine fo fun F => ?_
  repeat refine s1 ?_
  refine r_piece (s := 1) i n cap rfl (.inr ⟨_, rfl⟩) (.inl ⟨rfl, rfl, rfl⟩) (.inl ⟨rfl, rfl⟩) hi hc (Nat.le_refl _) rfl ?_
  repeat' (first | refine s2 ?_ | (refine k_bin ?_; refine r_icmp rfl rfl rfl rfl ?_) | (refine g_mark ?_; first | refine gg_splitD rfl rfl (fun _ => ?_) (fun _ => ?_) | refine gg_splitN rfl rfl (fun _ => ?_) (fun _ => ?_) | refine gg_split rfl rfl (fun _ => ?_) (fun _ => ?_)) | (refine k_cond ?_; first | refine t_condS rfl (fun _ => ?_) (fun _ => ?_) | refine t_condSN rfl (fun _ => ?_) (fun _ => ?_) | refine t_condSB rfl (fun _ => ?_) (fun _ => ?_)))
  next he =>
    have he2 : i = n := by omega
    subst he2
    have hx : xs.take (i * 1) ++ ys ++ xs.drop (i * 1) = xs ++ ys := by rw [List.take_of_length_le (by omega), List.drop_eq_nil_of_le (by omega), List.append_nil]
    rw [hx]
    refine r_append (n := i) (m := 1) (s := 1) (xs := xs) (ys := ys) rfl rfl (by decide) (by rfl) h2 (by omega) (by omega) rfl rfl (fun a' cap' hn => ?_)
    repeat refine s1 ?_
    exact f1 (a', cap')
  next hne =>
    have hlt : i < n := by omega
    refine r_addN (m := n) (n := 1) rfl rfl (by omega) rfl ?_
    repeat refine s1 ?_
    refine r_capS rfl rfl ?_
    repeat' (first | refine s2 ?_ | (refine k_bin ?_; refine r_icmp rfl rfl rfl rfl ?_) | (refine g_mark ?_; first | refine gg_splitD rfl rfl (fun _ => ?_) (fun _ => ?_) | refine gg_splitN rfl rfl (fun _ => ?_) (fun _ => ?_) | refine gg_split rfl rfl (fun _ => ?_) (fun _ => ?_)) | (refine k_cond ?_; first | refine t_condS rfl (fun _ => ?_) (fun _ => ?_) | refine t_condSN rfl (fun _ => ?_) (fun _ => ?_) | refine t_condSB rfl (fun _ => ?_) (fun _ => ?_)))
    next hg =>
      have hcn : cap = n := by omega
      subst hcn
      refine j_vec (.inl (by omega)) (fun b off pre post ha hp hq hl' hc' => ?_)
      subst ha
      refine r_piece (s := 1) 0 i cap rfl (.inl ⟨rfl, rfl⟩) (.inr ⟨_, rfl⟩) (.inl ⟨rfl, rfl⟩) (Nat.zero_le _) hi (Nat.le_refl _) rfl ?_
      rw [if_neg (show ¬ cap = 0 by omega), Option.map_some, add_at, Nat.zero_mul, Nat.add_zero, Nat.sub_zero, Nat.sub_zero]
      repeat refine s1 ?_
      refine r_addN (m := cap) (n := 1) rfl rfl (by omega) rfl ?_
      repeat refine s1 ?_
      refine r_subN (m := cap + 1) (n := i) rfl rfl (by omega) (by omega) rfl ?_
      refine r_appendG (n := i) (m := cap + 1 - i) (s := 1) (xs := xs.take (i * 1)) rfl rfl (fun w hh => ?_) (by decide) (by rfl) (by omega) hi (by omega) (by omega) (by omega) rfl rfl (fun b2 nc zs hnc hzs => ?_)
      · have hb : w.heap[b]? = some (.cells (pre ++ xs ++ post).toArray T.uint64 (0, 0)) := hh.rd
        refine reads_of (by rw [List.length_take]; omega) hb (fun j v hj => Sl.get_mid hp ?_)
        rw [List.getElem?_take] at hj
        split at hj
        · exact hj
        · cases hj
      rw [show i + (cap + 1 - i) = cap + 1 by omega]
      repeat refine s1 ?_
      refine r_piece (s := 1) i (cap + 1) nc rfl (.inr ⟨_, rfl⟩) (.inl ⟨rfl, rfl, rfl⟩) (.inl ⟨rfl, rfl⟩) (by omega) (by omega) (Nat.le_refl _) rfl ?_
      rw [if_neg (show ¬ nc = i by omega), Option.map_some, add_at, Nat.zero_add]
      repeat refine s1 ?_
      have ht : (xs.take (i * 1)).length = i * 1 := by rw [List.length_take]; omega
      refine r_copyG (s := 1) (xs.take (i * 1) ++ ys ++ zs.drop 1) ys rfl rfl (fun w hh => ?_) (by rw [List.length_append, ht, hy, hzs]; omega) h2 ?_ ?_
      · rw [show min 1 (cap + 1 - i) = 1 by omega]
        obtain ⟨im, hp, r, st⟩ := hh
        exact RdS.get im hp w r.imw r.hw st
      · rw [List.take_left' ht, hy, List.drop_append, List.drop_eq_nil_of_le (by omega), ht, Nat.add_sub_cancel_left, List.nil_append]
      repeat refine s1 ?_
      refine r_addN (m := i) (n := 1) rfl rfl (by omega) rfl ?_
      refine r_piece (s := 1) (i + 1) (cap + 1) nc rfl (.inr ⟨_, rfl⟩) (.inl ⟨rfl, rfl, rfl⟩) (.inl ⟨rfl, rfl⟩) (by omega) (by omega) (Nat.le_refl _) rfl ?_
      rw [if_neg (show ¬ nc = i + 1 by omega), Option.map_some, add_at, Nat.zero_add]
      repeat refine s1 ?_
      refine r_piece (s := 1) i cap cap rfl (.inr ⟨_, rfl⟩) (.inl ⟨rfl, rfl, rfl⟩) (.inl ⟨rfl, rfl⟩) (by omega) (by omega) (Nat.le_refl _) rfl ?_
      rw [if_neg (show ¬ cap = i by omega), Option.map_some, add_at]
      have hd2 : (xs.drop (i * 1)).length = (cap - i) * 1 := by rw [List.length_drop]; omega
      have ht2 : (xs.take (i * 1) ++ ys).length = (i + 1) * 1 := by rw [List.length_append, ht, hy]; omega
      refine r_copyG (s := 1) (xs.take (i * 1) ++ ys ++ xs.drop (i * 1) ++ (zs.drop 1).drop ((cap - i) * 1)) (xs.drop (i * 1)) rfl rfl (fun w hh => ?_) (by rw [List.length_append, ht2, hd2, List.length_drop, hzs]; omega) (fun v hv => h1 v (List.mem_of_mem_drop hv)) ?_ ?_
      · rw [show min (cap - i) (cap + 1 - (i + 1)) = cap - i by omega]
        have hb : w.heap[b]? = some (.cells (pre ++ xs ++ post).toArray T.uint64 (0, 0)) := hh.rd
        refine reads_of hd2 hb (fun j v hj => ?_)
        rw [Nat.add_assoc]
        rw [List.getElem?_drop] at hj
        exact Sl.get_mid hp hj
      · have hz : (xs.take (i * 1) ++ ys).drop ((xs.take (i * 1) ++ ys).length + (cap - i) * 1) = [] := List.drop_eq_nil_of_le (by omega)
        rw [List.take_left' ht2, hd2, ← ht2, List.drop_append, hz, Nat.add_sub_cancel_left, List.nil_append]
      repeat refine s1 ?_
      refine j_ent (Ent.mkV (n := cap + 1) (nc := nc) (s := 1) (by rw [List.length_append, ht2, hd2]; omega) (by omega) (by rw [List.length_drop, List.length_drop, hzs]; omega) _) ?_
      exact f1 (some ⟨b2, 0, none⟩, nc)
    next hg =>
      have hg' : n + 1 ≤ cap := by omega
      refine j_vec (.inl (by omega)) (fun b off pre post ha hp hq hl' hc' => ?_)
      subst ha
      repeat refine s1 ?_
      refine r_addN (m := n) (n := 1) rfl rfl (by omega) rfl ?_
      refine r_piece (s := 1) 0 (n + 1) cap rfl (.inl ⟨rfl, rfl⟩) (.inr ⟨_, rfl⟩) (.inl ⟨rfl, rfl⟩) (Nat.zero_le _) hg' (Nat.le_refl _) rfl ?_
      rw [if_neg (show ¬ cap = 0 by omega), Option.map_some, add_at, Nat.zero_mul, Nat.add_zero, Nat.sub_zero, Nat.sub_zero]
      repeat refine s1 ?_
      refine r_addN (m := i) (n := 1) rfl rfl (by omega) rfl ?_
      refine r_piece (s := 1) (i + 1) (n + 1) cap rfl (.inr ⟨_, rfl⟩) (.inl ⟨rfl, rfl, rfl⟩) (.inl ⟨rfl, rfl⟩) (by omega) (by omega) (Nat.le_refl _) rfl ?_
      rw [if_neg (show ¬ cap = i + 1 by omega), Option.map_some, add_at]
      refine j_head (vec (some a1) 1 c1 T.uint64 1 ys) (j_vec (.inl (by omega)) (fun b1 off1 pre1 post1 ha1 hp1 hq1 _ hc1 => ?_))
      cases ha1
      refine r_over rfl rfl (by intro h; have := congrArg List.length h; rw [List.length_append, List.length_append, List.length_nil] at this; omega) ?_
      repeat refine s1 ?_
      refine r_addN (m := i) (n := 1) rfl rfl (by omega) rfl ?_
      refine r_piece (s := 1) (i + 1) (n + 1) cap rfl (.inr ⟨_, rfl⟩) (.inl ⟨rfl, rfl, rfl⟩) (.inl ⟨rfl, rfl⟩) (by omega) (by omega) (Nat.le_refl _) rfl ?_
      rw [if_neg (show ¬ cap = i + 1 by omega), Option.map_some, add_at]
      repeat refine s1 ?_
      refine r_piece (s := 1) i (n + 1) cap rfl (.inr ⟨_, rfl⟩) (.inl ⟨rfl, rfl, rfl⟩) (.inl ⟨rfl, rfl⟩) (by omega) (by omega) (Nat.le_refl _) rfl ?_
      rw [if_neg (show ¬ cap = i by omega), Option.map_some, add_at]
      have hd2 : (xs.drop (i * 1)).length = (n - i) * 1 := by rw [List.length_drop]; omega
      have ht2 : (xs.take ((i + 1) * 1)).length = (i + 1) * 1 := by rw [List.length_take]; omega
      have ht1 : (xs.take (i * 1)).length = i * 1 := by rw [List.length_take]; omega
      have hpost : 1 ≤ post.length := by rw [hq]; omega
      refine r_copyG (s := 1) (pre ++ (xs.take ((i + 1) * 1) ++ xs.drop (i * 1)) ++ post.drop 1) (xs.drop (i * 1)) rfl rfl (fun w hh => ?_) (by rw [List.length_append, List.length_append, hd2]; omega) (fun v hv => h1 v (List.mem_of_mem_drop hv)) ?_ ?_
      · rw [show min (n + 1 - i) (n + 1 - (i + 1)) = n - i by omega]
        have hb : w.heap[b]? = some (.cells (pre ++ xs ++ post).toArray T.uint64 (0, 0)) := hh.rd
        refine reads_of hd2 hb (fun j v hj => ?_)
        rw [Nat.add_assoc]
        rw [List.getElem?_drop] at hj
        exact Sl.get_mid hp hj
      · rw [mid_take hp (by omega), hd2, Nat.add_assoc, mid_drop (m := 1) hp (by omega)]
        simp
      repeat refine s1 ?_
      refine r_piece (s := 1) i (n + 1) cap rfl (.inr ⟨_, rfl⟩) (.inl ⟨rfl, rfl, rfl⟩) (.inl ⟨rfl, rfl⟩) (by omega) (by omega) (Nat.le_refl _) rfl ?_
      rw [if_neg (show ¬ cap = i by omega), Option.map_some, add_at]
      repeat refine s1 ?_
      refine r_copyG (s := 1) (pre ++ (xs.take (i * 1) ++ ys ++ xs.drop (i * 1)) ++ post.drop 1) ys rfl rfl (fun w hh => ?_) (by rw [List.length_append, List.length_append, List.length_append, hd2, ht2]; omega) h2 ?_ ?_
      · rw [show min 1 (n + 1 - i) = 1 by omega]
        have hb : w.heap[b1]? = some (.cells (pre1 ++ ys ++ post1).toArray T.uint64 (0, 0)) := hh.rd
        exact reads_of (by omega) hb (fun j v hj => Sl.get_mid hp1 hj)
      · have e1 : xs.take ((i + 1) * 1) ++ xs.drop (i * 1) = xs.take (i * 1) ++ ((xs.drop (i * 1)).take 1 ++ xs.drop (i * 1)) := by
          rw [← List.append_assoc, show (i + 1) * 1 = i * 1 + 1 by omega, List.take_add]
        have e2 : ((xs.drop (i * 1)).take 1).length = ys.length := by rw [List.length_take, hd2, hy]; omega
        rw [mid_take hp (by rw [List.length_append, ht2]; omega), List.take_append_of_le_length (by omega), List.take_take, show min (i * 1) ((i + 1) * 1) = i * 1 by omega, e1]
        have e3 : pre ++ (xs.take (i * 1) ++ ((xs.drop (i * 1)).take 1 ++ xs.drop (i * 1))) ++ post.drop 1 = (pre ++ (xs.take (i * 1) ++ (xs.drop (i * 1)).take 1)) ++ (xs.drop (i * 1) ++ post.drop 1) := by simp
        rw [e3, List.drop_left' (by rw [List.length_append, List.length_append, ht1, e2]; omega)]
        simp
      repeat refine s1 ?_
      refine jh [pt b (.cells (pre ++ (xs.take (i * 1) ++ ys ++ xs.drop (i * 1)) ++ post.drop 1).toArray T.uint64 (0, 0))] ?_
      refine j_ent (Ent.vec (n := n + 1) (cap := cap) (s := 1) (by rw [List.length_append, List.length_append, ht1, hd2]; omega) hg' hp (by rw [List.length_drop]; omega) _) ?_
      exact f1 (some ⟨b, off, none⟩, cap)
set_option maxHeartbeats 2000000 in
theorem insertV_c (a : Option Addr) (n cap i c1 : Nat) (a1 : Addr) (xs ys : List Value) (h1 : ∀ v ∈ xs, v.oneCell' = true) (h2 : ∀ v ∈ ys, v.oneCell' = true) (hi : i ≤ n) (hn : n ≤ 1000) (hl : xs.length = n * 44) (hc : n ≤ cap) (hy : ys.length = 44) (Φ : Base) :
    Sl.Fn Tryz.prog Φ F.slices_Insert_44_byte_44_byte [.slice a n cap, i64 i, .slice (some a1) 1 c1] [vec a n cap T.a44_uint8 44 xs, vec (some a1) 1 c1 T.a44_uint8 44 ys] (fun _ : Option Addr × Nat => True) (fun p => .slice p.1 (n + 1) p.2) (fun p => [vec p.1 (n + 1) p.2 T.a44_uint8 44 (xs.take (i * 44) ++ ys ++ xs.drop (i * 44))]) := by
  refine fo fun F => ?_
  repeat refine s1 ?_
  refine r_piece (s := 44) i n cap rfl (.inr ⟨_, rfl⟩) (.inl ⟨rfl, rfl, rfl⟩) (.inl ⟨rfl, rfl⟩) hi hc (Nat.le_refl _) rfl ?_
  repeat' (first | refine s2 ?_ | (refine k_bin ?_; refine r_icmp rfl rfl rfl rfl ?_) | (refine g_mark ?_; first | refine gg_splitD rfl rfl (fun _ => ?_) (fun _ => ?_) | refine gg_splitN rfl rfl (fun _ => ?_) (fun _ => ?_) | refine gg_split rfl rfl (fun _ => ?_) (fun _ => ?_)) | (refine k_cond ?_; first | refine t_condS rfl (fun _ => ?_) (fun _ => ?_) | refine t_condSN rfl (fun _ => ?_) (fun _ => ?_) | refine t_condSB rfl (fun _ => ?_) (fun _ => ?_)))
  next he =>
    have he2 : i = n := by omega
    subst he2
    have hx : xs.take (i * 44) ++ ys ++ xs.drop (i * 44) = xs ++ ys := by rw [List.take_of_length_le (by omega), List.drop_eq_nil_of_le (by omega), List.append_nil]
    rw [hx]
    refine r_append (n := i) (m := 1) (s := 44) (xs := xs) (ys := ys) rfl rfl (by decide) (by rfl) h2 (by omega) (by omega) rfl rfl (fun a' cap' hn => ?_)
    repeat refine s1 ?_
    exact f1 (a', cap')
  next hne =>
    have hlt : i < n := by omega
    refine r_addN (m := n) (n := 1) rfl rfl (by omega) rfl ?_
    repeat refine s1 ?_
    refine r_capS rfl rfl ?_
    repeat' (first | refine s2 ?_ | (refine k_bin ?_; refine r_icmp rfl rfl rfl rfl ?_) | (refine g_mark ?_; first | refine gg_splitD rfl rfl (fun _ => ?_) (fun _ => ?_) | refine gg_splitN rfl rfl (fun _ => ?_) (fun _ => ?_) | refine gg_split rfl rfl (fun _ => ?_) (fun _ => ?_)) | (refine k_cond ?_; first | refine t_condS rfl (fun _ => ?_) (fun _ => ?_) | refine t_condSN rfl (fun _ => ?_) (fun _ => ?_) | refine t_condSB rfl (fun _ => ?_) (fun _ => ?_)))
    next hg =>
      have hcn : cap = n := by omega
      subst hcn
      refine j_vec (.inl (by omega)) (fun b off pre post ha hp hq hl' hc' => ?_)
      subst ha
      refine r_piece (s := 44) 0 i cap rfl (.inl ⟨rfl, rfl⟩) (.inr ⟨_, rfl⟩) (.inl ⟨rfl, rfl⟩) (Nat.zero_le _) hi (Nat.le_refl _) rfl ?_
      rw [if_neg (show ¬ cap = 0 by omega), Option.map_some, add_at, Nat.zero_mul, Nat.add_zero, Nat.sub_zero, Nat.sub_zero]
      repeat refine s1 ?_
      refine r_addN (m := cap) (n := 1) rfl rfl (by omega) rfl ?_
      repeat refine s1 ?_
      refine r_subN (m := cap + 1) (n := i) rfl rfl (by omega) (by omega) rfl ?_
      refine r_appendG (n := i) (m := cap + 1 - i) (s := 44) (xs := xs.take (i * 44)) rfl rfl (fun w hh => ?_) (by decide) (by rfl) (by omega) hi (by omega) (by omega) (by omega) rfl rfl (fun b2 nc zs hnc hzs => ?_)
      · have hb : w.heap[b]? = some (.cells (pre ++ xs ++ post).toArray T.a44_uint8 (0, 0)) := hh.rd
        refine reads_of (by rw [List.length_take]; omega) hb (fun j v hj => Sl.get_mid hp ?_)
        rw [List.getElem?_take] at hj
        split at hj
        · exact hj
        · cases hj
      rw [show i + (cap + 1 - i) = cap + 1 by omega]
      repeat refine s1 ?_
      refine r_piece (s := 44) i (cap + 1) nc rfl (.inr ⟨_, rfl⟩) (.inl ⟨rfl, rfl, rfl⟩) (.inl ⟨rfl, rfl⟩) (by omega) (by omega) (Nat.le_refl _) rfl ?_
      rw [if_neg (show ¬ nc = i by omega), Option.map_some, add_at, Nat.zero_add]
      repeat refine s1 ?_
      have ht : (xs.take (i * 44)).length = i * 44 := by rw [List.length_take]; omega
      refine r_copyG (s := 44) (xs.take (i * 44) ++ ys ++ zs.drop 44) ys rfl rfl (fun w hh => ?_) (by rw [List.length_append, ht, hy, hzs]; omega) h2 ?_ ?_
      · rw [show min 1 (cap + 1 - i) = 1 by omega]
        obtain ⟨im, hp, r, st⟩ := hh
        exact RdS.get im hp w r.imw r.hw st
      · rw [List.take_left' ht, hy, List.drop_append, List.drop_eq_nil_of_le (by omega), ht, Nat.add_sub_cancel_left, List.nil_append]
      repeat refine s1 ?_
      refine r_addN (m := i) (n := 1) rfl rfl (by omega) rfl ?_
      refine r_piece (s := 44) (i + 1) (cap + 1) nc rfl (.inr ⟨_, rfl⟩) (.inl ⟨rfl, rfl, rfl⟩) (.inl ⟨rfl, rfl⟩) (by omega) (by omega) (Nat.le_refl _) rfl ?_
      rw [if_neg (show ¬ nc = i + 1 by omega), Option.map_some, add_at, Nat.zero_add]
      repeat refine s1 ?_
      refine r_piece (s := 44) i cap cap rfl (.inr ⟨_, rfl⟩) (.inl ⟨rfl, rfl, rfl⟩) (.inl ⟨rfl, rfl⟩) (by omega) (by omega) (Nat.le_refl _) rfl ?_
      rw [if_neg (show ¬ cap = i by omega), Option.map_some, add_at]
      have hd2 : (xs.drop (i * 44)).length = (cap - i) * 44 := by rw [List.length_drop]; omega
      have ht2 : (xs.take (i * 44) ++ ys).length = (i + 1) * 44 := by rw [List.length_append, ht, hy]; omega
      refine r_copyG (s := 44) (xs.take (i * 44) ++ ys ++ xs.drop (i * 44) ++ (zs.drop 44).drop ((cap - i) * 44)) (xs.drop (i * 44)) rfl rfl (fun w hh => ?_) (by rw [List.length_append, ht2, hd2, List.length_drop, hzs]; omega) (fun v hv => h1 v (List.mem_of_mem_drop hv)) ?_ ?_
      · rw [show min (cap - i) (cap + 1 - (i + 1)) = cap - i by omega]
        have hb : w.heap[b]? = some (.cells (pre ++ xs ++ post).toArray T.a44_uint8 (0, 0)) := hh.rd
        refine reads_of hd2 hb (fun j v hj => ?_)
        rw [Nat.add_assoc]
        rw [List.getElem?_drop] at hj
        exact Sl.get_mid hp hj
      · have hz : (xs.take (i * 44) ++ ys).drop ((xs.take (i * 44) ++ ys).length + (cap - i) * 44) = [] := List.drop_eq_nil_of_le (by omega)
        rw [List.take_left' ht2, hd2, ← ht2, List.drop_append, hz, Nat.add_sub_cancel_left, List.nil_append]
      repeat refine s1 ?_
      refine j_ent (Ent.mkV (n := cap + 1) (nc := nc) (s := 44) (by rw [List.length_append, ht2, hd2]; omega) (by omega) (by rw [List.length_drop, List.length_drop, hzs]; omega) _) ?_
      exact f1 (some ⟨b2, 0, none⟩, nc)
    next hg =>
      have hg' : n + 1 ≤ cap := by omega
      refine j_vec (.inl (by omega)) (fun b off pre post ha hp hq hl' hc' => ?_)
      subst ha
      repeat refine s1 ?_
      refine r_addN (m := n) (n := 1) rfl rfl (by omega) rfl ?_
      refine r_piece (s := 44) 0 (n + 1) cap rfl (.inl ⟨rfl, rfl⟩) (.inr ⟨_, rfl⟩) (.inl ⟨rfl, rfl⟩) (Nat.zero_le _) hg' (Nat.le_refl _) rfl ?_
      rw [if_neg (show ¬ cap = 0 by omega), Option.map_some, add_at, Nat.zero_mul, Nat.add_zero, Nat.sub_zero, Nat.sub_zero]
      repeat refine s1 ?_
      refine r_addN (m := i) (n := 1) rfl rfl (by omega) rfl ?_
      refine r_piece (s := 44) (i + 1) (n + 1) cap rfl (.inr ⟨_, rfl⟩) (.inl ⟨rfl, rfl, rfl⟩) (.inl ⟨rfl, rfl⟩) (by omega) (by omega) (Nat.le_refl _) rfl ?_
      rw [if_neg (show ¬ cap = i + 1 by omega), Option.map_some, add_at]
      refine j_head (vec (some a1) 1 c1 T.a44_uint8 44 ys) (j_vec (.inl (by omega)) (fun b1 off1 pre1 post1 ha1 hp1 hq1 _ hc1 => ?_))
      cases ha1
      refine r_over rfl rfl (by intro h; have := congrArg List.length h; rw [List.length_append, List.length_append, List.length_nil] at this; omega) ?_
      repeat refine s1 ?_
      refine r_addN (m := i) (n := 1) rfl rfl (by omega) rfl ?_
      refine r_piece (s := 44) (i + 1) (n + 1) cap rfl (.inr ⟨_, rfl⟩) (.inl ⟨rfl, rfl, rfl⟩) (.inl ⟨rfl, rfl⟩) (by omega) (by omega) (Nat.le_refl _) rfl ?_
      rw [if_neg (show ¬ cap = i + 1 by omega), Option.map_some, add_at]
      repeat refine s1 ?_
      refine r_piece (s := 44) i (n + 1) cap rfl (.inr ⟨_, rfl⟩) (.inl ⟨rfl, rfl, rfl⟩) (.inl ⟨rfl, rfl⟩) (by omega) (by omega) (Nat.le_refl _) rfl ?_
      rw [if_neg (show ¬ cap = i by omega), Option.map_some, add_at]
      have hd2 : (xs.drop (i * 44)).length = (n - i) * 44 := by rw [List.length_drop]; omega
      have ht2 : (xs.take ((i + 1) * 44)).length = (i + 1) * 44 := by rw [List.length_take]; omega
      have ht1 : (xs.take (i * 44)).length = i * 44 := by rw [List.length_take]; omega
      have hpost : 44 ≤ post.length := by rw [hq]; omega
      refine r_copyG (s := 44) (pre ++ (xs.take ((i + 1) * 44) ++ xs.drop (i * 44)) ++ post.drop 44) (xs.drop (i * 44)) rfl rfl (fun w hh => ?_) (by rw [List.length_append, List.length_append, hd2]; omega) (fun v hv => h1 v (List.mem_of_mem_drop hv)) ?_ ?_
      · rw [show min (n + 1 - i) (n + 1 - (i + 1)) = n - i by omega]
        have hb : w.heap[b]? = some (.cells (pre ++ xs ++ post).toArray T.a44_uint8 (0, 0)) := hh.rd
        refine reads_of hd2 hb (fun j v hj => ?_)
        rw [Nat.add_assoc]
        rw [List.getElem?_drop] at hj
        exact Sl.get_mid hp hj
      · rw [mid_take hp (by omega), hd2, Nat.add_assoc, mid_drop (m := 44) hp (by omega)]
        simp
      repeat refine s1 ?_
      refine r_piece (s := 44) i (n + 1) cap rfl (.inr ⟨_, rfl⟩) (.inl ⟨rfl, rfl, rfl⟩) (.inl ⟨rfl, rfl⟩) (by omega) (by omega) (Nat.le_refl _) rfl ?_
      rw [if_neg (show ¬ cap = i by omega), Option.map_some, add_at]
      repeat refine s1 ?_
      refine r_copyG (s := 44) (pre ++ (xs.take (i * 44) ++ ys ++ xs.drop (i * 44)) ++ post.drop 44) ys rfl rfl (fun w hh => ?_) (by rw [List.length_append, List.length_append, List.length_append, hd2, ht2]; omega) h2 ?_ ?_
      · rw [show min 1 (n + 1 - i) = 1 by omega]
        have hb : w.heap[b1]? = some (.cells (pre1 ++ ys ++ post1).toArray T.a44_uint8 (0, 0)) := hh.rd
        exact reads_of (by omega) hb (fun j v hj => Sl.get_mid hp1 hj)
      · have e1 : xs.take ((i + 1) * 44) ++ xs.drop (i * 44) = xs.take (i * 44) ++ ((xs.drop (i * 44)).take 44 ++ xs.drop (i * 44)) := by
          rw [← List.append_assoc, show (i + 1) * 44 = i * 44 + 44 by omega, List.take_add]
        have e2 : ((xs.drop (i * 44)).take 44).length = ys.length := by rw [List.length_take, hd2, hy]; omega
        rw [mid_take hp (by rw [List.length_append, ht2]; omega), List.take_append_of_le_length (by omega), List.take_take, show min (i * 44) ((i + 1) * 44) = i * 44 by omega, e1]
        have e3 : pre ++ (xs.take (i * 44) ++ ((xs.drop (i * 44)).take 44 ++ xs.drop (i * 44))) ++ post.drop 44 = (pre ++ (xs.take (i * 44) ++ (xs.drop (i * 44)).take 44)) ++ (xs.drop (i * 44) ++ post.drop 44) := by simp
        rw [e3, List.drop_left' (by rw [List.length_append, List.length_append, ht1, e2]; omega)]
        simp
      repeat refine s1 ?_
      refine jh [pt b (.cells (pre ++ (xs.take (i * 44) ++ ys ++ xs.drop (i * 44)) ++ post.drop 44).toArray T.a44_uint8 (0, 0))] ?_
      refine j_ent (Ent.vec (n := n + 1) (cap := cap) (s := 44) (by rw [List.length_append, List.length_append, ht1, hd2]; omega) hg' hp (by rw [List.length_drop]; omega) _) ?_
      exact f1 (some ⟨b, off, none⟩, cap)
end Go.Proofs.YtcnpkmdooekmgaaGreatDoor
namespace Go.Proofs.YtcnpkmdooekmgaaGreatDoor
open Go Sl
theorem fill_agg (s : Nat) (place : Nat → Option (Nat × Nat)) (hp : ∀ i, place i = some (i * s, s)) : ∀ (vs : List (List Value)) (k : Nat) (pre rest : List Value), (∀ v ∈ vs, v.length = s) → pre.length = k * s → rest.length = vs.length * s →
    Instr.fill place (pre ++ rest).toArray ((vs.zipIdx k).map fun p => (p.2, Value.agg p.1.toArray)) = some (pre ++ vs.flatten).toArray
  | [], k, pre, rest, _, _, h => by
    have : rest = [] := List.eq_nil_of_length_eq_zero (by simpa using h)
    subst this; simp [Instr.fill]
  | v :: vs, k, pre, rest, hv, h1, h2 => by
    have hl := hv v (by simp)
    have hr : s ≤ rest.length := by rw [h2, List.length_cons, Nat.succ_mul]; omega
    have e0 : (v.toArray.zipIdx.foldl (fun cs (x : Value × Nat) => cs.setIfInBounds (k * s + x.2) x.1) (pre ++ rest).toArray) = (pre ++ v ++ rest.drop s).toArray := by
      have := foldl_set v (k * s) 0 (pre ++ rest).toArray pre (rest.take s) (rest.drop s) (by simp) (by omega) (by rw [List.length_take]; omega)
      simpa using this
    have ih := fill_agg s place hp vs (k + 1) (pre ++ v) (rest.drop s) (fun x hx => hv x (by simp [hx])) (by rw [List.length_append, h1, hl, Nat.succ_mul]) (by rw [List.length_drop, h2, List.length_cons, Nat.succ_mul]; omega)
    have hc : (Value.agg v.toArray).cells = v.toArray := rfl
    simp only [List.zipIdx_cons, List.map_cons, Instr.fill, hp, hc]
    rw [if_neg (by simp [hl]; omega)]
    show Instr.fill place (v.toArray.zipIdx.foldl (fun cs (x : Value × Nat) => cs.setIfInBounds (k * s + x.2) x.1) (pre ++ rest).toArray) _ = _
    rw [e0, ih]
    simp
theorem run_buildAggs {P : Program} {t E : TypeId} {s by_ : Nat} {z : Value} [tu : TUnd P t (.slice E)] [te : TElem P E s by_ z] (vs : List (List Value)) (hv : ∀ v ∈ vs, v.length = s) (hn : vs.length * s ≤ 16777216) (w : World) :
    (Instr.buildSlice t vs.length (vs.zipIdx.map fun p => (p.2, Value.agg p.1.toArray)).toArray).run P w = .ok (.slice (some ⟨w.heap.size, 0, none⟩) vs.length vs.length) { w with heap := w.heap.push (.cells vs.flatten.toArray E) } := by
  obtain ⟨i, hi, hs, hb, hz⟩ := te.ex
  have key : ∀ zero : Array Value, Instr.fill (fun i => some (i * s, s)) ((Array.range (vs.length * s)).map (zero[· % zero.size]!)) (vs.zipIdx.map fun p => (p.2, Value.agg p.1.toArray)) = some vs.flatten.toArray := fun zero => by
    have := fill_agg s (fun i => some (i * s, s)) (fun _ => rfl) vs 0 [] ((Array.range (vs.length * s)).map (zero[· % zero.size]!)).toList hv (by simp) (by simp)
    rwa [List.nil_append, List.nil_append, Array.toArray_toList] at this
  have hsz : ∀ w, (sizeOf E).run P w = .ok s w := fun w => by simp [sizeOf, typeInfo, hi, hs, go_sem]
  have hzv : ∀ w, (zeroValue E).run P w = .ok z w := fun w => by simp [zeroValue, typeInfo, hi, hz, go_sem]
  simp only [Instr.buildSlice, Sem.run_bind, tu.run, Result.andThen_ok, hsz]
  rw [if_neg (by omega)]
  by_cases h0 : vs.length * s = 0
  · simp only [h0, if_true, Sem.run_bind, Sem.run_pure, Result.andThen_ok]
    have := key #[]
    rw [h0] at this
    simp only [Sem.run_pure, Sem.run_bind, this]
    rfl
  · simp only [h0, if_false, Sem.run_bind, Sem.run_pure, Result.andThen_ok, hzv, key]
    rfl
section
variable {X : Cx} {e : Env} {L L1 F : List Assn} {A : List Assn} {S : List Nat} {ops : Array Oper} {k : Nat} {l : List Oper} {R : Act → World → Prop} {G : Act → World → Prop}
variable {d : Nat} {T : TypeId} {pos : String} {af : Array Edge}
theorem r_buildAs {t E : TypeId} {len : Nat} {parts : Array (Nat × Operand)} {s by_ : Nat} {z : Value} [tu : TUnd X.P t (.slice E)] [te : TElem X.P E s by_ z] (os : List Operand) (vs : List (List Value)) (hp : parts = (os.zipIdx.map fun p => (p.2, p.1)).toArray) (hvs : evL e os = some (vs.map fun v => .agg v.toArray))
    (hv : ∀ v ∈ vs, v.length = s) (hn : vs.length * s ≤ 16777216) (hlen : vs.length = len) (hs : S.contains k = false) (hd : Nat.blt d X.n = true) [st : ∀ b, Stay A (pt b (.cells vs.flatten.toArray E (0, 0)) :: L)]
    (h : ∀ b, J X ((d, .slice (some ⟨b, 0, none⟩) len len) :: e) (vec (some ⟨b, 0, none⟩) len len E s vs.flatten :: L) (sw X.P (Holds X.Φ A) S ops R (k + 1) l)) :
    J X e L (sw X.P (Holds X.Φ A) S ops R k (⟨some d, .buildSlice t len parts, T, pos, af, none⟩ :: l)) :=
  r_buildS (cells := vs.flatten) (s := s) hs hd (by
    subst hlen; clear hvs h hn st; induction vs with
    | nil => simp
    | cons v vs ih => rw [List.flatten_cons, List.length_append, ih (fun x hx => hv x (by simp [hx])), List.length_cons, Nat.succ_mul, hv v (by simp)]; omega) (fun a w m => by
    have e1 : (parts.map fun (i, x) => (i, a.eval x)) = (vs.zipIdx.map fun p => (p.2, Value.agg p.1.toArray)).toArray := by
      have h2 := m.evL hvs
      have h3 : (os.map a.eval).zipIdx = (vs.map fun v => Value.agg v.toArray).zipIdx := by rw [h2]
      rw [List.zipIdx_map, List.zipIdx_map] at h3
      have h4 := congrArg (List.map fun p : Value × Nat => (p.2, p.1)) h3
      rw [List.map_map, List.map_map] at h4
      rw [hp]
      simp only [List.map_toArray, List.map_map]
      congr 1
    rw [e1, ← hlen]
    exact run_buildAggs vs hv hn w) h
/-- a row literal of one element that is a value of several cells. -/
theorem r_buildA1 {t E : TypeId} {s by_ : Nat} {z : Value} {x : Operand} {v : List Value} [tu : TUnd X.P t (.slice E)] [te : TElem X.P E s by_ z] (hx : ev e x = some (.agg v.toArray)) (hv : v.length = s) (hn : s ≤ 16777216) [st : ∀ b, Stay A (pt b (.cells v.toArray E (0, 0)) :: L)]
    (h : ∀ b, J X ((d, .slice (some ⟨b, 0, none⟩) 1 1) :: e) (vec (some ⟨b, 0, none⟩) 1 1 E s v :: L) (sw X.P (Holds X.Φ A) S ops R (k + 1) l)) (hs : S.contains k = false := by rfl) (hd : Nat.blt d X.n = true := by rfl) :
    J X e L (sw X.P (Holds X.Φ A) S ops R k (⟨some d, .buildSlice t 1 #[(0, x)], T, pos, af, none⟩ :: l)) :=
  r_buildAs (os := [x]) (vs := [v]) (s := s) (by rfl) (by simp [evL, hx]) (by simpa using hv) (by simpa using hn) rfl hs hd (st := fun b => by simpa using st b) (fun b => by simpa using h b)
end
theorem ins_cut {kv : KV} {i : Nat} {k : Nat} {v : List Nat} (h1 : ∀ x ∈ kv.take i, x.1 < k) : ins k v kv = kv.take i ++ ins k v (kv.drop i) := by
  conv => lhs; rw [← List.take_append_drop i kv]
  exact ins_left h1
theorem ins_hit {kv : KV} {i k : Nat} {v u : List Nat} (h1 : ∀ x ∈ kv.take i, x.1 < k) (h2 : kv[i]? = some (k, u)) : ins k v kv = kv.set i (k, v) := by
  rw [ins_cut h1]
  obtain ⟨hi, e⟩ := List.getElem?_eq_some_iff.1 h2
  rw [List.drop_eq_getElem_cons hi, e, List.set_eq_take_append_cons_drop, if_pos hi]
  simp [ins]
theorem ins_miss {kv : KV} {i k : Nat} {v : List Nat} (h1 : ∀ x ∈ kv.take i, x.1 < k) (h2 : ∀ x, kv[i]? = some x → k < x.1) : ins k v kv = kv.take i ++ (k, v) :: kv.drop i := by
  rw [ins_cut h1]
  rcases hd : kv.drop i with _ | ⟨y, l⟩
  · rfl
  · have := h2 y (by have := congrArg List.head? hd; simpa [List.head?_drop] using this)
    simp [ins, this]
theorem below_spec {ks : List Nat} (hr : ks.Pairwise (· < ·)) (k : Nat) : below ks k ≤ ks.length ∧ (∀ j x, j < below ks k → ks[j]? = some x → x < k) ∧ (∀ j x, below ks k ≤ j → ks[j]? = some x → k ≤ x) := by
  induction ks with
  | nil => simp [below]
  | cons a ks ih =>
    obtain ⟨h1, h2⟩ := List.pairwise_cons.1 hr
    obtain ⟨g1, g2, g3⟩ := ih h2
    have hb : below (a :: ks) k = below ks k + if a < k then 1 else 0 := by simp [below, List.countP_cons]
    by_cases ha : a < k
    · rw [hb, if_pos ha]
      refine ⟨by simp; omega, fun j x hj hx => ?_, fun j x hj hx => ?_⟩
      · cases j with
        | zero => simp at hx; omega
        | succ j => exact g2 j x (by omega) (by simpa using hx)
      · cases j with
        | zero => omega
        | succ j => exact g3 j x (by omega) (by simpa using hx)
    · have h0 : below ks k = 0 := by
        unfold below
        exact List.countP_eq_zero.2 fun x hx => by have := h1 x hx; simp; omega
      rw [hb, if_neg ha, h0]
      refine ⟨by simp, fun j x hj => by omega, fun j x _ hx => ?_⟩
      cases j with
      | zero => simp at hx; omega
      | succ j =>
        have := h1 x (List.mem_of_getElem? (by simpa using hx))
        omega
theorem flat_set {α β : Type} (f : α → List β) (s : Nat) : ∀ (l : List α) (i : Nat) (a : α), (∀ x ∈ l, (f x).length = s) → (f a).length = s → i < l.length → (l.flatMap f).take (i * s) ++ f a ++ (l.flatMap f).drop (i * s + s) = (l.set i a).flatMap f
  | [], i, a, _, _, h => by simp at h
  | x :: l, 0, a, h, ha, _ => by
    have := h x (by simp)
    simp [List.flatMap_cons, ← this]
  | x :: l, i + 1, a, h, ha, hi => by
    have hx := h x (by simp)
    have ih := flat_set f s l i a (fun y hy => h y (by simp [hy])) ha (by simpa using hi)
    have e1 : (i + 1) * s = (f x).length + i * s := by rw [hx, Nat.succ_mul]; omega
    have e2 : (i + 1) * s + s = (f x).length + (i * s + s) := by omega
    rw [List.flatMap_cons, List.set_cons_succ, List.flatMap_cons, ← ih, e2, List.drop_length_add_append, e1, List.take_length_add_append]
    simp
attribute [local irreducible] cw sw J Exit.then Exit.inBlock Exit.noGoto bodyPost swG swL permL
theorem put_c (kv : KV) (x : NR) (k : Nat) (v : List Nat) (hs : Srt kv) (hok : KVok kv) (hl : kv.length ≤ 100) (_hk : k < 18446744073709551616) (hv : bytes 44 v) (Φ : Base) :
    Sl.Fn Tryz.prog Φ F.node_Put [nV (leafN kv) x, w64 k, .agg (v.map u8).toArray] [node (leafN kv) x] (fun _ : NR => True) (fun q => nV (leafN (ins k v kv)) q) (fun q => [node (leafN (ins k v kv)) q]) := by
  have hw : (leafN kv).whole := ⟨by simp [leafN]; omega, fun _ => by simp [leafN], fun h => by cases h⟩
  have ht : (leafN kv).wt := nsh_wt (g := ⟨fun _ => [], fun _ => none⟩) (h := 0) (U := []) ⟨rfl, rfl, hok⟩
  have hkr : (leafN kv).keys.Pairwise (· < ·) := List.pairwise_map.2 hs
  have hkl : (leafN kv).keys.length = kv.length := by simp [leafN]
  have hvl : (leafN kv).vals.length = kv.length := by simp [leafN]
  obtain ⟨b1, b2, b3⟩ := below_spec hkr k
  have hp : (leafN kv).part 0 (leafN kv).keys.length = leafN kv := by
    simp only [Nd.part, leafN, List.drop_zero, List.length_map]
    rw [List.take_of_length_le (by simp), List.take_of_length_le (by simp), List.take_nil]
  refine fo fun F => ?_
  repeat refine s1 ?_
  refine r_box (cs := [.bool true, .slice x.ka (leafN kv).keys.length x.kc, .slice x.va (leafN kv).vals.length x.vc, .slice x.ra (leafN kv).kids.length x.rc]) rfl rfl rfl rfl (fun t3 => ?_)
  refine r_box (cs := v.map u8) rfl rfl rfl rfl (fun t5 => ?_)
  refine al (fun t6 => ?_)
  repeat refine s1 ?_
  refine cl (whole_c (leafN kv) x hw.is Φ) ?_
  repeat refine s1 ?_
  refine cl (find_c (leafN kv) x k hkr (by omega) Φ) ?_
  repeat refine s1 ?_
  refine cx (someO_c (leafN kv) x 0 (leafN kv).keys.length hw ht (Nat.zero_le _) (Nat.le_refl _) Φ) (fun y _ => ?_)
  rw [hp]
  refine al (fun t9 => ?_)
  refine r_storeW (vs := nbx (leafN kv) y) rfl rfl (by rfl) (by rfl) (by simp [Value.oneCell']) rfl ?_
  repeat refine s1 ?_
  generalize hi : below (leafN kv).keys k = i at *
  have hlt : ∀ z ∈ kv.take i, z.1 < k := fun z hz => by
    obtain ⟨j, hj⟩ := List.mem_iff_getElem?.1 hz
    rw [List.getElem?_take] at hj
    split at hj
    · exact b2 j z.1 (by assumption) (by simp [leafN, hj])
    · cases hj
  refine t_condSB rfl (fun hq => ?_) (fun hq => ?_)
  · have hmem : k ∈ (leafN kv).keys := by simpa using hq
    obtain ⟨j, hj⟩ := List.mem_iff_getElem?.1 hmem
    have hij : j = i := by
      rcases Nat.lt_trichotomy j i with h | h | h
      · have := b2 j k h hj; omega
      · exact h
      · have hjl := (List.getElem?_eq_some_iff.1 hj).1
        have h3 := List.pairwise_iff_getElem.1 hkr i j (by omega) hjl h
        have h4 := b3 i _ (Nat.le_refl _) (List.getElem?_eq_getElem (by omega))
        have h5 := (List.getElem?_eq_some_iff.1 hj).2
        omega
    subst hij
    have hil : j < kv.length := by have := (List.getElem?_eq_some_iff.1 hj).1; omega
    have hu : kv[j]? = some (k, (kv[j]).2) := by
      have h5 := (List.getElem?_eq_some_iff.1 hj).2
      simp only [leafN, List.getElem_map] at h5
      rw [List.getElem?_eq_getElem hil, ← h5]
    have he := ins_hit (v := v) hlt hu
    repeat refine s1 ?_
    refine r_loadW (vs := v.map u8) rfl (by simpa using hv.1) rfl rfl ?_
    refine j_head (vec y.va (leafN kv).vals.length y.vc T.a44_uint8 44 ((leafN kv).vals.flatMap fun v => v.map u8)) ?_
    refine j_vec (.inl (by omega)) (fun b off pre post ha hpr hpo hln hc => ?_)
    rw [ha]
    refine ix rfl rfl (by omega) ?_
    have hfl := flat_set (fun w : List Nat => w.map u8) 44 (leafN kv).vals j v (fun w hw => by simpa using (ht.vals w hw).1) (by simpa using hv.1) (by omega)
    refine r_storeA (cs' := pre ++ (((leafN kv).vals.set j v).flatMap fun w => w.map u8) ++ post) (vs := v.map u8) rfl rfl (by simpa using hv.1) (by rw [List.length_append, List.length_append]; omega) (by simp [Value.oneCell']) ?_ rfl ?_
    · rw [mid_take hpr (by omega), Nat.add_assoc, ← hfl]
      have e3 : pre ++ ((leafN kv).vals.flatMap fun w => w.map u8) ++ post = (pre ++ ((leafN kv).vals.flatMap fun w => w.map u8).take (j * 44 + 44)) ++ (((leafN kv).vals.flatMap fun w => w.map u8).drop (j * 44 + 44) ++ post) := by
        rw [List.append_assoc, List.append_assoc, ← List.append_assoc (List.take _ _), List.take_append_drop]
      rw [e3, List.drop_left' (by rw [List.length_append, List.length_take]; omega)]
      simp
    repeat refine s1 ?_
    refine j_ent (Ent.vec (n := kv.length) (cap := y.vc) (s := 44) (by rw [← hfl]; rw [List.length_append, List.length_append, List.length_take, List.length_drop, List.length_map, hv.1]; omega) (by omega) hpr (by rw [hpo, hvl]) _) ?_
    have hm : leafN (ins k v kv) = ⟨true, (leafN kv).keys, (leafN kv).vals.set j v, []⟩ := by
      rw [he]
      have hk1 : (kv.set j (k, v)).map (·.1) = kv.map (·.1) := by
        rw [List.map_set]
        have h5 : (kv.map (·.1))[j]? = some k := by simp [hu]
        obtain ⟨h6, h7⟩ := List.getElem?_eq_some_iff.1 h5
        apply List.ext_getElem?
        intro m
        by_cases hm : m = j
        · subst hm; rw [List.getElem?_set_self h6, h5]
        · rw [List.getElem?_set_ne (Ne.symm hm)]
      simp only [leafN, hk1, List.map_set]
    have hvl2 : ((leafN kv).vals.set j v).length = kv.length := by rw [List.length_set, hvl]
    have hv2 : kv.length = (leafN (ins k v kv)).vals.length := by rw [hm]; exact hvl2.symm
    refine jh [vec y.ra (leafN kv).kids.length y.rc T.api_Ref 33 ((leafN kv).kids.flatMap rcells), vec (some ⟨b, off, none⟩) kv.length y.vc T.a44_uint8 44 (((leafN kv).vals.set j v).flatMap fun w => w.map u8), vec y.ka (leafN kv).keys.length y.kc T.uint64 1 ((leafN kv).keys.map w64)] ?_
    have hbx : nbx (leafN kv) y = nbx (leafN (ins k v kv)) ⟨y.ka, y.kc, some ⟨b, off, none⟩, y.vc, y.ra, y.rc⟩ := by
      simp only [nbx, hm, ha, hvl2, hvl]; rfl
    have hR : ∀ {G : Act → World → Prop} {e : Env} {X : Cx} {L : List Assn}, J X e (node (leafN (ins k v kv)) ⟨y.ka, y.kc, some ⟨b, off, none⟩, y.vc, y.ra, y.rc⟩ :: L) G → J X e (vec y.ra (leafN kv).kids.length y.rc T.api_Ref 33 ((leafN kv).kids.flatMap rcells) :: vec (some ⟨b, off, none⟩) kv.length y.vc T.a44_uint8 44 (((leafN kv).vals.set j v).flatMap fun w => w.map u8) :: vec y.ka (leafN kv).keys.length y.kc T.uint64 1 ((leafN kv).keys.map w64) :: L) G := fun h => by
      have := j_node (m := leafN (ins k v kv)) ⟨y.ka, y.kc, some ⟨b, off, none⟩, y.vc, y.ra, y.rc⟩ h
      rw [← hv2] at this
      rw [hm] at this
      exact this
    refine hR ?_
    rw [hbx]
    refine r_storeW (vs := nbx (leafN (ins k v kv)) ⟨y.ka, y.kc, some ⟨b, off, none⟩, y.vc, y.ra, y.rc⟩) rfl rfl (by rfl) (by rfl) (by simp [Value.oneCell']) rfl ?_
    repeat refine s1 ?_
    exact j_fin rfl (.cons (rv_agg (l := nbx (leafN (ins k v kv)) ⟨y.ka, y.kc, some ⟨b, off, none⟩, y.vc, y.ra, y.rc⟩) (U := T.node_Node) (fr := (0, 0)) rfl (by rfl)) .nil) ⟨y.ka, y.kc, some ⟨b, off, none⟩, y.vc, y.ra, y.rc⟩ rfl trivial
  · have hmem : k ∉ (leafN kv).keys := by simpa using hq
    have he := ins_miss (v := v) (i := i) hlt (fun z hz => by
      have h5 := b3 i z.1 (Nat.le_refl _) (by simp [leafN, hz])
      have h6 : z.1 ≠ k := fun e => hmem (by rw [← e]; exact List.mem_map.2 ⟨z, List.mem_of_getElem? hz, rfl⟩)
      omega)
    have hm : leafN (ins k v kv) = ⟨true, (leafN kv).keys.take i ++ k :: (leafN kv).keys.drop i, (leafN kv).vals.take i ++ v :: (leafN kv).vals.drop i, []⟩ := by
      rw [he]; simp [leafN, List.map_take, List.map_drop]
    obtain ⟨o1, o2, o3⟩ := ht.one
    repeat refine s1 ?_
    refine r_build1s [.tmp 40] [w64 k] rfl rfl (by simp [Value.oneCell']) (by simp) rfl rfl rfl (fun bk => ?_)
    refine j_len (fun _ hck _ => ?_)
    refine jh [vec y.ka (leafN kv).keys.length y.kc T.uint64 1 ((leafN kv).keys.map w64)] ?_
    refine j_len (fun hlk hck _ => ?_)
    refine cx (insertK_c y.ka (leafN kv).keys.length y.kc i 1 ⟨bk, 0, none⟩ ((leafN kv).keys.map w64) [w64 k] o1 (by simp [Value.oneCell']) b1 (by omega) hlk hck rfl Φ) (fun q1 _ => ?_)
    repeat refine s1 ?_
    refine so rfl rfl ?_
    repeat refine s1 ?_
    refine r_loadW (vs := v.map u8) rfl (by simpa using hv.1) rfl rfl ?_
    refine r_buildA1 (v := v.map u8) rfl (by simpa using hv.1) (by decide) (fun bv => ?_)
    refine jh [vec y.va (leafN kv).vals.length y.vc T.a44_uint8 44 ((leafN kv).vals.flatMap fun v => v.map u8)] ?_
    refine j_len (fun hlv hcv _ => ?_)
    refine cx (insertV_c y.va (leafN kv).vals.length y.vc i 1 ⟨bv, 0, none⟩ ((leafN kv).vals.flatMap fun v => v.map u8) (v.map u8) o2 (by simp [Value.oneCell']) (by omega) (by omega) hlv hcv (by simpa using hv.1) Φ) (fun q2 _ => ?_)
    repeat refine s1 ?_
    refine so rfl rfl ?_
    repeat refine s1 ?_
    have ek : (leafN (ins k v kv)).keys.map w64 = ((leafN kv).keys.map w64).take (i * 1) ++ [w64 k] ++ ((leafN kv).keys.map w64).drop (i * 1) := by
      rw [hm]; simp [List.map_take, List.map_drop]
    have ev : ((leafN (ins k v kv)).vals.flatMap fun v => v.map u8) = ((leafN kv).vals.flatMap fun v => v.map u8).take (i * 44) ++ v.map u8 ++ ((leafN kv).vals.flatMap fun v => v.map u8).drop (i * 44) := by
      rw [flat_take 44 (fun w hw => by simpa using (ht.vals w hw).1), flat_drop 44 (fun w hw => by simpa using (ht.vals w hw).1), hm]
      simp
    have el1 : (leafN (ins k v kv)).keys.length = (leafN kv).keys.length + 1 := by rw [hm]; simp; omega
    have el2 : (leafN (ins k v kv)).vals.length = (leafN kv).vals.length + 1 := by rw [hm]; simp; omega
    refine jh [vec y.ra (leafN kv).kids.length y.rc T.api_Ref 33 ((leafN kv).kids.flatMap rcells), vec q2.1 ((leafN kv).vals.length + 1) q2.2 T.a44_uint8 44 (((leafN kv).vals.flatMap fun v => v.map u8).take (i * 44) ++ v.map u8 ++ ((leafN kv).vals.flatMap fun v => v.map u8).drop (i * 44)), vec q1.1 ((leafN kv).keys.length + 1) q1.2 T.uint64 1 (((leafN kv).keys.map w64).take (i * 1) ++ [w64 k] ++ ((leafN kv).keys.map w64).drop (i * 1))] ?_
    have hbx : [Value.bool (leafN kv).leaf, .slice q1.1 ((leafN kv).keys.length + 1) q1.2, .slice q2.1 ((leafN kv).vals.length + 1) q2.2, .slice y.ra (leafN kv).kids.length y.rc] = nbx (leafN (ins k v kv)) ⟨q1.1, q1.2, q2.1, q2.2, y.ra, y.rc⟩ := by
      simp only [nbx, el1, el2]; rfl
    have hR : ∀ {G : Act → World → Prop} {e : Env} {X : Cx} {L : List Assn}, J X e (node (leafN (ins k v kv)) ⟨q1.1, q1.2, q2.1, q2.2, y.ra, y.rc⟩ :: L) G → J X e (vec y.ra (leafN kv).kids.length y.rc T.api_Ref 33 ((leafN kv).kids.flatMap rcells) :: vec q2.1 ((leafN kv).vals.length + 1) q2.2 T.a44_uint8 44 (((leafN kv).vals.flatMap fun v => v.map u8).take (i * 44) ++ v.map u8 ++ ((leafN kv).vals.flatMap fun v => v.map u8).drop (i * 44)) :: vec q1.1 ((leafN kv).keys.length + 1) q1.2 T.uint64 1 (((leafN kv).keys.map w64).take (i * 1) ++ [w64 k] ++ ((leafN kv).keys.map w64).drop (i * 1)) :: L) G := fun h => by
      have := j_node (m := leafN (ins k v kv)) ⟨q1.1, q1.2, q2.1, q2.2, y.ra, y.rc⟩ h
      rw [ek, ev, el1, el2] at this
      exact this
    refine hR ?_
    rw [hbx]
    refine r_storeW (vs := nbx (leafN (ins k v kv)) ⟨q1.1, q1.2, q2.1, q2.2, y.ra, y.rc⟩) rfl rfl (by rfl) (by rfl) (by simp [Value.oneCell']) rfl ?_
    repeat refine s1 ?_
    exact j_fin rfl (.cons (rv_agg (l := nbx (leafN (ins k v kv)) ⟨q1.1, q1.2, q2.1, q2.2, y.ra, y.rc⟩) (U := T.node_Node) (fr := (0, 0)) rfl (by rfl)) .nil) ⟨q1.1, q1.2, q2.1, q2.2, y.ra, y.rc⟩ rfl trivial
end Go.Proofs.YtcnpkmdooekmgaaGreatDoor
namespace Go.Proofs.YtcnpkmdooekmgaaGreatDoor
open Go Sl
theorem be_succ (n v : Nat) : be (n + 1) v = be n (v / 256) ++ [v % 256] := by
  unfold be
  rw [List.range_succ, List.map_append]
  congr 1
  · refine List.map_congr_left fun i hi => ?_
    have hi := List.mem_range.1 hi
    rw [Nat.div_div_eq_div_mul, ← Nat.pow_succ', show n + 1 - 1 - i = (n - 1 - i) + 1 by omega]
  · simp
theorem num_be : ∀ (n v : Nat), v < 256 ^ n → num (be n v) = v
  | 0, v, h => by simp at h; subst h; rfl
  | n + 1, v, h => by
    rw [be_succ, num_snoc, num_be n (v / 256) (by rw [Nat.pow_succ] at h; omega)]; omega
theorem rdU_at {w v : Nat} {b : List Nat} (hv : v < 256 ^ w) : rdU w (some (be w v ++ b)) = (v, some b) := by
  have h1 : (be w v ++ b).take w = be w v := List.take_left' (be_len ..)
  have h2 : (be w v ++ b).drop w = b := List.drop_left' (be_len ..)
  simp only [rdU]
  rw [if_pos (by rw [List.length_append, be_len]; omega), h1, h2, num_be _ _ hv]
theorem rdU1 {v : Nat} {b : List Nat} (_hv : v < 256) : rdU 1 (some (v :: b)) = (v, some b) := by
  simp [rdU, num]
theorem enc_bytes {m : Nd} (hr : m.right) (hw : m.wt) : bytes 512 m.enc := by
  have hk := hr.most
  have h0 := out_fits hr hw
  have e0 : m.rows.length = m.keys.length := by
    unfold Nd.rows
    cases hl : m.leaf
    · have := (hr.inner hl).2.2.1; simp [this]
    · have := (hr.leaf hl).2.2.1; simp [this]
  have e1 : m.out m.keys.length = m.head ++ m.rows.flatten := by rw [Nd.out, List.take_of_length_le (by omega)]
  rw [e1] at h0
  refine ⟨by simp only [Nd.enc, padTo, List.length_append, List.length_replicate] at h0 ⊢; omega, fun x hx => ?_⟩
  unfold Nd.enc padTo at hx
  rcases List.mem_append.1 hx with hx | hx
  · rcases List.mem_append.1 hx with hx | hx
    · simp only [Nd.head, List.mem_cons, List.not_mem_nil, or_false] at hx
      rcases hx with rfl | rfl | rfl | rfl | rfl | rfl | rfl | rfl
      · split <;> omega
      all_goals omega
    · obtain ⟨r, hr', hx⟩ := List.mem_flatten.1 hx
      obtain ⟨i, hi⟩ := List.mem_iff_getElem?.1 hr'
      unfold Nd.rows at hi
      split at hi
      all_goals
        rw [List.getElem?_zipWith] at hi
        split at hi
        · rename_i hv
          cases hi
          rcases List.mem_append.1 hx with hx | hx
          · exact be_lt _ _ _ hx
          · first
              | exact (hw.vals _ (List.mem_of_getElem? hv)).2 _ hx
              | (rcases List.mem_append.1 hx with hx | hx
                 · exact be_lt _ _ _ hx
                 · exact (hw.kids _ (List.mem_of_getElem? hv)).sum.2 _ hx)
        · cases hi
  · rw [(List.mem_replicate.1 hx).2]; omega
/-- what is left of a node's bytes behind some rows. -/
def Nd.rest (m : Nd) (i : Nat) : List Nat := (m.rows.drop i).flatten ++ List.replicate (512 - (m.head ++ m.rows.flatten).length) 0
theorem Nd.enc_head (m : Nd) : m.enc = (if m.leaf then 1 else 2) :: m.keys.length :: ([0, 0, 0, 0, 0, 0] ++ m.rest 0) := by
  simp [Nd.enc, padTo, Nd.rest, Nd.head]
theorem rest_next {m : Nd} {i : Nat} {r : List Nat} (h : m.rows[i]? = some r) : m.rest i = r ++ m.rest (i + 1) := by
  obtain ⟨hi, e⟩ := List.getElem?_eq_some_iff.1 h
  unfold Nd.rest
  rw [List.drop_eq_getElem_cons hi, e]
  simp
theorem rest_lt {m : Nd} (hr : m.right) (hw : m.wt) (i : Nat) : ∀ x ∈ m.rest i, x < 256 := fun x hx => by
  refine (enc_bytes hr hw).2 x ?_
  rw [m.enc_head]
  refine List.mem_cons_of_mem _ (List.mem_cons_of_mem _ (List.mem_append.2 (.inr ?_)))
  unfold Nd.rest at hx ⊢
  rcases List.mem_append.1 hx with hx | hx
  · obtain ⟨r, h1, h2⟩ := List.mem_flatten.1 hx
    exact List.mem_append.2 (.inl (List.mem_flatten.2 ⟨r, by simpa using List.mem_of_mem_drop h1, h2⟩))
  · exact List.mem_append.2 (.inr hx)
theorem rows_at {m : Nd} (hr : m.right) {i : Nat} (hi : i < m.keys.length) : ∃ k, m.keys[i]? = some k ∧ ((m.leaf = true ∧ ∃ v, m.vals[i]? = some v ∧ m.rows[i]? = some (be 8 k ++ v)) ∨ (m.leaf = false ∧ ∃ r, m.kids[i]? = some r ∧ m.rows[i]? = some (be 8 k ++ r.enc))) := by
  refine ⟨m.keys[i], List.getElem?_eq_getElem hi, ?_⟩
  cases hl : m.leaf
  · have h1 := (hr.inner hl).2.2.1
    refine .inr ⟨rfl, m.kids[i]'(by omega), List.getElem?_eq_getElem (by omega), ?_⟩
    simp [Nd.rows, hl, List.getElem?_zipWith, List.getElem?_eq_getElem hi, List.getElem?_eq_getElem (show i < m.kids.length by omega)]
  · have h1 := (hr.leaf hl).2.2.1
    refine .inl ⟨rfl, m.vals[i]'(by omega), List.getElem?_eq_getElem (by omega), ?_⟩
    simp [Nd.rows, hl, List.getElem?_zipWith, List.getElem?_eq_getElem hi, List.getElem?_eq_getElem (show i < m.vals.length by omega)]
/-- the cells of what was read of a node. -/
abbrev rbx (m : Nd) (i : Nat) (y : NR) : List Value := [.bool m.leaf, .slice y.ka i y.kc, .slice y.va (m.vals.take i).length y.vc, .slice y.ra (m.kids.take i).length y.rc]
abbrev rvs (m : Nd) (i : Nat) (y : NR) : List Assn := [vec y.ra (m.kids.take i).length y.rc T.api_Ref 33 ((m.kids.take i).flatMap rcells), vec y.va (m.vals.take i).length y.vc T.a44_uint8 44 ((m.vals.take i).flatMap fun v => v.map u8), vec y.ka i y.kc T.uint64 1 ((m.keys.take i).map w64)]
theorem cpv (cur ys : List Value) (h : cur.length = 44) (h2 : ys.length = 44) : cur.take 0 ++ ys.take (min 44 44) ++ cur.drop (0 + min 44 44) = ys := by
  have e1 : ys.take (min 44 44) = ys := List.take_of_length_le (by omega)
  have e2 : cur.drop (0 + min 44 44) = [] := List.drop_of_length_le (by omega)
  rw [e1, e2]; simp
theorem cpr (cur ys : List Value) {v : Value} (h : cur.length = 32) (h2 : ys.length = 32) : (v :: cur).take 1 ++ ys.take (min 32 32) ++ (v :: cur).drop (1 + min 32 32) = v :: ys := by
  have e1 : ys.take (min 32 32) = ys := List.take_of_length_le (by omega)
  have e2 : (v :: cur).drop (1 + min 32 32) = [] := List.drop_of_length_le (by simp; omega)
  rw [e1, e2]; simp
/-- a field that is set last of all in a region that draws its order. -/
theorem soX {X : Cx} {e : Env} {L : List Assn} {A : List Assn} {S : List Nat} {ops : Array Oper} {k : Nat} {l : List Oper} {R : Act → World → Prop} {T : TypeId} {pos : String} {af : Array Edge} {t : TypeId} {x y : Operand} {b off : Nat} {cs cs' : List Value} {U : TypeId} {v : Value} {f : Obj → List Assn} [ts : TSize X.P t 1] [g : Own b L (.cells cs.toArray U (0, 0)) f] [hl : LSet cs off v cs'] (hx : ev e x = some (.pointer (some ⟨b, off, none⟩))) (hy : ev e y = some v)
    (h : J X e (f (.cells cs'.toArray U (0, 0))) (sw X.P (Holds X.Φ A) S ops R (k + 1) l)) (ho : off < cs.length := by first | (simp; done) | (simp; omega)) (hv : v.oneCell' = true := by rfl) (hs : S.contains k = false := by rfl) (hxm : exm S k = true := by rfl) :
    J X e L (sw X.P (Holds X.Φ A) S ops R k (⟨none, .store t x y, T, pos, af, none⟩ :: l)) := r_store1X hx hy ho hv hs hxm h
attribute [local irreducible] cw sw J Exit.then Exit.inBlock Exit.noGoto bodyPost swG swL permL
/-- two rows of the same bytes are equal. -/
theorem sequal_c (a b : Option Addr) (n c d : Nat) (xs : List Nat) (hn : n ≤ 1000000) (Φ : Base) :
    Sl.Fn Tryz.prog Φ F.slices_Equal_byte_byte [.slice a n c, .slice b n d] [brow a n c xs, brow b n d xs] (fun _ : Unit => True) (fun _ => .bool true) (fun _ => []) := by
  refine fo fun F => ?_
  refine j_leni (fun hl _ ha => ?_)
  refine j_head (brow b n d xs) (j_leni (fun _ _ hb => ?_))
  have hxl : xs.length = n := by simpa using hl
  repeat refine s2 ?_
  refine r_icmp rfl rfl rfl rfl ?_
  rw [show (!decide ((n : Int) = (n : Int))) = false by simp]
  repeat refine s1 ?_
  refine t_loop (σ := Nat) (fun i => [(13, i64 i), (12, i64 n), (0, .slice a n c), (1, .slice b n d)]) (fun _ => brow b n d xs :: brow a n c xs :: F) (fun i => i ≤ n) (fun i => n - i) 0 (Nat.zero_le _) ⟨rfl, rfl, rfl, rfl, trivial⟩ Le.ent ?_
  intro i hi
  repeat refine s1 ?_
  refine r_icmp rfl rfl rfl rfl ?_
  repeat refine s1 ?_
  refine t_condS rfl (fun hlt => ?_) (fun hge => ?_)
  · obtain ⟨b1, o1, rfl⟩ := ha (by omega)
    obtain ⟨b2, o2, rfl⟩ := hb (by omega)
    have hx : (xs.map u8)[i]? = some (u8 (xs[i]'(by omega))) := by simp [List.getElem?_eq_getElem (show i < xs.length by omega)]
    repeat refine s1 ?_
    refine ix rfl rfl (by omega) ?_
    refine r_loadI (off := o1) (n := n) (cap := c) (E := T.uint8) (s := 1) (xs := xs.map u8) rfl (j := i) (by omega) hx rfl rfl ?_
    repeat refine s1 ?_
    refine ix rfl rfl (by omega) ?_
    refine r_loadI (off := o2) (n := n) (cap := d) (E := T.uint8) (s := 1) (xs := xs.map u8) rfl (j := i) (by omega) hx rfl rfl ?_
    refine r_icmp rfl rfl rfl rfl ?_
    rw [show (!decide (((xs[i]'(by omega) : Nat) : Int) = ((xs[i]'(by omega) : Nat) : Int))) = false by simp]
    repeat refine s1 ?_
    exact j_again (i + 1) (by omega) (by omega) ⟨rfl, rfl, rfl, rfl, trivial⟩ Le.ent
  · repeat refine s1 ?_
    exact f1 ()
set_option maxHeartbeats 1000000 in
theorem nread_c (m : Nd) (a : Option Addr) (cap : Nat) (hr : m.right) (hw : m.wt) (Φ : Base) :
    Sl.Fn Tryz.prog Φ F.node_Read [.slice a 512 cap] [brow a 512 cap m.enc] (fun _ : NR => True) (fun y => .tuple #[nV m y, i64 0]) (fun y => [node m y]) := by
  obtain ⟨e1, e2⟩ := enc_bytes hr hw
  have hk := hr.most
  obtain ⟨o1, o2, o3⟩ := hw.one
  have hh1 : m.enc.length = 512 := e1
  refine fo fun F => ?_
  repeat refine s1 ?_
  refine al (fun t2 => ?_)
  repeat refine s1 ?_
  refine cx (read_c a 512 cap m.enc (by omega) e1 Φ) (fun t4 _ => ?_)
  repeat refine s1 ?_
  have hb1 : ∀ bs, some m.enc = some bs → ∀ x ∈ bs, x < 256 := fun bs h => by cases h; exact e2
  refine cl (U8_c t4 (some m.enc) hb1 Φ) ?_
  rw [m.enc_head, rdU1 (by split <;> omega)]
  have hlt : ∀ i, ∀ x ∈ m.rest i, x < 256 := rest_lt hr hw
  repeat refine s1 ?_
  refine cl (U8_c t4 (some (m.keys.length :: ([0, 0, 0, 0, 0, 0] ++ m.rest 0))) (fun bs h => by
    cases h
    intro x hx
    rcases List.mem_cons.1 hx with rfl | hx
    · omega
    · rcases List.mem_append.1 hx with hx | hx
      · simp at hx; omega
      · exact hlt 0 x hx) Φ) ?_
  rw [rdU1 (by omega)]
  repeat refine s1 ?_
  rw [show IntKind.i64.wrap (m.keys.length : Int) = (m.keys.length : Int) from i64_nat (by omega)]
  repeat refine s1 ?_
  refine cx (bytes_c t4 6 ([0, 0, 0, 0, 0, 0] ++ m.rest 0) (by simp) Φ) (fun _ _ => ?_)
  rw [show List.drop 6 ([0, 0, 0, 0, 0, 0] ++ m.rest 0) = m.rest 0 from rfl]
  repeat refine s1 ?_
  refine r_icmp rfl rfl rfl rfl ?_
  rw [show decide ((((if m.leaf = true then 1 else 2 : Nat)) : Int) = 1) = m.leaf by cases m.leaf <;> rfl]
  refine r_build (cells := [.bool m.leaf, .slice none 0 0, .slice none 0 0, .slice none 0 0]) rfl (by rfl) rfl ?_
  refine al (fun t7 => ?_)
  refine r_storeW (vs := rbx m 0 ⟨none, 0, none, 0, none, 0⟩) rfl rfl (by rfl) (by rfl) (by simp [Value.oneCell']) rfl ?_
  repeat refine s1 ?_
  refine r_min rfl rfl rfl ?_
  rw [show min (m.keys.length : Int) 11 = (m.keys.length : Int) by omega]
  refine j_ent (Ent.vecNil (E := T.uint64) (s := 1) _) ?_
  refine j_ent (Ent.vecNil (E := T.a44_uint8) (s := 44) _) ?_
  refine j_ent (Ent.vecNil (E := T.api_Ref) (s := 33) _) ?_
  repeat refine s1 ?_
  refine t_loop (σ := Nat × NR) (fun x => [(26, i64 x.1), (25, i64 m.keys.length), (4, ptr t4), (7, ptr t7), (2, ptr t2), (0, .slice a 512 cap)])
    (fun x => rvs m x.1 x.2 ++ [pt t7 (.cells (rbx m x.1 x.2).toArray T.node_Node (0, 0)), rdr t4 (some (m.rest x.1)), pt t2 (.cells [.bool false, .slice none 0 0, .slice none 0 0, .slice none 0 0].toArray T.node_Node (0, 0)), brow a 512 cap m.enc] ++ F)
    (fun x => x.1 ≤ m.keys.length) (fun x => m.keys.length - x.1) (0, ⟨none, 0, none, 0, none, 0⟩) (Nat.zero_le _) ⟨rfl, rfl, rfl, rfl, rfl, rfl, trivial⟩ (by rw [m.enc_head]; dsimp only [List.cons_append, List.nil_append]; simp only [List.take_zero, List.length_nil, List.flatMap_nil, List.map_nil]; exact Le.ent) ?_
  rintro ⟨i, ka, kc, va, vc, ra, rc⟩ hi
  dsimp only [List.cons_append, List.nil_append] at hi ⊢
  repeat refine s1 ?_
  refine r_icmp rfl rfl rfl rfl ?_
  repeat refine s1 ?_
  refine t_condS rfl (fun hlt' => ?_) (fun hge => ?_)
  · have hil : i < m.keys.length := by omega
    obtain ⟨k, hk1, hrow⟩ := rows_at hr hil
    have hkb := hw.keys k (List.mem_of_getElem? hk1)
    have hkt : (m.keys.take (i + 1)).map w64 = (m.keys.take i).map w64 ++ [w64 k] := by rw [List.take_add_one, hk1]; simp
    repeat refine s1 ?_
    refine t_draw [pt t7 (.cells (rbx m i ⟨ka, kc, va, vc, ra, rc⟩).toArray T.node_Node (0, 0))] [1, 1000007] mixed (by decide +kernel) ?_
    repeat refine s1 ?_
    have key : ∀ r, m.rows[i]? = some r → ∀ w, r = be 8 k ++ w → rdU 8 (some (m.rest i)) = (k, some (w ++ m.rest (i + 1))) := fun r h1 w h2 => by
      rw [rest_next h1, h2, List.append_assoc, rdU_at (by simpa using hkb)]
    refine cl (U64_c t4 (some (m.rest i)) (fun bs h => by cases h; exact hlt i) Φ) ?_
    rcases hrow with ⟨hl, v, hv1, hr1⟩ | ⟨hl, q, hq1, hr1⟩
    · have hvb := hw.vals v (List.mem_of_getElem? hv1)
      have hvk : m.kids = [] := (hr.leaf hl).2.2.2
      have hvl : m.vals.length = m.keys.length := (hr.leaf hl).2.2.1
      have e4 : (m.vals.take i).length = i := by rw [List.length_take]; omega
      have e5 : (m.vals.take (i + 1)).length = i + 1 := by rw [List.length_take]; omega
      rw [key _ hr1 v rfl]
      repeat refine s1 ?_
      refine r_build1s [.tmp 31] [w64 k] rfl rfl (by simp [Value.oneCell']) (by simp) rfl rfl rfl (fun b1 => ?_)
      refine r_append (n := i) (m := 1) (s := 1) (xs := (m.keys.take i).map w64) (ys := [w64 k]) rfl rfl (by decide) (by rfl) (by simp [Value.oneCell']) (by omega) (by omega) rfl rfl (fun ka' kc' _ => ?_)
      rw [← hkt]
      repeat refine s1 ?_
      refine soX rfl rfl ?_
      rw [hl]
      repeat refine s1 ?_
      refine al (fun t8 => ?_)
      repeat refine s1 ?_
      refine cx (bytes_c t4 44 (v ++ m.rest (i + 1)) (by rw [List.length_append, hvb.1]; omega) Φ) (fun a9 _ => ?_)
      rw [List.drop_left' hvb.1, List.take_left' hvb.1]
      repeat refine s1 ?_
      refine r_copyP (ys := v.map u8) (cur' := v.map u8) rfl rfl (by simp) (by simp [Value.oneCell']) (cpv _ _ (by simp) (by simpa using hvb.1)) rfl (blt_any rfl) ?_
      repeat refine s1 ?_
      refine r_loadW (vs := v.map u8) rfl (by simpa using hvb.1) rfl rfl ?_
      refine r_buildA1 (v := v.map u8) rfl (by simpa using hvb.1) (by decide) (fun b2 => ?_)
      refine r_append (n := (m.vals.take i).length) (m := 1) (s := 44) (xs := (m.vals.take i).flatMap fun v => v.map u8) (ys := v.map u8) rfl rfl (by decide) (by rfl) (by simp [Value.oneCell']) (by omega) (by omega) rfl rfl (fun va' vc' _ => ?_)
      rw [show (m.vals.take i).flatMap (fun v => v.map u8) ++ v.map u8 = (m.vals.take (i + 1)).flatMap (fun v => v.map u8) by rw [List.take_add_one, hv1]; simp, show (m.vals.take i).length + 1 = (m.vals.take (i + 1)).length by omega]
      repeat refine s1 ?_
      refine so rfl rfl ?_
      repeat refine s1 ?_
      have hkk : m.kids.take i = m.kids.take (i + 1) := by rw [hvk]; simp
      rw [hkk]
      refine j_again (i + 1, ⟨ka', kc', va', vc', ra, rc⟩) (by dsimp only; omega) (by dsimp only; omega) ⟨rfl, rfl, rfl, rfl, rfl, rfl, trivial⟩ (by dsimp only [List.cons_append, List.nil_append, rbx]; rw [hl]; exact Le.ent)
    · have hqb := hw.kids q (List.mem_of_getElem? hq1)
      have hvk : m.vals = [] := (hr.inner hl).2.2.2
      have hvl : m.kids.length = m.keys.length := (hr.inner hl).2.2.1
      have e4 : (m.kids.take i).length = i := by rw [List.length_take]; omega
      have e5 : (m.kids.take (i + 1)).length = i + 1 := by rw [List.length_take]; omega
      rw [key _ hr1 q.enc rfl]
      repeat refine s1 ?_
      refine r_build1s [.tmp 31] [w64 k] rfl rfl (by simp [Value.oneCell']) (by simp) rfl rfl rfl (fun b1 => ?_)
      refine r_append (n := i) (m := 1) (s := 1) (xs := (m.keys.take i).map w64) (ys := [w64 k]) rfl rfl (by decide) (by rfl) (by simp [Value.oneCell']) (by omega) (by omega) rfl rfl (fun ka' kc' _ => ?_)
      rw [← hkt]
      repeat refine s1 ?_
      refine soX rfl rfl ?_
      rw [hl]
      repeat refine s1 ?_
      have hql : ∀ x ∈ q.sum ++ m.rest (i + 1), x < 256 := fun x hx => by
        rcases List.mem_append.1 hx with hx | hx
        · exact hqb.sum.2 x hx
        · exact hlt _ x hx
      refine cl (U32_c t4 (some (q.enc ++ m.rest (i + 1))) (fun bs h => by
        cases h
        intro x hx
        rw [Rf.enc, List.append_assoc] at hx
        rcases List.mem_append.1 hx with hx | hx
        · exact be_lt _ _ _ hx
        · exact hql x hx) Φ) ?_
      rw [Rf.enc, List.append_assoc, rdU_at (by simpa using hqb.sec)]
      refine r_build (cells := kU q.sec :: List.replicate 32 (.int .u8 0)) rfl (by rfl) rfl ?_
      refine al (fun t9 => ?_)
      refine r_storeW (vs := kU q.sec :: List.replicate 32 (.int .u8 0)) rfl rfl (by rfl) (by rfl) (by simp [Value.oneCell']) rfl ?_
      repeat refine s1 ?_
      refine cx (bytes_c t4 32 (q.sum ++ m.rest (i + 1)) (by rw [List.length_append, hqb.sum.1]; omega) Φ) (fun a9 _ => ?_)
      rw [List.drop_left' hqb.sum.1, List.take_left' hqb.sum.1]
      repeat refine s1 ?_
      refine r_copyP (ys := q.sum.map u8) (cur' := rcells q) rfl rfl (by simp) (by simp [Value.oneCell']) (cpr _ _ (by simp) (by simpa using hqb.sum.1)) rfl (blt_any rfl) ?_
      repeat refine s1 ?_
      refine r_loadW (vs := rcells q) rfl (by simpa using hqb.sum.1) rfl rfl ?_
      refine r_buildA1 (v := rcells q) rfl (by simpa using hqb.sum.1) (by decide) (fun b2 => ?_)
      refine r_append (n := (m.kids.take i).length) (m := 1) (s := 33) (xs := (m.kids.take i).flatMap rcells) (ys := rcells q) rfl rfl (by decide) (by rfl) (by simp [Value.oneCell']) (by omega) (by omega) rfl rfl (fun ra' rc' _ => ?_)
      rw [show (m.kids.take i).flatMap rcells ++ rcells q = (m.kids.take (i + 1)).flatMap rcells by rw [List.take_add_one, hq1]; simp, show (m.kids.take i).length + 1 = (m.kids.take (i + 1)).length by omega]
      repeat refine s1 ?_
      refine so rfl rfl ?_
      repeat refine s1 ?_
      have hkk : m.vals.take i = m.vals.take (i + 1) := by rw [hvk]; simp
      rw [hkk]
      refine j_again (i + 1, ⟨ka', kc', va, vc, ra', rc'⟩) (by dsimp only; omega) (by dsimp only; omega) ⟨rfl, rfl, rfl, rfl, rfl, rfl, trivial⟩ (by dsimp only [List.cons_append, List.nil_append, rbx]; rw [hl]; exact Le.ent)
  · have hil : i = m.keys.length := by omega
    subst hil
    have f1 : m.keys.take m.keys.length = m.keys := List.take_of_length_le (Nat.le_refl _)
    have f2' : m.vals.take m.keys.length = m.vals := by
      cases hl : m.leaf
      · rw [(hr.inner hl).2.2.2]; simp
      · exact List.take_of_length_le (by rw [(hr.leaf hl).2.2.1]; omega)
    have f3 : m.kids.take m.keys.length = m.kids := by
      cases hl : m.leaf
      · exact List.take_of_length_le (by rw [(hr.inner hl).2.2.1]; omega)
      · rw [(hr.leaf hl).2.2.2]; simp
    rw [f1, f2', f3]
    refine j_node (m := m) ⟨ka, kc, va, vc, ra, rc⟩ ?_
    repeat refine s1 ?_
    rw [show rbx m m.keys.length ⟨ka, kc, va, vc, ra, rc⟩ = nbx m ⟨ka, kc, va, vc, ra, rc⟩ by simp only [rbx, nbx, f2', f3]]
    refine cx (write_c m ⟨ka, kc, va, vc, ra, rc⟩ hr hw Φ) (fun pw _ => ?_)
    repeat refine s2 ?_
    refine cl (sequal_c (some ⟨pw, 0, none⟩) a 512 512 cap m.enc (by decide) Φ) ?_
    repeat refine s1 ?_
    refine r_storeW (vs := nbx m ⟨ka, kc, va, vc, ra, rc⟩) rfl rfl (by rfl) (by rfl) (by simp [Value.oneCell']) rfl ?_
    repeat refine s1 ?_
    exact j_fin rfl (.cons (rv_agg (l := nbx m ⟨ka, kc, va, vc, ra, rc⟩) (U := T.node_Node) (fr := (0, 0)) rfl (by rfl)) (.cons (rv_tmp rfl) .nil)) ⟨ka, kc, va, vc, ra, rc⟩ rfl trivial
end Go.Proofs.YtcnpkmdooekmgaaGreatDoor
namespace Go.Proofs.YtcnpkmdooekmgaaGreatDoor
open Go Sl
structure SR where
  (pr km : Nat)
  l : List (Nat × Inf)
abbrev icells (x : Inf) : List Value := [.slice x.a x.kids.length x.c, .int .i64 x.held]
abbrev inf1 (x : Inf) : Assn := pt x.p (.cells (icells x).toArray T.shadow_info (0, 0))
abbrev inf2 (x : Inf) : Assn := isl x.a x.kids.length x.c T.uint32 1 (x.kids.map kU)
abbrev infA (e : Nat × Inf) : Assn := all [inf1 e.2, inf2 e.2]
abbrev vI (x : Inf) : Value := ptr x.p
abbrev scells (S : St) (x : SR) : List Value := [ptr S.pd, i64 S.frm, i64 S.cnt, ptr S.pl, ptr x.pr, .map (some x.km)]
def occ (K : Kp) (f i : Nat) : Nat := if (K (f + i)).isSome then 1 else 0
abbrev storeB (p : Nat) (S : St) (x : SR) : List Assn := [pt p (.cells (scells S x).toArray T.shadow_Store (0, 0)), row x.pr S.cnt (occ S.K S.frm), mp (isInt .u32) x.km (em kU vI x.l), each x.l infA]
/-- a store, within a change: δ tells how far what is noted is from what is. -/
def storeD (p : Nat) (S : St) (δ : Nat → Int) : Assn := box (fun x : SR => SQ S δ x.l) (storeB p S)
abbrev noδ : Nat → Int := fun _ => 0
abbrev store (p : Nat) (S : St) : Assn := storeD p S noδ
theorem j_store {X : Cx} {e : Env} {L : List Assn} {G : Act → World → Prop} {p : Nat} {S : St} {δ : Nat → Int} (h : ∀ x : SR, SQ S δ x.l → J X e (storeB p S x ++ L) G) : J X e (storeD p S δ :: L) G := j_open h
theorem Ent.store {L : List Assn} {p : Nat} {S : St} {δ : Nat → Int} (x : SR) (h : SQ S δ x.l) : Ent (storeB p S x ++ L) (storeD p S δ :: L) := Ent.shut (Q := fun x : SR => SQ S δ x.l) (B := storeB p S) x h
theorem at_some {S : St} {δ : Nat → Int} {l : List (Nat × Inf)} (h : SQ S δ l) {s : Nat} (hs : S.K s ≠ none) : ∃ x l1 l2, alook l s = some x ∧ S.K s = some x.kids ∧ l = l1 ++ (s, x) :: l2 ∧ s ∉ l1.map Prod.fst := by
  have := h.at s
  rcases hk : alook l s with _ | x
  · rw [hk] at this; exact absurd this.symm hs
  · obtain ⟨l1, l2, e, hn⟩ := alook_split (kk_nd h.rep) hk
    rw [hk] at this
    exact ⟨x, l1, l2, rfl, this.symm, e, hn⟩
theorem at_none {S : St} {δ : Nat → Int} {l : List (Nat × Inf)} (h : SQ S δ l) {s : Nat} (hs : S.K s = none) : alook l s = none := by
  have := h.at s
  rw [hs] at this
  simpa using this
attribute [local irreducible] cw sw J Exit.then Exit.inBlock Exit.noGoto bodyPost swG swL permL
theorem smade_c (p : Nat) (S : St) (δ : Nat → Int) (Φ : Base) : Sl.Fn Tryz.prog Φ F.shadow_Store_made [ptr p] [storeD p S δ] (fun _ : Unit => True) (fun _ => .bool true) (fun _ => [storeD p S δ]) := by
  refine fo fun F => j_store fun x hx => ?_
  dsimp only [List.cons_append, List.nil_append]
  repeat refine s1 ?_
  refine js (storeB p S x) (fun L => Ent.store x hx) ?_
  exact f1 ()
theorem sused_c (p : Nat) (S : St) (δ : Nat → Int) (Φ : Base) : Sl.Fn Tryz.prog Φ F.shadow_Store_Used [ptr p] [storeD p S δ] (fun _ : Unit => True) (fun _ => i64 (card S.K)) (fun _ => [storeD p S δ]) := by
  refine fo fun F => ?_
  repeat refine s1 ?_
  refine cl (smade_c p S δ Φ) (j_store fun x hx => ?_)
  dsimp only [List.cons_append, List.nil_append]
  repeat refine s1 ?_
  refine r_lenM rfl rfl rfl ?_
  rw [show (em kU vI x.l).length = card S.K by rw [← hx.len]; simp [em]]
  repeat refine s1 ?_
  refine js (storeB p S x) (fun L => Ent.store x hx) ?_
  exact f1 ()
theorem shas_c (p : Nat) (S : St) (δ : Nat → Int) (s : Nat) (Φ : Base) : Sl.Fn Tryz.prog Φ F.shadow_Store_Has [ptr p, kU s] [storeD p S δ] (fun _ : Unit => True) (fun _ => .bool (S.K s).isSome) (fun _ => [storeD p S δ]) := by
  refine fo fun F => ?_
  repeat refine s1 ?_
  refine cl (smade_c p S δ Φ) (j_store fun x hx => ?_)
  dsimp only [List.cons_append, List.nil_append]
  repeat refine s1 ?_
  refine r_lookup1 rfl rfl ⟨_, rfl⟩ rfl rfl ?_
  rw [mget_em kU_inj]
  rcases hk : S.K s with _ | ks
  · rw [at_none hx hk]
    repeat refine s1 ?_
    refine js (storeB p S x) (fun L => Ent.store x hx) ?_
    exact f1 ()
  · obtain ⟨y, l1, l2, e1, _⟩ := at_some hx (s := s) (by rw [hk]; simp)
    rw [e1]
    repeat refine s1 ?_
    refine js (storeB p S x) (fun L => Ent.store x hx) ?_
    exact f1 ()
theorem sholders_c (p : Nat) (S : St) (δ : Nat → Int) (s : Nat) (Φ : Base) : Sl.Fn Tryz.prog Φ F.shadow_Store_holders [ptr p, kU s] [storeD p S δ] (fun _ : Unit => True) (fun _ => i64 (innK S.K s)) (fun _ => [storeD p S δ]) := by
  refine fo fun F => j_store fun x hx => ?_
  dsimp only [List.cons_append, List.nil_append]
  have hin := hx.inn s
  rw [innK_rep hx.rep]
  repeat refine s1 ?_
  refine r_rangeM rfl rfl rfl (fun it => ?_)
  repeat refine s1 ?_
  refine t_loop (σ := List (Nat × Inf) × Nat × Option (Value × Value)) (fun y => [(14, ptr it), (5, i64 y.2.1), (1, kU s), (0, ptr p)])
    (fun y => mit (isInt .u32) it x.km (em kU vI x.l) (em kU vI y.1) y.2.2 :: each x.l infA :: pt p (.cells (scells S x).toArray T.shadow_Store (0, 0)) :: row x.pr S.cnt (occ S.K S.frm) :: F)
    (fun y => (∀ e ∈ y.1, e ∈ x.l) ∧ y.2.1 + inn (kk y.1) s = inn (kk x.l) s) (fun y => y.1.length) (x.l, 0, none) ⟨fun _ h => h, by dsimp only; omega⟩ ⟨rfl, rfl, rfl, rfl, trivial⟩ leD ?_
  rintro ⟨t, n, cur⟩ ⟨hsub, hn⟩
  dsimp only at hsub hn ⊢
  repeat refine s1 ?_
  refine r_nextM rfl rfl rfl (fun h0 => ?_) (fun l1 q l2 h1 => ?_)
  · repeat refine s1 ?_
    obtain rfl := em_nil h0
    have hn : n = inn (kk x.l) s := by simpa [kk, inn] using hn
    subst hn
    refine j_ent Ent.mitEnd ?_
    refine js (storeB p S x) (fun L => Ent.store x hx) ?_
    exact f1 ()
  · obtain ⟨t1, q, t2, rfl, h2, rfl⟩ := em_split h1
    rw [h2]
    rcases q with ⟨qs, qp, qa, qc, qk, qh⟩
    have hfew : qk.length ≤ 11 := hx.few _ (hsub (qs, ⟨qp, qa, qc, qk, qh⟩) (by simp))
    obtain ⟨m1, m2, hm⟩ := List.append_of_mem (hsub (qs, ⟨qp, qa, qc, qk, qh⟩) (by simp))
    have hq : inn (kk (t1 ++ (qs, ⟨qp, qa, qc, qk, qh⟩) :: t2)) s = qk.count s + inn (kk (t1 ++ t2)) s := by
      simp only [kk, List.map_append, List.map_cons]; rw [inn_mid]
    repeat refine s1 ?_
    refine r_entry rfl rfl rfl ?_
    repeat refine s1 ?_
    rw [hm]
    refine j_head (each (m1 ++ (qs, ⟨qp, qa, qc, qk, qh⟩) :: m2) infA) (j_ent (Ent.eachMid m1 _ m2 infA _) (j_all ?_))
    dsimp only [List.cons_append, List.nil_append]
    refine jh [inf2 ⟨qp, qa, qc, qk, qh⟩] (j_leni (fun _ _ ha => ?_))
    dsimp only at ha
    repeat refine s1 ?_
    refine t_loop (σ := Nat × Nat) (fun y => [(24, i64 y.1), (23, i64 qk.length), (22, .slice qa qk.length qc), (14, ptr it), (5, i64 y.2), (1, kU s), (0, ptr p)])
      (fun _ => inf2 ⟨qp, qa, qc, qk, qh⟩ :: inf1 ⟨qp, qa, qc, qk, qh⟩ :: each (m1 ++ m2) infA :: mit (isInt .u32) it x.km (em kU vI (m1 ++ (qs, ⟨qp, qa, qc, qk, qh⟩) :: m2)) (em kU vI (t1 ++ t2)) (some (kU qs, ptr qp)) :: pt p (.cells (scells S x).toArray T.shadow_Store (0, 0)) :: row x.pr S.cnt (occ S.K S.frm) :: F)
      (fun y => y.1 ≤ qk.length ∧ y.2 = n + (qk.take y.1).count s) (fun y => qk.length - y.1) (0, n) ⟨Nat.zero_le _, by simp⟩ ⟨rfl, rfl, rfl, rfl, rfl, rfl, rfl, trivial⟩ leD ?_
    rintro ⟨i, c⟩ ⟨hi, hc⟩
    dsimp only at hi hc ⊢
    repeat refine s1 ?_
    refine r_icmp rfl rfl rfl rfl ?_
    repeat refine s1 ?_
    refine t_condS rfl (fun hlt => ?_) (fun hge => ?_)
    · have hil : i < qk.length := by omega
      obtain ⟨b, o, rfl⟩ := ha (by omega)
      have hkx : (qk.map kU)[i]? = some (kU qk[i]) := by simp [List.getElem?_eq_getElem hil]
      have htk : (qk.take (i + 1)).count s = (qk.take i).count s + if qk[i] = s then 1 else 0 := by
        rw [List.take_add_one, List.getElem?_eq_getElem hil, List.count_append]
        simp [List.count_cons]
      have hcl : (qk.take (i + 1)).count s ≤ qk.count s := (List.take_sublist _ _).count_le s
      repeat refine s1 ?_
      refine ix rfl rfl hil ?_
      refine r_loadI (off := o) (n := qk.length) (cap := qc) (E := T.uint32) (s := 1) (xs := qk.map kU) rfl (j := i) (by omega) hkx rfl rfl ?_
      repeat refine s1 ?_
      refine r_icmp rfl rfl rfl rfl ?_
      repeat refine s1 ?_
      refine t_condSB rfl (fun he => ?_) (fun he => ?_)
      · have he' : qk[i] = s := by have := of_decide_eq_true he; omega
        rw [if_pos he'] at htk
        repeat refine s1 ?_
        refine j_again (i + 1, c + 1) ⟨(by first | omega | (dsimp only; omega) | (dsimp only at *; omega)), (by first | omega | (dsimp only; omega) | (dsimp only at *; omega))⟩ (by dsimp only; omega) ⟨rfl, rfl, rfl, rfl, rfl, rfl, rfl, trivial⟩ leD
      · have he' : ¬ qk[i] = s := by have := of_decide_eq_false he; omega
        rw [if_neg he'] at htk
        repeat refine s1 ?_
        refine j_again (i + 1, c) ⟨(by first | omega | (dsimp only; omega) | (dsimp only at *; omega)), (by first | omega | (dsimp only; omega) | (dsimp only at *; omega))⟩ (by dsimp only; omega) ⟨rfl, rfl, rfl, rfl, rfl, rfl, rfl, trivial⟩ leD
    · have hil : i = qk.length := by omega
      subst hil
      rw [List.take_of_length_le (Nat.le_refl _)] at hc
      repeat refine s1 ?_
      refine js [inf1 ⟨qp, qa, qc, qk, qh⟩, inf2 ⟨qp, qa, qc, qk, qh⟩] (fun L => Ent.unall [inf1 ⟨qp, qa, qc, qk, qh⟩, inf2 ⟨qp, qa, qc, qk, qh⟩] L) ?_
      refine js [infA (qs, ⟨qp, qa, qc, qk, qh⟩), each (m1 ++ m2) infA] (fun L => Ent.eachUnmid m1 _ m2 infA L) ?_
      rw [← hm]
      refine j_again (t1 ++ t2, c, some (kU qs, ptr qp)) ⟨fun e he => hsub e (by rcases List.mem_append.1 he with h | h <;> simp [h]), ?_⟩ (by simp) ⟨rfl, rfl, rfl, rfl, trivial⟩ leD
      rw [hq] at hn
      dsimp only
      omega
end Go.Proofs.YtcnpkmdooekmgaaGreatDoor
namespace Go.Proofs.YtcnpkmdooekmgaaGreatDoor
open Go Sl
theorem occ_upd {S : St} {s : Nat} {ks : List Nat} (h1 : S.frm ≤ s) : occ (upd S.K s (some ks)) S.frm = put (occ S.K S.frm) (s - S.frm) 1 := by
  funext i
  unfold put
  by_cases h : i = s - S.frm
  · subst h
    have e : upd S.K s (some ks) (S.frm + (s - S.frm)) = some ks := by rw [show S.frm + (s - S.frm) = s by omega]; simp [upd]
    rw [if_pos rfl, occ, e]; rfl
  · have e : upd S.K s (some ks) (S.frm + i) = S.K (S.frm + i) := by simp only [upd]; rw [if_neg (by omega)]
    rw [if_neg h, occ, e]; rfl
theorem occ_del {S : St} {s : Nat} (h1 : S.frm ≤ s) : occ (upd S.K s none) S.frm = put (occ S.K S.frm) (s - S.frm) 0 := by
  funext i
  unfold put
  by_cases h : i = s - S.frm
  · subst h
    have e : upd S.K s none (S.frm + (s - S.frm)) = none := by rw [show S.frm + (s - S.frm) = s by omega]; simp [upd]
    rw [if_pos rfl, occ, e]; rfl
  · have e : upd S.K s none (S.frm + i) = S.K (S.frm + i) := by simp only [upd]; rw [if_neg (by omega)]
    rw [if_neg h, occ, e]; rfl
theorem occ_none {S : St} {s : Nat} (h1 : S.frm ≤ s) (h : S.K s = none) : occ S.K S.frm (s - S.frm) = 0 := by
  simp only [occ, show S.frm + (s - S.frm) = s by omega, h]; rfl
theorem occ_some {S : St} {s : Nat} (h1 : S.frm ≤ s) (h : S.K s ≠ none) : occ S.K S.frm (s - S.frm) = 1 := by
  obtain ⟨ks, e⟩ := Option.ne_none_iff_exists'.1 h
  simp only [occ, show S.frm + (s - S.frm) = s by omega, e]; rfl
abbrev secs (n : Nd) : List Nat := n.kids.map (·.sec)
theorem kid_at {n : Nd} (hw : n.wt) {i : Nat} (hi : i < n.kids.length) : ∀ (j : Nat) (v : Value), (rcells n.kids[i])[j]? = some v → (n.kids.flatMap rcells)[i * 33 + j]? = some v := fun j v hv => by
  have hl : (rcells n.kids[i]).length = 33 := by simp [(hw.kids _ (List.getElem_mem hi)).sum.1]
  rw [flat_in (f := rcells) (c := 33) (fun r hr => by simp [(hw.kids r hr).sum.1]) (List.getElem?_eq_getElem hi) (by have := (List.getElem?_eq_some_iff.1 hv).1; omega)]
  exact hv
attribute [local irreducible] cw sw J Exit.then Exit.inBlock Exit.noGoto bodyPost swG swL permL
theorem skeep_c (p : Nat) (S : St) (δ δ' : Nat → Int) (s : Nat) (n : Nd) (y : NR) (held : Int) (hw : n.wt) (hs : S.K s = none) (h1 : S.frm ≤ s) (h2 : s < S.frm + S.cnt) (h3 : n.kids.length ≤ 11)
    (hx : held = (S.E s : Int) + (innK S.K s : Int) + ((secs n).count s : Int) + δ' s) (hd : ∀ k, k ≠ s → δ' k = δ k - (secs n).count k) (hd2 : ∀ k, -1000000 ≤ δ' k ∧ δ' k ≤ 1000000) (Φ : Base) :
    Sl.Fn Tryz.prog Φ F.shadow_Store_keep [ptr p, kU s, nV n y, .int .i64 held] [storeD p S δ, node n y] (fun _ : Unit => True) (fun _ => .tuple #[]) (fun _ => [storeD p { S with K := upd S.K s (some (secs n)) } δ']) := by
  obtain ⟨ka0, kc0, va0, vc0, ra0, rc0⟩ := y
  refine fo fun F => j_store fun x hx' => ?_
  dsimp only [List.cons_append, List.nil_append]
  have hbig := hx'.big
  repeat refine s1 ?_
  refine r_box (cs := nbx n ⟨ka0, kc0, va0, vc0, ra0, rc0⟩) rfl rfl rfl rfl (fun t6 => ?_)
  refine j_head (node n ⟨ka0, kc0, va0, vc0, ra0, rc0⟩) (j_ent (Ent.unnode _) ?_)
  repeat refine s1 ?_
  refine r_build (cells := [.slice none 0 0, .int .i64 held]) rfl (by rfl) rfl ?_
  refine r_box (cs := [.slice none 0 0, .int .i64 held]) rfl rfl rfl rfl (fun t8 => ?_)
  refine j_ent (Ent.vecNil (E := T.uint32) (s := 1) _) ?_
  refine jh [kidsA n ⟨ka0, kc0, va0, vc0, ra0, rc0⟩] (j_leni (fun _ _ ha => ?_))
  dsimp only at ha
  repeat refine s1 ?_
  refine t_loop (σ := Nat × Option Addr × Nat) (fun z => [(17, i64 z.1), (16, i64 n.kids.length), (15, .slice ra0 n.kids.length rc0), (8, ptr t8), (0, ptr p), (1, kU s), (3, .int .i64 held)])
    (fun z => kidsA n ⟨ka0, kc0, va0, vc0, ra0, rc0⟩ :: pt t8 (.cells [.slice z.2.1 z.1 z.2.2, .int .i64 held].toArray T.shadow_info (0, 0)) :: vec z.2.1 z.1 z.2.2 T.uint32 1 (((secs n).take z.1).map kU) :: storeB p S x ++ F)
    (fun z => z.1 ≤ n.kids.length) (fun z => n.kids.length - z.1) (0, none, 0) (Nat.zero_le _) ⟨rfl, rfl, rfl, rfl, rfl, rfl, rfl, trivial⟩ leD ?_
  rintro ⟨i, ka, kc⟩ hi
  dsimp only [List.cons_append, List.nil_append] at hi ⊢
  repeat refine s1 ?_
  refine r_icmp rfl rfl rfl rfl ?_
  repeat refine s1 ?_
  refine t_condS rfl (fun hlt => ?_) (fun hge => ?_)
  · have hil : i < n.kids.length := by omega
    obtain ⟨b, o, rfl⟩ := ha (by omega)
    have hr := hw.kids _ (List.getElem_mem hil)
    repeat refine s1 ?_
    refine ix rfl rfl hil ?_
    refine r_loadIA (off := o) (n := n.kids.length) (cap := rc0) (E := T.api_Ref) (s := 33) (xs := n.kids.flatMap rcells) (vs := rcells n.kids[i]) rfl (j := i * 33) (by omega) (by simp [hr.sum.1]) (kid_at hw hil) rfl rfl ?_
    refine al (fun t10 => ?_)
    refine r_storeW (vs := rcells n.kids[i]) rfl rfl (by simp [hr.sum.1]) (by simp) (by simp [Value.oneCell']) rfl ?_
    repeat refine s1 ?_
    refine t_draw [pt t8 (.cells [.slice ka i kc, .int .i64 held].toArray T.shadow_info (0, 0)), pt t10 (.cells (rcells n.kids[i]).toArray T.api_Ref (0, 0))] [4, 6, 1000011] mixed (by decide +kernel) ?_
    repeat refine s1 ?_
    refine r_build1s [.tmp 27] [kU n.kids[i].sec] rfl rfl (by simp [Value.oneCell']) (by simp) rfl rfl rfl (fun b1 => ?_)
    refine r_append (n := i) (m := 1) (s := 1) (xs := ((secs n).take i).map kU) (ys := [kU n.kids[i].sec]) rfl rfl (by decide) (by rfl) (by simp [Value.oneCell']) (by omega) (by omega) rfl rfl (fun ka' kc' _ => ?_)
    rw [show ((secs n).take i).map kU ++ [kU n.kids[i].sec] = ((secs n).take (i + 1)).map kU by rw [List.take_add_one]; simp [List.getElem?_eq_getElem hil]]
    repeat refine s1 ?_
    refine soX rfl rfl ?_
    repeat refine s1 ?_
    refine j_again (i + 1, ka', kc') (by dsimp only; omega) (by dsimp only; omega) ⟨rfl, rfl, rfl, rfl, rfl, rfl, rfl, trivial⟩ leD
  · have hil : i = n.kids.length := by omega
    subst hil
    rw [List.take_of_length_le (by simp)]
    refine jh [vec ka n.kids.length kc T.uint32 1 ((secs n).map kU)] (fz ?_)
    repeat refine s1 ?_
    refine r_mapUpd rfl rfl rfl ⟨_, rfl⟩ rfl ?_
    rw [show ptr t8 = vI ⟨t8, ka, kc, secs n, held⟩ from rfl, mset_em kU_inj, aset_new (at_none hx' hs)]
    have hq := hx'.add (x := ⟨t8, ka, kc, secs n, held⟩) hs h1 h2 (by simpa using h3) hx hd hd2
    have hkl : (secs n).length = n.kids.length := by simp
    refine js [pt t8 (.cells [.slice ka n.kids.length kc, .int .i64 held].toArray T.shadow_info (0, 0)), isl ka n.kids.length kc T.uint32 1 ((secs n).map kU)] (B := infA (s, ⟨t8, ka, kc, secs n, held⟩)) (fun L => by
      have := Ent.unall [inf1 ⟨t8, ka, kc, secs n, held⟩, inf2 ⟨t8, ka, kc, secs n, held⟩] L
      simp only [infA, inf1, inf2, icells, hkl] at this ⊢
      exact this) ?_
    refine js [infA (s, ⟨t8, ka, kc, secs n, held⟩), each x.l infA] (B := each (x.l ++ [(s, ⟨t8, ka, kc, secs n, held⟩)]) infA) (fun L => by
      have := Ent.eachUnmid x.l (s, (⟨t8, ka, kc, secs n, held⟩ : Inf)) [] infA L
      rwa [List.append_nil] at this) ?_
    repeat refine s1 ?_
    refine t_draw [pt p (.cells (scells S x).toArray T.shadow_Store (0, 0))] [3, 9] mixed (by decide +kernel) ?_
    repeat refine s1 ?_
    rw [show IntKind.i64.wrap (s : Int) = (s : Int) from i64_nat (by omega)]
    repeat refine s1 ?_
    refine r_subN (m := s) (n := S.frm) rfl rfl h1 (by omega) rfl ?_
    refine cl (row_hold x.pr S.cnt (occ S.K S.frm) (s - S.frm) (by omega) (by rw [occ_none h1 hs]; omega) Φ) ?_
    rw [occ_none h1 hs, ← occ_upd (ks := secs n) h1]
    repeat refine s1 ?_
    refine js (storeB p { S with K := upd S.K s (some (secs n)) } ⟨x.pr, x.km, x.l ++ [(s, ⟨t8, ka, kc, secs n, held⟩)]⟩) (fun L => Ent.store _ hq) ?_
    first | exact f0 () | exact f0' ()
theorem shold_c (p : Nat) (S : St) (r : Rf) (_hr : r.wt) (hs : S.K r.sec ≠ none) (hE : S.E r.sec < 1000000000) (Φ : Base) :
    Sl.Fn Tryz.prog Φ F.shadow_Store_Hold [ptr p, .agg (rcells r).toArray] [store p S] (fun _ : Unit => True) (fun _ => i64 0) (fun _ => [store p { S with E := fun s => if s = r.sec then S.E s + 1 else S.E s }]) := by
  refine fo fun F => ?_
  repeat refine s1 ?_
  refine r_box (cs := rcells r) rfl rfl rfl rfl (fun t3 => ?_)
  repeat refine s1 ?_
  refine cl (smade_c p S noδ Φ) ?_
  repeat refine s1 ?_
  refine cl (shas_c p S noδ r.sec Φ) ?_
  obtain ⟨ks, hks⟩ := Option.ne_none_iff_exists'.1 hs
  rw [hks, Option.isSome_some]
  repeat refine s1 ?_
  refine j_head (storeD p S noδ) (j_store fun x hx => ?_)
  dsimp only [List.cons_append, List.nil_append]
  obtain ⟨y, l1, l2, e1, e2, e3, hn⟩ := at_some hx hs
  obtain ⟨pr, km, l⟩ := x
  dsimp only at e1 e3 hx ⊢
  subst e3
  have hh := hx.hold (e := (r.sec, y)) (by simp)
  dsimp only at hh
  refine j_head (each (l1 ++ (r.sec, y) :: l2) infA) (j_ent (Ent.eachMid l1 (r.sec, y) l2 infA _) (j_all ?_))
  dsimp only [List.cons_append, List.nil_append]
  repeat refine s1 ?_
  refine r_lookup1 rfl rfl ⟨_, rfl⟩ rfl rfl ?_
  rw [mget_em kU_inj, e1]
  repeat refine s1 ?_
  refine r_addI rfl rfl (by omega) rfl ?_
  repeat refine s1 ?_
  refine so rfl rfl ?_
  repeat refine s1 ?_
  have hq := hx.bump (d := 1) (δ' := noδ) (E' := fun s => if s = r.sec then S.E s + 1 else S.E s) (by simp) (fun s h => by simp [h]) (by simp; omega) (by simp)
  refine js [pt y.p (.cells [.slice y.a y.kids.length y.c, .int .i64 (y.held + 1)].toArray T.shadow_info (0, 0)), inf2 y] (B := infA (r.sec, { y with held := y.held + 1 })) (fun L => Ent.unall [inf1 { y with held := y.held + 1 }, inf2 { y with held := y.held + 1 }] L) ?_
  refine js [infA (r.sec, { y with held := y.held + 1 }), each (l1 ++ l2) infA] (fun L => Ent.eachUnmid l1 _ l2 infA L) ?_
  have hem : em kU vI (l1 ++ (r.sec, y) :: l2) = em kU vI (l1 ++ (r.sec, { y with held := y.held + 1 }) :: l2) := by simp [em]
  rw [hem]
  refine js (storeB p { S with E := fun s => if s = r.sec then S.E s + 1 else S.E s } ⟨pr, km, l1 ++ (r.sec, { y with held := y.held + 1 }) :: l2⟩) (fun L => Ent.store _ hq) ?_
  exact f1 ()
end Go.Proofs.YtcnpkmdooekmgaaGreatDoor
