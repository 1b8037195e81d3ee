/-
  Part 4 of what a proof of this claim uses: rules, contracts and plain laws. No condition.
-/
import Derived.Test.YtcnpkmdooekmgaaGreatDoorR3
import Derived.Lib.Overlaps
namespace Go.Proofs.YtcnpkmdooekmgaaGreatDoor
def ins (k : Nat) (v : List Nat) : KV → KV
  | [] => [(k, v)]
  | x :: l => if k < x.1 then (k, v) :: x :: l else if k = x.1 then (k, v) :: l else x :: ins k v l
def del (k : Nat) (kv : KV) : KV := kv.filter fun x => !(x.1 == k)
def get? (k : Nat) : KV → Option (List Nat)
  | [] => none
  | x :: l => if k = x.1 then some x.2 else get? k l
theorem ins_mem {k : Nat} {v : List Nat} : ∀ {l : KV} {x : Nat × List Nat}, x ∈ ins k v l → x = (k, v) ∨ x ∈ l
  | [], x, h => by simpa [ins] using h
  | y :: l, x, h => by
    unfold ins at h
    split at h
    · simpa using h
    · split at h
      · rcases List.mem_cons.1 h with h | h <;> simp [h]
      · rcases List.mem_cons.1 h with h | h
        · simp [h]
        · rcases ins_mem h with h | h <;> simp [h]
theorem ins_srt {k : Nat} {v : List Nat} : ∀ {l : KV}, Srt l → Srt (ins k v l)
  | [], _ => by simp [ins]
  | y :: l, h => by
    obtain ⟨h1, h2⟩ := List.pairwise_cons.1 h
    unfold ins
    split
    · rename_i hk
      refine List.pairwise_cons.2 ⟨fun x hx => ?_, h⟩
      rcases List.mem_cons.1 hx with rfl | hx
      · exact hk
      · exact Nat.lt_trans hk (h1 x hx)
    · split
      · rename_i hk
        exact List.pairwise_cons.2 ⟨fun x hx => by simpa [hk] using h1 x hx, h2⟩
      · refine List.pairwise_cons.2 ⟨fun x hx => ?_, ins_srt h2⟩
        rcases ins_mem hx with rfl | hx
        · simp only; omega
        · exact h1 x hx
theorem ins_ok {k : Nat} {v : List Nat} {l : KV} (hk : k < 18446744073709551616) (hv : bytes 44 v) (h : KVok l) : KVok (ins k v l) := fun x hx => by
  rcases ins_mem hx with rfl | hx
  · exact ⟨hk, hv⟩
  · exact h x hx
theorem ins_left {k : Nat} {v : List Nat} : ∀ {a b : KV}, (∀ x ∈ a, x.1 < k) → ins k v (a ++ b) = a ++ ins k v b
  | [], _, _ => rfl
  | x :: a, b, h => by
    have := h x (by simp)
    rw [List.cons_append, ins, if_neg (by omega), if_neg (by omega), ins_left (fun y hy => h y (by simp [hy]))]; rfl
theorem ins_right {k : Nat} {v : List Nat} : ∀ {a b : KV}, (∀ x ∈ b, k < x.1) → ins k v (a ++ b) = ins k v a ++ b
  | [], [], _ => rfl
  | [], y :: b, h => by
    have := h y (by simp)
    show ins k v (y :: b) = [(k, v)] ++ y :: b
    unfold ins; rw [if_pos this]; rfl
  | x :: a, b, h => by
    rw [List.cons_append, ins, ins, ins_right h]
    split
    · rfl
    · split <;> rfl
theorem ins_len {k : Nat} {v : List Nat} : ∀ (l : KV), l.length ≤ (ins k v l).length ∧ (ins k v l).length ≤ l.length + 1
  | [] => by simp [ins]
  | x :: l => by
    have := ins_len (k := k) (v := v) l
    unfold ins
    split
    · simp
    · split <;> simp <;> omega
theorem get_none {k : Nat} : ∀ {l : KV}, (∀ x ∈ l, x.1 ≠ k) → get? k l = none
  | [], _ => rfl
  | x :: l, h => by rw [get?, if_neg (fun e => h x (by simp) e.symm), get_none (fun y hy => h y (by simp [hy]))]
theorem get_app {k : Nat} : ∀ (a b : KV), get? k (a ++ b) = (get? k a).or (get? k b)
  | [], _ => rfl
  | x :: a, b => by
    rw [List.cons_append, get?, get?, get_app a b]
    split <;> rfl
theorem get_mem {k : Nat} {v : List Nat} : ∀ {l : KV}, get? k l = some v → (k, v) ∈ l
  | x :: l, h => by
    unfold get? at h
    split at h
    · rename_i hk; obtain rfl := Option.some.inj h; subst hk; simp
    · exact List.mem_cons_of_mem _ (get_mem h)
theorem del_app {k : Nat} (a b : KV) : del k (a ++ b) = del k a ++ del k b := List.filter_append ..
theorem del_none {k : Nat} {l : KV} (h : ∀ x ∈ l, x.1 ≠ k) : del k l = l := List.filter_eq_self.2 fun x hx => by simp [h x hx]
theorem del_srt {k : Nat} {l : KV} (h : Srt l) : Srt (del k l) := h.sublist List.filter_sublist
theorem del_ok {k : Nat} {l : KV} (h : KVok l) : KVok (del k l) := fun x hx => h x (List.mem_filter.1 hx).1
theorem del_le {k : Nat} {l : KV} : (del k l).length ≤ l.length := List.length_filter_le ..
/- the kid that a key leads to -/
def way (ks : List Nat) (k : Nat) : Nat := ks.countP (· ≤ k) - 1
theorem count0 {ks : List Nat} {k : Nat} (h : ∀ x ∈ ks, k < x) : ks.countP (· ≤ k) = 0 := List.countP_eq_zero.2 fun x hx => by have := h x hx; simp; omega
theorem way_cut {k : Nat} : ∀ {cs : List Ch}, cs ≠ [] → (cs.map (·.key)).Pairwise (· < ·) → ∃ A c B, cs = A ++ c :: B ∧ A.length = way (cs.map (·.key)) k ∧ (A ≠ [] → c.key ≤ k) ∧ ∀ b ∈ B, k < b.key
  | [c], _, _ => ⟨[], c, [], rfl, by simp only [way, List.map_cons, List.map_nil, List.countP_cons, List.countP_nil, List.length_nil]; split <;> rfl, by simp, by simp⟩
  | c :: d :: cs, _, h => by
    rw [List.map_cons] at h
    obtain ⟨h1, h2⟩ := List.pairwise_cons.1 h
    by_cases hk : k < d.key
    · have h3 : ∀ x ∈ (d :: cs).map (·.key), k < x := fun x hx => by
        rw [List.map_cons] at hx h2
        rcases List.mem_cons.1 hx with rfl | hx
        · exact hk
        · exact Nat.lt_trans hk ((List.pairwise_cons.1 h2).1 x hx)
      refine ⟨[], c, d :: cs, rfl, ?_, by simp, fun b hb => h3 b.key (List.mem_map.2 ⟨b, hb, rfl⟩)⟩
      rw [way, List.map_cons, List.countP_cons, count0 h3]
      split <;> rfl
    · obtain ⟨A, c', B, e1, e2, e3, e4⟩ := way_cut (k := k) (cs := d :: cs) (by simp) h2
      have h5 : c.key < d.key := h1 d.key (by simp)
      refine ⟨c :: A, c', B, by rw [e1]; rfl, ?_, fun _ => ?_, e4⟩
      · have h6 : 1 ≤ ((d :: cs).map (·.key)).countP (· ≤ k) := by
          rw [List.map_cons, List.countP_cons, if_pos (by simp; omega)]; omega
        have h7 : (List.map (fun x => x.key) (c :: d :: cs)).countP (· ≤ k) = ((d :: cs).map (·.key)).countP (· ≤ k) + 1 := by
          rw [List.map_cons, List.countP_cons, if_pos (by simp; omega)]
        rw [List.length_cons, e2, way, way, h7]
        omega
      · by_cases hA : A = []
        · subst hA
          simp only [List.nil_append, List.cons.injEq] at e1
          rw [← e1.1]; omega
        · exact e3 hA
/-- what stands left and right of the kid that a key leads to. -/
theorem way_sides {k : Nat} {A B : List Ch} {c : Ch} (hs : Srt ((A ++ c :: B).flatMap (·.kv))) (hf : ∀ d ∈ A ++ c :: B, fst? d.kv = some d.key) (h1 : A ≠ [] → c.key ≤ k) (h2 : ∀ b ∈ B, k < b.key) :
    (∀ x ∈ A.flatMap (·.kv), x.1 < k) ∧ (∀ x ∈ B.flatMap (·.kv), k < x.1) := by
  rw [List.flatMap_append, List.flatMap_cons] at hs
  obtain ⟨p1, p2, p3⟩ := List.pairwise_append.1 hs
  obtain ⟨q1, q2, q3⟩ := List.pairwise_append.1 p2
  constructor
  · intro x hx
    obtain ⟨v, l, e⟩ := fst_mem (hf c (by simp))
    have h3 := p3 x hx (c.key, v) (by rw [e]; simp)
    have h4 := h1 (fun e => by rw [e] at hx; cases hx)
    simp only at h3; omega
  · intro x hx
    obtain ⟨b, hb, hx⟩ := List.mem_flatMap.1 hx
    have h3 := h2 b hb
    obtain ⟨v, l, e⟩ := fst_mem (hf b (by simp [hb]))
    have h4 : Srt b.kv := by
      obtain ⟨B1, B2, rfl⟩ := List.append_of_mem hb
      rw [List.flatMap_append, List.flatMap_cons] at q2
      exact (List.pairwise_append.1 (List.pairwise_append.1 q2).2.1).1
    rw [e] at hx h4
    rcases List.mem_cons.1 hx with rfl | hx
    · exact h3
    · have := (List.pairwise_cons.1 h4).1 x hx
      simp only at this; omega
theorem ins_mid {k : Nat} {v : List Nat} {A B : List Ch} {c : Ch} (h1 : ∀ x ∈ A.flatMap (·.kv), x.1 < k) (h2 : ∀ x ∈ B.flatMap (·.kv), k < x.1) :
    ins k v ((A ++ c :: B).flatMap (·.kv)) = A.flatMap (·.kv) ++ (ins k v c.kv ++ B.flatMap (·.kv)) := by
  rw [List.flatMap_append, List.flatMap_cons, ins_left h1, ins_right h2]
theorem del_mid {k : Nat} {A B : List Ch} {c : Ch} (h1 : ∀ x ∈ A.flatMap (·.kv), x.1 < k) (h2 : ∀ x ∈ B.flatMap (·.kv), k < x.1) :
    del k ((A ++ c :: B).flatMap (·.kv)) = A.flatMap (·.kv) ++ (del k c.kv ++ B.flatMap (·.kv)) := by
  rw [List.flatMap_append, List.flatMap_cons, del_app, del_app, del_none (l := A.flatMap _) (fun x hx => by have := h1 x hx; omega), del_none (l := B.flatMap _) (fun x hx => by have := h2 x hx; omega)]
theorem get_mid {k : Nat} {A B : List Ch} {c : Ch} (h1 : ∀ x ∈ A.flatMap (·.kv), x.1 < k) (h2 : ∀ x ∈ B.flatMap (·.kv), k < x.1) :
    get? k ((A ++ c :: B).flatMap (·.kv)) = get? k c.kv := by
  rw [List.flatMap_append, List.flatMap_cons, get_app, get_app, get_none (l := A.flatMap _) (fun x hx => by have := h1 x hx; omega), get_none (l := B.flatMap _) (fun x hx => by have := h2 x hx; omega)]
  cases get? k c.kv <;> rfl
/- parts -/
def Nd.part (n : Nd) (i j : Nat) : Nd := ⟨n.leaf, (n.keys.take j).drop i, (n.vals.take j).drop i, (n.kids.take j).drop i⟩
def Nd.join (a b : Nd) : Nd := ⟨a.leaf, a.keys ++ b.keys, a.vals ++ b.vals, a.kids ++ b.kids⟩
theorem nsh_part {g : Gd} {h : Nat} {n : Nd} {kv : KV} {U : List Nat} (hn : NSh g h n kv U) (i : Nat) :
    ∃ kv1 kv2 U1 U2, kv = kv1 ++ kv2 ∧ U = U1 ++ U2 ∧ NSh g h (n.part 0 i) kv1 U1 ∧ NSh g h (n.part i n.keys.length) kv2 U2 := by
  cases h with
  | zero =>
    obtain ⟨rfl, rfl, hk⟩ := hn
    refine ⟨kv.take i, kv.drop i, [], [], (List.take_append_drop ..).symm, rfl, ⟨by simp [Nd.part, leafN, List.map_take], rfl, fun x hx => hk x (List.mem_of_mem_take hx)⟩, ⟨?_, rfl, fun x hx => hk x (List.mem_of_mem_drop hx)⟩⟩
    have h1 : (List.map (fun x => x.fst) kv).length = kv.length := by simp
    have h2 : (List.map (fun x => x.snd) kv).take kv.length = List.map (fun x => x.snd) kv := List.take_of_length_le (by simp)
    simp [Nd.part, leafN, List.map_drop, h2]
    rw [List.take_of_length_le (by simp)]
  | succ h =>
    obtain ⟨cs, rfl, rfl, rfl, e⟩ := hn
    refine ⟨(cs.take i).flatMap (·.kv), (cs.drop i).flatMap (·.kv), (cs.take i).flatMap (·.U), (cs.drop i).flatMap (·.U), ?_, ?_, ⟨cs.take i, ?_, rfl, rfl, fun c hc => e c (List.mem_of_mem_take hc)⟩, ⟨cs.drop i, ?_, rfl, rfl, fun c hc => e c (List.mem_of_mem_drop hc)⟩⟩
    · rw [← List.flatMap_append, List.take_append_drop]
    · rw [← List.flatMap_append, List.take_append_drop]
    · simp [Nd.part, inner, List.map_take]
    · simp [Nd.part, inner, List.map_drop]
      rw [List.take_of_length_le (by simp), List.take_of_length_le (by simp)]
      exact ⟨rfl, rfl⟩
theorem nsh_join {g : Gd} {h : Nat} {a b : Nd} {kv1 kv2 : KV} {U1 U2 : List Nat} (ha : NSh g h a kv1 U1) (hb : NSh g h b kv2 U2) : NSh g h (a.join b) (kv1 ++ kv2) (U1 ++ U2) := by
  cases h with
  | zero =>
    obtain ⟨rfl, rfl, h1⟩ := ha
    obtain ⟨rfl, rfl, h2⟩ := hb
    exact ⟨by simp [Nd.join, leafN], rfl, fun x hx => (List.mem_append.1 hx).elim (h1 x) (h2 x)⟩
  | succ h =>
    obtain ⟨cs, rfl, rfl, rfl, e⟩ := ha
    obtain ⟨ds, rfl, rfl, rfl, f⟩ := hb
    exact ⟨cs ++ ds, by simp [Nd.join, inner], by simp, by simp, fun c hc => (List.mem_append.1 hc).elim (e c) (f c)⟩
theorem nsh_leaf {g : Gd} {h : Nat} {a : Nd} {kv : KV} {U : List Nat} (ha : NSh g h a kv U) : a.leaf = (h == 0) := by
  cases h with
  | zero => rw [ha.1]; rfl
  | succ h => obtain ⟨cs, rfl, _⟩ := ha; rfl
theorem nsh_whole {g : Gd} {h : Nat} {a : Nd} {kv : KV} {U : List Nat} (ha : NSh g h a kv U) : if a.leaf then a.vals.length = a.keys.length ∧ a.kids = [] else a.kids.length = a.keys.length ∧ a.vals = [] := by
  cases h with
  | zero => rw [ha.1]; simp [leafN]
  | succ h => obtain ⟨cs, rfl, _⟩ := ha; simp [inner]
theorem nsh_right {g : Gd} {h : Nat} {n : Nd} {kv : KV} {U : List Nat} (hn : NSh g h n kv U) (hs : Srt kv) (hl : 2 ≤ n.keys.length ∨ n.leaf = true ∧ 1 ≤ n.keys.length) (hm : n.keys.length ≤ if n.leaf then 9 else 11) : n.right := by
  have hw := nsh_whole hn
  refine ⟨nsh_rise hn hs, fun h => ?_, fun h => ?_⟩ <;> rw [h] at hw hl hm <;> simp only [if_true, if_false, Bool.false_eq_true] at hw hl hm
  · rcases hl with hl | hl <;> exact ⟨by omega, hm, hw.1, hw.2⟩
  · rcases hl with hl | hl
    · exact ⟨hl, hm, hw.1, hw.2⟩
    · cases hl.1
/-- what is kept of a kid once it was made. -/
theorem sh_of {g : Gd} {lo h : Nat} {n : Nd} {kv : KV} {V : List Nat} {r : Rf} (hn : NSh g h n kv V) (hs : Srt kv) (hl : 2 ≤ n.keys.length ∨ n.leaf = true ∧ 1 ≤ n.keys.length) (hm : n.keys.length ≤ if n.leaf then 9 else 11) (h0 : lo ≤ n.keys.length)
    (hr : r.wt) (h1 : g.sec r.sec = n.enc) (h2 : r.sum = shaM n.enc) (h3 : g.K r.sec = some (n.kids.map (·.sec))) : Sh g lo h r kv (r.sec :: V) :=
  ⟨hr, n, V, hn, nsh_right hn hs hl hm, h0, h1, h2, h3, rfl⟩
theorem nsh_swap {g g' : Gd} {h : Nat} {A B M D : List Ch} {kv' : KV} (hcs : ∀ c ∈ A ++ M ++ B, fst? c.kv = some c.key ∧ Sh g 4 h c.rf c.kv c.U)
    (hg : ∀ c ∈ A ++ B, ∀ s ∈ c.U, g'.sec s = g.sec s ∧ g'.K s = g.K s) (hD : ∀ c ∈ D, fst? c.kv = some c.key ∧ Sh g' 4 h c.rf c.kv c.U) (hkv : kv' = A.flatMap (·.kv) ++ (D.flatMap (·.kv) ++ B.flatMap (·.kv))) :
    NSh g' (h + 1) (inner (A ++ D ++ B)) kv' ((A ++ D ++ B).flatMap (·.U)) := by
  refine ⟨A ++ D ++ B, rfl, by rw [hkv]; simp, rfl, fun c hc => ?_⟩
  rcases List.mem_append.1 hc with hc | hc
  · rcases List.mem_append.1 hc with hc | hc
    · obtain ⟨h1, h2⟩ := hcs c (by simp [hc])
      exact ⟨h1, sh_mono (hg c (by simp [hc])) h2⟩
    · exact hD c hc
  · obtain ⟨h1, h2⟩ := hcs c (by simp [hc])
    exact ⟨h1, sh_mono (hg c (by simp [hc])) h2⟩
end Go.Proofs.YtcnpkmdooekmgaaGreatDoor
namespace Go.Proofs.YtcnpkmdooekmgaaGreatDoor
open Sl
def inn (l : List (Nat × List Nat)) (s : Nat) : Nat := (l.map fun p => p.2.count s).sum
/-- what is kept, and who is held from outside. -/
structure Kok (K : Nat → Option (List Nat)) (E : Nat → Nat) (frm cnt : Nat) : Prop where
  fin : ∃ l, Rep l K
  closed : ∀ s ks, K s = some ks → ∀ k ∈ ks, K k ≠ none
  rng : ∀ s, K s ≠ none → frm ≤ s ∧ s < frm + cnt
  ext : ∀ s, 0 < E s → K s ≠ none
  rk : ∃ rk : Nat → Nat, ∀ p ks, K p = some ks → ∀ k ∈ ks, rk k < rk p
def Tight (K : Nat → Option (List Nat)) (E : Nat → Nat) : Prop := ∀ s, K s ≠ none → 0 < E s ∨ ∃ p ks, K p = some ks ∧ s ∈ ks
/-- what is left when all that is loose was freed. -/
structure Swept (K : Nat → Option (List Nat)) (E : Nat → Nat) (K' : Nat → Option (List Nat)) : Prop where
  sub : ∀ s ks, K' s = some ks → K s = some ks
  closed : ∀ s ks, K' s = some ks → ∀ k ∈ ks, K' k ≠ none
  keep : ∀ s, 0 < E s → K' s = K s
  tight : Tight K' E
theorem sub_len {α : Type} [DecidableEq α] : ∀ {a b : List α}, a.Nodup → (∀ x ∈ a, x ∈ b) → a.length ≤ b.length
  | [], _, _, _ => Nat.zero_le _
  | x :: a, b, hn, h => by
    obtain ⟨h1, h2⟩ := List.nodup_cons.1 hn
    have hx := h x (by simp)
    have := sub_len (a := a) (b := b.erase x) h2 (fun y hy => (List.mem_erase_of_ne (fun e => h1 (by rw [← e]; exact hy))).2 (h y (by simp [hy])))
    rw [List.length_erase_of_mem hx] at this
    have := List.length_pos_of_mem hx
    simp only [List.length_cons]; omega
theorem le_sum {l : List Nat} {x : Nat} (h : x ∈ l) : x ≤ l.sum := by
  induction l with
  | nil => cases h
  | cons a l ih =>
    simp only [List.sum_cons]
    rcases List.mem_cons.1 h with rfl | h
    · omega
    · have := ih h
      omega
theorem rep_keys {β : Type} {l : List (Nat × β)} {K : Nat → Option β} (h : Rep l K) (s : Nat) : s ∈ l.map Prod.fst ↔ K s ≠ none := by
  constructor
  · intro hs
    obtain ⟨p, hp, rfl⟩ := List.mem_map.1 hs
    rw [h.mem.1 hp]; simp
  · intro hs
    obtain ⟨b, hb⟩ := Option.ne_none_iff_exists'.1 hs
    exact List.mem_map.2 ⟨(s, b), h.mem.2 hb, rfl⟩
theorem rep_le {β γ : Type} {l : List (Nat × β)} {K : Nat → Option β} {l' : List (Nat × γ)} {K' : Nat → Option γ} (h : Rep l K) (h' : Rep l' K') (hs : ∀ s, K s ≠ none → K' s ≠ none) : l.length ≤ l'.length := by
  have := sub_len h.nd (b := l'.map Prod.fst) (fun x hx => (rep_keys h' x).2 (hs x ((rep_keys h x).1 hx)))
  simpa using this
open Classical in
noncomputable def card {β : Type} (K : Nat → Option β) : Nat := if h : ∃ l, Rep l K then h.choose.length else 0
theorem card_rep {β : Type} {l : List (Nat × β)} {K : Nat → Option β} (h : Rep l K) : card K = l.length := by
  have hx : ∃ l, Rep l K := ⟨l, h⟩
  unfold card
  rw [dif_pos hx]
  exact Nat.le_antisymm (rep_le hx.choose_spec h (fun _ h => h)) (rep_le h hx.choose_spec (fun _ h => h))
theorem card_le {β γ : Type} {K : Nat → Option β} {K' : Nat → Option γ} (h : ∃ l, Rep l K) (h' : ∃ l, Rep l K') (hs : ∀ s, K s ≠ none → K' s ≠ none) : card K ≤ card K' := by
  obtain ⟨l, h⟩ := h; obtain ⟨l', h'⟩ := h'
  rw [card_rep h, card_rep h']
  exact rep_le h h' hs
theorem card_cover {β : Type} {K : Nat → Option β} (h : ∃ l, Rep l K) {U : List Nat} (hU : ∀ s, K s ≠ none → s ∈ U) : card K ≤ U.length := by
  obtain ⟨l, h⟩ := h
  rw [card_rep h]
  have := sub_len h.nd (b := U) (fun x hx => hU x ((rep_keys h x).1 hx))
  simpa using this
theorem card_rng {K : Nat → Option (List Nat)} {E : Nat → Nat} {f c : Nat} (h : Kok K E f c) : card K ≤ c := by
  have := card_cover h.fin (U := (List.range c).map (f + ·)) (fun s hs => List.mem_map.2 ⟨s - f, by have := h.rng s hs; simp; omega, by have := h.rng s hs; omega⟩)
  simpa using this
/-- where as many are kept as there is room, none is free. -/
theorem card_full {K : Nat → Option (List Nat)} {E : Nat → Nat} {f c : Nat} (h : Kok K E f c) (hs : ∀ i < c, K (f + i) ≠ none) : card K = c := by
  refine Nat.le_antisymm (card_rng h) ?_
  obtain ⟨l, hl⟩ := h.fin
  rw [card_rep hl]
  have := sub_len (a := (List.range c).map (f + ·)) (b := l.map Prod.fst) ?_ ?_
  · simpa using this
  · exact List.Pairwise.map _ (fun a b h => by omega) (List.nodup_range (n := c))
  · intro x hx
    obtain ⟨i, hi, rfl⟩ := List.mem_map.1 hx
    exact (rep_keys hl _).2 (hs i (by simpa using hi))
theorem card_set {β : Type} {K : Nat → Option β} {s : Nat} {ks : β} (h : ∃ l, Rep l K) (hs : K s = none) : card (upd K s (some ks)) = card K + 1 := by
  obtain ⟨l, h⟩ := h
  rw [card_rep (h.set s ks), card_rep h, aset_new (by rw [h.eq]; exact hs)]
  simp
open Classical in
theorem rep_sub {β : Type} {K K' : Nat → Option β} (h : ∃ l, Rep l K) (hs : ∀ s b, K' s = some b → K s = some b) : ∃ l, Rep l K' := by
  obtain ⟨l, h⟩ := h
  have hn : ((l.filter fun p => decide (K' p.1 ≠ none)).map Prod.fst).Nodup := h.nd.sublist (List.Sublist.map _ List.filter_sublist)
  refine ⟨_, hn, fun k => ?_⟩
  cases hk : K' k with
  | none =>
    refine alook_none (fun hm => ?_)
    obtain ⟨p, hp, rfl⟩ := List.mem_map.1 hm
    have := (List.mem_filter.1 hp).2
    simp [hk] at this
  | some b => exact mem_alook hn (List.mem_filter.2 ⟨h.mem.2 (hs k b hk), by simp [hk]⟩)
theorem Swept.ok {K K' : Nat → Option (List Nat)} {E : Nat → Nat} {f c : Nat} (h : Kok K E f c) (s : Swept K E K') : Kok K' E f c := by
  obtain ⟨rk, hr⟩ := h.rk
  have up : ∀ x, K' x ≠ none → K x ≠ none := fun x hx => by
    obtain ⟨ks, hk⟩ := Option.ne_none_iff_exists'.1 hx
    rw [s.sub x ks hk]; simp
  exact ⟨rep_sub h.fin s.sub, s.closed, fun x hx => h.rng x (up x hx), fun x hx => by rw [s.keep x hx]; exact h.ext x hx, rk, fun p ks hp k hk => hr p ks (s.sub p ks hp) k hk⟩
theorem Swept.refl {K : Nat → Option (List Nat)} {E : Nat → Nat} {f c : Nat} (h : Kok K E f c) (t : Tight K E) : Swept K E K := ⟨fun _ _ h => h, h.closed, fun _ _ => rfl, t⟩
theorem Kok.mk' {K : Nat → Option (List Nat)} {E : Nat → Nat} {f c s : Nat} {ks : List Nat} (h : Kok K E f c) (hs : K s = none) (h1 : f ≤ s) (h2 : s < f + c) (hk : ∀ k ∈ ks, K k ≠ none) : Kok (upd K s (some ks)) E f c := by
  obtain ⟨rk, hr⟩ := h.rk
  obtain ⟨l, hl⟩ := h.fin
  have ne : ∀ k, K k ≠ none → k ≠ s := fun k hk e => hk (e ▸ hs)
  have up : ∀ k, K k ≠ none → upd K s (some ks) k ≠ none := fun k hk => by simp only [upd]; rw [if_neg (ne k hk)]; exact hk
  refine ⟨⟨_, hl.set s ks⟩, fun p qs hp k hk' => ?_, fun p hp => ?_, fun p hp => up p (h.ext p hp), fun x => if x = s then (ks.map rk).sum + 1 else rk x, fun p qs hp k hk' => ?_⟩
  · simp only [upd] at hp
    split at hp
    · obtain rfl := Option.some.inj hp; exact up k (hk k hk')
    · exact up k (h.closed p qs hp k hk')
  · simp only [upd] at hp
    split at hp
    · rename_i e; rw [e]; exact ⟨h1, h2⟩
    · exact h.rng p hp
  · simp only [upd] at hp
    split at hp
    · rename_i e
      obtain rfl := Option.some.inj hp
      simp only [e, if_true]
      rw [if_neg (ne k (hk k hk'))]
      have : rk k ≤ (ks.map rk).sum := le_sum (List.mem_map.2 ⟨k, hk', rfl⟩)
      omega
    · rename_i e
      simp only [if_neg e]
      rw [if_neg (ne k (h.closed p qs hp k hk'))]
      exact hr p qs hp k hk'
/-- a set that has all that are held from outside, and the kids of what it has, has all that is kept. -/
theorem cover {K : Nat → Option (List Nat)} {E : Nat → Nat} {f c : Nat} (h : Kok K E f c) (t : Tight K E) (p : Nat → Prop) (h1 : ∀ s, 0 < E s → p s) (h2 : ∀ s ks, p s → K s = some ks → ∀ k ∈ ks, p k) : ∀ s, K s ≠ none → p s := by
  obtain ⟨rk, hr⟩ := h.rk
  obtain ⟨l, hl⟩ := h.fin
  have top : ∀ s, K s ≠ none → rk s ≤ ((l.map Prod.fst).map rk).sum := fun s hs => le_sum (List.mem_map.2 ⟨s, (rep_keys hl s).2 hs, rfl⟩)
  have key : ∀ n s, K s ≠ none → ((l.map Prod.fst).map rk).sum - rk s = n → p s := by
    intro n
    induction n using Nat.strongRecOn with
    | _ n ih =>
      intro s hs hn
      rcases t s hs with h3 | ⟨q, ks, hq, hk⟩
      · exact h1 s h3
      · have hq' : K q ≠ none := by rw [hq]; simp
        have := hr q ks hq s hk
        have := top q hq'
        exact h2 q ks (ih _ (by omega) q hq' rfl) hq s hk
  exact fun s hs => key _ s hs rfl
/- what is known only grows -/
def Gd.le (g g' : Gd) : Prop := ∀ s ks, g.K s = some ks → g'.K s = some ks ∧ g'.sec s = g.sec s
theorem Gd.le_refl (g : Gd) : g.le g := fun _ _ h => ⟨h, rfl⟩
theorem Gd.le_trans {a b c : Gd} (h : a.le b) (k : b.le c) : a.le c := fun s ks hs => ⟨(k s ks (h s ks hs).1).1, (k s ks (h s ks hs).1).2.trans (h s ks hs).2⟩
theorem Gd.le_at {g g' : Gd} (h : g.le g') {s : Nat} (hs : g.K s ≠ none) : g'.sec s = g.sec s ∧ g'.K s = g.K s := by
  obtain ⟨ks, hk⟩ := Option.ne_none_iff_exists'.1 hs
  exact ⟨(h s ks hk).2, by rw [(h s ks hk).1, hk]⟩
theorem sh_le {g g' : Gd} {lo h : Nat} {r : Rf} {kv : KV} {U : List Nat} (hl : g.le g') (hs : Sh g lo h r kv U) : Sh g' lo h r kv U :=
  sh_mono (fun s hU => Gd.le_at hl (by obtain ⟨ks, hk, _⟩ := sh_known hs s hU; rw [hk]; simp)) hs
theorem nsh_le {g g' : Gd} {h : Nat} {n : Nd} {kv : KV} {U : List Nat} (hl : g.le g') (hs : NSh g h n kv U) : NSh g' h n kv U :=
  nsh_mono (fun s hU => Gd.le_at hl (by obtain ⟨ks, hk, _⟩ := nsh_known hs s hU; rw [hk]; simp)) hs
/-- what is freed does not touch a tree whose root is held. -/
theorem nsh_kept {g : Gd} {K' : Nat → Option (List Nat)} (sub : ∀ s ks, K' s = some ks → g.K s = some ks) (closed : ∀ s ks, K' s = some ks → ∀ k ∈ ks, K' k ≠ none) :
    ∀ {h : Nat} {n : Nd} {kv : KV} {U : List Nat}, NSh g h n kv U → (∀ r ∈ n.kids, K' r.sec ≠ none) → ∀ s ∈ U, K' s = g.K s
  | 0, _, _, _, ⟨_, e, _⟩, _, s, hs => by rw [e] at hs; cases hs
  | h + 1, n, kv, U, ⟨cs, e1, e2, e3, e5⟩, hk, s, hs => by
    rw [e3] at hs
    obtain ⟨c, hc, hs⟩ := List.mem_flatMap.1 hs
    obtain ⟨h1, h1', m, V, h2, h3, h5, h6, h7, h8, h9⟩ := e5 c hc
    have h0 := hk c.rf (by rw [e1]; exact List.mem_map.2 ⟨c, hc, rfl⟩)
    obtain ⟨ks, hks⟩ := Option.ne_none_iff_exists'.1 h0
    have h10 := sub _ _ hks
    rw [h9] at hs
    rcases List.mem_cons.1 hs with rfl | hs
    · rw [hks, h10]
    · refine nsh_kept sub closed h2 (fun r hr => ?_) s hs
      refine closed _ _ hks _ ?_
      rw [h8] at h10
      rw [← Option.some.inj h10]
      exact List.mem_map.2 ⟨r, hr, rfl⟩
theorem sh_kept {g : Gd} {K' : Nat → Option (List Nat)} (sub : ∀ s ks, K' s = some ks → g.K s = some ks) (closed : ∀ s ks, K' s = some ks → ∀ k ∈ ks, K' k ≠ none)
    {lo h : Nat} {r : Rf} {kv : KV} {U : List Nat} (hs : Sh g lo h r kv U) (h0 : K' r.sec ≠ none) : ∀ s ∈ U, K' s = g.K s := by
  obtain ⟨h1, m, V, h2, h3, h5, h6, h7, h8, h9⟩ := hs
  obtain ⟨ks, hks⟩ := Option.ne_none_iff_exists'.1 h0
  have h10 := sub _ _ hks
  intro s hs
  rw [h9] at hs
  rcases List.mem_cons.1 hs with rfl | hs
  · rw [hks, h10]
  · refine nsh_kept sub closed h2 (fun r hr => ?_) s hs
    refine closed _ _ hks _ ?_
    rw [h8] at h10
    rw [← Option.some.inj h10]
    exact List.mem_map.2 ⟨r, hr, rfl⟩
end Go.Proofs.YtcnpkmdooekmgaaGreatDoor
namespace Go.Proofs.YtcnpkmdooekmgaaGreatDoor
open Sl
abbrev Kp := Nat → Option (List Nat)
theorem inn_cons (p : Nat × List Nat) (l : List (Nat × List Nat)) (s : Nat) : inn (p :: l) s = p.2.count s + inn l s := by simp [inn]
theorem inn_app (a b : List (Nat × List Nat)) (s : Nat) : inn (a ++ b) s = inn a s + inn b s := by simp [inn]
theorem inn_mid (a b : List (Nat × List Nat)) (p : Nat × List Nat) (s : Nat) : inn (a ++ p :: b) s = p.2.count s + inn (a ++ b) s := by
  rw [inn_app, inn_app, inn_cons]; omega
theorem inn_pos {l : List (Nat × List Nat)} {s : Nat} : 0 < inn l s ↔ ∃ p ∈ l, s ∈ p.2 := by
  induction l with
  | nil => simp [inn]
  | cons a l ih =>
    rw [inn_cons]
    constructor
    · intro h
      rcases Nat.eq_zero_or_pos (a.2.count s) with h0 | h0
      · obtain ⟨p, hp, hs⟩ := ih.1 (by omega)
        exact ⟨p, by simp [hp], hs⟩
      · exact ⟨a, by simp, List.count_pos_iff.1 h0⟩
    · rintro ⟨p, hp, hs⟩
      rcases List.mem_cons.1 hp with rfl | hp
      · have := List.count_pos_iff.2 hs; omega
      · have := ih.2 ⟨p, hp, hs⟩; omega
theorem inn_le {c : Nat} {s : Nat} : ∀ {l : List (Nat × List Nat)}, (∀ p ∈ l, p.2.length ≤ c) → inn l s ≤ l.length * c
  | [], _ => by simp [inn]
  | a :: l, h => by
    have h1 := h a (by simp)
    have h2 := inn_le (s := s) (l := l) (fun p hp => h p (by simp [hp]))
    have h3 : a.2.count s ≤ a.2.length := List.count_le_length
    rw [inn_cons, List.length_cons, Nat.succ_mul]; omega
theorem inn_perm {l l' : List (Nat × List Nat)} (h : l.Perm l') (s : Nat) : inn l s = inn l' s := by
  unfold inn
  exact (h.map _).sum_nat
theorem rep_perm {β : Type} {l l' : List (Nat × β)} {K : Nat → Option β} (h : Rep l K) (h' : Rep l' K) : l.Perm l' := by
  have n1 : l.Nodup := List.Pairwise.of_map Prod.fst (fun a b hab e => hab (by rw [e])) h.nd
  have n2 : l'.Nodup := List.Pairwise.of_map Prod.fst (fun a b hab e => hab (by rw [e])) h'.nd
  refine (List.perm_ext_iff_of_nodup n1 n2).2 fun ⟨k, v⟩ => ?_
  rw [h.mem, h'.mem]
open Classical in
/-- how often those that are kept have a sector as a kid. -/
noncomputable def innK (K : Kp) (s : Nat) : Nat := if h : ∃ l, Rep l K then inn h.choose s else 0
theorem innK_rep {K : Kp} {l : List (Nat × List Nat)} (h : Rep l K) (s : Nat) : innK K s = inn l s := by
  have hx : ∃ l, Rep l K := ⟨l, h⟩
  unfold innK
  rw [dif_pos hx]
  exact inn_perm (rep_perm hx.choose_spec h) s
theorem innK_zero {K : Kp} {E : Nat → Nat} {f c s : Nat} (h : Kok K E f c) (hs : K s = none) : innK K s = 0 := by
  obtain ⟨l, hl⟩ := h.fin
  rw [innK_rep hl]
  apply Nat.eq_zero_of_not_pos
  intro h0
  obtain ⟨p, hp, hk⟩ := inn_pos.1 h0
  exact h.closed p.1 p.2 (hl.mem.1 hp) s hk hs
theorem innK_pos {K : Kp} (hf : ∃ l, Rep l K) {s : Nat} : 0 < innK K s ↔ ∃ p ks, K p = some ks ∧ s ∈ ks := by
  obtain ⟨l, hl⟩ := hf
  rw [innK_rep hl, inn_pos]
  constructor
  · rintro ⟨p, hp, hs⟩; exact ⟨p.1, p.2, hl.mem.1 hp, hs⟩
  · rintro ⟨p, ks, hp, hs⟩; exact ⟨(p, ks), hl.mem.2 hp, hs⟩
theorem innK_del {K : Kp} (hf : ∃ l, Rep l K) {s : Nat} {ks : List Nat} (hs : K s = some ks) (x : Nat) : innK (upd K s none) x + ks.count x = innK K x := by
  obtain ⟨l, hl⟩ := hf
  obtain ⟨l1, l2, rfl, h1⟩ := alook_split hl.nd (by rw [hl.eq]; exact hs)
  rw [innK_rep (hl.del s), innK_rep hl, adel_old h1, inn_mid]
  dsimp only; omega
/-- what is left when some that were loose were freed. -/
structure Less (K : Kp) (E : Nat → Nat) (K' : Kp) : Prop where
  sub : ∀ s ks, K' s = some ks → K s = some ks
  closed : ∀ s ks, K' s = some ks → ∀ k ∈ ks, K' k ≠ none
  keep : ∀ s, 0 < E s → K' s = K s
theorem Less.refl {K : Kp} {E : Nat → Nat} {f c : Nat} (h : Kok K E f c) : Less K E K := ⟨fun _ _ h => h, h.closed, fun _ _ => rfl⟩
theorem Less.trans {K K' K2 : Kp} {E : Nat → Nat} (h : Less K E K') (h' : Less K' E K2) : Less K E K2 :=
  ⟨fun s ks hs => h.sub s ks (h'.sub s ks hs), h'.closed, fun s hs => (h'.keep s hs).trans (h.keep s hs)⟩
theorem Less.swept {K K' : Kp} {E : Nat → Nat} (h : Less K E K') (t : Tight K' E) : Swept K E K' := ⟨h.sub, h.closed, h.keep, t⟩
theorem Less.ok {K K' : Kp} {E : Nat → Nat} {f c : Nat} (h : Kok K E f c) (s : Less K E K') : Kok K' E f c := by
  obtain ⟨rk, hr⟩ := h.rk
  have up : ∀ x, K' x ≠ none → K x ≠ none := fun x hx => by
    obtain ⟨ks, hk⟩ := Option.ne_none_iff_exists'.1 hx
    rw [s.sub x ks hk]; simp
  exact ⟨rep_sub h.fin s.sub, s.closed, fun x hx => h.rng x (up x hx), fun x hx => by rw [s.keep x hx]; exact h.ext x hx, rk, fun p ks hp k hk => hr p ks (s.sub p ks hp) k hk⟩
/-- a loose one is freed. -/
theorem Less.one {K : Kp} {E : Nat → Nat} {f c s : Nat} (h : Kok K E f c) (h0 : E s = 0) (h1 : innK K s = 0) : Less K E (upd K s none) := by
  refine ⟨fun x ks hx => ?_, fun x ks hx k hk => ?_, fun x hx => ?_⟩
  · simp only [upd] at hx
    split at hx
    · cases hx
    · exact hx
  · simp only [upd] at hx ⊢
    split at hx
    · cases hx
    · split
      · rename_i e
        subst e
        have := (innK_pos h.fin).2 ⟨x, ks, hx, hk⟩
        omega
      · exact h.closed x ks hx k hk
  · simp only [upd]
    split
    · rename_i e; subst e; omega
    · rfl
/-- all that are held by nobody are among some. -/
def Loose (K : Kp) (E : Nat → Nat) (P : Nat → Prop) : Prop := ∀ s, K s ≠ none → E s = 0 → innK K s = 0 → P s
theorem Loose.tight {K : Kp} {E : Nat → Nat} {f c : Nat} (h : Kok K E f c) (l : Loose K E fun _ => False) : Tight K E := fun s hs => by
  rcases Nat.eq_zero_or_pos (E s) with h0 | h0
  · rcases Nat.eq_zero_or_pos (innK K s) with h1 | h1
    · exact (l s hs h0 h1).elim
    · exact .inr ((innK_pos h.fin).1 h1)
  · exact .inl h0
theorem Tight.loose {K : Kp} {E : Nat → Nat} {f c : Nat} (h : Kok K E f c) (t : Tight K E) : Loose K E fun _ => False := fun s hs h0 h1 => by
  rcases t s hs with h2 | h2
  · omega
  · have := (innK_pos h.fin).2 h2; omega
/-- how many kids all have, together. -/
noncomputable def kidsN (l : List (Nat × List Nat)) : Nat := (l.map fun p => p.2.length).sum
open Classical in
noncomputable def kidsK (K : Kp) : Nat := if h : ∃ l, Rep l K then kidsN h.choose else 0
theorem kidsK_rep {K : Kp} {l : List (Nat × List Nat)} (h : Rep l K) : kidsK K = kidsN l := by
  have hx : ∃ l, Rep l K := ⟨l, h⟩
  unfold kidsK
  rw [dif_pos hx]
  exact ((rep_perm hx.choose_spec h).map _).sum_nat
theorem kidsK_del {K : Kp} (hf : ∃ l, Rep l K) {s : Nat} {ks : List Nat} (hs : K s = some ks) : kidsK (upd K s none) + ks.length = kidsK K := by
  obtain ⟨l, hl⟩ := hf
  obtain ⟨l1, l2, rfl, h1⟩ := alook_split hl.nd (by rw [hl.eq]; exact hs)
  rw [kidsK_rep (hl.del s), kidsK_rep hl, adel_old h1]
  simp [kidsN]; omega
theorem kidsN_le {c : Nat} : ∀ {l : List (Nat × List Nat)}, (∀ p ∈ l, p.2.length ≤ c) → kidsN l ≤ l.length * c
  | [], _ => by simp [kidsN]
  | a :: l, h => by
    have h1 := h a (by simp)
    have h2 := kidsN_le (l := l) (fun p hp => h p (by simp [hp]))
    simp only [kidsN, List.map_cons, List.sum_cons, List.length_cons, Nat.succ_mul] at h2 ⊢; omega
/-- what changes of a store do to a disk: at most n writes, all of them where nothing was kept. -/
structure DLe (K : Kp) (f c : Nat) (D D' : Dk) (n : Nat) : Prop where
  size : D'.size = D.size
  sure : D'.sure = D.sure
  reg : D'.reg = D.reg
  plan : D'.plan = D.plan
  left : D'.left ≤ D.left
  shown : ∀ s, ¬ (K s = none ∧ f ≤ s ∧ s < f + c) → D'.shown s = D.shown s
  waits : ∃ ws : List (Nat × List Nat), D'.waits = D.waits ++ ws ∧ ws.length ≤ n ∧ ∀ w ∈ ws, K w.1 = none ∧ f ≤ w.1 ∧ w.1 < f + c
  down : D.down = true → D' = D
  up : D.plan = false → D'.down = D.down
theorem DLe.refl (K : Kp) (f c : Nat) (D : Dk) (n : Nat) : DLe K f c D D n := ⟨rfl, rfl, rfl, rfl, Nat.le_refl _, fun _ _ => rfl, ⟨[], by simp, by simp, by simp⟩, fun _ => rfl, fun _ => rfl⟩
theorem DLe.trans {K K' : Kp} {f c : Nat} {D D' D2 : Dk} {n m : Nat} (h : DLe K f c D D' n) (h' : DLe K' f c D' D2 m) (hk : ∀ s, K' s = none → K s = none) : DLe K f c D D2 (n + m) := by
  obtain ⟨ws, w1, w2, w3⟩ := h.waits
  obtain ⟨vs, v1, v2, v3⟩ := h'.waits
  refine ⟨h'.size.trans h.size, h'.sure.trans h.sure, h'.reg.trans h.reg, h'.plan.trans h.plan, Nat.le_trans h'.left h.left, fun s hs => ?_, ⟨ws ++ vs, by rw [v1, w1]; simp, by simp; omega, fun w hw => ?_⟩, fun hd => ?_, fun hp => ?_⟩
  · rw [h'.shown s (fun hx => hs ⟨hk s hx.1, hx.2⟩), h.shown s hs]
  · rcases List.mem_append.1 hw with hw | hw
    · exact w3 w hw
    · exact ⟨hk _ (v3 w hw).1, (v3 w hw).2⟩
  · have h1 := h.down hd
    rw [h'.down (by rw [h1]; exact hd), h1]
  · rw [h'.up (by rw [h.plan]; exact hp), h.up hp]
theorem DLe.mono {K : Kp} {f c : Nat} {D D' : Dk} {n m : Nat} (h : DLe K f c D D' n) (hn : n ≤ m) : DLe K f c D D' m := by
  obtain ⟨ws, w1, w2, w3⟩ := h.waits
  exact ⟨h.size, h.sure, h.reg, h.plan, h.left, h.shown, ⟨ws, w1, by omega, w3⟩, h.down, h.up⟩
theorem DLe.len {K : Kp} {f c : Nat} {D D' : Dk} {n : Nat} (h : DLe K f c D D' n) : D'.waits.length ≤ D.waits.length + n := by
  obtain ⟨ws, w1, w2, w3⟩ := h.waits
  rw [w1]; simp; omega
theorem DLe.sec {K : Kp} {f c : Nat} {D D' : Dk} {n : Nat} (h : DLe K f c D D' n) {s : Nat} (hs : K s ≠ none) : D'.sec s = D.sec s := by
  unfold Dk.sec; rw [h.shown s (fun hx => hs hx.1)]
theorem Dk.chg_up {D : Dk} (h : ¬ (D.plan = true ∧ D.left = 0)) : D.chg.down = D.down ∧ D.chg.left ≤ D.left := by
  unfold Dk.chg; rw [if_neg h]
  refine ⟨rfl, ?_⟩
  dsimp only; split <;> omega
theorem Dk.chg_same (D : Dk) : D.chg.size = D.size ∧ D.chg.sure = D.sure ∧ D.chg.reg = D.reg ∧ D.chg.plan = D.plan ∧ D.chg.left ≤ D.left ∧ D.chg.shown = D.shown ∧ D.chg.waits = D.waits := by
  unfold Dk.chg; split
  · exact ⟨rfl, rfl, rfl, rfl, Nat.le_refl _, rfl, rfl⟩
  · refine ⟨rfl, rfl, rfl, rfl, ?_, rfl, rfl⟩
    dsimp only; split <;> omega
theorem DLe.wr {K : Kp} {f c : Nat} {D : Dk} {s : Nat} {b : List Nat} (hd : D.down = false) (hp : ¬ (D.plan = true ∧ D.left = 0)) (hs : K s = none) (h1 : f ≤ s) (h2 : s < f + c) : DLe K f c D (D.wr s b) 1 := by
  obtain ⟨e1, e2, e3, e4, e5, e6, e7⟩ := D.chg_same
  refine ⟨e1, e2, e3, e4, e5, fun x hx => ?_, ⟨[(s, b)], rfl, by simp, fun w hw => ?_⟩, fun h => ?_, fun _ => (Dk.chg_up hp).1⟩
  · simp only [Dk.wr, upd]
    split
    · rename_i e; subst e; exact absurd ⟨hs, h1, h2⟩ hx
    · rfl
  · simp at hw; subst hw; exact ⟨hs, h1, h2⟩
  · rw [hd] at h; cases h
theorem DLe.hit {K : Kp} {f c : Nat} {D : Dk} (hd : D.down = false) (hp : D.plan = true) (n : Nat) : DLe K f c D D.chg n := by
  obtain ⟨e1, e2, e3, e4, e5, e6, e7⟩ := D.chg_same
  exact ⟨e1, e2, e3, e4, e5, fun x _ => by rw [e6], ⟨[], by rw [e7]; simp, by simp, by simp⟩, fun h => (by rw [hd] at h; cases h), fun h => (by rw [hp] at h; cases h)⟩
/-- a store: where it stands, what it keeps, who is held from outside; what is to stand in its sectors. -/
structure St where
  (pd pl frm cnt : Nat)
  K : Kp
  E : Nat → Nat
  sec : Nat → List Nat
abbrev St.g (S : St) : Gd := ⟨S.sec, S.K⟩
/-- the disk shows what is to stand there. -/
structure Agr (S : St) (D : Dk) : Prop where
  sec : ∀ s, S.K s ≠ none → D.sec s = S.sec s
  size : S.frm + S.cnt ≤ D.size
  left : D.left ≤ 9223372036854775807
/-- what is known of a node that is kept. -/
structure Inf where
  (p : Nat) (a : Option Addr) (c : Nat)
  kids : List Nat
  held : Int
abbrev kk (l : List (Nat × Inf)) : List (Nat × List Nat) := l.map fun e => (e.1, e.2.kids)
structure SQ (S : St) (δ : Nat → Int) (l : List (Nat × Inf)) : Prop where
  rep : Rep (kk l) S.K
  rng : ∀ e ∈ l, S.frm ≤ e.1 ∧ e.1 < S.frm + S.cnt
  held : ∀ e ∈ l, e.2.held = (S.E e.1 : Int) + (inn (kk l) e.1 : Int) + δ e.1
  few : ∀ e ∈ l, e.2.kids.length ≤ 11
  pos : 1 ≤ S.cnt
  big : S.frm + S.cnt ≤ 65536
  lim : ∀ s, S.E s ≤ 1000000000
  dl : ∀ s, -1000000 ≤ δ s ∧ δ s ≤ 1000000
theorem kk_nd {l : List (Nat × Inf)} {K : Kp} (h : Rep (kk l) K) : (l.map Prod.fst).Nodup := by
  have := h.nd
  simpa [kk, List.map_map, Function.comp_def] using this
theorem kk_look (l : List (Nat × Inf)) (s : Nat) : alook (kk l) s = (alook l s).map Inf.kids := alook_map Inf.kids l s
theorem SQ.at {S : St} {δ : Nat → Int} {l : List (Nat × Inf)} (h : SQ S δ l) (s : Nat) : (alook l s).map Inf.kids = S.K s := by rw [← kk_look, h.rep.eq]
theorem SQ.len {S : St} {δ : Nat → Int} {l : List (Nat × Inf)} (h : SQ S δ l) : l.length = card S.K := by rw [card_rep h.rep]; simp
theorem SQ.most {S : St} {δ : Nat → Int} {l : List (Nat × Inf)} (h : SQ S δ l) : l.length ≤ S.cnt := by
  have := sub_len (a := l.map Prod.fst) (b := (List.range S.cnt).map (S.frm + ·)) (kk_nd h.rep) (fun x hx => by
    obtain ⟨e, he, rfl⟩ := List.mem_map.1 hx
    have := h.rng e he
    exact List.mem_map.2 ⟨e.1 - S.frm, by simp; omega, by omega⟩)
  simpa using this
theorem SQ.inn {S : St} {δ : Nat → Int} {l : List (Nat × Inf)} (h : SQ S δ l) (s : Nat) : Go.Proofs.YtcnpkmdooekmgaaGreatDoor.inn (kk l) s ≤ 720896 := by
  have h1 := inn_le (s := s) (l := kk l) (c := 11) (fun p hp => by
    obtain ⟨e, he, rfl⟩ := List.mem_map.1 hp
    exact h.few e he)
  have h2 := h.most
  have h3 := h.big
  have h4 : (kk l).length = l.length := by simp
  rw [h4] at h1
  have : l.length * 11 ≤ 65536 * 11 := Nat.mul_le_mul_right _ (by omega)
  omega
theorem SQ.hold {S : St} {δ : Nat → Int} {l : List (Nat × Inf)} (h : SQ S δ l) {e : Nat × Inf} (he : e ∈ l) : -1000000 ≤ e.2.held ∧ e.2.held ≤ 1002000000 := by
  have h1 := h.held e he
  have h2 := h.inn e.1
  have h3 := h.lim e.1
  have h4 := h.dl e.1
  omega
/-- one is held more often, or less. -/
def bump (δ : Nat → Int) (k : Nat) (d : Int) : Nat → Int := fun s => if s = k then δ s + d else δ s
theorem kk_same {l1 l2 : List (Nat × Inf)} {k : Nat} {x y : Inf} (h : y.kids = x.kids) : kk (l1 ++ (k, y) :: l2) = kk (l1 ++ (k, x) :: l2) := by simp [kk, h]
theorem SQ.bump {S : St} {δ : Nat → Int} {l1 l2 : List (Nat × Inf)} {k : Nat} {x : Inf} (h : SQ S δ (l1 ++ (k, x) :: l2)) {d : Int} {δ' : Nat → Int} {E' : Nat → Nat} (hk : (E' k : Int) + δ' k = S.E k + δ k + d) (hs : ∀ s, s ≠ k → E' s = S.E s ∧ δ' s = δ s)
    (hl : E' k ≤ 1000000000) (hd : -1000000 ≤ δ' k ∧ δ' k ≤ 1000000) : SQ { S with E := E' } δ' (l1 ++ (k, { x with held := x.held + d }) :: l2) := by
  have hkk : kk (l1 ++ (k, { x with held := x.held + d }) :: l2) = kk (l1 ++ (k, x) :: l2) := kk_same rfl
  have hn := kk_nd h.rep
  rw [List.map_append, List.map_cons] at hn
  have hn2 := List.nodup_append.1 hn
  have hn3 := (List.nodup_cons.1 hn2.2.1).1
  have other : ∀ e : Nat × Inf, e ∈ l1 ∨ e ∈ l2 → e.1 ≠ k := fun e he hek => by
    rcases he with he | he
    · exact hn2.2.2 e.1 (List.mem_map.2 ⟨e, he, rfl⟩) k (by simp) hek
    · exact hn3 (hek ▸ List.mem_map.2 ⟨e, he, rfl⟩)
  refine ⟨by rw [hkk]; exact h.rep, fun e he => ?_, fun e he => ?_, fun e he => ?_, h.pos, h.big, fun s => ?_, fun s => ?_⟩
  · rcases List.mem_append.1 he with he | he
    · exact h.rng e (by simp [he])
    · rcases List.mem_cons.1 he with rfl | he
      · exact h.rng (k, x) (by simp)
      · exact h.rng e (by simp [he])
  · rw [hkk]
    rcases List.mem_append.1 he with he | he
    · have := h.held e (by simp [he])
      obtain ⟨a, b⟩ := hs e.1 (other e (.inl he))
      simp only [a, b]; exact this
    · rcases List.mem_cons.1 he with rfl | he
      · have := h.held (k, x) (by simp)
        simp only at this ⊢
        omega
      · have := h.held e (by simp [he])
        obtain ⟨a, b⟩ := hs e.1 (other e (.inr he))
        simp only [a, b]; exact this
  · rcases List.mem_append.1 he with he | he
    · exact h.few e (by simp [he])
    · rcases List.mem_cons.1 he with rfl | he
      · exact h.few (k, x) (by simp)
      · exact h.few e (by simp [he])
  · by_cases e : s = k
    · subst e; exact hl
    · simp only [(hs s e).1]; exact h.lim s
  · by_cases e : s = k
    · subst e; exact hd
    · rw [(hs s e).2]; exact h.dl s
/-- one more is kept. -/
theorem SQ.add {S : St} {δ δ' : Nat → Int} {l : List (Nat × Inf)} (h : SQ S δ l) {s : Nat} {x : Inf} (hs : S.K s = none) (h1 : S.frm ≤ s) (h2 : s < S.frm + S.cnt) (h3 : x.kids.length ≤ 11)
    (hx : x.held = (S.E s : Int) + (innK S.K s : Int) + (x.kids.count s : Int) + δ' s) (hd : ∀ k, k ≠ s → δ' k = δ k - x.kids.count k) (hd2 : ∀ k, -1000000 ≤ δ' k ∧ δ' k ≤ 1000000) :
    SQ { S with K := upd S.K s (some x.kids) } δ' (l ++ [(s, x)]) := by
  have hkk : kk (l ++ [(s, x)]) = kk l ++ [(s, x.kids)] := by simp [kk]
  have ha : aset (kk l) s x.kids = kk l ++ [(s, x.kids)] := aset_new (by rw [h.rep.eq]; exact hs)
  have hrep := h.rep.set s x.kids
  rw [ha, ← hkk] at hrep
  have hin : ∀ k, Go.Proofs.YtcnpkmdooekmgaaGreatDoor.inn (kk (l ++ [(s, x)])) k = Go.Proofs.YtcnpkmdooekmgaaGreatDoor.inn (kk l) k + x.kids.count k := fun k => by rw [hkk, inn_app]; simp [Go.Proofs.YtcnpkmdooekmgaaGreatDoor.inn]
  refine ⟨hrep, fun e he => ?_, fun e he => ?_, fun e he => ?_, h.pos, h.big, h.lim, hd2⟩
  · rcases List.mem_append.1 he with he | he
    · exact h.rng e he
    · simp at he; subst he; exact ⟨h1, h2⟩
  · rw [hin]
    rcases List.mem_append.1 he with he | he
    · have hne : e.1 ≠ s := fun hh => by
        have : S.K e.1 ≠ none := (rep_keys h.rep e.1).1 (List.mem_map.2 ⟨(e.1, e.2.kids), List.mem_map.2 ⟨e, he, rfl⟩, rfl⟩)
        rw [hh] at this; exact this hs
      have := h.held e he
      have := hd e.1 hne
      dsimp only at *
      omega
    · simp at he; subst he
      have := innK_rep h.rep s
      dsimp only at *
      omega
  · rcases List.mem_append.1 he with he | he
    · exact h.few e he
    · simp at he; subst he; exact h3
/-- one is kept no more. -/
theorem SQ.del {S : St} {δ δ' : Nat → Int} {l1 l2 : List (Nat × Inf)} {s : Nat} {x : Inf} (h : SQ S δ (l1 ++ (s, x) :: l2)) (hd : ∀ k, k ≠ s → δ' k = δ k + x.kids.count k) (hd2 : ∀ k, -1000000 ≤ δ' k ∧ δ' k ≤ 1000000) :
    SQ { S with K := upd S.K s none } δ' (l1 ++ l2) := by
  have hkk : kk (l1 ++ (s, x) :: l2) = kk l1 ++ (s, x.kids) :: kk l2 := by simp [kk]
  have hn := kk_nd h.rep
  rw [List.map_append, List.map_cons] at hn
  have hn2 := List.nodup_append.1 hn
  have hn3 := (List.nodup_cons.1 hn2.2.1).1
  have other : ∀ e : Nat × Inf, e ∈ l1 ∨ e ∈ l2 → e.1 ≠ s := fun e he hek => by
    rcases he with he | he
    · exact hn2.2.2 e.1 (List.mem_map.2 ⟨e, he, rfl⟩) s (by simp) hek
    · exact hn3 (hek ▸ List.mem_map.2 ⟨e, he, rfl⟩)
  have hrep := h.rep.del s
  have hnot : s ∉ (kk l1).map Prod.fst := fun hm => by
    obtain ⟨p, hp, hps⟩ := List.mem_map.1 hm
    obtain ⟨e, he, rfl⟩ := List.mem_map.1 hp
    exact other e (.inl he) hps
  rw [hkk, adel_old hnot] at hrep
  have hrep2 : Rep (kk (l1 ++ l2)) (upd S.K s none) := by simpa [kk] using hrep
  have hin : ∀ k, Go.Proofs.YtcnpkmdooekmgaaGreatDoor.inn (kk (l1 ++ (s, x) :: l2)) k = x.kids.count k + Go.Proofs.YtcnpkmdooekmgaaGreatDoor.inn (kk (l1 ++ l2)) k := fun k => by
    rw [hkk, inn_mid]; simp [kk]
  have sub : ∀ e : Nat × Inf, e ∈ l1 ++ l2 → e ∈ l1 ++ (s, x) :: l2 ∧ (e ∈ l1 ∨ e ∈ l2) := fun e he => by
    rcases List.mem_append.1 he with he | he
    · exact ⟨by simp [he], .inl he⟩
    · exact ⟨by simp [he], .inr he⟩
  refine ⟨hrep2, fun e he => h.rng e (sub e he).1, fun e he => ?_, fun e he => h.few e (sub e he).1, h.pos, h.big, h.lim, hd2⟩
  have h1 := h.held e (sub e he).1
  have h2 := hin e.1
  have h3 := hd e.1 (other e (sub e he).2)
  dsimp only at *
  omega
end Go.Proofs.YtcnpkmdooekmgaaGreatDoor
namespace Go.Proofs.YtcnpkmdooekmgaaGreatDoor
open Sl
abbrev St.wf (S : St) : Prop := Kok S.K S.E S.frm S.cnt
/-- a step of a change: at most n nodes are made. -/
structure Chg (S S' : St) (D D' : Dk) (n : Nat) : Prop where
  pd : S'.pd = S.pd
  pl : S'.pl = S.pl
  frm : S'.frm = S.frm
  cnt : S'.cnt = S.cnt
  E : S'.E = S.E
  le : S.g.le S'.g
  ok : S'.wf
  agr : Agr S' D'
  card : card S'.K ≤ card S.K + n
  dle : DLe S.K S.frm S.cnt D D' n
theorem Chg.refl {S : St} {D : Dk} (h : S.wf) (a : Agr S D) (n : Nat) : Chg S S D D n := ⟨rfl, rfl, rfl, rfl, rfl, Gd.le_refl _, h, a, by omega, DLe.refl ..⟩
theorem Chg.none {S S' : St} {D D' : Dk} {n : Nat} (c : Chg S S' D D' n) (s : Nat) (h : S'.K s = none) : S.K s = none := by
  rcases hk : S.K s with _ | ks
  · rfl
  · have := (c.le s ks hk).1
    rw [show S'.K s = S'.g.K s from rfl, this] at h; cases h
theorem Chg.trans {S S' S2 : St} {D D' D2 : Dk} {n m : Nat} (a : Chg S S' D D' n) (b : Chg S' S2 D' D2 m) : Chg S S2 D D2 (n + m) := by
  have hd := b.dle
  rw [a.frm, a.cnt] at hd
  exact ⟨b.pd.trans a.pd, b.pl.trans a.pl, b.frm.trans a.frm, b.cnt.trans a.cnt, b.E.trans a.E, Gd.le_trans a.le b.le, b.ok, b.agr, by have := a.card; have := b.card; omega, a.dle.trans hd a.none⟩
theorem Chg.mono {S S' : St} {D D' : Dk} {n m : Nat} (a : Chg S S' D D' n) (h : n ≤ m) : Chg S S' D D' m :=
  ⟨a.pd, a.pl, a.frm, a.cnt, a.E, a.le, a.ok, a.agr, by have := a.card; omega, a.dle.mono h⟩
/-- how a change ends: well; there was no room; the disk was down. -/
def Er (d : Bool) (S : St) (D : Dk) (e : Nat) : Prop := e = 5 ∧ card S.K = S.cnt ∧ D.down = d ∨ e = 30 ∧ D.down = true
theorem DLe.upb {K : Kp} {f c : Nat} {D D' : Dk} {n : Nat} (h : DLe K f c D D' n) (h1 : D'.down = false) : D'.down = D.down := by
  rcases hd : D.down with _ | _
  · exact h1
  · rw [h.down hd, hd] at h1; cases h1
theorem Er.ne {d : Bool} {S : St} {D : Dk} {e : Nat} (h : Er d S D e) : e ≠ 0 := by rcases h with ⟨rfl, _⟩ | ⟨rfl, _⟩ <;> simp
theorem Er.lt {d : Bool} {S : St} {D : Dk} {e : Nat} (h : Er d S D e) : e = 5 ∨ e = 30 := by rcases h with ⟨rfl, _⟩ | ⟨rfl, _⟩ <;> simp
def Rf0 : Rf := ⟨0, List.replicate 32 0⟩
theorem Rf0_wt : Rf0.wt := ⟨by decide, by simp [Rf0, bytes]⟩
/-- a node is made. -/
structure Made (S : St) (D : Dk) (n : Nd) (r : Rf) (S' : St) (D' : Dk) : Prop where
  new : S.K r.sec = none
  lo : S.frm ≤ r.sec
  hi : r.sec < S.frm + S.cnt
  wt : r.wt
  sum : r.sum = shaM n.enc
  S' : S' = { S with K := upd S.K r.sec (some (n.kids.map (·.sec))), sec := fun s => if s = r.sec then n.enc else S.sec s }
  D' : D' = D.wr r.sec n.enc
  up : D.down = false
  left : ¬ (D.plan = true ∧ D.left = 0)
theorem Made.chg {S S' : St} {D D' : Dk} {n : Nd} {r : Rf} (m : Made S D n r S' D') (h : S.wf) (a : Agr S D) (hk : ∀ k ∈ n.kids, S.K k.sec ≠ Option.none) : Chg S S' D D' 1 := by
  obtain ⟨new, lo, hi, wt, sum, rfl, rfl, up, left⟩ := m
  have hd : DLe S.K S.frm S.cnt D (D.wr r.sec n.enc) 1 := DLe.wr up left new lo hi
  refine ⟨rfl, rfl, rfl, rfl, rfl, fun s ks hs => ?_, ?_, ⟨fun s hs => ?_, ?_, Nat.le_trans hd.left a.left⟩, ?_, hd⟩
  · have : s ≠ r.sec := fun e => by subst e; rw [show S.g.K r.sec = S.K r.sec from rfl, new] at hs; cases hs
    simp only [upd, if_neg this]
    exact ⟨hs, trivial⟩
  · exact h.mk' new lo hi (fun k hk' => by obtain ⟨r', hr, rfl⟩ := List.mem_map.1 hk'; exact hk r' hr)
  · show (D.wr r.sec n.enc).sec s = if s = r.sec then n.enc else S.sec s
    by_cases e : s = r.sec
    · subst e; simp [Dk.sec, Dk.wr, upd]
    · have : S.K s ≠ none := by simpa [upd, e] using hs
      rw [if_neg e, hd.sec this, a.sec s this]
  · have := a.size
    rw [hd.size]; exact this
  · show card (upd S.K r.sec (some (n.kids.map (·.sec)))) ≤ _
    rw [card_set h.fin new]
    exact Nat.le_refl _
theorem Made.down {S S' : St} {D D' : Dk} {n : Nd} {r : Rf} (m : Made S D n r S' D') : D'.down = false := by
  rw [m.D']
  exact (Dk.chg_up m.left).1.trans m.up
theorem Made.sh {S S' : St} {D D' : Dk} {n : Nd} {r : Rf} {lo h : Nat} {kv : KV} {V : List Nat} (m : Made S D n r S' D') (hw : S.wf) (a : Agr S D) (hn : NSh S.g h n kv V) (hs : Srt kv) (hl : 2 ≤ n.keys.length ∨ n.leaf = true ∧ 1 ≤ n.keys.length)
    (hm : n.keys.length ≤ if n.leaf then 9 else 11) (h0 : lo ≤ n.keys.length) (hk : ∀ k ∈ n.kids, S.K k.sec ≠ Option.none) : Sh S'.g lo h r kv (r.sec :: V) := by
  have hn' := nsh_le (m.chg hw a hk).le hn
  obtain ⟨new, l1, h1, wt, sum, rfl, rfl, up, left⟩ := m
  exact sh_of hn' hs hl hm h0 wt (by simp) sum (by simp [upd])
/-- the kids of a node that stands are kept. -/
theorem nsh_kids_kept {g : Gd} {h : Nat} {n : Nd} {kv : KV} {U : List Nat} (hn : NSh g h n kv U) : ∀ k ∈ n.kids, g.K k.sec ≠ none := fun k hk => by
  obtain ⟨ks, e, _⟩ := nsh_known hn _ (nsh_kids hn k hk)
  rw [e]; simp
/- trees that stand on a store -/
structure Tre where
  p : Nat
  rt : Option Rf
  kv : KV
def TOk (g : Gd) (t : Tre) : Prop := match t.rt with
  | none => t.kv = []
  | some r => Srt t.kv ∧ t.kv ≠ [] ∧ ∃ h U, Sh g 1 h r t.kv U
def hd1 (t : Tre) (s : Nat) : Nat := if t.rt.map (·.sec) = some s then 1 else 0
def hold (ts : List Tre) (s : Nat) : Nat := (ts.map fun t => hd1 t s).sum
theorem hold_app (a b : List Tre) (s : Nat) : hold (a ++ b) s = hold a s + hold b s := by simp [hold]
theorem hold_cons (t : Tre) (b : List Tre) (s : Nat) : hold (t :: b) s = hd1 t s + hold b s := by simp [hold]
theorem hold_mid (a b : List Tre) (t : Tre) (s : Nat) : hold (a ++ t :: b) s = hd1 t s + hold (a ++ b) s := by rw [hold_app, hold_app, hold_cons]; omega
theorem hold_le (s : Nat) : ∀ ts : List Tre, hold ts s ≤ ts.length
  | [] => by simp [hold]
  | t :: ts => by
    have := hold_le s ts
    have h1 : hd1 t s ≤ 1 := by unfold hd1; split <;> omega
    rw [hold_cons, List.length_cons]; omega
theorem hold_pos {s : Nat} : ∀ {ts : List Tre}, 0 < hold ts s → ∃ t ∈ ts, ∃ r, t.rt = some r ∧ r.sec = s
  | [], h => by simp [hold] at h
  | t :: ts, h => by
    rw [hold_cons] at h
    rcases Nat.eq_zero_or_pos (hd1 t s) with h0 | h0
    · obtain ⟨t', ht, r⟩ := hold_pos (s := s) (ts := ts) (by omega)
      exact ⟨t', by simp [ht], r⟩
    · unfold hd1 at h0
      split at h0
      · rename_i e
        rcases hr : t.rt with _ | r
        · rw [hr] at e; cases e
        · rw [hr] at e; exact ⟨t, by simp, r, hr, by simpa using e⟩
      · omega
theorem hold_at {t : Tre} {r : Rf} {ts : List Tre} (ht : t ∈ ts) (hr : t.rt = some r) : 0 < hold ts r.sec := by
  obtain ⟨a, b, rfl⟩ := List.append_of_mem ht
  rw [hold_mid]
  have : hd1 t r.sec = 1 := by simp [hd1, hr]
  omega
structure TsOk (S : St) (ts : List Tre) : Prop where
  E : ∀ s, S.E s = hold ts s
  ok : S.wf
  tight : Tight S.K S.E
  each : ∀ t ∈ ts, TOk S.g t
theorem TOk.sh {g : Gd} {t : Tre} {r : Rf} (h : TOk g t) (hr : t.rt = some r) : Srt t.kv ∧ t.kv ≠ [] ∧ ∃ h U, Sh g 1 h r t.kv U := by
  unfold TOk at h; rw [hr] at h; exact h
theorem TOk.nil {g : Gd} {t : Tre} (h : TOk g t) (hr : t.rt = none) : t.kv = [] := by
  unfold TOk at h; rw [hr] at h; exact h
theorem TOk.srt {g : Gd} {t : Tre} (h : TOk g t) : Srt t.kv := by
  rcases hr : t.rt with _ | r
  · rw [h.nil hr]; exact List.Pairwise.nil
  · exact (h.sh hr).1
theorem TOk.kvok {g : Gd} {t : Tre} (h : TOk g t) : KVok t.kv := by
  rcases hr : t.rt with _ | r
  · rw [h.nil hr]; exact fun x hx => by cases hx
  · obtain ⟨_, _, hh, U, h1, m, V, h2, _⟩ := h.sh hr
    exact nsh_ok h2
theorem TOk.has {g : Gd} {t : Tre} (h : TOk g t) : t.rt.isSome = true ↔ t.kv ≠ [] := by
  rcases hr : t.rt with _ | r
  · simp [h.nil hr]
  · simp [(h.sh hr).2.1]
/-- how many nodes a tree has, at most. -/
theorem TOk.nodes {g : Gd} {t : Tre} (h : TOk g t) : ∃ U : List Nat, 3 * U.length ≤ t.kv.length + 2 ∧ (∀ r, t.rt = some r → r.sec ∈ U) ∧ ∀ s ∈ U, ∃ ks, g.K s = some ks ∧ ∀ k ∈ ks, k ∈ U := by
  rcases hr : t.rt with _ | r
  · exact ⟨[], by simp, by simp, by simp⟩
  · obtain ⟨_, _, hh, U, hs⟩ := h.sh hr
    have := (sh_size hs).1
    exact ⟨U, by omega, fun r' e => by cases e; exact sh_root hs, sh_known hs⟩
theorem TsOk.used {S : St} {ts : List Tre} (h : TsOk S ts) : 3 * card S.K ≤ (ts.map fun t => t.kv.length + 2).sum := by
  have key : ∀ l : List Tre, (∀ t ∈ l, t ∈ ts) → ∃ W : List Nat, 3 * W.length ≤ (l.map fun t => t.kv.length + 2).sum ∧ (∀ t ∈ l, ∀ r, t.rt = some r → r.sec ∈ W) ∧ ∀ s ∈ W, ∀ ks, S.K s = some ks → ∀ k ∈ ks, k ∈ W := by
    intro l
    induction l with
    | nil => intro _; exact ⟨[], by simp, by simp, by simp⟩
    | cons t l ih =>
      intro hl
      obtain ⟨W, w1, w2, w3⟩ := ih (fun x hx => hl x (by simp [hx]))
      obtain ⟨U, u1, u2, u3⟩ := (h.each t (hl t (by simp))).nodes
      refine ⟨U ++ W, ?_, fun x hx r hr => ?_, fun s hs ks hk k hk' => ?_⟩
      · simp only [List.length_append, List.map_cons, List.sum_cons]; omega
      · rcases List.mem_cons.1 hx with rfl | hx
        · exact List.mem_append.2 (.inl (u2 r hr))
        · exact List.mem_append.2 (.inr (w2 x hx r hr))
      · rcases List.mem_append.1 hs with hs | hs
        · obtain ⟨ks', e, hh⟩ := u3 s hs
          rw [show S.g.K s = S.K s from rfl, hk] at e
          obtain rfl := Option.some.inj e
          exact List.mem_append.2 (.inl (hh k hk'))
        · exact List.mem_append.2 (.inr (w3 s hs ks hk k hk'))
  obtain ⟨W, w1, w2, w3⟩ := key ts (fun _ h => h)
  have := card_cover h.ok.fin (U := W) (cover h.ok h.tight (· ∈ W) (fun s hs => by
    rw [h.E] at hs
    obtain ⟨t, ht, r, hr, rfl⟩ := hold_pos hs
    exact w2 t ht r hr) (fun s ks hs hk k hk' => w3 s hs ks hk k hk'))
  omega
/-- the trees whose roots are held stand when what is loose was freed. -/
theorem TOk.less {g : Gd} {E : Nat → Nat} {K' : Kp} {t : Tre} (h : TOk g t) (l : Less g.K E K') (hE : ∀ r, t.rt = some r → 0 < E r.sec) : TOk { g with K := K' } t := by
  rcases hr : t.rt with _ | r
  · unfold TOk; rw [hr]; exact h.nil hr
  · obtain ⟨h1, h2, hh, U, hs⟩ := h.sh hr
    unfold TOk; rw [hr]
    refine ⟨h1, h2, hh, U, ?_⟩
    have h0 : K' r.sec ≠ none := by
      rw [l.keep _ (hE r hr)]
      obtain ⟨ks, hk, _⟩ := sh_known hs _ (sh_root hs)
      rw [hk]; simp
    have := sh_kept l.sub l.closed hs h0
    exact sh_mono (g := g) (g' := { g with K := K' }) (fun s hU => ⟨rfl, this s hU⟩) hs
theorem TOk.le {g g' : Gd} {t : Tre} (h : TOk g t) (l : g.le g') : TOk g' t := by
  rcases hr : t.rt with _ | r
  · unfold TOk; rw [hr]; exact h.nil hr
  · obtain ⟨h1, h2, hh, U, hs⟩ := h.sh hr
    unfold TOk; rw [hr]
    exact ⟨h1, h2, hh, U, sh_le l hs⟩
end Go.Proofs.YtcnpkmdooekmgaaGreatDoor
namespace Go.Proofs.YtcnpkmdooekmgaaGreatDoor
open Go Sl
/-- where a node's rows stand. -/
structure NR where
  (ka : Option Addr) (kc : Nat) (va : Option Addr) (vc : Nat) (ra : Option Addr) (rc : Nat)
abbrev rcells (r : Rf) : List Value := kU r.sec :: r.sum.map u8
abbrev nbx (n : Nd) (x : NR) : List Value := [.bool n.leaf, .slice x.ka n.keys.length x.kc, .slice x.va n.vals.length x.vc, .slice x.ra n.kids.length x.rc]
abbrev nV (n : Nd) (x : NR) : Value := .agg (nbx n x).toArray
abbrev keysA (n : Nd) (x : NR) : Assn := isl x.ka n.keys.length x.kc T.uint64 1 (n.keys.map w64)
abbrev valsA (n : Nd) (x : NR) : Assn := isl x.va n.vals.length x.vc T.a44_uint8 44 (n.vals.flatMap fun v => v.map u8)
abbrev kidsA (n : Nd) (x : NR) : Assn := isl x.ra n.kids.length x.rc T.api_Ref 33 (n.kids.flatMap rcells)
/-- a node's rows, which nobody turns. -/
def node (n : Nd) (x : NR) : Assn := im' (fun im => (keysA n x).sat im Hp.emp ∧ (valsA n x).sat im Hp.emp ∧ (kidsA n x).sat im Hp.emp) (fun hm h => ⟨(keysA n x).mono hm h.1, (valsA n x).mono hm h.2.1, (kidsA n x).mono hm h.2.2⟩)
instance (n : Nd) (x : NR) : Pers (node n x) := ⟨fun _ _ h => h⟩
theorem Ent.node {n : Nd} {x : NR} (L : List Assn) : Ent (keysA n x :: valsA n x :: kidsA n x :: L) (Go.Proofs.YtcnpkmdooekmgaaGreatDoor.node n x :: L) := by
  rintro im h ⟨a1, a2, e1, e2, e3, hb, b1, b2, f1, f2, f3, hc, c1, c2, g1, g2, g3, hd, s⟩
  exact ⟨Hp.emp, h, Hp.emp_le _, Hp.le_refl _, Hp.emp_dis _, ⟨hb, hc, hd⟩, satL_mono (Hp.le_refl _) (Hp.le_trans g2 (Hp.le_trans f2 e2)) s⟩
theorem Ent.unnode {n : Nd} {x : NR} (L : List Assn) : Ent (Go.Proofs.YtcnpkmdooekmgaaGreatDoor.node n x :: L) (keysA n x :: valsA n x :: kidsA n x :: Go.Proofs.YtcnpkmdooekmgaaGreatDoor.node n x :: L) := by
  rintro im h ⟨a1, a2, e1, e2, e3, ⟨hb, hc, hd⟩, s⟩
  exact ⟨Hp.emp, h, Hp.emp_le _, Hp.le_refl _, Hp.emp_dis _, hb, Hp.emp, h, Hp.emp_le _, Hp.le_refl _, Hp.emp_dis _, hc, Hp.emp, h, Hp.emp_le _, Hp.le_refl _, Hp.emp_dis _, hd, a1, a2, e1, e2, e3, ⟨hb, hc, hd⟩, s⟩
/-- how many keys are smaller. -/
def below (ks : List Nat) (k : Nat) : Nat := ks.countP (· < k)
theorem below_at {ks : List Nat} (hr : ks.Pairwise (· < ·)) {k lo : Nat} (hlo : lo ≤ ks.length) (h1 : ∀ j x, j < lo → ks[j]? = some x → x < k) (h2 : ∀ j x, lo ≤ j → ks[j]? = some x → k ≤ x) :
    below ks k = lo ∧ (k ∈ ks ↔ ks[lo]? = some k) := by
  constructor
  · have e : ks = ks.take lo ++ ks.drop lo := (List.take_append_drop lo ks).symm
    unfold below
    rw [e, List.countP_append, List.countP_eq_length.2, List.countP_eq_zero.2]
    · simp; omega
    · intro x hx
      obtain ⟨j, hj⟩ := List.mem_iff_getElem?.1 hx
      rw [List.getElem?_drop] at hj
      have := h2 _ x (by omega) hj
      simp; omega
    · intro x hx
      obtain ⟨j, hj⟩ := List.mem_iff_getElem?.1 hx
      rw [List.getElem?_take] at hj
      split at hj
      · have := h1 j x (by assumption) hj; simpa using this
      · cases hj
  · constructor
    · intro hk
      obtain ⟨j, hj⟩ := List.mem_iff_getElem?.1 hk
      have hjl : lo ≤ j := by
        apply Nat.le_of_not_lt; intro h
        have := h1 j k h hj; omega
      have hjlt := (List.getElem?_eq_some_iff.1 hj).1
      have hx : ks[lo]? = some ks[lo] := List.getElem?_eq_getElem (by omega)
      have h3 := h2 lo _ (Nat.le_refl _) hx
      by_cases he : lo = j
      · rw [he]; exact hj
      · have := (List.pairwise_iff_getElem.1 hr) lo j (by omega) hjlt (by omega)
        obtain ⟨_, hj2⟩ := List.getElem?_eq_some_iff.1 hj
        omega
    · intro h; exact List.mem_of_getElem? h
attribute [local irreducible] cw sw J Exit.then Exit.inBlock Exit.noGoto bodyPost swG swL permL
theorem find_c (n : Nd) (x : NR) (k : Nat) (hr : n.keys.Pairwise (· < ·)) (hl : n.keys.length ≤ 1000000) (Φ : Base) :
    Sl.Fn Tryz.prog Φ F.node_Find [nV n x, w64 k] [node n x] (fun _ : Unit => True) (fun _ => .tuple #[i64 (below n.keys k), .bool (decide (k ∈ n.keys))]) (fun _ => []) := by
  refine fo fun F => ?_
  repeat refine s1 ?_
  refine r_box (cs := nbx n x) rfl rfl rfl rfl (fun t2 => ?_)
  refine j_head (node n x) (j_ent (Ent.unnode _) ?_)
  repeat refine s1 ?_
  refine t_loop (σ := Nat × Nat) (fun s => [(6, i64 s.1), (7, i64 s.2), (2, ptr t2), (1, w64 k)]) (fun _ => [keysA n x, pt t2 (.cells (nbx n x).toArray T.node_Node (0, 0))] ++ F)
    (fun s => s.1 ≤ s.2 ∧ s.2 ≤ n.keys.length ∧ (∀ j y, j < s.1 → n.keys[j]? = some y → y < k) ∧ (∀ j y, s.2 ≤ j → n.keys[j]? = some y → k ≤ y)) (fun s => s.2 - s.1)
    (0, n.keys.length) ⟨Nat.zero_le _, Nat.le_refl _, fun j y h => by simp at h, fun j y h1 h2 => by have := (List.getElem?_eq_some_iff.1 h2).1; simp at h1; omega⟩ ⟨rfl, rfl, rfl, rfl, trivial⟩ (by dsimp only [List.cons_append, List.nil_append]; exact Le.ent) ?_
  rintro ⟨lo, hi⟩ ⟨h1, h2, h3, h4⟩
  dsimp only [List.cons_append, List.nil_append] at *
  refine j_leni (fun _ hc ha => ?_)
  have fin : ∀ lo', lo' ≤ n.keys.length → (∀ j y, j < lo' → n.keys[j]? = some y → y < k) → (∀ j y, lo' ≤ j → n.keys[j]? = some y → k ≤ y) → below n.keys k = lo' ∧ (k ∈ n.keys ↔ n.keys[lo']? = some k) := fun lo' a b c => below_at hr a b c
  repeat refine s1 ?_
  refine r_icmp rfl rfl rfl rfl ?_
  repeat refine s1 ?_
  refine t_condS rfl (fun hlt => ?_) (fun hlt => ?_)
  · obtain ⟨b, off, hab⟩ := ha (by omega)
    obtain ⟨ka, kc, va, vc, ra, rc⟩ := x
    dsimp only at *
    subst hab
    have hm : (lo + hi) / 2 < n.keys.length := by omega
    generalize hmid : (lo + hi) / 2 = mid at *
    have hx : n.keys[mid]? = some n.keys[mid] := List.getElem?_eq_getElem hm
    repeat refine s1 ?_
    refine r_addN (m := lo) (n := hi) rfl rfl (by omega) rfl ?_
    refine r_quoN (m := lo + hi) (n := 2) rfl rfl (by omega) (by rw [i64_nat (by omega)]) rfl ?_
    rw [hmid]
    repeat refine s1 ?_
    refine ix rfl rfl hm ?_
    refine r_loadI (n := n.keys.length) (cap := kc) (E := T.uint64) (s := 1) (xs := n.keys.map w64) (off := off) rfl (j := mid) (v := w64 n.keys[mid]) (by omega) (by rw [List.getElem?_map, hx]; rfl) rfl rfl ?_
    generalize hy : n.keys[mid] = y at *
    have e0 : n.keys[mid] = y ∧ n.keys[mid]? = some y := ⟨hy, by rw [hx]⟩
    have lt : ∀ j z, j < mid → n.keys[j]? = some z → z < y := fun j z hj hz => by
      obtain ⟨hjl, rfl⟩ := List.getElem?_eq_some_iff.1 hz
      have := (List.pairwise_iff_getElem.1 hr) j mid hjl hm hj
      omega
    have gt : ∀ j z, mid ≤ j → n.keys[j]? = some z → y ≤ z := fun j z hj hz => by
      obtain ⟨hjl, rfl⟩ := List.getElem?_eq_some_iff.1 hz
      by_cases hjm : j = mid
      · subst hjm; omega
      · have := (List.pairwise_iff_getElem.1 hr) mid j hm hjl (by omega)
        omega
    repeat' (first | refine r_nil ?_ | (refine k_move ?_; refine r_move rfl rfl ?_) | (refine k_assign ?_; refine r_assign rfl rfl ?_) | (refine k_nck ?_; first | refine r_nck rfl rfl ?_ | refine r_nckf rfl rfl ?_) | (refine k_fld ?_; first | refine r_fld0 rfl rfl ?_ | refine r_fld rfl rfl ?_) | (refine k_load ?_; first | refine r_load1L rfl rfl rfl ?_ | refine s_load1L rfl rfl rfl ?_ | refine r_load1 rfl rfl rfl rfl ?_ | refine r_loadW rfl rfl rfl rfl ?_ | refine s_loadW rfl rfl rfl rfl ?_) | (refine k_ext ?_; first | refine r_extL rfl rfl ?_ | refine r_ext rfl rfl rfl ?_) | (refine k_len ?_; refine r_lenS rfl rfl ?_) | (refine k_un ?_; first | refine r_notT rfl (by with_reducible rfl) rfl ?_ | refine r_notF rfl (by with_reducible rfl) rfl ?_ | refine r_not rfl rfl ?_) | (refine k_sl0 ?_; refine r_sliceA rfl (by decide) rfl ?_) | (refine k_conv ?_; refine r_conv rfl rfl ?_) | (refine k_pick ?_; first | refine r_pickT rfl (by with_reducible rfl) rfl rfl ?_ | refine r_pickF rfl (by with_reducible rfl) rfl rfl ?_) | (refine k_inc ?_; refine r_inc rfl (by omega) rfl ?_) | (refine k_bin ?_; first | refine r_icmpT rfl rfl rfl rfl ?_ | refine r_icmpF rfl rfl rfl rfl ?_ | refine r_icmp rfl rfl rfl rfl ?_) | (refine k_eql ?_; first | refine r_peqS rfl rfl rfl ?_ | refine r_peqN rfl rfl rfl ?_ | refine r_meqS rfl rfl rfl ?_ | refine r_meqN rfl rfl rfl ?_ | refine r_peq rfl rfl rfl ?_) | (refine k_neq ?_; first | refine r_pneS rfl rfl rfl ?_ | refine r_pneN rfl rfl rfl ?_ | refine r_mneS rfl rfl rfl ?_ | refine r_mneN rfl rfl rfl ?_ | refine r_pne rfl rfl rfl ?_) | (refine g_mark ?_; first | refine gg_pass rfl rfl (by with_reducible rfl) ?_ | refine gg_skipT rfl rfl (by with_reducible rfl) (blt_any rfl) ?_ | refine gg_skipF rfl rfl (by with_reducible rfl) (blt_any rfl) ?_ | refine gg_skipU rfl rfl (by with_reducible rfl) (blt_any rfl) ?_ | refine gg_splitD rfl rfl (fun _ => ?_) (fun _ => ?_) | refine gg_splitN rfl rfl (fun _ => ?_) (fun _ => ?_) | refine gg_split rfl rfl (fun _ => ?_) (fun _ => ?_)) | refine t_seq ?_ | refine t_perm rfl ?_ | refine t_permE ?_ | refine j_then ?_ | refine t_region ?_ | refine t_draw [] [] mixed (by decide +kernel) ?_ | (refine k_cond ?_; first | refine t_condT rfl (by with_reducible rfl) ?_ | refine t_condF rfl (by with_reducible rfl) ?_ | refine t_condS rfl (fun _ => ?_) (fun _ => ?_) | refine t_condSN rfl (fun _ => ?_) (fun _ => ?_) | refine t_condSB rfl (fun _ => ?_) (fun _ => ?_)) | refine t_block ?_ | refine j_in ?_ | refine t_skip ?_ | refine t_ret ?_ | refine j_then_ret ?_ | refine j_in_ret ?_ | refine t_exit ?_ | refine j_then_exit ?_ | refine j_in_exit ?_ | refine j_in_other rfl ?_ | refine t_scope ?_ | refine t_label ?_ | refine j_ng ?_ | refine j_ng_ret ?_ | refine j_ng_exit ?_)
    · rename_i hyk _
      obtain ⟨e1, e2⟩ := fin mid (by omega) (fun j z a b => by have := lt j z a b; omega) (fun j z a b => by have := gt j z a b; omega)
      refine ix rfl rfl hm ?_
      repeat refine s1 ?_
      refine r_loadI (n := n.keys.length) (cap := kc) (E := T.uint64) (s := 1) (xs := n.keys.map w64) (off := off) rfl (j := mid) (v := w64 y) (by omega) (by rw [List.getElem?_map, e0.2]; rfl) rfl rfl ?_
      repeat refine s1 ?_
      refine r_icmp rfl rfl rfl rfl ?_
      repeat refine s1 ?_
      exact f2 () (hV := by rw [e1, show decide (k ∈ n.keys) = decide ((y : Int) = (k : Int)) by rw [decide_eq_decide, e2, e0.2]; simp; omega])
    · omega
    · rename_i h5 h6
      exact j_again (mid + 1, hi) ⟨by show mid + 1 ≤ hi; omega, h2, fun j z a b => by
        by_cases hj : j = mid
        · subst hj; rw [e0.2] at b; cases b; omega
        · have := lt j z (by show j < mid; simp at a; omega) b; omega, h4⟩ (by show hi - (mid + 1) < hi - lo; omega) ⟨rfl, rfl, rfl, rfl, trivial⟩ (Ent.refl _)
    · rename_i h5 h6
      exact j_again (lo, mid) ⟨by show lo ≤ mid; omega, by show mid ≤ _; omega, h3, fun j z a b => by have := gt j z a b; omega⟩ (by show mid - lo < hi - lo; omega) ⟨rfl, rfl, rfl, rfl, trivial⟩ (Ent.refl _)
  · have ehl : hi = lo := by omega
    subst ehl
    obtain ⟨e1, e2⟩ := fin hi h2 h3 h4
    repeat' (first | refine r_nil ?_ | (refine k_move ?_; refine r_move rfl rfl ?_) | (refine k_assign ?_; refine r_assign rfl rfl ?_) | (refine k_nck ?_; first | refine r_nck rfl rfl ?_ | refine r_nckf rfl rfl ?_) | (refine k_fld ?_; first | refine r_fld0 rfl rfl ?_ | refine r_fld rfl rfl ?_) | (refine k_load ?_; first | refine r_load1L rfl rfl rfl ?_ | refine s_load1L rfl rfl rfl ?_ | refine r_load1 rfl rfl rfl rfl ?_ | refine r_loadW rfl rfl rfl rfl ?_ | refine s_loadW rfl rfl rfl rfl ?_) | (refine k_ext ?_; first | refine r_extL rfl rfl ?_ | refine r_ext rfl rfl rfl ?_) | (refine k_len ?_; refine r_lenS rfl rfl ?_) | (refine k_un ?_; first | refine r_notT rfl (by with_reducible rfl) rfl ?_ | refine r_notF rfl (by with_reducible rfl) rfl ?_ | refine r_not rfl rfl ?_) | (refine k_sl0 ?_; refine r_sliceA rfl (by decide) rfl ?_) | (refine k_conv ?_; refine r_conv rfl rfl ?_) | (refine k_pick ?_; first | refine r_pickT rfl (by with_reducible rfl) rfl rfl ?_ | refine r_pickF rfl (by with_reducible rfl) rfl rfl ?_) | (refine k_inc ?_; refine r_inc rfl (by omega) rfl ?_) | (refine k_bin ?_; first | refine r_icmpT rfl rfl rfl rfl ?_ | refine r_icmpF rfl rfl rfl rfl ?_ | refine r_icmp rfl rfl rfl rfl ?_) | (refine k_eql ?_; first | refine r_peqS rfl rfl rfl ?_ | refine r_peqN rfl rfl rfl ?_ | refine r_meqS rfl rfl rfl ?_ | refine r_meqN rfl rfl rfl ?_ | refine r_peq rfl rfl rfl ?_) | (refine k_neq ?_; first | refine r_pneS rfl rfl rfl ?_ | refine r_pneN rfl rfl rfl ?_ | refine r_mneS rfl rfl rfl ?_ | refine r_mneN rfl rfl rfl ?_ | refine r_pne rfl rfl rfl ?_) | (refine g_mark ?_; first | refine gg_pass rfl rfl (by with_reducible rfl) ?_ | refine gg_skipT rfl rfl (by with_reducible rfl) (blt_any rfl) ?_ | refine gg_skipF rfl rfl (by with_reducible rfl) (blt_any rfl) ?_ | refine gg_skipU rfl rfl (by with_reducible rfl) (blt_any rfl) ?_ | refine gg_splitD rfl rfl (fun _ => ?_) (fun _ => ?_) | refine gg_splitN rfl rfl (fun _ => ?_) (fun _ => ?_) | refine gg_split rfl rfl (fun _ => ?_) (fun _ => ?_)) | refine t_seq ?_ | refine t_perm rfl ?_ | refine t_permE ?_ | refine j_then ?_ | refine t_region ?_ | refine t_draw [] [] mixed (by decide +kernel) ?_ | (refine k_cond ?_; first | refine t_condT rfl (by with_reducible rfl) ?_ | refine t_condF rfl (by with_reducible rfl) ?_ | refine t_condS rfl (fun _ => ?_) (fun _ => ?_) | refine t_condSN rfl (fun _ => ?_) (fun _ => ?_) | refine t_condSB rfl (fun _ => ?_) (fun _ => ?_)) | refine t_block ?_ | refine j_in ?_ | refine t_skip ?_ | refine t_ret ?_ | refine j_then_ret ?_ | refine j_in_ret ?_ | refine t_exit ?_ | refine j_then_exit ?_ | refine j_in_exit ?_ | refine j_in_other rfl ?_ | refine t_scope ?_ | refine t_label ?_ | refine j_ng ?_ | refine j_ng_ret ?_ | refine j_ng_exit ?_)
    · rename_i h5
      have hm : hi < n.keys.length := by omega
      obtain ⟨b, off, hab⟩ := ha (by omega)
      obtain ⟨ka, kc, va, vc, ra, rc⟩ := x
      dsimp only at *
      subst hab
      have hx : n.keys[hi]? = some n.keys[hi] := List.getElem?_eq_getElem hm
      refine ix rfl rfl hm ?_
      repeat refine s1 ?_
      refine r_loadI (n := n.keys.length) (cap := kc) (E := T.uint64) (s := 1) (xs := n.keys.map w64) (off := off) rfl (j := hi) (v := w64 n.keys[hi]) (by omega) (by rw [List.getElem?_map, hx]; rfl) rfl rfl ?_
      repeat refine s1 ?_
      refine r_icmp rfl rfl rfl rfl ?_
      repeat refine s1 ?_
      exact f2 () (hV := by rw [e1, show decide (k ∈ n.keys) = decide ((n.keys[hi] : Int) = (k : Int)) by rw [decide_eq_decide, e2, hx]; simp; omega])
    · rename_i h5
      exact f2 () (hV := by rw [e1, show decide (k ∈ n.keys) = false by rw [decide_eq_false_iff_not, e2, List.getElem?_eq_none (by omega)]; simp])
theorem way_c (n : Nd) (x : NR) (k : Nat) (hr : n.keys.Pairwise (· < ·)) (hl : n.keys.length ≤ 1000000) (Φ : Base) :
    Sl.Fn Tryz.prog Φ F.node_Way [nV n x, w64 k] [node n x] (fun _ : Unit => True) (fun _ => i64 (way n.keys k)) (fun _ => []) := by
  have hw : (way n.keys k : Int) = max (if k ∈ n.keys then (below n.keys k : Int) else (below n.keys k : Int) - 1) 0 := by
    have e : n.keys.countP (· ≤ k) = below n.keys k + if k ∈ n.keys then 1 else 0 := by
      generalize n.keys = ks at hr
      induction ks with
      | nil => rfl
      | cons a ks ih =>
        obtain ⟨h1, h2⟩ := List.pairwise_cons.1 hr
        have ih := ih h2
        unfold below at ih ⊢
        rw [List.countP_cons, List.countP_cons, ih]
        by_cases hak : k = a
        · subst hak
          have : k ∉ ks := fun hm => by have := h1 k hm; omega
          simp [this]
        · simp only [List.mem_cons, hak, false_or]
          by_cases hlt : a < k
          · simp [hlt, Nat.le_of_lt hlt]; omega
          · simp [hlt, show ¬ a ≤ k by omega]
    unfold way
    rw [e]
    split <;> omega
  refine fo fun F => ?_
  repeat refine s1 ?_
  refine r_box (cs := nbx n x) rfl rfl rfl rfl (fun t2 => ?_)
  repeat refine s1 ?_
  refine cl (find_c n x k hr hl Φ) ?_
  have hb : below n.keys k ≤ n.keys.length := List.countP_le_length
  by_cases hk : k ∈ n.keys
  · rw [decide_eq_true hk]
    rw [if_pos hk] at hw
    repeat refine s2 ?_
    refine r_max rfl rfl rfl ?_
    repeat refine s1 ?_
    exact f1 () (hV := by show Value.int .i64 (way n.keys k : Int) = _; rw [hw])
  · rw [decide_eq_false hk]
    rw [if_neg hk] at hw
    repeat refine s2 ?_
    refine r_subI (m := (below n.keys k : Int)) (n := 1) rfl rfl (by omega) rfl ?_
    repeat refine s1 ?_
    refine r_max rfl rfl rfl ?_
    repeat refine s1 ?_
    exact f1 () (hV := by show Value.int .i64 (way n.keys k : Int) = _; rw [hw])
theorem whole_c (n : Nd) (x : NR) (hw : if n.leaf then n.vals.length = n.keys.length else n.kids.length = n.keys.length) (Φ : Base) :
    Sl.Fn Tryz.prog Φ F.node_whole [nV n x] [] (fun _ : Unit => True) (fun _ => .bool true) (fun _ => []) := by
  refine fo fun F => ?_
  repeat refine s1 ?_
  refine r_box (cs := nbx n x) rfl rfl rfl rfl (fun t2 => ?_)
  repeat refine s1 ?_
  rcases hl : n.leaf with _ | _
  all_goals
    rw [hl] at hw
    simp only [if_true, if_false, Bool.false_eq_true] at hw
    repeat refine s2 ?_
    refine r_icmp rfl rfl rfl rfl ?_
    repeat refine s1 ?_
    exact f1 () (hV := by simp [hw])
theorem rise_c (a : Option Addr) (c : Nat) (ks : List Nat) (hr : ks.Pairwise (· < ·)) (hl : ks.length ≤ 1000000) (Φ : Base) :
    Sl.Fn Tryz.prog Φ F.node_rise [.slice a ks.length c] [isl a ks.length c T.uint64 1 (ks.map w64)] (fun _ : Unit => True) (fun _ => .bool true) (fun _ => []) := by
  refine fo fun F => ?_
  refine j_leni (fun _ hc ha => ?_)
  repeat refine s1 ?_
  refine t_loop (σ := Nat) (fun i => [(3, i64 i), (0, .slice a ks.length c)]) (fun _ => [isl a ks.length c T.uint64 1 (ks.map w64)] ++ F) (fun i => 1 ≤ i ∧ (i ≤ ks.length ∨ i = 1)) (fun i => ks.length - i) 1 ⟨Nat.le_refl _, .inr rfl⟩ ⟨rfl, rfl, trivial⟩ (Ent.refl _) ?_
  intro i hi
  dsimp only [List.cons_append, List.nil_append]
  repeat refine s1 ?_
  refine r_icmp rfl rfl rfl rfl ?_
  repeat refine s1 ?_
  refine t_condS rfl (fun hlt => ?_) (fun hlt => ?_)
  · obtain ⟨b, off, hab⟩ := ha (by omega)
    subst hab
    have hx : ks[i - 1]? = some ks[i - 1] := List.getElem?_eq_getElem (by omega)
    have hy : ks[i]? = some ks[i] := List.getElem?_eq_getElem (by omega)
    have hlt2 := (List.pairwise_iff_getElem.1 hr) (i - 1) i (by omega) (by omega) (by omega)
    repeat refine s1 ?_
    refine r_subN (m := i) (n := 1) rfl rfl (by omega) (by omega) rfl ?_
    refine ix rfl rfl (by omega) ?_
    refine r_loadI (n := ks.length) (cap := c) (E := T.uint64) (s := 1) (xs := ks.map w64) (off := off) rfl (j := i - 1) (v := w64 ks[i - 1]) (by omega) (by rw [List.getElem?_map, hx]; rfl) rfl rfl ?_
    repeat refine s1 ?_
    refine ix rfl rfl (by omega) ?_
    refine r_loadI (n := ks.length) (cap := c) (E := T.uint64) (s := 1) (xs := ks.map w64) (off := off) rfl (j := i) (v := w64 ks[i]) (by omega) (by rw [List.getElem?_map, hy]; rfl) rfl rfl ?_
    repeat' (first | refine r_nil ?_ | (refine k_move ?_; refine r_move rfl rfl ?_) | (refine k_assign ?_; refine r_assign rfl rfl ?_) | (refine k_nck ?_; first | refine r_nck rfl rfl ?_ | refine r_nckf rfl rfl ?_) | (refine k_fld ?_; first | refine r_fld0 rfl rfl ?_ | refine r_fld rfl rfl ?_) | (refine k_load ?_; first | refine r_load1L rfl rfl rfl ?_ | refine s_load1L rfl rfl rfl ?_ | refine r_load1 rfl rfl rfl rfl ?_ | refine r_loadW rfl rfl rfl rfl ?_ | refine s_loadW rfl rfl rfl rfl ?_) | (refine k_ext ?_; first | refine r_extL rfl rfl ?_ | refine r_ext rfl rfl rfl ?_) | (refine k_len ?_; refine r_lenS rfl rfl ?_) | (refine k_un ?_; first | refine r_notT rfl (by with_reducible rfl) rfl ?_ | refine r_notF rfl (by with_reducible rfl) rfl ?_ | refine r_not rfl rfl ?_) | (refine k_sl0 ?_; refine r_sliceA rfl (by decide) rfl ?_) | (refine k_conv ?_; refine r_conv rfl rfl ?_) | (refine k_pick ?_; first | refine r_pickT rfl (by with_reducible rfl) rfl rfl ?_ | refine r_pickF rfl (by with_reducible rfl) rfl rfl ?_) | (refine k_inc ?_; refine r_inc rfl (by omega) rfl ?_) | (refine k_bin ?_; first | refine r_icmpT rfl rfl rfl rfl ?_ | refine r_icmpF rfl rfl rfl rfl ?_ | refine r_icmp rfl rfl rfl rfl ?_) | (refine k_eql ?_; first | refine r_peqS rfl rfl rfl ?_ | refine r_peqN rfl rfl rfl ?_ | refine r_meqS rfl rfl rfl ?_ | refine r_meqN rfl rfl rfl ?_ | refine r_peq rfl rfl rfl ?_) | (refine k_neq ?_; first | refine r_pneS rfl rfl rfl ?_ | refine r_pneN rfl rfl rfl ?_ | refine r_mneS rfl rfl rfl ?_ | refine r_mneN rfl rfl rfl ?_ | refine r_pne rfl rfl rfl ?_) | (refine g_mark ?_; first | refine gg_pass rfl rfl (by with_reducible rfl) ?_ | refine gg_skipT rfl rfl (by with_reducible rfl) (blt_any rfl) ?_ | refine gg_skipF rfl rfl (by with_reducible rfl) (blt_any rfl) ?_ | refine gg_skipU rfl rfl (by with_reducible rfl) (blt_any rfl) ?_ | refine gg_splitD rfl rfl (fun _ => ?_) (fun _ => ?_) | refine gg_splitN rfl rfl (fun _ => ?_) (fun _ => ?_) | refine gg_split rfl rfl (fun _ => ?_) (fun _ => ?_)) | refine t_seq ?_ | refine t_perm rfl ?_ | refine t_permE ?_ | refine j_then ?_ | refine t_region ?_ | refine t_draw [] [] mixed (by decide +kernel) ?_ | (refine k_cond ?_; first | refine t_condT rfl (by with_reducible rfl) ?_ | refine t_condF rfl (by with_reducible rfl) ?_ | refine t_condS rfl (fun _ => ?_) (fun _ => ?_) | refine t_condSN rfl (fun _ => ?_) (fun _ => ?_) | refine t_condSB rfl (fun _ => ?_) (fun _ => ?_)) | refine t_block ?_ | refine j_in ?_ | refine t_skip ?_ | refine t_ret ?_ | refine j_then_ret ?_ | refine j_in_ret ?_ | refine t_exit ?_ | refine j_then_exit ?_ | refine j_in_exit ?_ | refine j_in_other rfl ?_ | refine t_scope ?_ | refine t_label ?_ | refine j_ng ?_ | refine j_ng_ret ?_ | refine j_ng_exit ?_)
    · omega
    · exact j_again (i + 1) ⟨by omega, by omega⟩ (by omega) ⟨rfl, rfl, trivial⟩ (Ent.refl _)
  · repeat refine s1 ?_
    exact f1 ()
end Go.Proofs.YtcnpkmdooekmgaaGreatDoor
namespace Go.Proofs.YtcnpkmdooekmgaaGreatDoor
open Go Sl
/-- a piece of a row that nobody turns, as a row of single cells. -/
theorem Ent.islSub {b off n cap s : Nat} {E : TypeId} {xs : List Value} (k m o : Nat) (ho : off + k = o) (ys : List Value) (E' : TypeId) (hy : (xs.drop k).take m = ys) (hm : ys.length = m) (L : List Assn) :
    Ent (Sl.isl (some ⟨b, off, none⟩) n cap E s xs :: L) (Sl.isl (some ⟨b, o, none⟩) m m E' 1 ys :: Sl.isl (some ⟨b, off, none⟩) n cap E s xs :: L) := by
  subst ho
  rintro im h ⟨p1, p2, pa, pb, pc, ⟨hl, hc, hd⟩, st⟩
  refine ⟨Hp.emp, h, Hp.emp_le _, Hp.le_refl _, Hp.emp_dis _, ⟨by omega, Nat.le_refl _, ?_⟩, p1, p2, pa, pb, pc, ⟨hl, hc, hd⟩, st⟩
  by_cases h0 : m = 0
  · exact .inl h0
  rcases hd with rfl | ⟨b', off', cs, U, fr, he, hb, hx⟩
  · have : xs = [] := List.eq_nil_of_length_eq_zero (by omega)
    subst this; simp at hy; subst hy; simp at hm; omega
  · cases he
    refine .inr ⟨b, off + k, cs, U, fr, rfl, hb, fun j v hj => ?_⟩
    rw [Nat.add_assoc]
    refine hx (k + j) v ?_
    rw [← hy, List.getElem?_take] at hj
    split at hj
    · rw [List.getElem?_drop] at hj; exact hj
    · cases hj
attribute [local irreducible] cw sw J Exit.then Exit.inBlock Exit.noGoto bodyPost swG swL permL
theorem right_c (n : Nd) (x : NR) (hn : n.right) (Φ : Base) : Sl.Fn Tryz.prog Φ F.node_Right [nV n x] [node n x] (fun _ : Unit => True) (fun _ => .bool true) (fun _ => []) := by
  have hm := hn.most
  refine fo fun F => ?_
  repeat refine s1 ?_
  refine r_box (cs := nbx n x) rfl rfl rfl rfl (fun t2 => ?_)
  refine j_head (node n x) (j_ent (Ent.unnode _) ?_)
  rcases hl : n.leaf with _ | _
  · obtain ⟨h1, h2, h3, h4⟩ := hn.inner hl
    rw [show nbx n x = [.bool false, .slice x.ka n.keys.length x.kc, .slice x.va n.vals.length x.vc, .slice x.ra n.kids.length x.rc] by simp [nbx, hl]]
    repeat refine s2 ?_
    refine cl (rise_c x.ka x.kc n.keys hn.rise (by omega) Φ) ?_
    repeat' (first | refine r_nil ?_ | (refine k_move ?_; refine r_move rfl rfl ?_) | (refine k_assign ?_; refine r_assign rfl rfl ?_) | (refine k_nck ?_; first | refine r_nck rfl rfl ?_ | refine r_nckf rfl rfl ?_) | (refine k_fld ?_; first | refine r_fld0 rfl rfl ?_ | refine r_fld rfl rfl ?_) | (refine k_load ?_; first | refine r_load1L rfl rfl rfl ?_ | refine s_load1L rfl rfl rfl ?_ | refine r_load1 rfl rfl rfl rfl ?_ | refine r_loadW rfl rfl rfl rfl ?_ | refine s_loadW rfl rfl rfl rfl ?_) | (refine k_ext ?_; first | refine r_extL rfl rfl ?_ | refine r_ext rfl rfl rfl ?_) | (refine k_len ?_; refine r_lenS rfl rfl ?_) | (refine k_un ?_; first | refine r_notT rfl (by with_reducible rfl) rfl ?_ | refine r_notF rfl (by with_reducible rfl) rfl ?_ | refine r_not rfl rfl ?_) | (refine k_sl0 ?_; refine r_sliceA rfl (by decide) rfl ?_) | (refine k_conv ?_; refine r_conv rfl rfl ?_) | (refine k_pick ?_; first | refine r_pickT rfl (by with_reducible rfl) rfl rfl ?_ | refine r_pickF rfl (by with_reducible rfl) rfl rfl ?_) | (refine k_inc ?_; refine r_inc rfl (by omega) rfl ?_) | (refine k_bin ?_; first | refine r_icmpT rfl rfl rfl rfl ?_ | refine r_icmpF rfl rfl rfl rfl ?_ | refine r_icmp rfl rfl rfl rfl ?_) | (refine k_eql ?_; first | refine r_peqS rfl rfl rfl ?_ | refine r_peqN rfl rfl rfl ?_ | refine r_meqS rfl rfl rfl ?_ | refine r_meqN rfl rfl rfl ?_ | refine r_peq rfl rfl rfl ?_) | (refine k_neq ?_; first | refine r_pneS rfl rfl rfl ?_ | refine r_pneN rfl rfl rfl ?_ | refine r_mneS rfl rfl rfl ?_ | refine r_mneN rfl rfl rfl ?_ | refine r_pne rfl rfl rfl ?_) | (refine g_mark ?_; first | refine gg_pass rfl rfl (by with_reducible rfl) ?_ | refine gg_skipT rfl rfl (by with_reducible rfl) (blt_any rfl) ?_ | refine gg_skipF rfl rfl (by with_reducible rfl) (blt_any rfl) ?_ | refine gg_skipU rfl rfl (by with_reducible rfl) (blt_any rfl) ?_ | refine gg_splitD rfl rfl (fun _ => ?_) (fun _ => ?_) | refine gg_splitN rfl rfl (fun _ => ?_) (fun _ => ?_) | refine gg_split rfl rfl (fun _ => ?_) (fun _ => ?_)) | refine t_seq ?_ | refine t_perm rfl ?_ | refine t_permE ?_ | refine j_then ?_ | refine t_region ?_ | refine t_draw [] [] mixed (by decide +kernel) ?_ | (refine k_cond ?_; first | refine t_condT rfl (by with_reducible rfl) ?_ | refine t_condF rfl (by with_reducible rfl) ?_ | refine t_condS rfl (fun _ => ?_) (fun _ => ?_) | refine t_condSN rfl (fun _ => ?_) (fun _ => ?_) | refine t_condSB rfl (fun _ => ?_) (fun _ => ?_)) | refine t_block ?_ | refine j_in ?_ | refine t_skip ?_ | refine t_ret ?_ | refine j_then_ret ?_ | refine j_in_ret ?_ | refine t_exit ?_ | refine j_then_exit ?_ | refine j_in_exit ?_ | refine j_in_other rfl ?_ | refine t_scope ?_ | refine t_label ?_ | refine j_ng ?_ | refine j_ng_ret ?_ | refine j_ng_exit ?_)
    all_goals first
      | omega
      | exact f1 () (hV := by simp [h4])
  · obtain ⟨h1, h2, h3, h4⟩ := hn.leaf hl
    rw [show nbx n x = [.bool true, .slice x.ka n.keys.length x.kc, .slice x.va n.vals.length x.vc, .slice x.ra n.kids.length x.rc] by simp [nbx, hl]]
    repeat refine s2 ?_
    refine cl (rise_c x.ka x.kc n.keys hn.rise (by omega) Φ) ?_
    repeat' (first | refine r_nil ?_ | (refine k_move ?_; refine r_move rfl rfl ?_) | (refine k_assign ?_; refine r_assign rfl rfl ?_) | (refine k_nck ?_; first | refine r_nck rfl rfl ?_ | refine r_nckf rfl rfl ?_) | (refine k_fld ?_; first | refine r_fld0 rfl rfl ?_ | refine r_fld rfl rfl ?_) | (refine k_load ?_; first | refine r_load1L rfl rfl rfl ?_ | refine s_load1L rfl rfl rfl ?_ | refine r_load1 rfl rfl rfl rfl ?_ | refine r_loadW rfl rfl rfl rfl ?_ | refine s_loadW rfl rfl rfl rfl ?_) | (refine k_ext ?_; first | refine r_extL rfl rfl ?_ | refine r_ext rfl rfl rfl ?_) | (refine k_len ?_; refine r_lenS rfl rfl ?_) | (refine k_un ?_; first | refine r_notT rfl (by with_reducible rfl) rfl ?_ | refine r_notF rfl (by with_reducible rfl) rfl ?_ | refine r_not rfl rfl ?_) | (refine k_sl0 ?_; refine r_sliceA rfl (by decide) rfl ?_) | (refine k_conv ?_; refine r_conv rfl rfl ?_) | (refine k_pick ?_; first | refine r_pickT rfl (by with_reducible rfl) rfl rfl ?_ | refine r_pickF rfl (by with_reducible rfl) rfl rfl ?_) | (refine k_inc ?_; refine r_inc rfl (by omega) rfl ?_) | (refine k_bin ?_; first | refine r_icmpT rfl rfl rfl rfl ?_ | refine r_icmpF rfl rfl rfl rfl ?_ | refine r_icmp rfl rfl rfl rfl ?_) | (refine k_eql ?_; first | refine r_peqS rfl rfl rfl ?_ | refine r_peqN rfl rfl rfl ?_ | refine r_meqS rfl rfl rfl ?_ | refine r_meqN rfl rfl rfl ?_ | refine r_peq rfl rfl rfl ?_) | (refine k_neq ?_; first | refine r_pneS rfl rfl rfl ?_ | refine r_pneN rfl rfl rfl ?_ | refine r_mneS rfl rfl rfl ?_ | refine r_mneN rfl rfl rfl ?_ | refine r_pne rfl rfl rfl ?_) | (refine g_mark ?_; first | refine gg_pass rfl rfl (by with_reducible rfl) ?_ | refine gg_skipT rfl rfl (by with_reducible rfl) (blt_any rfl) ?_ | refine gg_skipF rfl rfl (by with_reducible rfl) (blt_any rfl) ?_ | refine gg_skipU rfl rfl (by with_reducible rfl) (blt_any rfl) ?_ | refine gg_splitD rfl rfl (fun _ => ?_) (fun _ => ?_) | refine gg_splitN rfl rfl (fun _ => ?_) (fun _ => ?_) | refine gg_split rfl rfl (fun _ => ?_) (fun _ => ?_)) | refine t_seq ?_ | refine t_perm rfl ?_ | refine t_permE ?_ | refine j_then ?_ | refine t_region ?_ | refine t_draw [] [] mixed (by decide +kernel) ?_ | (refine k_cond ?_; first | refine t_condT rfl (by with_reducible rfl) ?_ | refine t_condF rfl (by with_reducible rfl) ?_ | refine t_condS rfl (fun _ => ?_) (fun _ => ?_) | refine t_condSN rfl (fun _ => ?_) (fun _ => ?_) | refine t_condSB rfl (fun _ => ?_) (fun _ => ?_)) | refine t_block ?_ | refine j_in ?_ | refine t_skip ?_ | refine t_ret ?_ | refine j_then_ret ?_ | refine j_in_ret ?_ | refine t_exit ?_ | refine j_then_exit ?_ | refine j_in_exit ?_ | refine j_in_other rfl ?_ | refine t_scope ?_ | refine t_label ?_ | refine j_ng ?_ | refine j_ng_ret ?_ | refine j_ng_exit ?_)
    all_goals first
      | omega
      | exact f1 () (hV := by simp [h4])
theorem pad_c (a : Option Addr) (c : Nat) (b : List Nat) (hb : b.length ≤ 512) (Φ : Base) :
    Sl.Fn Tryz.prog Φ F.octet_Pad [.slice a b.length c, i64 512] [brow a b.length c b] (fun _ : Nat => True) (fun p => .tuple #[.slice (some ⟨p, 0, none⟩) 512 512, i64 0]) (fun p => [brow (some ⟨p, 0, none⟩) 512 512 (padTo 512 b)]) := by
  refine fo fun F => ?_
  repeat' (first | refine r_nil ?_ | (refine k_move ?_; refine r_move rfl rfl ?_) | (refine k_assign ?_; refine r_assign rfl rfl ?_) | (refine k_nck ?_; first | refine r_nck rfl rfl ?_ | refine r_nckf rfl rfl ?_) | (refine k_fld ?_; first | refine r_fld0 rfl rfl ?_ | refine r_fld rfl rfl ?_) | (refine k_load ?_; first | refine r_load1L rfl rfl rfl ?_ | refine s_load1L rfl rfl rfl ?_ | refine r_load1 rfl rfl rfl rfl ?_ | refine r_loadW rfl rfl rfl rfl ?_ | refine s_loadW rfl rfl rfl rfl ?_) | (refine k_ext ?_; first | refine r_extL rfl rfl ?_ | refine r_ext rfl rfl rfl ?_) | (refine k_len ?_; refine r_lenS rfl rfl ?_) | (refine k_un ?_; first | refine r_notT rfl (by with_reducible rfl) rfl ?_ | refine r_notF rfl (by with_reducible rfl) rfl ?_ | refine r_not rfl rfl ?_) | (refine k_sl0 ?_; refine r_sliceA rfl (by decide) rfl ?_) | (refine k_conv ?_; refine r_conv rfl rfl ?_) | (refine k_pick ?_; first | refine r_pickT rfl (by with_reducible rfl) rfl rfl ?_ | refine r_pickF rfl (by with_reducible rfl) rfl rfl ?_) | (refine k_inc ?_; refine r_inc rfl (by omega) rfl ?_) | (refine k_bin ?_; first | refine r_icmpT rfl rfl rfl rfl ?_ | refine r_icmpF rfl rfl rfl rfl ?_ | refine r_icmp rfl rfl rfl rfl ?_) | (refine k_eql ?_; first | refine r_peqS rfl rfl rfl ?_ | refine r_peqN rfl rfl rfl ?_ | refine r_meqS rfl rfl rfl ?_ | refine r_meqN rfl rfl rfl ?_ | refine r_peq rfl rfl rfl ?_) | (refine k_neq ?_; first | refine r_pneS rfl rfl rfl ?_ | refine r_pneN rfl rfl rfl ?_ | refine r_mneS rfl rfl rfl ?_ | refine r_mneN rfl rfl rfl ?_ | refine r_pne rfl rfl rfl ?_) | (refine g_mark ?_; first | refine gg_pass rfl rfl (by with_reducible rfl) ?_ | refine gg_skipT rfl rfl (by with_reducible rfl) (blt_any rfl) ?_ | refine gg_skipF rfl rfl (by with_reducible rfl) (blt_any rfl) ?_ | refine gg_skipU rfl rfl (by with_reducible rfl) (blt_any rfl) ?_ | refine gg_splitD rfl rfl (fun _ => ?_) (fun _ => ?_) | refine gg_splitN rfl rfl (fun _ => ?_) (fun _ => ?_) | refine gg_split rfl rfl (fun _ => ?_) (fun _ => ?_)) | refine t_seq ?_ | refine t_perm rfl ?_ | refine t_permE ?_ | refine j_then ?_ | refine t_region ?_ | refine t_draw [] [] mixed (by decide +kernel) ?_ | (refine k_cond ?_; first | refine t_condT rfl (by with_reducible rfl) ?_ | refine t_condF rfl (by with_reducible rfl) ?_ | refine t_condS rfl (fun _ => ?_) (fun _ => ?_) | refine t_condSN rfl (fun _ => ?_) (fun _ => ?_) | refine t_condSB rfl (fun _ => ?_) (fun _ => ?_)) | refine t_block ?_ | refine j_in ?_ | refine t_skip ?_ | refine t_ret ?_ | refine j_then_ret ?_ | refine j_in_ret ?_ | refine t_exit ?_ | refine j_then_exit ?_ | refine j_in_exit ?_ | refine j_in_other rfl ?_ | refine t_scope ?_ | refine t_label ?_ | refine j_ng ?_ | refine j_ng_ret ?_ | refine j_ng_exit ?_)
  · omega
  refine r_makeSlice (n := 512) (c := 512) rfl rfl (by decide) (by decide) (by decide) rfl rfl rfl (fun p => ?_)
  refine j_ent (Ent.unvec0 rfl _) ?_
  repeat refine s1 ?_
  refine r_copyP (cur' := (padTo 512 b).map u8) rfl rfl (by rw [List.length_replicate]; omega) (by simp [Value.oneCell']) (by
    rw [show min b.length 512 = b.length by omega, List.take_of_length_le (l := b.map u8) (by simp), List.take_zero, List.nil_append, List.drop_replicate, Nat.zero_add, padTo, List.map_append, List.map_replicate]; rfl) rfl (blt_any rfl) ?_
  have hl : (padTo 512 b).length = 512 := by rw [padTo, List.length_append, List.length_replicate]; omega
  refine j_ent (Ent.vec0 (n := 512) (s := 1) (by simpa using hl) _) ?_
  refine fz ?_
  repeat refine s1 ?_
  exact f2 p
theorem flat_at {α β : Type} (f : α → List β) (c : Nat) : ∀ (l : List α) (i : Nat) (a : α), (∀ x ∈ l, (f x).length = c) → l[i]? = some a → ((l.flatMap f).drop (i * c)).take c = f a
  | x :: l, 0, a, h, hi => by
    obtain rfl := Option.some.inj hi
    have := h x (by simp)
    rw [Nat.zero_mul, List.drop_zero, List.flatMap_cons, ← this, List.take_left]
  | x :: l, i + 1, a, h, hi => by
    have h0 := h x (by simp)
    rw [List.flatMap_cons, Nat.succ_mul, Nat.add_comm, ← h0, List.drop_length_add_append, h0]
    exact flat_at f c l i a (fun y hy => h y (by simp [hy])) hi
theorem flat_le {l : List (List Nat)} {c : Nat} (h : ∀ r ∈ l, r.length ≤ c) : l.flatten.length ≤ l.length * c := by
  induction l with
  | nil => simp
  | cons a l ih =>
    have h1 := h a (by simp)
    have h2 := ih (fun r hr => h r (by simp [hr]))
    rw [List.flatten_cons, List.length_append, List.length_cons, Nat.succ_mul]; omega
/-- the bytes of a node's first rows. -/
def Nd.out (n : Nd) (i : Nat) : List Nat := n.head ++ (n.rows.take i).flatten
theorem Nd.out_next {n : Nd} {i : Nat} {r : List Nat} (h : n.rows[i]? = some r) : n.out (i + 1) = n.out i ++ r := by
  simp [Nd.out, List.take_add_one, h]
theorem Nd.rows_len {n : Nd} (hw : n.wt) : ∀ r ∈ n.rows, r.length ≤ 52 := by
  intro r hr
  unfold Nd.rows at hr
  split at hr
  · obtain ⟨i, hi⟩ := List.mem_iff_getElem?.1 hr
    rw [List.getElem?_zipWith] at hi
    split at hi
    · rename_i v hv
      cases hi
      have := (hw.vals _ (List.mem_of_getElem? hv)).1
      simp [be_len, this]
    · cases hi
  · obtain ⟨i, hi⟩ := List.mem_iff_getElem?.1 hr
    rw [List.getElem?_zipWith] at hi
    split at hi
    · rename_i v hv
      cases hi
      have := (hw.kids _ (List.mem_of_getElem? hv)).sum.1
      simp [be_len, Rf.enc, this]
    · cases hi
theorem Nd.out_len {n : Nd} (hw : n.wt) (i : Nat) (hi : i ≤ 11) : (n.out i).length ≤ 580 := by
  have h1 := flat_le (l := n.rows.take i) (c := 52) (fun r hr => n.rows_len hw r (List.mem_of_mem_take hr))
  have h2 : (n.rows.take i).length ≤ i := by simp; omega
  have h3 := Nat.mul_le_mul_right 52 h2
  rw [Nd.out, List.length_append, show n.head.length = 8 from rfl]
  omega
end Go.Proofs.YtcnpkmdooekmgaaGreatDoor
namespace Go.Proofs.YtcnpkmdooekmgaaGreatDoor
open Go Sl
attribute [local irreducible] cw sw J Exit.then Exit.inBlock Exit.noGoto bodyPost swG swL permL
theorem out_fits {n : Nd} (hn : n.right) (hw : n.wt) : (n.out n.keys.length).length ≤ 512 := by
  rw [Nd.out, List.length_append, show n.head.length = 8 from rfl]
  have h2 : (n.rows.take n.keys.length).length ≤ n.keys.length := by simp; omega
  cases hl : n.leaf
  · have h3 : ∀ r ∈ n.rows, r.length ≤ 44 := by
      intro r hr
      unfold Nd.rows at hr
      rw [if_neg (by simp [hl])] at hr
      obtain ⟨i, hi⟩ := List.mem_iff_getElem?.1 hr
      rw [List.getElem?_zipWith] at hi
      split at hi
      · rename_i v hv
        cases hi
        have := (hw.kids _ (List.mem_of_getElem? hv)).sum.1
        simp [be_len, Rf.enc, this]
      · cases hi
    have h1 := flat_le (l := n.rows.take n.keys.length) (c := 44) (fun r hr => h3 r (List.mem_of_mem_take hr))
    have := hn.most
    omega
  · have h1 := flat_le (l := n.rows.take n.keys.length) (c := 52) (fun r hr => n.rows_len hw r (List.mem_of_mem_take hr))
    have := (hn.leaf hl).2.1
    omega
theorem flat_in {α β : Type} {f : α → List β} {c : Nat} {l : List α} {i : Nat} {a : α} (h : ∀ x ∈ l, (f x).length = c) (hi : l[i]? = some a) {j : Nat} (hj : j < c) : (l.flatMap f)[i * c + j]? = (f a)[j]? := by
  rw [← flat_at f c l i a h hi, List.getElem?_take, if_pos hj, List.getElem?_drop]
theorem write_c (n : Nd) (x : NR) (hn : n.right) (hw : n.wt) (Φ : Base) : Sl.Fn Tryz.prog Φ F.node_Write [nV n x] [node n x] (fun _ : Nat => True) (fun p => .tuple #[.slice (some ⟨p, 0, none⟩) 512 512, i64 0]) (fun p => [brow (some ⟨p, 0, none⟩) 512 512 n.enc]) := by
  obtain ⟨ka, kc, va, vc, ra, rc⟩ := x
  obtain ⟨x, hx⟩ : ∃ x : NR, x = ⟨ka, kc, va, vc, ra, rc⟩ := ⟨_, rfl⟩
  rw [← hx]
  refine fo fun F => ?_
  have hm := hn.most
  have hfit := out_fits hn hw
  repeat refine s1 ?_
  refine r_box (cs := nbx n x) rfl rfl rfl rfl (fun t2 => ?_)
  repeat refine s1 ?_
  refine cl (right_c n x hn Φ) ?_
  repeat refine s2 ?_
  refine t_meet (σ := Unit) (fun _ => [(4, .int .u8 ((if n.leaf then 1 else 2 : Nat) : Int)), (3, i64 0), (1, ptr t2)]) (fun _ => [pt t2 (.cells (nbx n x).toArray T.node_Node (0, 0)), node n x] ++ F) (fun _ => True) ?_ ?_
  · rcases hl : n.leaf with _ | _
    all_goals
      repeat refine s1 ?_
      exact j_meet () trivial ⟨rfl, rfl, rfl, trivial⟩ (Ent.refl _)
  intro _ _
  dsimp only [List.cons_append, List.nil_append]
  repeat refine s1 ?_
  rw [show IntKind.u8.wrap (n.keys.length : Int) = (n.keys.length : Int) from wrapU8 (by omega)]
  refine r_build1s [.tmp 13, .tmp 17, .const (.int .u8 0), .const (.int .u8 0), .const (.int .u8 0), .const (.int .u8 0), .const (.int .u8 0), .const (.int .u8 0)] ((n.out 0).map u8) rfl (by simp [evL, ev, lk, Nd.out, Nd.head]) (by simp [Value.oneCell']) (by simp [Nd.out, Nd.head]) (by simp [Nd.out, Nd.head]) rfl rfl (fun b5 => ?_)
  refine j_head (node n x) (j_ent (Ent.unnode _) ?_)
  refine j_leni (fun _ _ ha => ?_)
  obtain ⟨kb, ko, hka⟩ := ha hn.pos
  rw [hx] at hka
  dsimp only at hka
  subst hka
  rw [hx]
  clear hx
  dsimp only
  repeat refine s1 ?_
  have hkl : ∀ i, i < n.keys.length → n.keys[i]? = some (n.keys.getD i 0) := fun i hi => by rw [List.getD_eq_getElem?_getD, List.getElem?_eq_getElem hi]; rfl
  refine t_loop (σ := Nat × Option Addr × Nat) (fun s => [(22, i64 s.1), (21, i64 n.keys.length), (20, .slice (some ⟨kb, ko, none⟩) n.keys.length kc), (5, .slice s.2.1 (n.out s.1).length s.2.2), (3, i64 0), (1, ptr t2)])
    (fun s => [vec s.2.1 (n.out s.1).length s.2.2 T.uint8 1 ((n.out s.1).map u8), keysA n ⟨some ⟨kb, ko, none⟩, kc, va, vc, ra, rc⟩, valsA n ⟨some ⟨kb, ko, none⟩, kc, va, vc, ra, rc⟩, kidsA n ⟨some ⟨kb, ko, none⟩, kc, va, vc, ra, rc⟩, pt t2 (.cells (nbx n ⟨some ⟨kb, ko, none⟩, kc, va, vc, ra, rc⟩).toArray T.node_Node (0, 0))] ++ F)
    (fun s => s.1 ≤ n.keys.length) (fun s => n.keys.length - s.1) (0, some ⟨b5, 0, none⟩, 8) (Nat.zero_le _) ⟨rfl, rfl, rfl, rfl, rfl, rfl, trivial⟩ (by dsimp only [List.cons_append, List.nil_append]; rw [show (n.out 0).length = 8 from rfl]; exact Le.ent) ?_
  rintro ⟨i, a, c⟩ hi
  dsimp only [List.cons_append, List.nil_append] at *
  have hol := n.out_len hw i (by omega)
  repeat refine s1 ?_
  refine r_icmp rfl rfl rfl rfl ?_
  repeat refine s1 ?_
  refine t_condS rfl (fun hlt => ?_) (fun hlt => ?_)
  · have hk := hkl i (by omega)
    have hk64 := hw.keys _ (List.mem_of_getElem? hk)
    generalize hkk : n.keys.getD i 0 = k at *
    repeat refine s1 ?_
    refine ix rfl rfl (by omega) ?_
    refine r_loadI (n := n.keys.length) (cap := kc) (E := T.uint64) (s := 1) (xs := n.keys.map w64) (off := ko) rfl (j := i) (v := w64 k) (by omega) (by rw [List.getElem?_map, hk]; rfl) rfl rfl ?_
    repeat refine s1 ?_
    refine cx (put64_c k (by omega) Φ) fun b6 _ => ?_
    refine r_append (n := (n.out i).length) (m := 8) (s := 1) (xs := (n.out i).map u8) (ys := (be 8 k).map u8) rfl rfl (by decide) (by rfl) (by simp [Value.oneCell']) (by omega) (by omega) rfl rfl (fun a2 c2 _ => ?_)
    repeat refine s1 ?_
    have hr : ∀ {r : List Nat}, n.rows[i]? = some (be 8 k ++ r) → n.out (i + 1) = n.out i ++ (be 8 k ++ r) := fun h => Nd.out_next h
    refine t_condSB rfl (fun hl => ?_) (fun hl => ?_)
    · obtain ⟨_, _, hvl, _⟩ := hn.leaf hl
      have hv : n.vals[i]? = some n.vals[i] := List.getElem?_eq_getElem (by omega)
      have hvb := hw.vals _ (List.mem_of_getElem? hv)
      generalize n.vals[i] = v at *
      have hrow : n.rows[i]? = some (be 8 k ++ v) := by unfold Nd.rows; rw [if_pos hl, List.getElem?_zipWith, hk, hv]
      have ho := hr hrow
      have hlen : (n.out i).length + 8 + 44 = (n.out (i + 1)).length := by rw [ho]; simp [be_len, hvb.1]
      have hmap : (n.out i).map u8 ++ (be 8 k).map u8 ++ v.map u8 = (n.out (i + 1)).map u8 := by rw [ho]; simp
      refine j_head (valsA n ⟨some ⟨kb, ko, none⟩, kc, va, vc, ra, rc⟩) ?_
      refine j_leni (fun _ _ hb => ?_)
      dsimp only at hb
      obtain ⟨vb, vo, hva⟩ := hb (by omega)
      subst hva
      have hc44 : ∀ y ∈ n.vals, (y.map u8).length = 44 := fun y hy => by rw [List.length_map]; exact (hw.vals y hy).1
      repeat refine s1 ?_
      refine ix rfl rfl (by omega) ?_
      repeat refine s1 ?_
      refine j_head (valsA n ⟨some ⟨kb, ko, none⟩, kc, some ⟨vb, vo, none⟩, vc, ra, rc⟩) ?_
      refine j_ent (Ent.islSub (i * 44) 44 (vo + i * 44) rfl (v.map u8) T.uint8 (flat_at _ 44 n.vals i v hc44 hv) (by simpa using hvb.1) _) ?_
      refine r_append (n := (n.out i).length + 8) (m := 44) (s := 1) (xs := (n.out i).map u8 ++ (be 8 k).map u8) (ys := v.map u8) rfl rfl (by decide) (by rfl) (by simp [Value.oneCell']) (by omega) (by omega) rfl rfl (fun a3 c3 _ => ?_)
      rw [hlen, hmap]
      repeat refine s1 ?_
      exact j_again (i + 1, a3, c3) (by show i + 1 ≤ _; omega) (by show n.keys.length - (i + 1) < n.keys.length - i; omega) ⟨rfl, rfl, rfl, rfl, rfl, rfl, trivial⟩ (by dsimp only [List.cons_append, List.nil_append]; exact Le.ent)
    · obtain ⟨_, _, hvl, _⟩ := hn.inner hl
      have hv : n.kids[i]? = some n.kids[i] := List.getElem?_eq_getElem (by omega)
      have hvb := hw.kids _ (List.mem_of_getElem? hv)
      generalize n.kids[i] = v at *
      have hrow : n.rows[i]? = some (be 8 k ++ v.enc) := by unfold Nd.rows; rw [if_neg (by simp [hl]), List.getElem?_zipWith, hk, hv]
      have ho := hr hrow
      have hlen : (n.out i).length + 8 + 4 + 32 = (n.out (i + 1)).length := by rw [ho]; simp [be_len, Rf.enc, hvb.sum.1]
      have hmap : (n.out i).map u8 ++ (be 8 k).map u8 ++ (be 4 v.sec).map u8 ++ v.sum.map u8 = (n.out (i + 1)).map u8 := by rw [ho]; simp [Rf.enc]
      refine j_head (kidsA n ⟨some ⟨kb, ko, none⟩, kc, va, vc, ra, rc⟩) ?_
      refine j_leni (fun _ _ hb => ?_)
      dsimp only at hb
      obtain ⟨vb, vo, hva⟩ := hb (by omega)
      subst hva
      have hc33 : ∀ y ∈ n.kids, (rcells y).length = 33 := fun y hy => by simp [(hw.kids y hy).sum.1]
      repeat refine s1 ?_
      refine ix rfl rfl (by omega) ?_
      repeat refine s1 ?_
      refine r_loadI (n := n.kids.length) (cap := rc) (E := T.api_Ref) (s := 33) (xs := n.kids.flatMap rcells) (off := vo) rfl (j := i * 33 + 0) (v := kU v.sec) (by omega) (flat_in hc33 hv (by omega)) rfl rfl ?_
      repeat refine s1 ?_
      refine cx (put32_c v.sec (by have := hvb.sec; omega) Φ) fun b7 _ => ?_
      refine r_append (n := (n.out i).length + 8) (m := 4) (s := 1) (xs := (n.out i).map u8 ++ (be 8 k).map u8) (ys := (be 4 v.sec).map u8) rfl rfl (by decide) (by rfl) (by simp [Value.oneCell']) (by omega) (by omega) rfl rfl (fun a3 c3 _ => ?_)
      repeat refine s1 ?_
      refine ix rfl rfl (by omega) ?_
      repeat refine s1 ?_
      refine j_head (kidsA n ⟨some ⟨kb, ko, none⟩, kc, va, vc, some ⟨vb, vo, none⟩, rc⟩) ?_
      refine j_ent (Ent.islSub (i * 33 + 1) 32 (vo + i * 33 + 1) (by omega) (v.sum.map u8) T.uint8 (by
        have := flat_at rcells 33 n.kids i v hc33 hv
        rw [← List.drop_drop, show 32 = 33 - 1 from rfl, ← List.drop_take, this]; rfl) (by simpa using hvb.sum.1) _) ?_
      refine r_append (n := (n.out i).length + 8 + 4) (m := 32) (s := 1) (xs := (n.out i).map u8 ++ (be 8 k).map u8 ++ (be 4 v.sec).map u8) (ys := v.sum.map u8) rfl rfl (by decide) (by rfl) (by simp [Value.oneCell']) (by omega) (by omega) rfl rfl (fun a4 c4 _ => ?_)
      rw [hlen, hmap]
      repeat refine s1 ?_
      exact j_again (i + 1, a4, c4) (by show i + 1 ≤ _; omega) (by show n.keys.length - (i + 1) < n.keys.length - i; omega) ⟨rfl, rfl, rfl, rfl, rfl, rfl, trivial⟩ (by dsimp only [List.cons_append, List.nil_append]; exact Le.ent)
  · have e : i = n.keys.length := by omega
    subst e
    have hout : padTo 512 (n.out n.keys.length) = n.enc := by
      rw [Nd.enc, Nd.out, List.take_of_length_le]
      unfold Nd.rows; split <;> simp <;> omega
    repeat refine s1 ?_
    refine fz ?_
    refine cx (pad_c a c (n.out n.keys.length) hfit Φ) fun p _ => ?_
    rw [hout]
    repeat refine s1 ?_
    exact f2 p
end Go.Proofs.YtcnpkmdooekmgaaGreatDoor
namespace Go.Proofs.YtcnpkmdooekmgaaGreatDoor
open Go Sl
theorem r_build0 {X : Cx} {e : Env} {L : List Assn} {A : List Assn} {S : List Nat} {ops : Array Oper} {k : Nat} {l : List Oper} {R : Act → World → Prop} {d : Nat} {T : TypeId} {pos : String} {af : Array Edge} {t E : TypeId} {s by_ : Nat} {z : Value}
    [tu : TUnd X.P t (.slice E)] [te : TElem X.P E s by_ z] (hs : S.contains k = false) (hd : Nat.blt d X.n = true) [st : ∀ b, Stay A (pt b (.cells [].toArray E (0, 0)) :: L)]
    (h : ∀ b, J X ((d, .slice (some ⟨b, 0, none⟩) 0 0) :: e) (vec (some ⟨b, 0, none⟩) 0 0 E s [] :: L) (sw X.P (Holds X.Φ A) S ops R (k + 1) l)) :
    J X e L (sw X.P (Holds X.Φ A) S ops R k (⟨some d, .buildSlice t 0 #[], T, pos, af, none⟩ :: l)) :=
  r_buildS (cells := []) (s := s) hs hd (by simp) (fun a w m => by
    obtain ⟨i, hi, h1, h2, h3⟩ := te.ex
    have hsz : ∀ w, (sizeOf E).run X.P w = .ok s w := fun w => by simp [sizeOf, typeInfo, hi, h1, go_sem]
    simp only [Instr.buildSlice, Sem.run_bind, tu.run, Result.andThen_ok, hsz, Nat.zero_mul, if_true]
    simp [Instr.fill, go_sem, newRow, newObj]
    rfl) h
/-- what is known of a row is known of each piece of it. -/
theorem Ent.islPiece {a : Option Addr} {n cap s : Nat} {E : TypeId} {xs : List Value} {lo hi : Nat} (h1 : lo ≤ hi) (h2 : hi ≤ n) (h3 : n ≤ cap) (L : List Assn) :
    Ent (Sl.isl a n cap E s xs :: L) (Sl.isl (if cap = lo then a else a.map (·.add (lo * s))) (hi - lo) (cap - lo) E s ((xs.drop (lo * s)).take ((hi - lo) * s)) :: Sl.isl a n cap E s xs :: L) := by
  rintro im h ⟨p1, p2, pa, pb, pc, ⟨hl, hc, hd⟩, st⟩
  refine ⟨Hp.emp, h, Hp.emp_le _, Hp.le_refl _, Hp.emp_dis _, ⟨?_, by omega, ?_⟩, p1, p2, pa, pb, pc, ⟨hl, hc, hd⟩, st⟩
  · rw [List.length_take, List.length_drop, hl]
    have : hi * s ≤ n * s := Nat.mul_le_mul_right _ h2
    have := Nat.sub_mul hi lo s
    have := Nat.mul_le_mul_right s h1
    omega
  · by_cases h0 : hi = lo
    · exact .inl (by omega)
    rcases hd with rfl | ⟨b', off', cs, U, fr, he, hb, hx⟩
    · omega
    · subst he
      refine .inr ⟨b', off' + lo * s, cs, U, fr, ?_, hb, fun j v hj => ?_⟩
      · rw [if_neg (by omega)]; simp [Addr.add]
      rw [Nat.add_assoc]
      refine hx (lo * s + j) v ?_
      rw [List.getElem?_take] at hj
      split at hj
      · rw [List.getElem?_drop] at hj; exact hj
      · cases hj
attribute [local irreducible] cw sw J Exit.then Exit.inBlock Exit.noGoto bodyPost swG swL permL
theorem cloneK_c (a : Option Addr) (n cap : Nat) (vs : List Value) (h1 : ∀ v ∈ vs, v.oneCell' = true) (hb : n ≤ 1000000) (Φ : Base) :
    Sl.Fn Tryz.prog Φ F.slices_Clone_uint64_uint64 [.slice a n cap] [isl a n cap T.uint64 1 vs] (fun _ : Option Addr × Nat => True) (fun p => .slice p.1 n p.2) (fun p => [vec p.1 n p.2 T.uint64 1 vs]) := by
  refine fo fun F => j_leni (fun hl hc ha => ?_)
  repeat refine s1 ?_
  refine r_seq rfl rfl rfl ?_
  repeat refine s1 ?_
  cases a with
  | none =>
    have hn : n = 0 := by
      rcases Nat.eq_zero_or_pos n with h | h
      · exact h
      · obtain ⟨b, off, h⟩ := ha h; cases h
    subst hn
    have hv : vs = [] := List.eq_nil_of_length_eq_zero (by simpa using hl)
    subst hv
    refine t_condT rfl rfl ?_
    repeat refine s1 ?_
    refine j_ent (Ent.vecNil (E := T.uint64) (s := 1) _) ?_
    exact f1 (none, 0)
  | some ad =>
    refine t_condF rfl rfl ?_
    repeat refine s1 ?_
    refine r_build0 (s := 1) rfl rfl (fun b => ?_)
    repeat refine s1 ?_
    refine r_append (n := 0) (m := n) (s := 1) (xs := []) (ys := vs) rfl rfl (by decide) (by rfl) h1 (by omega) (by omega) rfl rfl (fun a' cap' hn => ?_)
    repeat refine s1 ?_
    rw [Nat.zero_add, List.nil_append]
    exact f1 (a', cap')
theorem partK_c (a : Option Addr) (n cap fr to : Nat) (vs : List Value) (h1 : ∀ v ∈ vs, v.oneCell' = true) (hb : n ≤ 1000000) (h2 : fr ≤ to) (h3 : to ≤ n ∨ n = 0) (hto : to ≤ 1000000) (Φ : Base) :
    Sl.Fn Tryz.prog Φ F.node_part_uint64 [.slice a n cap, i64 fr, i64 to] [isl a n cap T.uint64 1 vs] (fun _ : Option Addr × Nat => True) (fun p => .slice p.1 (min to n - min fr n) p.2) (fun p => [vec p.1 (min to n - min fr n) p.2 T.uint64 1 ((vs.drop (fr * 1)).take ((to - fr) * 1))]) := by
  refine fo fun F => j_leni (fun hl hc ha => ?_)
  repeat' (first | refine r_nil ?_ | (refine k_move ?_; refine r_move rfl rfl ?_) | (refine k_assign ?_; refine r_assign rfl rfl ?_) | (refine k_nck ?_; first | refine r_nck rfl rfl ?_ | refine r_nckf rfl rfl ?_) | (refine k_fld ?_; first | refine r_fld0 rfl rfl ?_ | refine r_fld rfl rfl ?_) | (refine k_load ?_; first | refine r_load1L rfl rfl rfl ?_ | refine s_load1L rfl rfl rfl ?_ | refine r_load1 rfl rfl rfl rfl ?_ | refine r_loadW rfl rfl rfl rfl ?_ | refine s_loadW rfl rfl rfl rfl ?_) | (refine k_ext ?_; first | refine r_extL rfl rfl ?_ | refine r_ext rfl rfl rfl ?_) | (refine k_len ?_; refine r_lenS rfl rfl ?_) | (refine k_un ?_; first | refine r_notT rfl (by with_reducible rfl) rfl ?_ | refine r_notF rfl (by with_reducible rfl) rfl ?_ | refine r_not rfl rfl ?_) | (refine k_sl0 ?_; refine r_sliceA rfl (by decide) rfl ?_) | (refine k_conv ?_; refine r_conv rfl rfl ?_) | (refine k_pick ?_; first | refine r_pickT rfl (by with_reducible rfl) rfl rfl ?_ | refine r_pickF rfl (by with_reducible rfl) rfl rfl ?_) | (refine k_inc ?_; refine r_inc rfl (by omega) rfl ?_) | (refine k_bin ?_; first | refine r_icmpT rfl rfl rfl rfl ?_ | refine r_icmpF rfl rfl rfl rfl ?_ | refine r_icmp rfl rfl rfl rfl ?_) | (refine k_eql ?_; first | refine r_peqS rfl rfl rfl ?_ | refine r_peqN rfl rfl rfl ?_ | refine r_meqS rfl rfl rfl ?_ | refine r_meqN rfl rfl rfl ?_ | refine r_peq rfl rfl rfl ?_) | (refine k_neq ?_; first | refine r_pneS rfl rfl rfl ?_ | refine r_pneN rfl rfl rfl ?_ | refine r_mneS rfl rfl rfl ?_ | refine r_mneN rfl rfl rfl ?_ | refine r_pne rfl rfl rfl ?_) | (refine g_mark ?_; first | refine gg_pass rfl rfl (by with_reducible rfl) ?_ | refine gg_skipT rfl rfl (by with_reducible rfl) (blt_any rfl) ?_ | refine gg_skipF rfl rfl (by with_reducible rfl) (blt_any rfl) ?_ | refine gg_skipU rfl rfl (by with_reducible rfl) (blt_any rfl) ?_ | refine gg_splitD rfl rfl (fun _ => ?_) (fun _ => ?_) | refine gg_splitN rfl rfl (fun _ => ?_) (fun _ => ?_) | refine gg_split rfl rfl (fun _ => ?_) (fun _ => ?_)) | refine t_seq ?_ | refine t_perm rfl ?_ | refine t_permE ?_ | refine j_then ?_ | refine t_region ?_ | refine t_draw [] [] mixed (by decide +kernel) ?_ | (refine k_cond ?_; first | refine t_condT rfl (by with_reducible rfl) ?_ | refine t_condF rfl (by with_reducible rfl) ?_ | refine t_condS rfl (fun _ => ?_) (fun _ => ?_) | refine t_condSN rfl (fun _ => ?_) (fun _ => ?_) | refine t_condSB rfl (fun _ => ?_) (fun _ => ?_)) | refine t_block ?_ | refine j_in ?_ | refine t_skip ?_ | refine t_ret ?_ | refine j_then_ret ?_ | refine j_in_ret ?_ | refine t_exit ?_ | refine j_then_exit ?_ | refine j_in_exit ?_ | refine j_in_other rfl ?_ | refine t_scope ?_ | refine t_label ?_ | refine j_ng ?_ | refine j_ng_ret ?_ | refine j_ng_exit ?_)
  next hx =>
    have hn : n = 0 := by omega
    subst hn
    have hv : vs = [] := List.eq_nil_of_length_eq_zero (by simpa using hl)
    subst hv
    refine j_ent (Ent.vecNil (E := T.uint64) (s := 1) _) ?_
    have hq : min to 0 - min fr 0 = 0 := by omega
    rw [hq, List.drop_nil, List.take_nil]
    exact f1 (none, 0)
  next hx hy => exact absurd hy (by omega)
  next hx hy =>
    have hto2 : to ≤ n := by omega
    refine r_piece (s := 1) fr to cap rfl (.inr ⟨_, rfl⟩) (.inr ⟨_, rfl⟩) (.inl ⟨rfl, rfl⟩) h2 (by omega) (Nat.le_refl _) rfl ?_
    repeat refine s1 ?_
    refine j_ent (Ent.islPiece (E := T.uint64) (s := 1) (lo := fr) (hi := to) h2 hto2 hc _) ?_
    repeat refine s1 ?_
    refine cx (cloneK_c _ (to - fr) _ ((vs.drop (fr * 1)).take ((to - fr) * 1)) (fun v hv => h1 v (List.mem_of_mem_drop (List.mem_of_mem_take hv))) (by omega) Φ) (fun p _ => ?_)
    repeat refine s1 ?_
    have hq : min to n - min fr n = to - fr := by omega
    rw [hq]
    exact f1 p
theorem cloneV_c (a : Option Addr) (n cap : Nat) (vs : List Value) (h1 : ∀ v ∈ vs, v.oneCell' = true) (hb : n ≤ 1000000) (Φ : Base) :
    Sl.Fn Tryz.prog Φ F.slices_Clone_44_byte_44_byte [.slice a n cap] [isl a n cap T.a44_uint8 44 vs] (fun _ : Option Addr × Nat => True) (fun p => .slice p.1 n p.2) (fun p => [vec p.1 n p.2 T.a44_uint8 44 vs]) := by
  refine fo fun F => j_leni (fun hl hc ha => ?_)
  repeat refine s1 ?_
  refine r_seq rfl rfl rfl ?_
  repeat refine s1 ?_
  cases a with
  | none =>
    have hn : n = 0 := by
      rcases Nat.eq_zero_or_pos n with h | h
      · exact h
      · obtain ⟨b, off, h⟩ := ha h; cases h
    subst hn
    have hv : vs = [] := List.eq_nil_of_length_eq_zero (by simpa using hl)
    subst hv
    refine t_condT rfl rfl ?_
    repeat refine s1 ?_
    refine j_ent (Ent.vecNil (E := T.a44_uint8) (s := 44) _) ?_
    exact f1 (none, 0)
  | some ad =>
    refine t_condF rfl rfl ?_
    repeat refine s1 ?_
    refine r_build0 (s := 44) rfl rfl (fun b => ?_)
    repeat refine s1 ?_
    refine r_append (n := 0) (m := n) (s := 44) (xs := []) (ys := vs) rfl rfl (by decide) (by rfl) h1 (by omega) (by omega) rfl rfl (fun a' cap' hn => ?_)
    repeat refine s1 ?_
    rw [Nat.zero_add, List.nil_append]
    exact f1 (a', cap')
theorem partV_c (a : Option Addr) (n cap fr to : Nat) (vs : List Value) (h1 : ∀ v ∈ vs, v.oneCell' = true) (hb : n ≤ 1000000) (h2 : fr ≤ to) (h3 : to ≤ n ∨ n = 0) (hto : to ≤ 1000000) (Φ : Base) :
    Sl.Fn Tryz.prog Φ F.node_part_44_byte [.slice a n cap, i64 fr, i64 to] [isl a n cap T.a44_uint8 44 vs] (fun _ : Option Addr × Nat => True) (fun p => .slice p.1 (min to n - min fr n) p.2) (fun p => [vec p.1 (min to n - min fr n) p.2 T.a44_uint8 44 ((vs.drop (fr * 44)).take ((to - fr) * 44))]) := by
  refine fo fun F => j_leni (fun hl hc ha => ?_)
  repeat' (first | refine r_nil ?_ | (refine k_move ?_; refine r_move rfl rfl ?_) | (refine k_assign ?_; refine r_assign rfl rfl ?_) | (refine k_nck ?_; first | refine r_nck rfl rfl ?_ | refine r_nckf rfl rfl ?_) | (refine k_fld ?_; first | refine r_fld0 rfl rfl ?_ | refine r_fld rfl rfl ?_) | (refine k_load ?_; first | refine r_load1L rfl rfl rfl ?_ | refine s_load1L rfl rfl rfl ?_ | refine r_load1 rfl rfl rfl rfl ?_ | refine r_loadW rfl rfl rfl rfl ?_ | refine s_loadW rfl rfl rfl rfl ?_) | (refine k_ext ?_; first | refine r_extL rfl rfl ?_ | refine r_ext rfl rfl rfl ?_) | (refine k_len ?_; refine r_lenS rfl rfl ?_) | (refine k_un ?_; first | refine r_notT rfl (by with_reducible rfl) rfl ?_ | refine r_notF rfl (by with_reducible rfl) rfl ?_ | refine r_not rfl rfl ?_) | (refine k_sl0 ?_; refine r_sliceA rfl (by decide) rfl ?_) | (refine k_conv ?_; refine r_conv rfl rfl ?_) | (refine k_pick ?_; first | refine r_pickT rfl (by with_reducible rfl) rfl rfl ?_ | refine r_pickF rfl (by with_reducible rfl) rfl rfl ?_) | (refine k_inc ?_; refine r_inc rfl (by omega) rfl ?_) | (refine k_bin ?_; first | refine r_icmpT rfl rfl rfl rfl ?_ | refine r_icmpF rfl rfl rfl rfl ?_ | refine r_icmp rfl rfl rfl rfl ?_) | (refine k_eql ?_; first | refine r_peqS rfl rfl rfl ?_ | refine r_peqN rfl rfl rfl ?_ | refine r_meqS rfl rfl rfl ?_ | refine r_meqN rfl rfl rfl ?_ | refine r_peq rfl rfl rfl ?_) | (refine k_neq ?_; first | refine r_pneS rfl rfl rfl ?_ | refine r_pneN rfl rfl rfl ?_ | refine r_mneS rfl rfl rfl ?_ | refine r_mneN rfl rfl rfl ?_ | refine r_pne rfl rfl rfl ?_) | (refine g_mark ?_; first | refine gg_pass rfl rfl (by with_reducible rfl) ?_ | refine gg_skipT rfl rfl (by with_reducible rfl) (blt_any rfl) ?_ | refine gg_skipF rfl rfl (by with_reducible rfl) (blt_any rfl) ?_ | refine gg_skipU rfl rfl (by with_reducible rfl) (blt_any rfl) ?_ | refine gg_splitD rfl rfl (fun _ => ?_) (fun _ => ?_) | refine gg_splitN rfl rfl (fun _ => ?_) (fun _ => ?_) | refine gg_split rfl rfl (fun _ => ?_) (fun _ => ?_)) | refine t_seq ?_ | refine t_perm rfl ?_ | refine t_permE ?_ | refine j_then ?_ | refine t_region ?_ | refine t_draw [] [] mixed (by decide +kernel) ?_ | (refine k_cond ?_; first | refine t_condT rfl (by with_reducible rfl) ?_ | refine t_condF rfl (by with_reducible rfl) ?_ | refine t_condS rfl (fun _ => ?_) (fun _ => ?_) | refine t_condSN rfl (fun _ => ?_) (fun _ => ?_) | refine t_condSB rfl (fun _ => ?_) (fun _ => ?_)) | refine t_block ?_ | refine j_in ?_ | refine t_skip ?_ | refine t_ret ?_ | refine j_then_ret ?_ | refine j_in_ret ?_ | refine t_exit ?_ | refine j_then_exit ?_ | refine j_in_exit ?_ | refine j_in_other rfl ?_ | refine t_scope ?_ | refine t_label ?_ | refine j_ng ?_ | refine j_ng_ret ?_ | refine j_ng_exit ?_)
  next hx =>
    have hn : n = 0 := by omega
    subst hn
    have hv : vs = [] := List.eq_nil_of_length_eq_zero (by simpa using hl)
    subst hv
    refine j_ent (Ent.vecNil (E := T.a44_uint8) (s := 44) _) ?_
    have hq : min to 0 - min fr 0 = 0 := by omega
    rw [hq, List.drop_nil, List.take_nil]
    exact f1 (none, 0)
  next hx hy => exact absurd hy (by omega)
  next hx hy =>
    have hto2 : to ≤ n := by omega
    refine r_piece (s := 44) fr to cap rfl (.inr ⟨_, rfl⟩) (.inr ⟨_, rfl⟩) (.inl ⟨rfl, rfl⟩) h2 (by omega) (Nat.le_refl _) rfl ?_
    repeat refine s1 ?_
    refine j_ent (Ent.islPiece (E := T.a44_uint8) (s := 44) (lo := fr) (hi := to) h2 hto2 hc _) ?_
    repeat refine s1 ?_
    refine cx (cloneV_c _ (to - fr) _ ((vs.drop (fr * 44)).take ((to - fr) * 44)) (fun v hv => h1 v (List.mem_of_mem_drop (List.mem_of_mem_take hv))) (by omega) Φ) (fun p _ => ?_)
    repeat refine s1 ?_
    have hq : min to n - min fr n = to - fr := by omega
    rw [hq]
    exact f1 p
theorem cloneR_c (a : Option Addr) (n cap : Nat) (vs : List Value) (h1 : ∀ v ∈ vs, v.oneCell' = true) (hb : n ≤ 1000000) (Φ : Base) :
    Sl.Fn Tryz.prog Φ F.slices_Clone_api_Ref_api_Ref [.slice a n cap] [isl a n cap T.api_Ref 33 vs] (fun _ : Option Addr × Nat => True) (fun p => .slice p.1 n p.2) (fun p => [vec p.1 n p.2 T.api_Ref 33 vs]) := by
  refine fo fun F => j_leni (fun hl hc ha => ?_)
  repeat refine s1 ?_
  refine r_seq rfl rfl rfl ?_
  repeat refine s1 ?_
  cases a with
  | none =>
    have hn : n = 0 := by
      rcases Nat.eq_zero_or_pos n with h | h
      · exact h
      · obtain ⟨b, off, h⟩ := ha h; cases h
    subst hn
    have hv : vs = [] := List.eq_nil_of_length_eq_zero (by simpa using hl)
    subst hv
    refine t_condT rfl rfl ?_
    repeat refine s1 ?_
    refine j_ent (Ent.vecNil (E := T.api_Ref) (s := 33) _) ?_
    exact f1 (none, 0)
  | some ad =>
    refine t_condF rfl rfl ?_
    repeat refine s1 ?_
    refine r_build0 (s := 33) rfl rfl (fun b => ?_)
    repeat refine s1 ?_
    refine r_append (n := 0) (m := n) (s := 33) (xs := []) (ys := vs) rfl rfl (by decide) (by rfl) h1 (by omega) (by omega) rfl rfl (fun a' cap' hn => ?_)
    repeat refine s1 ?_
    rw [Nat.zero_add, List.nil_append]
    exact f1 (a', cap')
theorem partR_c (a : Option Addr) (n cap fr to : Nat) (vs : List Value) (h1 : ∀ v ∈ vs, v.oneCell' = true) (hb : n ≤ 1000000) (h2 : fr ≤ to) (h3 : to ≤ n ∨ n = 0) (hto : to ≤ 1000000) (Φ : Base) :
    Sl.Fn Tryz.prog Φ F.node_part_api_Ref [.slice a n cap, i64 fr, i64 to] [isl a n cap T.api_Ref 33 vs] (fun _ : Option Addr × Nat => True) (fun p => .slice p.1 (min to n - min fr n) p.2) (fun p => [vec p.1 (min to n - min fr n) p.2 T.api_Ref 33 ((vs.drop (fr * 33)).take ((to - fr) * 33))]) := by
  refine fo fun F => j_leni (fun hl hc ha => ?_)
  repeat' (first | refine r_nil ?_ | (refine k_move ?_; refine r_move rfl rfl ?_) | (refine k_assign ?_; refine r_assign rfl rfl ?_) | (refine k_nck ?_; first | refine r_nck rfl rfl ?_ | refine r_nckf rfl rfl ?_) | (refine k_fld ?_; first | refine r_fld0 rfl rfl ?_ | refine r_fld rfl rfl ?_) | (refine k_load ?_; first | refine r_load1L rfl rfl rfl ?_ | refine s_load1L rfl rfl rfl ?_ | refine r_load1 rfl rfl rfl rfl ?_ | refine r_loadW rfl rfl rfl rfl ?_ | refine s_loadW rfl rfl rfl rfl ?_) | (refine k_ext ?_; first | refine r_extL rfl rfl ?_ | refine r_ext rfl rfl rfl ?_) | (refine k_len ?_; refine r_lenS rfl rfl ?_) | (refine k_un ?_; first | refine r_notT rfl (by with_reducible rfl) rfl ?_ | refine r_notF rfl (by with_reducible rfl) rfl ?_ | refine r_not rfl rfl ?_) | (refine k_sl0 ?_; refine r_sliceA rfl (by decide) rfl ?_) | (refine k_conv ?_; refine r_conv rfl rfl ?_) | (refine k_pick ?_; first | refine r_pickT rfl (by with_reducible rfl) rfl rfl ?_ | refine r_pickF rfl (by with_reducible rfl) rfl rfl ?_) | (refine k_inc ?_; refine r_inc rfl (by omega) rfl ?_) | (refine k_bin ?_; first | refine r_icmpT rfl rfl rfl rfl ?_ | refine r_icmpF rfl rfl rfl rfl ?_ | refine r_icmp rfl rfl rfl rfl ?_) | (refine k_eql ?_; first | refine r_peqS rfl rfl rfl ?_ | refine r_peqN rfl rfl rfl ?_ | refine r_meqS rfl rfl rfl ?_ | refine r_meqN rfl rfl rfl ?_ | refine r_peq rfl rfl rfl ?_) | (refine k_neq ?_; first | refine r_pneS rfl rfl rfl ?_ | refine r_pneN rfl rfl rfl ?_ | refine r_mneS rfl rfl rfl ?_ | refine r_mneN rfl rfl rfl ?_ | refine r_pne rfl rfl rfl ?_) | (refine g_mark ?_; first | refine gg_pass rfl rfl (by with_reducible rfl) ?_ | refine gg_skipT rfl rfl (by with_reducible rfl) (blt_any rfl) ?_ | refine gg_skipF rfl rfl (by with_reducible rfl) (blt_any rfl) ?_ | refine gg_skipU rfl rfl (by with_reducible rfl) (blt_any rfl) ?_ | refine gg_splitD rfl rfl (fun _ => ?_) (fun _ => ?_) | refine gg_splitN rfl rfl (fun _ => ?_) (fun _ => ?_) | refine gg_split rfl rfl (fun _ => ?_) (fun _ => ?_)) | refine t_seq ?_ | refine t_perm rfl ?_ | refine t_permE ?_ | refine j_then ?_ | refine t_region ?_ | refine t_draw [] [] mixed (by decide +kernel) ?_ | (refine k_cond ?_; first | refine t_condT rfl (by with_reducible rfl) ?_ | refine t_condF rfl (by with_reducible rfl) ?_ | refine t_condS rfl (fun _ => ?_) (fun _ => ?_) | refine t_condSN rfl (fun _ => ?_) (fun _ => ?_) | refine t_condSB rfl (fun _ => ?_) (fun _ => ?_)) | refine t_block ?_ | refine j_in ?_ | refine t_skip ?_ | refine t_ret ?_ | refine j_then_ret ?_ | refine j_in_ret ?_ | refine t_exit ?_ | refine j_then_exit ?_ | refine j_in_exit ?_ | refine j_in_other rfl ?_ | refine t_scope ?_ | refine t_label ?_ | refine j_ng ?_ | refine j_ng_ret ?_ | refine j_ng_exit ?_)
  next hx =>
    have hn : n = 0 := by omega
    subst hn
    have hv : vs = [] := List.eq_nil_of_length_eq_zero (by simpa using hl)
    subst hv
    refine j_ent (Ent.vecNil (E := T.api_Ref) (s := 33) _) ?_
    have hq : min to 0 - min fr 0 = 0 := by omega
    rw [hq, List.drop_nil, List.take_nil]
    exact f1 (none, 0)
  next hx hy => exact absurd hy (by omega)
  next hx hy =>
    have hto2 : to ≤ n := by omega
    refine r_piece (s := 33) fr to cap rfl (.inr ⟨_, rfl⟩) (.inr ⟨_, rfl⟩) (.inl ⟨rfl, rfl⟩) h2 (by omega) (Nat.le_refl _) rfl ?_
    repeat refine s1 ?_
    refine j_ent (Ent.islPiece (E := T.api_Ref) (s := 33) (lo := fr) (hi := to) h2 hto2 hc _) ?_
    repeat refine s1 ?_
    refine cx (cloneR_c _ (to - fr) _ ((vs.drop (fr * 33)).take ((to - fr) * 33)) (fun v hv => h1 v (List.mem_of_mem_drop (List.mem_of_mem_take hv))) (by omega) Φ) (fun p _ => ?_)
    repeat refine s1 ?_
    have hq : min to n - min fr n = to - fr := by omega
    rw [hq]
    exact f1 p
end Go.Proofs.YtcnpkmdooekmgaaGreatDoor
namespace Go.Proofs.YtcnpkmdooekmgaaGreatDoor
open Go Sl
theorem flat_drop {α β : Type} (s : Nat) {f : α → List β} : ∀ {l : List α}, (∀ x ∈ l, (f x).length = s) → ∀ i, (l.flatMap f).drop (i * s) = (l.drop i).flatMap f := by
  intro l
  induction l with
  | nil => intro _ i; simp
  | cons a l ih =>
    intro h i
    cases i with
    | zero => simp
    | succ i =>
      have ha : (f a).length = s := h a (by simp)
      rw [List.flatMap_cons, Nat.add_one_mul, Nat.add_comm, ← List.drop_drop, List.drop_left' ha, List.drop_succ_cons]
      exact ih (fun x hx => h x (List.mem_cons_of_mem _ hx)) i
theorem flat_take {α β : Type} (s : Nat) {f : α → List β} : ∀ {l : List α}, (∀ x ∈ l, (f x).length = s) → ∀ i, (l.flatMap f).take (i * s) = (l.take i).flatMap f := by
  intro l
  induction l with
  | nil => intro _ i; simp
  | cons a l ih =>
    intro h i
    cases i with
    | zero => simp
    | succ i =>
      have ha : (f a).length = s := h a (by simp)
      rw [List.flatMap_cons, Nat.add_one_mul, Nat.add_comm, ← ha, List.take_length_add_append, List.take_succ_cons, List.flatMap_cons, ha]
      rw [ih (fun x hx => h x (List.mem_cons_of_mem _ hx)) i]
theorem flat_part {α β : Type} (s : Nat) {f : α → List β} {l : List α} (h : ∀ x ∈ l, (f x).length = s) (i j : Nat) :
    ((l.flatMap f).drop (i * s)).take ((j - i) * s) = ((l.take j).drop i).flatMap f := by
  rw [flat_drop s h, flat_take s (fun x hx => h x (List.mem_of_mem_drop hx)), List.drop_take]
theorem map_flat {α β : Type} (f : α → β) (l : List α) : l.map f = l.flatMap fun x => [f x] := by
  induction l with
  | nil => rfl
  | cons a l ih => rw [List.map_cons, List.flatMap_cons, ih]; rfl
theorem part_len {α : Type} (l : List α) (i j : Nat) : ((l.take j).drop i).length = min j l.length - min i l.length := by
  rw [List.length_drop, List.length_take]; omega
theorem Nd.wt.one {n : Nd} (_ : n.wt) : (∀ v ∈ n.keys.map w64, v.oneCell' = true) ∧ (∀ v ∈ n.vals.flatMap fun v => v.map u8, v.oneCell' = true) ∧ (∀ v ∈ n.kids.flatMap rcells, v.oneCell' = true) := by
  refine ⟨fun v hv => ?_, fun v hv => ?_, fun v hv => ?_⟩
  · obtain ⟨x, _, rfl⟩ := List.mem_map.1 hv; rfl
  · obtain ⟨x, _, hx⟩ := List.mem_flatMap.1 hv
    obtain ⟨y, _, rfl⟩ := List.mem_map.1 hx; rfl
  · obtain ⟨x, _, hx⟩ := List.mem_flatMap.1 hv
    rcases List.mem_cons.1 hx with rfl | hx
    · rfl
    · obtain ⟨y, _, rfl⟩ := List.mem_map.1 hx; rfl
/-- a node whose rows are as long as they are said to be. -/
structure Nd.whole (n : Nd) : Prop where
  keys : n.keys.length ≤ 1000
  leaf : n.leaf = true → n.vals.length = n.keys.length ∧ n.kids = []
  inner : n.leaf = false → n.kids.length = n.keys.length ∧ n.vals = []
theorem Nd.whole.lens {n : Nd} (h : n.whole) : (n.vals.length = n.keys.length ∨ n.vals.length = 0) ∧ (n.kids.length = n.keys.length ∨ n.kids.length = 0) := by
  cases hl : n.leaf
  · have := h.inner hl; simp [this]
  · have := h.leaf hl; simp [this]
theorem part_wt {n : Nd} (h : n.wt) (i j : Nat) : (n.part i j).wt :=
  ⟨fun k hk => h.keys k (List.mem_of_mem_take (List.mem_of_mem_drop hk)), fun v hv => h.vals v (List.mem_of_mem_take (List.mem_of_mem_drop hv)), fun r hr => h.kids r (List.mem_of_mem_take (List.mem_of_mem_drop hr))⟩
theorem part_whole {n : Nd} (h : n.whole) {i j : Nat} : (n.part i j).whole := by
  have hk := h.keys
  refine ⟨by simp only [Nd.part, part_len]; omega, fun hl => ?_, fun hl => ?_⟩
  · have := h.leaf hl
    simp only [Nd.part, part_len, this.1, this.2]; simp
  · have := h.inner hl
    simp only [Nd.part, part_len, this.1, this.2]; simp
/-- three fresh rows become a node. -/
theorem j_node {X : Cx} {e : Env} {L : List Assn} {G : Act → World → Prop} {m : Nd} (y : NR) (h : J X e (node m y :: L) G) :
    J X e (vec y.ra m.kids.length y.rc T.api_Ref 33 (m.kids.flatMap rcells) :: vec y.va m.vals.length y.vc T.a44_uint8 44 (m.vals.flatMap fun v => v.map u8) :: vec y.ka m.keys.length y.kc T.uint64 1 (m.keys.map w64) :: L) G := by
  refine fz ?_
  refine jh [vec y.va m.vals.length y.vc T.a44_uint8 44 (m.vals.flatMap fun v => v.map u8)] ?_
  refine fz ?_
  refine jh [vec y.ka m.keys.length y.kc T.uint64 1 (m.keys.map w64)] ?_
  refine fz ?_
  exact j_ent (Ent.node (n := m) (x := y) L) h
attribute [local irreducible] cw sw J Exit.then Exit.inBlock Exit.noGoto bodyPost swG swL permL
theorem some_c (n : Nd) (x : NR) (fr to : Nat) (hw : n.whole) (ht : n.wt) (h2 : fr ≤ to) (h3 : to ≤ n.keys.length) (Φ : Base) :
    Sl.Fn Tryz.prog Φ F.node_some [nV n x, i64 fr, i64 to] [node n x] (fun _ : NR => True) (fun y => nV (n.part fr to) y) (fun y => [node (n.part fr to) y]) := by
  have hk := hw.keys
  obtain ⟨hv, hr⟩ := hw.lens
  obtain ⟨o1, o2, o3⟩ := ht.one
  refine fo fun F => ?_
  repeat refine s1 ?_
  refine r_box (cs := nbx n x) rfl rfl rfl rfl (fun t3 => ?_)
  refine j_head (node n x) (j_ent (Ent.unnode _) ?_)
  repeat refine s1 ?_
  refine al (fun t6 => ?_)
  repeat refine s1 ?_
  refine t_draw [pt t3 (.cells (nbx n x).toArray T.node_Node (0, 0))] [1, 3, 8, 13] mixed (by decide +kernel) ?_
  repeat refine s1 ?_
  refine cx (partK_c x.ka n.keys.length x.kc fr to (n.keys.map w64) o1 (by omega) h2 (.inl h3) (by omega) Φ) (fun p1 _ => ?_)
  repeat refine s1 ?_
  refine cx (partV_c x.va n.vals.length x.vc fr to (n.vals.flatMap fun v => v.map u8) o2 (by omega) h2 (by omega) (by omega) Φ) (fun p2 _ => ?_)
  repeat refine s1 ?_
  refine cx (partR_c x.ra n.kids.length x.rc fr to (n.kids.flatMap rcells) o3 (by omega) h2 (by omega) (by omega) Φ) (fun p3 _ => ?_)
  repeat refine s1 ?_
  rw [flat_part 33 (f := rcells) (fun r hr => by simp [(ht.kids r hr).sum.1]), flat_part 44 (f := fun v : List Nat => v.map u8) (fun v hv => by simpa using (ht.vals v hv).1), map_flat w64, flat_part 1 (f := fun x : Nat => [w64 x]) (fun _ _ => rfl), ← map_flat w64,
    show min to n.keys.length - min fr n.keys.length = (n.part fr to).keys.length from (part_len ..).symm, show min to n.vals.length - min fr n.vals.length = (n.part fr to).vals.length from (part_len ..).symm,
    show min to n.kids.length - min fr n.kids.length = (n.part fr to).kids.length from (part_len ..).symm]
  refine r_build (cells := nbx (n.part fr to) ⟨p1.1, p1.2, p2.1, p2.2, p3.1, p3.2⟩) rfl (by rfl) rfl ?_
  refine r_storeW (vs := nbx (n.part fr to) ⟨p1.1, p1.2, p2.1, p2.2, p3.1, p3.2⟩) rfl rfl (by rfl) (by rfl) (by simp [Value.oneCell']) rfl ?_
  repeat refine s1 ?_
  refine j_node (m := n.part fr to) ⟨p1.1, p1.2, p2.1, p2.2, p3.1, p3.2⟩ ?_
  exact j_fin rfl (.cons (rv_agg (l := nbx (n.part fr to) ⟨p1.1, p1.2, p2.1, p2.2, p3.1, p3.2⟩) (U := T.node_Node) (fr := (0, 0)) rfl (by rfl)) .nil) ⟨p1.1, p1.2, p2.1, p2.2, p3.1, p3.2⟩ rfl trivial
theorem Nd.whole.is {n : Nd} (h : n.whole) : if n.leaf then n.vals.length = n.keys.length else n.kids.length = n.keys.length := by
  cases hl : n.leaf
  · simpa using (h.inner hl).1
  · simpa using (h.leaf hl).1
theorem halve_c (n : Nd) (x : NR) (hw : n.whole) (ht : n.wt) (Φ : Base) :
    Sl.Fn Tryz.prog Φ F.node_Halve [nV n x] [node n x] (fun _ : NR × NR => True) (fun y => .tuple #[nV (n.part 0 ((n.keys.length + 1) / 2)) y.1, nV (n.part ((n.keys.length + 1) / 2) n.keys.length) y.2])
      (fun y => [node (n.part 0 ((n.keys.length + 1) / 2)) y.1, node (n.part ((n.keys.length + 1) / 2) n.keys.length) y.2]) := by
  have hk := hw.keys
  refine fo fun F => ?_
  repeat refine s1 ?_
  refine r_box (cs := nbx n x) rfl rfl rfl rfl (fun t1 => ?_)
  repeat refine s1 ?_
  refine al (fun t2 => ?_)
  refine al (fun t3 => ?_)
  repeat refine s1 ?_
  refine cl (whole_c n x hw.is Φ) ?_
  repeat refine s1 ?_
  refine t_draw [pt t1 (.cells (nbx n x).toArray T.node_Node)] [0, 5] mixed (by decide +kernel) ?_
  repeat refine s1 ?_
  repeat refine s1 ?_
  refine r_quoN (m := n.keys.length + 1) (n := 2) rfl rfl (by omega) (by rw [i64_nat (by omega)]) rfl ?_
  refine cx (some_c n x 0 ((n.keys.length + 1) / 2) hw ht (Nat.zero_le _) (by omega) Φ) (fun y1 _ => ?_)
  repeat refine s1 ?_
  repeat refine s1 ?_
  refine r_quoN (m := n.keys.length + 1) (n := 2) rfl rfl (by omega) (by rw [i64_nat (by omega)]) rfl ?_
  repeat refine s1 ?_
  refine cx (some_c n x ((n.keys.length + 1) / 2) n.keys.length hw ht (by omega) (by omega) Φ) (fun y2 _ => ?_)
  repeat refine s1 ?_
  generalize hA : n.part 0 ((n.keys.length + 1) / 2) = nA
  generalize hB : n.part ((n.keys.length + 1) / 2) n.keys.length = nB
  refine r_storeW (vs := nbx nA y1) rfl rfl (by rfl) (by rfl) (by simp [Value.oneCell']) rfl ?_
  refine r_storeW (vs := nbx nB y2) rfl rfl (by rfl) (by rfl) (by simp [Value.oneCell']) rfl ?_
  repeat refine s1 ?_
  exact j_fin rfl (.cons (rv_agg (l := nbx nA y1) (U := T.node_Node) (fr := (0, 0)) rfl (by rfl)) (.cons (rv_agg (l := nbx nB y2) (U := T.node_Node) (fr := (0, 0)) rfl (by rfl)) .nil)) (y1, y2) rfl trivial
end Go.Proofs.YtcnpkmdooekmgaaGreatDoor
namespace Go.Proofs.YtcnpkmdooekmgaaGreatDoor
open Go Sl
theorem run_append_zeros0 {P : Program} {w : World} {t u ty E : TypeId} {ki : IntKind} {s by_ : Nat} {z : Value} [tu : TUnd P t (.slice E)] [tv : TUnd P u (.int ki)] [te : TElem P E s by_ z] {m : Nat} (hs : 0 < s) (hm : 0 < m) (hb : m * by_ ≤ 140737488355328) (h63 : m ≤ 9223372036854775807) :
    ∃ (nc : Nat) (zs : List Value), m ≤ nc ∧ zs.length = nc * z.cells.size ∧ (Builtin.append_ #[t, u] ty #[.slice none 0 0, .int .i64 (m : Int)]).run P w = .ok (.slice (some ⟨w.heap.size, 0, none⟩) m nc) (w.drew.alloc (.cells zs.toArray E)) := by
  obtain ⟨i, hi, his, hib, hz⟩ := te.ex
  have hw : IntKind.i64.wrap (m : Int) = (m : Int) := i64_nat (by omega)
  have hbm : (m : Int) * (by_ : Int) ≤ 140737488355328 := by
    have h3 : ((m * by_ : Nat) : Int) ≤ 140737488355328 := by omega
    rwa [Int.natCast_mul] at h3
  have hf := growslice_fits (old := 0) (need := m) (by omega) hb
  have hnc : m ≤ grownCap w m 0 E := by unfold grownCap Question.cut; exact Nat.le_add_right _ _
  refine ⟨grownCap w m 0 E, (Builtin.zeroCells z.cells m ++ Builtin.zeroCells z.cells (grownCap w m 0 E - m)).toList, hnc, ?_, ?_⟩
  · simp [Builtin.zeroCells, ← Nat.add_mul]
    congr 1; omega
  have h0 : ¬ ((m : Int) < 0) := by omega
  have h2 : ¬ ((m : Int) * (i.bytes : Int) > 2 ^ 48) := by rw [hib]; omega
  have h4 : ¬ (((m : Nat) : Int) > IntKind.i64.max) := by simp [IntKind.max, IntKind.signed, IntKind.bits]; omega
  have h5 : ¬ (Builtin.nextslicecap m 0 * i.bytes > 2 ^ 48) := by rw [hib]; omega
  have hfo : (Builtin.firstCells s 0 (.slice none 0 0)).run P w.drew = .ok #[] w.drew := run_first (P := P) (len := 0) (cap := 0) (a := none) (n := 0) (s := s) (xs := []) ⟨by simp, .inl rfl⟩
  have h6 : ¬ (m = 0) := by omega
  have h2' : ¬ (281474976710656 < (m : Int) * (by_ : Int)) := by omega
  have h4' : ¬ (9223372036854775807 < (m : Int)) := by omega
  have h5' : ¬ (281474976710656 < Builtin.nextslicecap m 0 * by_) := by omega
  simp [Builtin.append_, run_underlying tu.eq, run_underlying tv.eq, sizeOf, typeInfo, zeroValue, hi, hz, his, hib, asInt, asIntOf, hw, Builtin.lenOf, h0, h2', h4', h5', h6, Question.forced, hfo, newRow, grownCap]
  rw [if_neg (Nat.ne_of_gt (Nat.mul_pos hm hs))]
  congr 3
  apply Array.ext'
  simp
section
variable {X : Cx} {e : Env} {L L1 F : List Assn} {A : List Assn} {S : List Nat} {ops : Array Oper} {k : Nat} {l : List Oper} {R : Act → World → Prop} {G : Act → World → Prop}
variable {d : Nat} {T : TypeId} {pos : String} {af : Array Edge}
/-- append of noughts to no row. -/
theorem r_append0 {t u E : TypeId} {ki : IntKind} {x y : Operand} {s by_ : Nat} {z : Value} {m : Nat} [tu : TUnd X.P t (.slice E)] [tv : TUnd X.P u (.int ki)] [te : TElem X.P E s by_ z]
    (hx : ev e x = some (.slice none 0 0)) (hy : ev e y = some (.int .i64 (m : Int))) (hs : 0 < s) (hzc : z.cells.size = s) (hm : 0 < m) (hb : m * by_ ≤ 140737488355328) (h63 : m ≤ 9223372036854775807) (hS : S.contains k = false) (hd : Nat.blt d X.n = true)
    [st : ∀ q : Nat × Nat × List Value, Stay A (pt q.1 (.cells q.2.2.toArray E (0, 0)) :: L)]
    (h : ∀ (b nc : Nat) (zs : List Value), m ≤ nc → zs.length = nc * s → J X ((d, .slice (some ⟨b, 0, none⟩) m nc) :: e) (pt b (.cells zs.toArray E (0, 0)) :: L) (sw X.P (Holds X.Φ A) S ops R (k + 1) l)) :
    J X e L (sw X.P (Holds X.Φ A) S ops R k (⟨some d, .call { callee := .builtin .append, args := #[x, y], argTypes := #[t, u] }, T, pos, af, none⟩ :: l)) :=
  r_write (α := Nat × Nat × List Value) (q := fun p => m ≤ p.2.1 ∧ p.2.2.length = p.2.1 * s) (V := fun p => .slice (some ⟨p.1, 0, none⟩) m p.2.1) (M := fun p => pt p.1 (.cells p.2.2.toArray E (0, 0)) :: L) rfl (cls_write rfl hS rfl) (blt_some hd) st
    (fun act w mt hh => by
      have hop : ∀ r, (Builtin.append_ #[t, u] T #[.slice none 0 0, .int .i64 (m : Int)]).run X.P w = r → (execOp act.eval (⟨some d, .call { callee := .builtin .append, args := #[x, y], argTypes := #[t, u] }, T, pos, af, none⟩ : Oper)).run X.P w = r.andThen fun v w' => .ok (.value v) w' := fun r hr => by
        simp only [execOp, resolve, invoke, builtin, Sem.run_bind, Sem.run_pure, Result.andThen_ok, List.map_toArray, List.map_cons, List.map_nil, mt.ev hx, mt.ev hy, hr]
      obtain ⟨nc, zs, h1, h2, hr⟩ := run_append_zeros0 (P := X.P) (w := w) (t := t) (u := u) (ty := T) (E := E) hs hm hb h63
      rw [hop _ hr]
      exact ⟨(w.heap.size, nc, zs), ⟨h1, by rw [h2, hzc]⟩, rfl, hh.alloc _ rfl rfl rfl rfl⟩)
    (fun p hp => h p.1 p.2.1 p.2.2 hp.1 hp.2)
theorem Ent.ptVec {b nc s : Nat} {E : TypeId} {zs : List Value} (hz : zs.length = nc * s) (L : List Assn) : Ent (pt b (.cells zs.toArray E (0, 0)) :: L) (vec (some ⟨b, 0, none⟩) 0 nc E s [] :: L) := by
  rintro im h ⟨p1, p2, pa, pb, pc, hp, st⟩
  exact ⟨p1, p2, pa, pb, pc, ⟨by simp, Nat.zero_le _, .inr ⟨b, 0, [], zs, rfl, rfl, by simpa using hz, hp⟩⟩, st⟩
theorem r_capS {t E : TypeId} {x : Operand} {base : Option Addr} {n cap : Nat} [tu : TUnd X.P t (.slice E)] [st : Stay A L] (hx : ev e x = some (.slice base n cap)) (hd : Nat.blt d X.n = true) (h : J X ((d, .int .i64 cap) :: e) L (sw X.P (Holds X.Φ A) S ops R (k + 1) l)) :
    J X e L (sw X.P (Holds X.Φ A) S ops R k (⟨some d, .call { callee := .builtin .cap, args := #[x], argTypes := #[t] }, T, pos, af, none⟩ :: l)) := by
  have hrun : ∀ a, Mt X.ds X.n e a → ∀ w, (execOp a.eval (⟨some d, .call { callee := .builtin .cap, args := #[x], argTypes := #[t] }, T, pos, af, none⟩ : Oper)).run X.P w = .ok (.value (.int .i64 cap)) w := fun a m w => by
    simp only [execOp, resolve, invoke, builtin, m.ev hx, List.map_toArray, List.map_cons, List.map_nil, pure_bind, Builtin.cap_, List.getElem?_toArray, List.getElem?_cons_zero, Sem.run_bind, tu.run, Result.andThen_ok, Sem.run_pure, goInt]
  by_cases hs : S.contains k = true
  · exact r_stable rfl hs rfl hd (fun a w m _ => hrun a m w) h
  · exact r_pureW rfl hrun hd h
end
/-- of two, the first i: how many, and which. -/
def tot2 (n m i : Nat) : Nat := if i = 0 then 0 else if i = 1 then n else n + m
def acc2 (xs ys : List Value) (i : Nat) : List Value := if i = 0 then [] else if i = 1 then xs else xs ++ ys
attribute [local irreducible] cw sw J Exit.then Exit.inBlock Exit.noGoto bodyPost swG swL permL
theorem growK_c (m : Nat) (hb : m ≤ 1000000) (Φ : Base) :
    Sl.Fn Tryz.prog Φ F.slices_Grow_uint64_uint64 [.slice none 0 0, i64 m] [] (fun _ : Option Addr × Nat => True) (fun p => .slice p.1 0 p.2) (fun p => [vec p.1 0 p.2 T.uint64 1 []]) := by
  refine fo fun F => ?_
  repeat' (first | refine r_nil ?_ | (refine k_move ?_; refine r_move rfl rfl ?_) | (refine k_assign ?_; refine r_assign rfl rfl ?_) | (refine k_nck ?_; first | refine r_nck rfl rfl ?_ | refine r_nckf rfl rfl ?_) | (refine k_fld ?_; first | refine r_fld0 rfl rfl ?_ | refine r_fld rfl rfl ?_) | (refine k_load ?_; first | refine r_load1L rfl rfl rfl ?_ | refine s_load1L rfl rfl rfl ?_ | refine r_load1 rfl rfl rfl rfl ?_ | refine r_loadW rfl rfl rfl rfl ?_ | refine s_loadW rfl rfl rfl rfl ?_) | (refine k_ext ?_; first | refine r_extL rfl rfl ?_ | refine r_ext rfl rfl rfl ?_) | (refine k_len ?_; refine r_lenS rfl rfl ?_) | (refine k_un ?_; first | refine r_notT rfl (by with_reducible rfl) rfl ?_ | refine r_notF rfl (by with_reducible rfl) rfl ?_ | refine r_not rfl rfl ?_) | (refine k_sl0 ?_; refine r_sliceA rfl (by decide) rfl ?_) | (refine k_conv ?_; refine r_conv rfl rfl ?_) | (refine k_pick ?_; first | refine r_pickT rfl (by with_reducible rfl) rfl rfl ?_ | refine r_pickF rfl (by with_reducible rfl) rfl rfl ?_) | (refine k_inc ?_; refine r_inc rfl (by omega) rfl ?_) | (refine k_bin ?_; first | refine r_icmpT rfl rfl rfl rfl ?_ | refine r_icmpF rfl rfl rfl rfl ?_ | refine r_icmp rfl rfl rfl rfl ?_) | (refine k_eql ?_; first | refine r_peqS rfl rfl rfl ?_ | refine r_peqN rfl rfl rfl ?_ | refine r_meqS rfl rfl rfl ?_ | refine r_meqN rfl rfl rfl ?_ | refine r_peq rfl rfl rfl ?_) | (refine k_neq ?_; first | refine r_pneS rfl rfl rfl ?_ | refine r_pneN rfl rfl rfl ?_ | refine r_mneS rfl rfl rfl ?_ | refine r_mneN rfl rfl rfl ?_ | refine r_pne rfl rfl rfl ?_) | (refine g_mark ?_; first | refine gg_pass rfl rfl (by with_reducible rfl) ?_ | refine gg_skipT rfl rfl (by with_reducible rfl) (blt_any rfl) ?_ | refine gg_skipF rfl rfl (by with_reducible rfl) (blt_any rfl) ?_ | refine gg_skipU rfl rfl (by with_reducible rfl) (blt_any rfl) ?_ | refine gg_splitD rfl rfl (fun _ => ?_) (fun _ => ?_) | refine gg_splitN rfl rfl (fun _ => ?_) (fun _ => ?_) | refine gg_split rfl rfl (fun _ => ?_) (fun _ => ?_)) | refine t_seq ?_ | refine t_perm rfl ?_ | refine t_permE ?_ | refine j_then ?_ | refine t_region ?_ | refine t_draw [] [] mixed (by decide +kernel) ?_ | (refine k_cond ?_; first | refine t_condT rfl (by with_reducible rfl) ?_ | refine t_condF rfl (by with_reducible rfl) ?_ | refine t_condS rfl (fun _ => ?_) (fun _ => ?_) | refine t_condSN rfl (fun _ => ?_) (fun _ => ?_) | refine t_condSB rfl (fun _ => ?_) (fun _ => ?_)) | refine t_block ?_ | refine j_in ?_ | refine t_skip ?_ | refine t_ret ?_ | refine j_then_ret ?_ | refine j_in_ret ?_ | refine t_exit ?_ | refine j_then_exit ?_ | refine j_in_exit ?_ | refine j_in_other rfl ?_ | refine t_scope ?_ | refine t_label ?_ | refine j_ng ?_ | refine j_ng_ret ?_ | refine j_ng_exit ?_)
  refine r_capS rfl rfl ?_
  repeat refine s1 ?_
  refine r_subN (m := 0) (n := 0) rfl rfl (Nat.le_refl _) (by omega) rfl ?_
  refine r_subN (m := m) (n := 0) rfl rfl (Nat.zero_le _) (by omega) rfl ?_
  rw [Nat.sub_zero]
  repeat' (first | refine r_nil ?_ | (refine k_move ?_; refine r_move rfl rfl ?_) | (refine k_assign ?_; refine r_assign rfl rfl ?_) | (refine k_nck ?_; first | refine r_nck rfl rfl ?_ | refine r_nckf rfl rfl ?_) | (refine k_fld ?_; first | refine r_fld0 rfl rfl ?_ | refine r_fld rfl rfl ?_) | (refine k_load ?_; first | refine r_load1L rfl rfl rfl ?_ | refine s_load1L rfl rfl rfl ?_ | refine r_load1 rfl rfl rfl rfl ?_ | refine r_loadW rfl rfl rfl rfl ?_ | refine s_loadW rfl rfl rfl rfl ?_) | (refine k_ext ?_; first | refine r_extL rfl rfl ?_ | refine r_ext rfl rfl rfl ?_) | (refine k_len ?_; refine r_lenS rfl rfl ?_) | (refine k_un ?_; first | refine r_notT rfl (by with_reducible rfl) rfl ?_ | refine r_notF rfl (by with_reducible rfl) rfl ?_ | refine r_not rfl rfl ?_) | (refine k_sl0 ?_; refine r_sliceA rfl (by decide) rfl ?_) | (refine k_conv ?_; refine r_conv rfl rfl ?_) | (refine k_pick ?_; first | refine r_pickT rfl (by with_reducible rfl) rfl rfl ?_ | refine r_pickF rfl (by with_reducible rfl) rfl rfl ?_) | (refine k_inc ?_; refine r_inc rfl (by omega) rfl ?_) | (refine k_bin ?_; first | refine r_icmpT rfl rfl rfl rfl ?_ | refine r_icmpF rfl rfl rfl rfl ?_ | refine r_icmp rfl rfl rfl rfl ?_) | (refine k_eql ?_; first | refine r_peqS rfl rfl rfl ?_ | refine r_peqN rfl rfl rfl ?_ | refine r_meqS rfl rfl rfl ?_ | refine r_meqN rfl rfl rfl ?_ | refine r_peq rfl rfl rfl ?_) | (refine k_neq ?_; first | refine r_pneS rfl rfl rfl ?_ | refine r_pneN rfl rfl rfl ?_ | refine r_mneS rfl rfl rfl ?_ | refine r_mneN rfl rfl rfl ?_ | refine r_pne rfl rfl rfl ?_) | (refine g_mark ?_; first | refine gg_pass rfl rfl (by with_reducible rfl) ?_ | refine gg_skipT rfl rfl (by with_reducible rfl) (blt_any rfl) ?_ | refine gg_skipF rfl rfl (by with_reducible rfl) (blt_any rfl) ?_ | refine gg_skipU rfl rfl (by with_reducible rfl) (blt_any rfl) ?_ | refine gg_splitD rfl rfl (fun _ => ?_) (fun _ => ?_) | refine gg_splitN rfl rfl (fun _ => ?_) (fun _ => ?_) | refine gg_split rfl rfl (fun _ => ?_) (fun _ => ?_)) | refine t_seq ?_ | refine t_perm rfl ?_ | refine t_permE ?_ | refine j_then ?_ | refine t_region ?_ | refine t_draw [] [] mixed (by decide +kernel) ?_ | (refine k_cond ?_; first | refine t_condT rfl (by with_reducible rfl) ?_ | refine t_condF rfl (by with_reducible rfl) ?_ | refine t_condS rfl (fun _ => ?_) (fun _ => ?_) | refine t_condSN rfl (fun _ => ?_) (fun _ => ?_) | refine t_condSB rfl (fun _ => ?_) (fun _ => ?_)) | refine t_block ?_ | refine j_in ?_ | refine t_skip ?_ | refine t_ret ?_ | refine j_then_ret ?_ | refine j_in_ret ?_ | refine t_exit ?_ | refine j_then_exit ?_ | refine j_in_exit ?_ | refine j_in_other rfl ?_ | refine t_scope ?_ | refine t_label ?_ | refine j_ng ?_ | refine j_ng_ret ?_ | refine j_ng_exit ?_)
  next hm =>
    refine r_capS rfl rfl ?_
    refine r_piece (s := 1) 0 0 0 rfl (.inl ⟨rfl, rfl⟩) (.inr ⟨_, rfl⟩) (.inl ⟨rfl, rfl⟩) (Nat.le_refl _) (Nat.le_refl _) (Nat.le_refl _) rfl ?_
    repeat refine s1 ?_
    refine r_append0 (s := 1) (m := m) rfl rfl (by decide) (by rfl) (by omega) (by omega) (by omega) rfl rfl (fun b nc zs hn hz => ?_)
    refine j_ent (Ent.ptVec hz _) ?_
    repeat refine s1 ?_
    refine r_piece (s := 1) 0 0 nc rfl (.inl ⟨rfl, rfl⟩) (.inr ⟨_, rfl⟩) (.inl ⟨rfl, rfl⟩) (Nat.le_refl _) (by omega) (Nat.le_refl _) rfl ?_
    rw [if_neg (show ¬ nc = 0 by omega), Option.map_some, add_at, Nat.zero_mul, Nat.add_zero, Nat.sub_zero]
    repeat refine s1 ?_
    exact f1 (some ⟨b, 0, none⟩, nc)
  next hm =>
    refine j_ent (Ent.vecNil (E := T.uint64) (s := 1) _) ?_
    exact f1 (none, 0)
theorem growV_c (m : Nat) (hb : m ≤ 1000000) (Φ : Base) :
    Sl.Fn Tryz.prog Φ F.slices_Grow_44_byte_44_byte [.slice none 0 0, i64 m] [] (fun _ : Option Addr × Nat => True) (fun p => .slice p.1 0 p.2) (fun p => [vec p.1 0 p.2 T.a44_uint8 44 []]) := by
  refine fo fun F => ?_
  repeat' (first | refine r_nil ?_ | (refine k_move ?_; refine r_move rfl rfl ?_) | (refine k_assign ?_; refine r_assign rfl rfl ?_) | (refine k_nck ?_; first | refine r_nck rfl rfl ?_ | refine r_nckf rfl rfl ?_) | (refine k_fld ?_; first | refine r_fld0 rfl rfl ?_ | refine r_fld rfl rfl ?_) | (refine k_load ?_; first | refine r_load1L rfl rfl rfl ?_ | refine s_load1L rfl rfl rfl ?_ | refine r_load1 rfl rfl rfl rfl ?_ | refine r_loadW rfl rfl rfl rfl ?_ | refine s_loadW rfl rfl rfl rfl ?_) | (refine k_ext ?_; first | refine r_extL rfl rfl ?_ | refine r_ext rfl rfl rfl ?_) | (refine k_len ?_; refine r_lenS rfl rfl ?_) | (refine k_un ?_; first | refine r_notT rfl (by with_reducible rfl) rfl ?_ | refine r_notF rfl (by with_reducible rfl) rfl ?_ | refine r_not rfl rfl ?_) | (refine k_sl0 ?_; refine r_sliceA rfl (by decide) rfl ?_) | (refine k_conv ?_; refine r_conv rfl rfl ?_) | (refine k_pick ?_; first | refine r_pickT rfl (by with_reducible rfl) rfl rfl ?_ | refine r_pickF rfl (by with_reducible rfl) rfl rfl ?_) | (refine k_inc ?_; refine r_inc rfl (by omega) rfl ?_) | (refine k_bin ?_; first | refine r_icmpT rfl rfl rfl rfl ?_ | refine r_icmpF rfl rfl rfl rfl ?_ | refine r_icmp rfl rfl rfl rfl ?_) | (refine k_eql ?_; first | refine r_peqS rfl rfl rfl ?_ | refine r_peqN rfl rfl rfl ?_ | refine r_meqS rfl rfl rfl ?_ | refine r_meqN rfl rfl rfl ?_ | refine r_peq rfl rfl rfl ?_) | (refine k_neq ?_; first | refine r_pneS rfl rfl rfl ?_ | refine r_pneN rfl rfl rfl ?_ | refine r_mneS rfl rfl rfl ?_ | refine r_mneN rfl rfl rfl ?_ | refine r_pne rfl rfl rfl ?_) | (refine g_mark ?_; first | refine gg_pass rfl rfl (by with_reducible rfl) ?_ | refine gg_skipT rfl rfl (by with_reducible rfl) (blt_any rfl) ?_ | refine gg_skipF rfl rfl (by with_reducible rfl) (blt_any rfl) ?_ | refine gg_skipU rfl rfl (by with_reducible rfl) (blt_any rfl) ?_ | refine gg_splitD rfl rfl (fun _ => ?_) (fun _ => ?_) | refine gg_splitN rfl rfl (fun _ => ?_) (fun _ => ?_) | refine gg_split rfl rfl (fun _ => ?_) (fun _ => ?_)) | refine t_seq ?_ | refine t_perm rfl ?_ | refine t_permE ?_ | refine j_then ?_ | refine t_region ?_ | refine t_draw [] [] mixed (by decide +kernel) ?_ | (refine k_cond ?_; first | refine t_condT rfl (by with_reducible rfl) ?_ | refine t_condF rfl (by with_reducible rfl) ?_ | refine t_condS rfl (fun _ => ?_) (fun _ => ?_) | refine t_condSN rfl (fun _ => ?_) (fun _ => ?_) | refine t_condSB rfl (fun _ => ?_) (fun _ => ?_)) | refine t_block ?_ | refine j_in ?_ | refine t_skip ?_ | refine t_ret ?_ | refine j_then_ret ?_ | refine j_in_ret ?_ | refine t_exit ?_ | refine j_then_exit ?_ | refine j_in_exit ?_ | refine j_in_other rfl ?_ | refine t_scope ?_ | refine t_label ?_ | refine j_ng ?_ | refine j_ng_ret ?_ | refine j_ng_exit ?_)
  refine r_capS rfl rfl ?_
  repeat refine s1 ?_
  refine r_subN (m := 0) (n := 0) rfl rfl (Nat.le_refl _) (by omega) rfl ?_
  refine r_subN (m := m) (n := 0) rfl rfl (Nat.zero_le _) (by omega) rfl ?_
  rw [Nat.sub_zero]
  repeat' (first | refine r_nil ?_ | (refine k_move ?_; refine r_move rfl rfl ?_) | (refine k_assign ?_; refine r_assign rfl rfl ?_) | (refine k_nck ?_; first | refine r_nck rfl rfl ?_ | refine r_nckf rfl rfl ?_) | (refine k_fld ?_; first | refine r_fld0 rfl rfl ?_ | refine r_fld rfl rfl ?_) | (refine k_load ?_; first | refine r_load1L rfl rfl rfl ?_ | refine s_load1L rfl rfl rfl ?_ | refine r_load1 rfl rfl rfl rfl ?_ | refine r_loadW rfl rfl rfl rfl ?_ | refine s_loadW rfl rfl rfl rfl ?_) | (refine k_ext ?_; first | refine r_extL rfl rfl ?_ | refine r_ext rfl rfl rfl ?_) | (refine k_len ?_; refine r_lenS rfl rfl ?_) | (refine k_un ?_; first | refine r_notT rfl (by with_reducible rfl) rfl ?_ | refine r_notF rfl (by with_reducible rfl) rfl ?_ | refine r_not rfl rfl ?_) | (refine k_sl0 ?_; refine r_sliceA rfl (by decide) rfl ?_) | (refine k_conv ?_; refine r_conv rfl rfl ?_) | (refine k_pick ?_; first | refine r_pickT rfl (by with_reducible rfl) rfl rfl ?_ | refine r_pickF rfl (by with_reducible rfl) rfl rfl ?_) | (refine k_inc ?_; refine r_inc rfl (by omega) rfl ?_) | (refine k_bin ?_; first | refine r_icmpT rfl rfl rfl rfl ?_ | refine r_icmpF rfl rfl rfl rfl ?_ | refine r_icmp rfl rfl rfl rfl ?_) | (refine k_eql ?_; first | refine r_peqS rfl rfl rfl ?_ | refine r_peqN rfl rfl rfl ?_ | refine r_meqS rfl rfl rfl ?_ | refine r_meqN rfl rfl rfl ?_ | refine r_peq rfl rfl rfl ?_) | (refine k_neq ?_; first | refine r_pneS rfl rfl rfl ?_ | refine r_pneN rfl rfl rfl ?_ | refine r_mneS rfl rfl rfl ?_ | refine r_mneN rfl rfl rfl ?_ | refine r_pne rfl rfl rfl ?_) | (refine g_mark ?_; first | refine gg_pass rfl rfl (by with_reducible rfl) ?_ | refine gg_skipT rfl rfl (by with_reducible rfl) (blt_any rfl) ?_ | refine gg_skipF rfl rfl (by with_reducible rfl) (blt_any rfl) ?_ | refine gg_skipU rfl rfl (by with_reducible rfl) (blt_any rfl) ?_ | refine gg_splitD rfl rfl (fun _ => ?_) (fun _ => ?_) | refine gg_splitN rfl rfl (fun _ => ?_) (fun _ => ?_) | refine gg_split rfl rfl (fun _ => ?_) (fun _ => ?_)) | refine t_seq ?_ | refine t_perm rfl ?_ | refine t_permE ?_ | refine j_then ?_ | refine t_region ?_ | refine t_draw [] [] mixed (by decide +kernel) ?_ | (refine k_cond ?_; first | refine t_condT rfl (by with_reducible rfl) ?_ | refine t_condF rfl (by with_reducible rfl) ?_ | refine t_condS rfl (fun _ => ?_) (fun _ => ?_) | refine t_condSN rfl (fun _ => ?_) (fun _ => ?_) | refine t_condSB rfl (fun _ => ?_) (fun _ => ?_)) | refine t_block ?_ | refine j_in ?_ | refine t_skip ?_ | refine t_ret ?_ | refine j_then_ret ?_ | refine j_in_ret ?_ | refine t_exit ?_ | refine j_then_exit ?_ | refine j_in_exit ?_ | refine j_in_other rfl ?_ | refine t_scope ?_ | refine t_label ?_ | refine j_ng ?_ | refine j_ng_ret ?_ | refine j_ng_exit ?_)
  next hm =>
    refine r_capS rfl rfl ?_
    refine r_piece (s := 44) 0 0 0 rfl (.inl ⟨rfl, rfl⟩) (.inr ⟨_, rfl⟩) (.inl ⟨rfl, rfl⟩) (Nat.le_refl _) (Nat.le_refl _) (Nat.le_refl _) rfl ?_
    repeat refine s1 ?_
    refine r_append0 (s := 44) (m := m) rfl rfl (by decide) (by rfl) (by omega) (by omega) (by omega) rfl rfl (fun b nc zs hn hz => ?_)
    refine j_ent (Ent.ptVec hz _) ?_
    repeat refine s1 ?_
    refine r_piece (s := 44) 0 0 nc rfl (.inl ⟨rfl, rfl⟩) (.inr ⟨_, rfl⟩) (.inl ⟨rfl, rfl⟩) (Nat.le_refl _) (by omega) (Nat.le_refl _) rfl ?_
    rw [if_neg (show ¬ nc = 0 by omega), Option.map_some, add_at, Nat.zero_mul, Nat.add_zero, Nat.sub_zero]
    repeat refine s1 ?_
    exact f1 (some ⟨b, 0, none⟩, nc)
  next hm =>
    refine j_ent (Ent.vecNil (E := T.a44_uint8) (s := 44) _) ?_
    exact f1 (none, 0)
theorem growR_c (m : Nat) (hb : m ≤ 1000000) (Φ : Base) :
    Sl.Fn Tryz.prog Φ F.slices_Grow_api_Ref_api_Ref [.slice none 0 0, i64 m] [] (fun _ : Option Addr × Nat => True) (fun p => .slice p.1 0 p.2) (fun p => [vec p.1 0 p.2 T.api_Ref 33 []]) := by
  refine fo fun F => ?_
  repeat' (first | refine r_nil ?_ | (refine k_move ?_; refine r_move rfl rfl ?_) | (refine k_assign ?_; refine r_assign rfl rfl ?_) | (refine k_nck ?_; first | refine r_nck rfl rfl ?_ | refine r_nckf rfl rfl ?_) | (refine k_fld ?_; first | refine r_fld0 rfl rfl ?_ | refine r_fld rfl rfl ?_) | (refine k_load ?_; first | refine r_load1L rfl rfl rfl ?_ | refine s_load1L rfl rfl rfl ?_ | refine r_load1 rfl rfl rfl rfl ?_ | refine r_loadW rfl rfl rfl rfl ?_ | refine s_loadW rfl rfl rfl rfl ?_) | (refine k_ext ?_; first | refine r_extL rfl rfl ?_ | refine r_ext rfl rfl rfl ?_) | (refine k_len ?_; refine r_lenS rfl rfl ?_) | (refine k_un ?_; first | refine r_notT rfl (by with_reducible rfl) rfl ?_ | refine r_notF rfl (by with_reducible rfl) rfl ?_ | refine r_not rfl rfl ?_) | (refine k_sl0 ?_; refine r_sliceA rfl (by decide) rfl ?_) | (refine k_conv ?_; refine r_conv rfl rfl ?_) | (refine k_pick ?_; first | refine r_pickT rfl (by with_reducible rfl) rfl rfl ?_ | refine r_pickF rfl (by with_reducible rfl) rfl rfl ?_) | (refine k_inc ?_; refine r_inc rfl (by omega) rfl ?_) | (refine k_bin ?_; first | refine r_icmpT rfl rfl rfl rfl ?_ | refine r_icmpF rfl rfl rfl rfl ?_ | refine r_icmp rfl rfl rfl rfl ?_) | (refine k_eql ?_; first | refine r_peqS rfl rfl rfl ?_ | refine r_peqN rfl rfl rfl ?_ | refine r_meqS rfl rfl rfl ?_ | refine r_meqN rfl rfl rfl ?_ | refine r_peq rfl rfl rfl ?_) | (refine k_neq ?_; first | refine r_pneS rfl rfl rfl ?_ | refine r_pneN rfl rfl rfl ?_ | refine r_mneS rfl rfl rfl ?_ | refine r_mneN rfl rfl rfl ?_ | refine r_pne rfl rfl rfl ?_) | (refine g_mark ?_; first | refine gg_pass rfl rfl (by with_reducible rfl) ?_ | refine gg_skipT rfl rfl (by with_reducible rfl) (blt_any rfl) ?_ | refine gg_skipF rfl rfl (by with_reducible rfl) (blt_any rfl) ?_ | refine gg_skipU rfl rfl (by with_reducible rfl) (blt_any rfl) ?_ | refine gg_splitD rfl rfl (fun _ => ?_) (fun _ => ?_) | refine gg_splitN rfl rfl (fun _ => ?_) (fun _ => ?_) | refine gg_split rfl rfl (fun _ => ?_) (fun _ => ?_)) | refine t_seq ?_ | refine t_perm rfl ?_ | refine t_permE ?_ | refine j_then ?_ | refine t_region ?_ | refine t_draw [] [] mixed (by decide +kernel) ?_ | (refine k_cond ?_; first | refine t_condT rfl (by with_reducible rfl) ?_ | refine t_condF rfl (by with_reducible rfl) ?_ | refine t_condS rfl (fun _ => ?_) (fun _ => ?_) | refine t_condSN rfl (fun _ => ?_) (fun _ => ?_) | refine t_condSB rfl (fun _ => ?_) (fun _ => ?_)) | refine t_block ?_ | refine j_in ?_ | refine t_skip ?_ | refine t_ret ?_ | refine j_then_ret ?_ | refine j_in_ret ?_ | refine t_exit ?_ | refine j_then_exit ?_ | refine j_in_exit ?_ | refine j_in_other rfl ?_ | refine t_scope ?_ | refine t_label ?_ | refine j_ng ?_ | refine j_ng_ret ?_ | refine j_ng_exit ?_)
  refine r_capS rfl rfl ?_
  repeat refine s1 ?_
  refine r_subN (m := 0) (n := 0) rfl rfl (Nat.le_refl _) (by omega) rfl ?_
  refine r_subN (m := m) (n := 0) rfl rfl (Nat.zero_le _) (by omega) rfl ?_
  rw [Nat.sub_zero]
  repeat' (first | refine r_nil ?_ | (refine k_move ?_; refine r_move rfl rfl ?_) | (refine k_assign ?_; refine r_assign rfl rfl ?_) | (refine k_nck ?_; first | refine r_nck rfl rfl ?_ | refine r_nckf rfl rfl ?_) | (refine k_fld ?_; first | refine r_fld0 rfl rfl ?_ | refine r_fld rfl rfl ?_) | (refine k_load ?_; first | refine r_load1L rfl rfl rfl ?_ | refine s_load1L rfl rfl rfl ?_ | refine r_load1 rfl rfl rfl rfl ?_ | refine r_loadW rfl rfl rfl rfl ?_ | refine s_loadW rfl rfl rfl rfl ?_) | (refine k_ext ?_; first | refine r_extL rfl rfl ?_ | refine r_ext rfl rfl rfl ?_) | (refine k_len ?_; refine r_lenS rfl rfl ?_) | (refine k_un ?_; first | refine r_notT rfl (by with_reducible rfl) rfl ?_ | refine r_notF rfl (by with_reducible rfl) rfl ?_ | refine r_not rfl rfl ?_) | (refine k_sl0 ?_; refine r_sliceA rfl (by decide) rfl ?_) | (refine k_conv ?_; refine r_conv rfl rfl ?_) | (refine k_pick ?_; first | refine r_pickT rfl (by with_reducible rfl) rfl rfl ?_ | refine r_pickF rfl (by with_reducible rfl) rfl rfl ?_) | (refine k_inc ?_; refine r_inc rfl (by omega) rfl ?_) | (refine k_bin ?_; first | refine r_icmpT rfl rfl rfl rfl ?_ | refine r_icmpF rfl rfl rfl rfl ?_ | refine r_icmp rfl rfl rfl rfl ?_) | (refine k_eql ?_; first | refine r_peqS rfl rfl rfl ?_ | refine r_peqN rfl rfl rfl ?_ | refine r_meqS rfl rfl rfl ?_ | refine r_meqN rfl rfl rfl ?_ | refine r_peq rfl rfl rfl ?_) | (refine k_neq ?_; first | refine r_pneS rfl rfl rfl ?_ | refine r_pneN rfl rfl rfl ?_ | refine r_mneS rfl rfl rfl ?_ | refine r_mneN rfl rfl rfl ?_ | refine r_pne rfl rfl rfl ?_) | (refine g_mark ?_; first | refine gg_pass rfl rfl (by with_reducible rfl) ?_ | refine gg_skipT rfl rfl (by with_reducible rfl) (blt_any rfl) ?_ | refine gg_skipF rfl rfl (by with_reducible rfl) (blt_any rfl) ?_ | refine gg_skipU rfl rfl (by with_reducible rfl) (blt_any rfl) ?_ | refine gg_splitD rfl rfl (fun _ => ?_) (fun _ => ?_) | refine gg_splitN rfl rfl (fun _ => ?_) (fun _ => ?_) | refine gg_split rfl rfl (fun _ => ?_) (fun _ => ?_)) | refine t_seq ?_ | refine t_perm rfl ?_ | refine t_permE ?_ | refine j_then ?_ | refine t_region ?_ | refine t_draw [] [] mixed (by decide +kernel) ?_ | (refine k_cond ?_; first | refine t_condT rfl (by with_reducible rfl) ?_ | refine t_condF rfl (by with_reducible rfl) ?_ | refine t_condS rfl (fun _ => ?_) (fun _ => ?_) | refine t_condSN rfl (fun _ => ?_) (fun _ => ?_) | refine t_condSB rfl (fun _ => ?_) (fun _ => ?_)) | refine t_block ?_ | refine j_in ?_ | refine t_skip ?_ | refine t_ret ?_ | refine j_then_ret ?_ | refine j_in_ret ?_ | refine t_exit ?_ | refine j_then_exit ?_ | refine j_in_exit ?_ | refine j_in_other rfl ?_ | refine t_scope ?_ | refine t_label ?_ | refine j_ng ?_ | refine j_ng_ret ?_ | refine j_ng_exit ?_)
  next hm =>
    refine r_capS rfl rfl ?_
    refine r_piece (s := 33) 0 0 0 rfl (.inl ⟨rfl, rfl⟩) (.inr ⟨_, rfl⟩) (.inl ⟨rfl, rfl⟩) (Nat.le_refl _) (Nat.le_refl _) (Nat.le_refl _) rfl ?_
    repeat refine s1 ?_
    refine r_append0 (s := 33) (m := m) rfl rfl (by decide) (by rfl) (by omega) (by omega) (by omega) rfl rfl (fun b nc zs hn hz => ?_)
    refine j_ent (Ent.ptVec hz _) ?_
    repeat refine s1 ?_
    refine r_piece (s := 33) 0 0 nc rfl (.inl ⟨rfl, rfl⟩) (.inr ⟨_, rfl⟩) (.inl ⟨rfl, rfl⟩) (Nat.le_refl _) (by omega) (Nat.le_refl _) rfl ?_
    rw [if_neg (show ¬ nc = 0 by omega), Option.map_some, add_at, Nat.zero_mul, Nat.add_zero, Nat.sub_zero]
    repeat refine s1 ?_
    exact f1 (some ⟨b, 0, none⟩, nc)
  next hm =>
    refine j_ent (Ent.vecNil (E := T.api_Ref) (s := 33) _) ?_
    exact f1 (none, 0)
theorem concatK_c (b0 o0 qc : Nat) (a a2 : Option Addr) (n cap m cap2 : Nat) (xs ys : List Value) (h1 : ∀ v ∈ xs, v.oneCell' = true) (h2 : ∀ v ∈ ys, v.oneCell' = true) (hb : n + m ≤ 1000000) (Φ : Base) :
    Sl.Fn Tryz.prog Φ F.slices_Concat_uint64_uint64 [.slice (some ⟨b0, o0, none⟩) 2 qc] [isl (some ⟨b0, o0, none⟩) 2 qc T.sl_uint64 1 [.slice a n cap, .slice a2 m cap2], isl a n cap T.uint64 1 xs, isl a2 m cap2 T.uint64 1 ys] (fun _ : Option Addr × Nat => True) (fun p => .slice p.1 (n + m) p.2) (fun p => [vec p.1 (n + m) p.2 T.uint64 1 (xs ++ ys)]) := by
  refine fo fun F => ?_
  repeat refine s1 ?_
  refine t_loop (σ := Nat) (fun i => [(11, i64 i), (3, i64 (tot2 n m i)), (9, .slice (some ⟨b0, o0, none⟩) 2 qc), (10, i64 2), (0, .slice (some ⟨b0, o0, none⟩) 2 qc)]) (fun _ => [isl (some ⟨b0, o0, none⟩) 2 qc T.sl_uint64 1 [.slice a n cap, .slice a2 m cap2], isl a n cap T.uint64 1 xs, isl a2 m cap2 T.uint64 1 ys] ++ F)
    (fun i => i ≤ 2) (fun i => 2 - i) 0 (Nat.zero_le _) ⟨rfl, rfl, rfl, rfl, rfl, trivial⟩ (Ent.refl _) ?_
  intro i hi
  dsimp only [List.cons_append, List.nil_append]
  have hi3 : i = 0 ∨ i = 1 ∨ i = 2 := by omega
  rcases hi3 with rfl | rfl | rfl
  · repeat refine s1 ?_
    refine r_icmp rfl rfl rfl rfl ?_
    repeat refine s1 ?_
    refine t_condS rfl (fun hlt => ?_) (fun hlt => absurd (show ((0 : Nat) : Int) < 2 by omega) hlt)
    repeat refine s1 ?_
    refine ix rfl rfl (by omega) ?_
    refine r_loadI (n := 2) (cap := qc) (E := T.sl_uint64) (s := 1) (xs := [.slice a n cap, .slice a2 m cap2]) (off := o0) rfl (j := 0) (v := .slice a n cap) (by omega) (by rfl) rfl rfl ?_
    repeat refine s1 ?_
    refine r_addN (m := 0) (n := n) rfl rfl (by omega) rfl ?_
    repeat refine s1 ?_
    refine r_icmp rfl rfl rfl rfl ?_
    repeat refine s1 ?_
    refine t_condS rfl (fun hlt => absurd hlt (by omega)) (fun hlt => ?_)
    repeat refine s1 ?_
    exact j_again (1 : Nat) (by omega) (by omega) ⟨rfl, by simp [lk, tot2], rfl, rfl, rfl, trivial⟩ (Ent.refl _)
  · repeat refine s1 ?_
    refine r_icmp rfl rfl rfl rfl ?_
    repeat refine s1 ?_
    refine t_condS rfl (fun hlt => ?_) (fun hlt => absurd (show ((1 : Nat) : Int) < 2 by omega) hlt)
    repeat refine s1 ?_
    refine ix rfl rfl (by omega) ?_
    refine r_loadI (n := 2) (cap := qc) (E := T.sl_uint64) (s := 1) (xs := [.slice a n cap, .slice a2 m cap2]) (off := o0) rfl (j := 1) (v := .slice a2 m cap2) (by omega) (by rfl) rfl rfl ?_
    repeat refine s1 ?_
    refine r_addN (m := n) (n := m) rfl rfl (by omega) rfl ?_
    repeat refine s1 ?_
    refine r_icmp rfl rfl rfl rfl ?_
    repeat refine s1 ?_
    refine t_condS rfl (fun hlt => absurd hlt (by omega)) (fun hlt => ?_)
    repeat refine s1 ?_
    exact j_again (2 : Nat) (by omega) (by omega) ⟨rfl, rfl, rfl, rfl, rfl, trivial⟩ (Ent.refl _)
  · repeat refine s1 ?_
    refine r_icmp rfl rfl rfl rfl ?_
    repeat refine s1 ?_
    refine t_condS rfl (fun hlt => absurd hlt (by omega)) (fun hlt => ?_)
    repeat refine s1 ?_
    refine cx (growK_c (n + m) hb Φ) (fun p _ => ?_)
    repeat refine s1 ?_
    refine t_loop (σ := Nat × Option Addr × Nat) (fun s => [(27, i64 s.1), (6, .slice s.2.1 (tot2 n m s.1) s.2.2), (25, .slice (some ⟨b0, o0, none⟩) 2 qc), (26, i64 2)]) (fun s => [vec s.2.1 (tot2 n m s.1) s.2.2 T.uint64 1 (acc2 xs ys s.1), isl (some ⟨b0, o0, none⟩) 2 qc T.sl_uint64 1 [.slice a n cap, .slice a2 m cap2], isl a n cap T.uint64 1 xs, isl a2 m cap2 T.uint64 1 ys] ++ F)
      (fun s => s.1 ≤ 2) (fun s => 2 - s.1) (0, p.1, p.2) (Nat.zero_le _) ⟨rfl, rfl, rfl, rfl, trivial⟩ (Ent.refl _) ?_
    rintro ⟨i, a', c'⟩ hi
    dsimp only [List.cons_append, List.nil_append] at *
    have hi3 : i = 0 ∨ i = 1 ∨ i = 2 := by omega
    rcases hi3 with rfl | rfl | rfl
    · rw [show tot2 n m 0 = 0 from rfl, show acc2 xs ys 0 = [] from rfl]
      repeat refine s1 ?_
      refine r_icmp rfl rfl rfl rfl ?_
      repeat refine s1 ?_
      refine t_condS rfl (fun hlt => ?_) (fun hlt => absurd (show ((0 : Nat) : Int) < 2 by omega) hlt)
      repeat refine s1 ?_
      refine ix rfl rfl (by omega) ?_
      refine r_loadI (n := 2) (cap := qc) (E := T.sl_uint64) (s := 1) (xs := [.slice a n cap, .slice a2 m cap2]) (off := o0) rfl (j := 0) (v := .slice a n cap) (by omega) (by rfl) rfl rfl ?_
      repeat refine s1 ?_
      refine r_append (n := 0) (m := n) (s := 1) (xs := []) (ys := xs) rfl rfl (by decide) (by rfl) h1 (by omega) (by omega) rfl rfl (fun a'' c'' hn => ?_)
      repeat refine s1 ?_
      exact j_again (1, a'', c'') (show 1 ≤ 2 by omega) (show 2 - 1 < 2 - 0 by omega) ⟨rfl, by simp [lk, tot2], rfl, rfl, trivial⟩ (by simp only [Nat.zero_add, List.nil_append, tot2, acc2, if_pos]; exact Ent.refl _)
    · rw [show tot2 n m 1 = n from rfl, show acc2 xs ys 1 = xs from rfl]
      repeat refine s1 ?_
      refine r_icmp rfl rfl rfl rfl ?_
      repeat refine s1 ?_
      refine t_condS rfl (fun hlt => ?_) (fun hlt => absurd (show ((1 : Nat) : Int) < 2 by omega) hlt)
      repeat refine s1 ?_
      refine ix rfl rfl (by omega) ?_
      refine r_loadI (n := 2) (cap := qc) (E := T.sl_uint64) (s := 1) (xs := [.slice a n cap, .slice a2 m cap2]) (off := o0) rfl (j := 1) (v := .slice a2 m cap2) (by omega) (by rfl) rfl rfl ?_
      repeat refine s1 ?_
      refine r_append (n := n) (m := m) (s := 1) (xs := xs) (ys := ys) rfl rfl (by decide) (by rfl) h2 (by omega) (by omega) rfl rfl (fun a'' c'' hn => ?_)
      repeat refine s1 ?_
      exact j_again (2, a'', c'') (show 2 ≤ 2 by omega) (show 2 - 2 < 2 - 1 by omega) ⟨rfl, rfl, rfl, rfl, trivial⟩ (Ent.refl _)
    · rw [show tot2 n m 2 = n + m from rfl, show acc2 xs ys 2 = xs ++ ys from rfl]
      repeat refine s1 ?_
      refine r_icmp rfl rfl rfl rfl ?_
      repeat refine s1 ?_
      refine t_condS rfl (fun hlt => absurd hlt (by omega)) (fun hlt => ?_)
      repeat refine s1 ?_
      exact f1 (a', c')
theorem concatV_c (b0 o0 qc : Nat) (a a2 : Option Addr) (n cap m cap2 : Nat) (xs ys : List Value) (h1 : ∀ v ∈ xs, v.oneCell' = true) (h2 : ∀ v ∈ ys, v.oneCell' = true) (hb : n + m ≤ 1000000) (Φ : Base) :
    Sl.Fn Tryz.prog Φ F.slices_Concat_44_byte_44_byte [.slice (some ⟨b0, o0, none⟩) 2 qc] [isl (some ⟨b0, o0, none⟩) 2 qc T.sl_a44_uint8 1 [.slice a n cap, .slice a2 m cap2], isl a n cap T.a44_uint8 44 xs, isl a2 m cap2 T.a44_uint8 44 ys] (fun _ : Option Addr × Nat => True) (fun p => .slice p.1 (n + m) p.2) (fun p => [vec p.1 (n + m) p.2 T.a44_uint8 44 (xs ++ ys)]) := by
  refine fo fun F => ?_
  repeat refine s1 ?_
  refine t_loop (σ := Nat) (fun i => [(11, i64 i), (3, i64 (tot2 n m i)), (9, .slice (some ⟨b0, o0, none⟩) 2 qc), (10, i64 2), (0, .slice (some ⟨b0, o0, none⟩) 2 qc)]) (fun _ => [isl (some ⟨b0, o0, none⟩) 2 qc T.sl_a44_uint8 1 [.slice a n cap, .slice a2 m cap2], isl a n cap T.a44_uint8 44 xs, isl a2 m cap2 T.a44_uint8 44 ys] ++ F)
    (fun i => i ≤ 2) (fun i => 2 - i) 0 (Nat.zero_le _) ⟨rfl, rfl, rfl, rfl, rfl, trivial⟩ (Ent.refl _) ?_
  intro i hi
  dsimp only [List.cons_append, List.nil_append]
  have hi3 : i = 0 ∨ i = 1 ∨ i = 2 := by omega
  rcases hi3 with rfl | rfl | rfl
  · repeat refine s1 ?_
    refine r_icmp rfl rfl rfl rfl ?_
    repeat refine s1 ?_
    refine t_condS rfl (fun hlt => ?_) (fun hlt => absurd (show ((0 : Nat) : Int) < 2 by omega) hlt)
    repeat refine s1 ?_
    refine ix rfl rfl (by omega) ?_
    refine r_loadI (n := 2) (cap := qc) (E := T.sl_a44_uint8) (s := 1) (xs := [.slice a n cap, .slice a2 m cap2]) (off := o0) rfl (j := 0) (v := .slice a n cap) (by omega) (by rfl) rfl rfl ?_
    repeat refine s1 ?_
    refine r_addN (m := 0) (n := n) rfl rfl (by omega) rfl ?_
    repeat refine s1 ?_
    refine r_icmp rfl rfl rfl rfl ?_
    repeat refine s1 ?_
    refine t_condS rfl (fun hlt => absurd hlt (by omega)) (fun hlt => ?_)
    repeat refine s1 ?_
    exact j_again (1 : Nat) (by omega) (by omega) ⟨rfl, by simp [lk, tot2], rfl, rfl, rfl, trivial⟩ (Ent.refl _)
  · repeat refine s1 ?_
    refine r_icmp rfl rfl rfl rfl ?_
    repeat refine s1 ?_
    refine t_condS rfl (fun hlt => ?_) (fun hlt => absurd (show ((1 : Nat) : Int) < 2 by omega) hlt)
    repeat refine s1 ?_
    refine ix rfl rfl (by omega) ?_
    refine r_loadI (n := 2) (cap := qc) (E := T.sl_a44_uint8) (s := 1) (xs := [.slice a n cap, .slice a2 m cap2]) (off := o0) rfl (j := 1) (v := .slice a2 m cap2) (by omega) (by rfl) rfl rfl ?_
    repeat refine s1 ?_
    refine r_addN (m := n) (n := m) rfl rfl (by omega) rfl ?_
    repeat refine s1 ?_
    refine r_icmp rfl rfl rfl rfl ?_
    repeat refine s1 ?_
    refine t_condS rfl (fun hlt => absurd hlt (by omega)) (fun hlt => ?_)
    repeat refine s1 ?_
    exact j_again (2 : Nat) (by omega) (by omega) ⟨rfl, rfl, rfl, rfl, rfl, trivial⟩ (Ent.refl _)
  · repeat refine s1 ?_
    refine r_icmp rfl rfl rfl rfl ?_
    repeat refine s1 ?_
    refine t_condS rfl (fun hlt => absurd hlt (by omega)) (fun hlt => ?_)
    repeat refine s1 ?_
    refine cx (growV_c (n + m) hb Φ) (fun p _ => ?_)
    repeat refine s1 ?_
    refine t_loop (σ := Nat × Option Addr × Nat) (fun s => [(27, i64 s.1), (6, .slice s.2.1 (tot2 n m s.1) s.2.2), (25, .slice (some ⟨b0, o0, none⟩) 2 qc), (26, i64 2)]) (fun s => [vec s.2.1 (tot2 n m s.1) s.2.2 T.a44_uint8 44 (acc2 xs ys s.1), isl (some ⟨b0, o0, none⟩) 2 qc T.sl_a44_uint8 1 [.slice a n cap, .slice a2 m cap2], isl a n cap T.a44_uint8 44 xs, isl a2 m cap2 T.a44_uint8 44 ys] ++ F)
      (fun s => s.1 ≤ 2) (fun s => 2 - s.1) (0, p.1, p.2) (Nat.zero_le _) ⟨rfl, rfl, rfl, rfl, trivial⟩ (Ent.refl _) ?_
    rintro ⟨i, a', c'⟩ hi
    dsimp only [List.cons_append, List.nil_append] at *
    have hi3 : i = 0 ∨ i = 1 ∨ i = 2 := by omega
    rcases hi3 with rfl | rfl | rfl
    · rw [show tot2 n m 0 = 0 from rfl, show acc2 xs ys 0 = [] from rfl]
      repeat refine s1 ?_
      refine r_icmp rfl rfl rfl rfl ?_
      repeat refine s1 ?_
      refine t_condS rfl (fun hlt => ?_) (fun hlt => absurd (show ((0 : Nat) : Int) < 2 by omega) hlt)
      repeat refine s1 ?_
      refine ix rfl rfl (by omega) ?_
      refine r_loadI (n := 2) (cap := qc) (E := T.sl_a44_uint8) (s := 1) (xs := [.slice a n cap, .slice a2 m cap2]) (off := o0) rfl (j := 0) (v := .slice a n cap) (by omega) (by rfl) rfl rfl ?_
      repeat refine s1 ?_
      refine r_append (n := 0) (m := n) (s := 44) (xs := []) (ys := xs) rfl rfl (by decide) (by rfl) h1 (by omega) (by omega) rfl rfl (fun a'' c'' hn => ?_)
      repeat refine s1 ?_
      exact j_again (1, a'', c'') (show 1 ≤ 2 by omega) (show 2 - 1 < 2 - 0 by omega) ⟨rfl, by simp [lk, tot2], rfl, rfl, trivial⟩ (by simp only [Nat.zero_add, List.nil_append, tot2, acc2, if_pos]; exact Ent.refl _)
    · rw [show tot2 n m 1 = n from rfl, show acc2 xs ys 1 = xs from rfl]
      repeat refine s1 ?_
      refine r_icmp rfl rfl rfl rfl ?_
      repeat refine s1 ?_
      refine t_condS rfl (fun hlt => ?_) (fun hlt => absurd (show ((1 : Nat) : Int) < 2 by omega) hlt)
      repeat refine s1 ?_
      refine ix rfl rfl (by omega) ?_
      refine r_loadI (n := 2) (cap := qc) (E := T.sl_a44_uint8) (s := 1) (xs := [.slice a n cap, .slice a2 m cap2]) (off := o0) rfl (j := 1) (v := .slice a2 m cap2) (by omega) (by rfl) rfl rfl ?_
      repeat refine s1 ?_
      refine r_append (n := n) (m := m) (s := 44) (xs := xs) (ys := ys) rfl rfl (by decide) (by rfl) h2 (by omega) (by omega) rfl rfl (fun a'' c'' hn => ?_)
      repeat refine s1 ?_
      exact j_again (2, a'', c'') (show 2 ≤ 2 by omega) (show 2 - 2 < 2 - 1 by omega) ⟨rfl, rfl, rfl, rfl, trivial⟩ (Ent.refl _)
    · rw [show tot2 n m 2 = n + m from rfl, show acc2 xs ys 2 = xs ++ ys from rfl]
      repeat refine s1 ?_
      refine r_icmp rfl rfl rfl rfl ?_
      repeat refine s1 ?_
      refine t_condS rfl (fun hlt => absurd hlt (by omega)) (fun hlt => ?_)
      repeat refine s1 ?_
      exact f1 (a', c')
theorem concatR_c (b0 o0 qc : Nat) (a a2 : Option Addr) (n cap m cap2 : Nat) (xs ys : List Value) (h1 : ∀ v ∈ xs, v.oneCell' = true) (h2 : ∀ v ∈ ys, v.oneCell' = true) (hb : n + m ≤ 1000000) (Φ : Base) :
    Sl.Fn Tryz.prog Φ F.slices_Concat_api_Ref_api_Ref [.slice (some ⟨b0, o0, none⟩) 2 qc] [isl (some ⟨b0, o0, none⟩) 2 qc T.sl_api_Ref 1 [.slice a n cap, .slice a2 m cap2], isl a n cap T.api_Ref 33 xs, isl a2 m cap2 T.api_Ref 33 ys] (fun _ : Option Addr × Nat => True) (fun p => .slice p.1 (n + m) p.2) (fun p => [vec p.1 (n + m) p.2 T.api_Ref 33 (xs ++ ys)]) := by
  refine fo fun F => ?_
  repeat refine s1 ?_
  refine t_loop (σ := Nat) (fun i => [(11, i64 i), (3, i64 (tot2 n m i)), (9, .slice (some ⟨b0, o0, none⟩) 2 qc), (10, i64 2), (0, .slice (some ⟨b0, o0, none⟩) 2 qc)]) (fun _ => [isl (some ⟨b0, o0, none⟩) 2 qc T.sl_api_Ref 1 [.slice a n cap, .slice a2 m cap2], isl a n cap T.api_Ref 33 xs, isl a2 m cap2 T.api_Ref 33 ys] ++ F)
    (fun i => i ≤ 2) (fun i => 2 - i) 0 (Nat.zero_le _) ⟨rfl, rfl, rfl, rfl, rfl, trivial⟩ (Ent.refl _) ?_
  intro i hi
  dsimp only [List.cons_append, List.nil_append]
  have hi3 : i = 0 ∨ i = 1 ∨ i = 2 := by omega
  rcases hi3 with rfl | rfl | rfl
  · repeat refine s1 ?_
    refine r_icmp rfl rfl rfl rfl ?_
    repeat refine s1 ?_
    refine t_condS rfl (fun hlt => ?_) (fun hlt => absurd (show ((0 : Nat) : Int) < 2 by omega) hlt)
    repeat refine s1 ?_
    refine ix rfl rfl (by omega) ?_
    refine r_loadI (n := 2) (cap := qc) (E := T.sl_api_Ref) (s := 1) (xs := [.slice a n cap, .slice a2 m cap2]) (off := o0) rfl (j := 0) (v := .slice a n cap) (by omega) (by rfl) rfl rfl ?_
    repeat refine s1 ?_
    refine r_addN (m := 0) (n := n) rfl rfl (by omega) rfl ?_
    repeat refine s1 ?_
    refine r_icmp rfl rfl rfl rfl ?_
    repeat refine s1 ?_
    refine t_condS rfl (fun hlt => absurd hlt (by omega)) (fun hlt => ?_)
    repeat refine s1 ?_
    exact j_again (1 : Nat) (by omega) (by omega) ⟨rfl, by simp [lk, tot2], rfl, rfl, rfl, trivial⟩ (Ent.refl _)
  · repeat refine s1 ?_
    refine r_icmp rfl rfl rfl rfl ?_
    repeat refine s1 ?_
    refine t_condS rfl (fun hlt => ?_) (fun hlt => absurd (show ((1 : Nat) : Int) < 2 by omega) hlt)
    repeat refine s1 ?_
    refine ix rfl rfl (by omega) ?_
    refine r_loadI (n := 2) (cap := qc) (E := T.sl_api_Ref) (s := 1) (xs := [.slice a n cap, .slice a2 m cap2]) (off := o0) rfl (j := 1) (v := .slice a2 m cap2) (by omega) (by rfl) rfl rfl ?_
    repeat refine s1 ?_
    refine r_addN (m := n) (n := m) rfl rfl (by omega) rfl ?_
    repeat refine s1 ?_
    refine r_icmp rfl rfl rfl rfl ?_
    repeat refine s1 ?_
    refine t_condS rfl (fun hlt => absurd hlt (by omega)) (fun hlt => ?_)
    repeat refine s1 ?_
    exact j_again (2 : Nat) (by omega) (by omega) ⟨rfl, rfl, rfl, rfl, rfl, trivial⟩ (Ent.refl _)
  · repeat refine s1 ?_
    refine r_icmp rfl rfl rfl rfl ?_
    repeat refine s1 ?_
    refine t_condS rfl (fun hlt => absurd hlt (by omega)) (fun hlt => ?_)
    repeat refine s1 ?_
    refine cx (growR_c (n + m) hb Φ) (fun p _ => ?_)
    repeat refine s1 ?_
    refine t_loop (σ := Nat × Option Addr × Nat) (fun s => [(27, i64 s.1), (6, .slice s.2.1 (tot2 n m s.1) s.2.2), (25, .slice (some ⟨b0, o0, none⟩) 2 qc), (26, i64 2)]) (fun s => [vec s.2.1 (tot2 n m s.1) s.2.2 T.api_Ref 33 (acc2 xs ys s.1), isl (some ⟨b0, o0, none⟩) 2 qc T.sl_api_Ref 1 [.slice a n cap, .slice a2 m cap2], isl a n cap T.api_Ref 33 xs, isl a2 m cap2 T.api_Ref 33 ys] ++ F)
      (fun s => s.1 ≤ 2) (fun s => 2 - s.1) (0, p.1, p.2) (Nat.zero_le _) ⟨rfl, rfl, rfl, rfl, trivial⟩ (Ent.refl _) ?_
    rintro ⟨i, a', c'⟩ hi
    dsimp only [List.cons_append, List.nil_append] at *
    have hi3 : i = 0 ∨ i = 1 ∨ i = 2 := by omega
    rcases hi3 with rfl | rfl | rfl
    · rw [show tot2 n m 0 = 0 from rfl, show acc2 xs ys 0 = [] from rfl]
      repeat refine s1 ?_
      refine r_icmp rfl rfl rfl rfl ?_
      repeat refine s1 ?_
      refine t_condS rfl (fun hlt => ?_) (fun hlt => absurd (show ((0 : Nat) : Int) < 2 by omega) hlt)
      repeat refine s1 ?_
      refine ix rfl rfl (by omega) ?_
      refine r_loadI (n := 2) (cap := qc) (E := T.sl_api_Ref) (s := 1) (xs := [.slice a n cap, .slice a2 m cap2]) (off := o0) rfl (j := 0) (v := .slice a n cap) (by omega) (by rfl) rfl rfl ?_
      repeat refine s1 ?_
      refine r_append (n := 0) (m := n) (s := 33) (xs := []) (ys := xs) rfl rfl (by decide) (by rfl) h1 (by omega) (by omega) rfl rfl (fun a'' c'' hn => ?_)
      repeat refine s1 ?_
      exact j_again (1, a'', c'') (show 1 ≤ 2 by omega) (show 2 - 1 < 2 - 0 by omega) ⟨rfl, by simp [lk, tot2], rfl, rfl, trivial⟩ (by simp only [Nat.zero_add, List.nil_append, tot2, acc2, if_pos]; exact Ent.refl _)
    · rw [show tot2 n m 1 = n from rfl, show acc2 xs ys 1 = xs from rfl]
      repeat refine s1 ?_
      refine r_icmp rfl rfl rfl rfl ?_
      repeat refine s1 ?_
      refine t_condS rfl (fun hlt => ?_) (fun hlt => absurd (show ((1 : Nat) : Int) < 2 by omega) hlt)
      repeat refine s1 ?_
      refine ix rfl rfl (by omega) ?_
      refine r_loadI (n := 2) (cap := qc) (E := T.sl_api_Ref) (s := 1) (xs := [.slice a n cap, .slice a2 m cap2]) (off := o0) rfl (j := 1) (v := .slice a2 m cap2) (by omega) (by rfl) rfl rfl ?_
      repeat refine s1 ?_
      refine r_append (n := n) (m := m) (s := 33) (xs := xs) (ys := ys) rfl rfl (by decide) (by rfl) h2 (by omega) (by omega) rfl rfl (fun a'' c'' hn => ?_)
      repeat refine s1 ?_
      exact j_again (2, a'', c'') (show 2 ≤ 2 by omega) (show 2 - 2 < 2 - 1 by omega) ⟨rfl, rfl, rfl, rfl, trivial⟩ (Ent.refl _)
    · rw [show tot2 n m 2 = n + m from rfl, show acc2 xs ys 2 = xs ++ ys from rfl]
      repeat refine s1 ?_
      refine r_icmp rfl rfl rfl rfl ?_
      repeat refine s1 ?_
      refine t_condS rfl (fun hlt => absurd hlt (by omega)) (fun hlt => ?_)
      repeat refine s1 ?_
      exact f1 (a', c')
end Go.Proofs.YtcnpkmdooekmgaaGreatDoor
namespace Go.Proofs.YtcnpkmdooekmgaaGreatDoor
open Go Sl
section
variable {ro : Option Nat} {P : Program} {C : World → Prop} {S : List Nat} {ops : Array Oper}
/-- a wood: a first tree (its head, what follows at once, its wood), and the other trees. -/
inductive Tr where
  | done
  | br (h : Nat) (l : List Nat) (k : Tr) (alt : Tr)
def Tr.heads : Tr → List Nat
  | .done => []
  | .br h _ _ alt => h :: alt.heads
def Tr.gate (ops : Array Oper) (D : List Nat) : Tr → Bool
  | .done => D.isEmpty
  | k => D.all fun d => k.heads.contains d || D.any fun p => ((Region.before ops).getD d 0).testBit p
def mayN (S : List Nat) (ops : Array Oper) (p q : Nat) : Bool :=
  match ops[p]?, ops[q]? with
  | some o, some o' => mayAhead S ops (ops.size, ops.size) (p, o) (q, o')
  | _, _ => false
def okN (S : List Nat) (ops : Array Oper) : List Nat → Bool
  | [] => true
  | p :: l => l.all (mayN S ops p) && okN S ops l
def nodupB : List Nat → Bool
  | [] => true
  | p :: l => !l.contains p && nodupB l
def Tr.chk (S : List Nat) (ops : Array Oper) : Tr → List Nat → List Nat → Bool
  | .done, _, _ => true
  | .br h l k alt, pend, D => D.contains h && (l.all D.contains && (nodupB (h :: l) && (pend.all (fun p => mayN S ops p h) && (okN S ops (pend ++ l) &&
      (k.gate ops (D.filter fun d => !(h :: l).contains d) && (k.chk S ops (pend ++ l) (D.filter fun d => !(h :: l).contains d) && alt.chk S ops pend D))))))
/-- each tree's walk. -/
def Tr.walk (P : Program) (C : World → Prop) (S : List Nat) (ops : Array Oper) (Q : Act → World → Prop) : Tr → Act → World → Prop
  | .done => fun _ _ => True
  | .br h l .done alt => fun a w => swL P C S ops Q (permL ops (h :: l)) a w ∧ alt.walk P C S ops Q a w
  | .br h l k alt => fun a w => swL P C S ops (k.walk P C S ops Q) (permL ops (h :: l)) a w ∧ alt.walk P C S ops Q a w
def Tr.fin (P : Program) (C : World → Prop) (S : List Nat) (ops : Array Oper) (Q : Act → World → Prop) : Tr → Act → World → Prop
  | .done => Q
  | k => k.walk P C S ops Q
theorem Tr.walk_br {Q : Act → World → Prop} {h : Nat} {l : List Nat} {k alt : Tr} {a : Act} {w : World} (hw : (Tr.br h l k alt).walk P C S ops Q a w) : swL P C S ops (k.fin P C S ops Q) (permL ops (h :: l)) a w ∧ alt.walk P C S ops Q a w := by
  cases k with
  | done => exact hw
  | br _ _ _ _ => exact hw
theorem swL_mono (hnx : ∀ i, exm S i = false) {Q Q' : Act → World → Prop} : ∀ {l : List (Nat × Oper)} {a : Act} {w : World}, C w → (∀ a w, C w → Q a w → Q' a w) → swL P C S ops Q l a w → swL P C S ops Q' l a w
  | [], a, w, hC, hq, h => hq a w hC h
  | (i, o) :: l, a, w, hC, hq, h => swOp_mono hC (fun a w hC' hk => swL_mono hnx (hC'.resolve_left (by rw [hnx]; simp)) hq hk) h
theorem swL_app {Q : Act → World → Prop} {l2 : List (Nat × Oper)} : ∀ {l : List (Nat × Oper)}, swL P C S ops Q (l ++ l2) = swL P C S ops (swL P C S ops Q l2) l
  | [] => rfl
  | (i, o) :: l => by
    funext a w
    show swOp P C S ops i o (swL P C S ops Q (l ++ l2)) a w = swOp P C S ops i o (swL P C S ops (swL P C S ops Q l2) l) a w
    rw [swL_app]
theorem permL_app (ops : Array Oper) : ∀ (l l2 : List Nat), permL ops (l ++ l2) = permL ops l ++ permL ops l2
  | [], _ => rfl
  | k :: l, l2 => by
    simp only [List.cons_append, permL]
    cases ops[k]? with
    | none => exact permL_app ops l l2
    | some o => simp only [List.cons_append, permL_app ops l l2]
theorem Tr.pick {Q : Act → World → Prop} {m : Nat} {pend D : List Nat} : ∀ {k : Tr}, k.chk S ops pend D = true → m ∈ k.heads → ∃ l k', D.contains m = true ∧ l.all D.contains = true ∧ nodupB (m :: l) = true ∧ pend.all (fun p => mayN S ops p m) = true ∧ okN S ops (pend ++ l) = true ∧
    Tr.gate ops (D.filter fun d => !(m :: l).contains d) k' = true ∧ k'.chk S ops (pend ++ l) (D.filter fun d => !(m :: l).contains d) = true ∧ ∀ a w, k.walk P C S ops Q a w → swL P C S ops (k'.fin P C S ops Q) (permL ops (m :: l)) a w
  | .done, _, hm => by cases hm
  | .br h l k alt, hc, hm => by
    simp only [Tr.chk, Bool.and_eq_true] at hc
    obtain ⟨c1, c2, c3, c4, c5, c6, c7, c8⟩ := hc
    by_cases he : m = h
    · subst he
      exact ⟨l, k, c1, c2, c3, c4, c5, c6, c7, fun a w hw => (Tr.walk_br hw).1⟩
    · have hm2 : m ∈ alt.heads := (List.mem_cons.1 hm).resolve_left he
      obtain ⟨l', k', d1, d2, d3, d4, d5, d6, d7, d8⟩ := Tr.pick (Q := Q) c8 hm2
      exact ⟨l', k', d1, d2, d3, d4, d5, d6, d7, fun a w hw => d8 a w (Tr.walk_br hw).2⟩
theorem nodupB_spec : ∀ {l : List Nat}, nodupB l = true → l.Nodup
  | [], _ => List.nodup_nil
  | p :: l, h => by
    simp only [nodupB, Bool.and_eq_true, Bool.not_eq_true'] at h
    exact List.nodup_cons.2 ⟨fun hm => by have := h.1; simp [hm] at this, nodupB_spec h.2⟩
theorem okN_sub : ∀ {l l' : List Nat}, l.Sublist l' → okN S ops l' = true → okN S ops l = true
  | _, _, .slnil, h => h
  | _, _, .cons _ hs, h => by
    simp only [okN, Bool.and_eq_true] at h
    exact okN_sub hs h.2
  | _, _, .cons_cons _ hs, h => by
    simp only [okN, Bool.and_eq_true, List.all_eq_true] at h ⊢
    exact ⟨fun q hq => h.1 q (hs.subset hq), okN_sub hs h.2⟩
theorem okN_mid {m : Nat} {post : List Nat} : ∀ {pre : List Nat}, okN S ops (pre ++ m :: post) = true → ∀ p ∈ pre, mayN S ops p m = true
  | [], _, _, hp => by cases hp
  | p :: pre, h, q, hq => by
    simp only [List.cons_append, okN, Bool.and_eq_true, List.all_eq_true] at h
    rcases List.mem_cons.1 hq with rfl | hq
    · exact h.1 m (by simp)
    · exact okN_mid h.2 q hq
/-- the first step: an operation that may be moved to the front. -/
theorem stepN {Q : Act → World → Prop} {listed : Array Bool} {pre : List Nat} {post : List (Nat × Oper)} {j : Nat} {oj : Oper} {a : Act} {w : World} (hsel : Region.noSelect ops = true) (hnx : ∀ i, exm S i = false)
    (down : ∀ (j : Nat) (o : Oper), ops[j]? = some o → listed.getD j false = true → ∀ e ∈ o.after, Region.binds .any e = true → listed.getD e.on false = true)
    (hun : ∀ p ∈ pre, listed.getD p true = false) (hmay : ∀ p ∈ pre, mayN S ops p j = true)
    (hoj : ops[j]? = some oj) (hall : ∀ e ∈ oj.after, Region.binds .any e = true → listed.getD e.on false = true) (hC : C w) (h : swL P C S ops Q (permL ops pre ++ (j, oj) :: post) a w) :
    swOp P C S ops j oj (swL P C S ops Q (permL ops pre ++ post)) a w := by
  have hns := Region.noSelect_spec (ops := ops) hsel
  refine front (fun cs b => hns j oj cs b hoj) (hnx j) (permL ops pre) (fun p hp => ?_) hC h
  obtain ⟨hp1, hp2⟩ := (permL_mem ops pre p).1 hp
  have hb := unlisted_before down hoj hall (hun p.1 hp1)
  have h1 := hmay p.1 hp1
  have hps := (Array.getElem?_eq_some_iff.1 hp2).1
  simp only [mayN, hp2, hoj, mayAhead, hb, Bool.false_or, Bool.or_eq_true, Bool.and_eq_true, Bool.not_eq_true'] at h1
  rcases h1 with ⟨⟨⟨e1, e2⟩, e3⟩, e4⟩ | ⟨e1, e2⟩
  · exact ⟨e1, fun cs b => hns p.1 p.2 cs b hp2, e2, e3⟩
  · have := Nat.eq_of_beq_eq_true e1; omega
theorem left2_same {listed : Array Bool} {l l' : List (Nat × Oper)} (h : Left2 ops listed l) (hm : ∀ p, p ∈ l' ↔ p ∈ l) (hn : (l'.map Prod.fst).Nodup) : Left2 ops listed l' :=
  ⟨h.size, fun p => (hm p).trans (h.mem p), hn, h.down⟩
theorem wpAny_tree {Q : Exit → Act → World → Prop} (hsel : Region.noSelect ops = true) (hnx : ∀ i, exm S i = false) (hedge : ∀ (j : Nat) (o : Oper), ops[j]? = some o → ∀ e ∈ o.after, Region.binds .any e = true → e.on < j) :
    ∀ (fuel : Nat) (listed : Array Bool) (l0 D pend : List Nat) (k : Tr) (a : Act) (w : World), (l0 ++ D).length = fuel → (∀ i ∈ l0 ++ D, i < ops.size) → Left2 ops listed (permL ops (l0 ++ D)) → l0.Sublist pend → okN S ops pend = true →
      k.gate ops D = true → k.chk S ops pend D = true → C w → swL P C S ops (k.fin P C S ops (fun a w => Q .normal a w)) (permL ops l0) a w → wpAnyIn (fen ro) 0 P .any ops Q fuel listed a w := by
  intro fuel
  induction fuel with
  | zero =>
    intro listed l0 D pend k a w hlen hin hL hsub hok hg hck hC h
    have h0 : l0 ++ D = [] := List.length_eq_zero_iff.1 hlen
    obtain ⟨rfl, rfl⟩ := List.append_eq_nil_iff.1 h0
    have hk : k = .done := by
      cases k with
      | done => rfl
      | br h l k alt => simp [Tr.chk] at hck
    subst hk
    refine ⟨?_, h⟩
    rw [List.eq_nil_iff_forall_not_mem]
    intro j hj
    obtain ⟨h0, o, ho, _⟩ := mem_ready.1 hj
    have := (hL.mem (j, o)).2 ⟨ho, h0⟩
    simp [permL] at this
  | succ fuel ih =>
    intro listed l0 D pend k a w hlen hin hL hsub hok hg hck hC h
    have hfst : (permL ops (l0 ++ D)).map Prod.fst = l0 ++ D := permL_fst ops _ hin
    have hne : permL ops (l0 ++ D) ≠ [] := fun e => by rw [e] at hfst; simp [← hfst] at hlen
    refine ⟨fun h0 => absurd h0 (ready2 hedge hL hne), fun m hm => ?_⟩
    obtain ⟨hun, om, hom, hall⟩ := mem_ready.1 hm
    have hmem : m ∈ l0 ++ D := ((permL_mem ops _ _).1 ((hL.mem (m, om)).2 ⟨hom, hun⟩)).1
    have hund : ∀ p ∈ l0 ++ D, listed.getD p true = false := fun p hp => by
      have hps := hin p hp
      exact ((hL.mem (p, ops[p])).1 ((permL_mem ops _ _).2 ⟨hp, Array.getElem?_eq_getElem hps⟩)).2
    have hnd : (l0 ++ D).Nodup := by rw [← hfst]; exact hL.nd
    by_cases hm0 : m ∈ l0
    · obtain ⟨pre, post, rfl⟩ := List.append_of_mem hm0
      have hcons : ∀ (l : List Nat), permL ops (m :: l) = (m, om) :: permL ops l := fun l => by simp only [permL, hom]
      rw [permL_app, hcons] at h
      have hL' : Left2 ops listed (permL ops pre ++ (m, om) :: permL ops (post ++ D)) := by
        rw [← hcons, ← permL_app]; simpa using hL
      have hf := stepN (Q := k.fin P C S ops (fun a w => Q .normal a w)) hsel hnx hL.down (fun p hp => hund p (by simp [hp])) (okN_mid (okN_sub hsub hok)) hom hall hC h
      refine wpOpIn_mono (fun a' w' ⟨hC', hk⟩ => ih (listed.setIfInBounds m true) (pre ++ post) D pend k a' w' (by simp at hlen ⊢; omega) (fun i hi => hin i ?_) ?_ ?_ hok hg hck (hC'.resolve_left (by rw [hnx]; simp)) ?_) (wpOp_of_swOp ro hom hC hf)
      · simp only [List.mem_append, List.mem_cons] at hi ⊢; rcases hi with (hi | hi) | hi <;> simp [hi]
      · have := left2_erase hL' hom hall
        rw [← permL_app] at this
        simpa using this
      · exact ((List.Sublist.refl pre).append (List.sublist_cons_self m post)).trans hsub
      · rw [permL_app]; exact hk
    · have hmD : m ∈ D := (List.mem_append.1 hmem).resolve_left hm0
      have hhead : m ∈ k.heads := by
        cases k with
        | done => simp [Tr.gate] at hg; subst hg; cases hmD
        | br h0 l k alt =>
          simp only [Tr.gate, List.all_eq_true, Bool.or_eq_true, List.any_eq_true] at hg
          rcases hg m hmD with h1 | ⟨p, hp, hb⟩
          · simpa using h1
          · have := unlisted_before hL.down hom hall (hund p (by simp [hp]))
            rw [hb] at this; cases this
      have hkd : k.fin P C S ops (fun a w => Q .normal a w) = k.walk P C S ops (fun a w => Q .normal a w) := by
        cases k with
        | done => cases hhead
        | br _ _ _ _ => rfl
      obtain ⟨l', k', d1, d2, d3, d4, d5, d6, d7, d8⟩ := Tr.pick (Q := fun a w => Q .normal a w) hck hhead
      have hcons : ∀ (l : List Nat), permL ops (m :: l) = (m, om) :: permL ops l := fun l => by simp only [permL, hom]
      rw [hkd] at h
      have h2 := swL_mono hnx hC (fun a w _ hw => d8 a w hw) h
      rw [← swL_app, hcons] at h2
      have hf := stepN (Q := k'.fin P C S ops (fun a w => Q .normal a w)) hsel hnx hL.down (fun p hp => hund p (by simp [hp])) (fun p hp => (List.all_eq_true.1 d4) p (hsub.subset hp)) hom hall hC h2
      have hDm : ∀ x, x ∈ D ↔ x ∈ m :: (l' ++ D.filter fun d => !(m :: l').contains d) := fun x => by
        simp only [List.mem_cons, List.mem_append, List.mem_filter, Bool.not_eq_true', List.contains_eq_mem, decide_eq_false_iff_not, not_or]
        constructor
        · intro hx
          by_cases e1 : x = m
          · exact .inl e1
          · by_cases e2 : x ∈ l'
            · exact .inr (.inl e2)
            · exact .inr (.inr ⟨hx, e1, e2⟩)
        · rintro (rfl | hx | hx)
          · exact hmD
          · simpa using (List.all_eq_true.1 d2) x hx
          · exact hx.1
      have hnd0 := List.nodup_append.1 hnd
      have hnl := List.nodup_cons.1 (nodupB_spec d3)
      have hnd2 : (l0 ++ m :: (l' ++ D.filter fun d => !(m :: l').contains d)).Nodup := by
        refine List.nodup_append.2 ⟨hnd0.1, List.nodup_cons.2 ⟨?_, List.nodup_append.2 ⟨hnl.2, hnd0.2.1.filter _, ?_⟩⟩, fun x hx y hy => hnd0.2.2 x hx y ((hDm y).2 hy)⟩
        · intro hx
          rcases List.mem_append.1 hx with hx | hx
          · exact hnl.1 hx
          · simp at hx
        · intro x hx y hy e
          subst e
          simp [hx] at hy
      have hin2 : ∀ i ∈ l0 ++ m :: (l' ++ D.filter fun d => !(m :: l').contains d), i < ops.size := fun i hi => by
        rcases List.mem_append.1 hi with hi | hi
        · exact hin i (by simp [hi])
        · exact hin i (by simp [(hDm i).2 hi])
      have hL' : Left2 ops listed (permL ops l0 ++ (m, om) :: permL ops (l' ++ D.filter fun d => !(m :: l').contains d)) := by
        rw [← hcons, ← permL_app]
        refine left2_same hL (fun p => ?_) (by rw [permL_fst ops _ hin2]; exact hnd2)
        rw [permL_mem, permL_mem, List.mem_append, List.mem_append, ← hDm]
      refine wpOpIn_mono (fun a' w' ⟨hC', hk⟩ => ih (listed.setIfInBounds m true) (l0 ++ l') (D.filter fun d => !(m :: l').contains d) (pend ++ l') k' a' w' ?_ (fun i hi => hin2 i ?_) ?_ (hsub.append (List.Sublist.refl l')) d5 d6 d7 (hC'.resolve_left (by rw [hnx]; simp)) ?_) (wpOp_of_swOp ro hom hC hf)
      · have hp : (l0 ++ D).length = (l0 ++ m :: (l' ++ D.filter fun d => !(m :: l').contains d)).length := by
          have := (List.perm_ext_iff_of_nodup hnd hnd2).2 (fun x => by rw [List.mem_append, List.mem_append, hDm])
          exact this.length_eq
        simp only [List.length_append, List.length_cons] at hp hlen ⊢
        omega
      · rcases List.mem_append.1 hi with hi | hi
        · rcases List.mem_append.1 hi with hi | hi
          · exact List.mem_append_left _ hi
          · exact List.mem_append_right _ (List.mem_cons_of_mem _ (List.mem_append_left _ hi))
        · exact List.mem_append_right _ (List.mem_cons_of_mem _ (List.mem_append_right _ hi))
      · have := left2_erase hL' hom hall
        rw [← permL_app] at this
        simpa using this
      · rw [permL_app]; exact hk
def chkT (S : List Nat) (ops : Array Oper) (l0 : List Nat) (k : Tr) : Bool :=
  Region.noSelect ops && (S.all (fun i => Nat.blt i 1000000) && (((List.range ops.size).all fun k => match ops[k]? with
    | some o => o.after.all fun e => !Region.binds .any e || decide (e.on < k)
    | none => true) && (l0.all (fun i => Nat.blt i ops.size) && (nodupB l0 && (okN S ops l0 && (k.gate ops ((List.range ops.size).filter fun d => !l0.contains d) && k.chk S ops l0 ((List.range ops.size).filter fun d => !l0.contains d)))))))
theorem wp_region_tree {id : Nat} {l0 : List Nat} {k : Tr} {Q : Exit → Act → World → Prop} {a : Act} {w : World} (hm : P.follows .mixedOrders = true) (hchk : chkT S ops l0 k = true)
    (hC : C { w with drawn := w.drawn + 1 }) (h : swL P C S ops (k.fin P C S ops (fun a w => Q .normal a w)) (permL ops l0) a { w with drawn := w.drawn + 1 }) : (Code.region id ops true).wpIn (fen ro) 0 P Q a w := by
  simp only [chkT, Bool.and_eq_true, List.all_eq_true, List.mem_range] at hchk
  obtain ⟨c1, c2, c3, c4, c5, c6, c7, c8⟩ := hchk
  have hnx : ∀ i, exm S i = false := fun i => by
    cases hx : exm S i with
    | false => rfl
    | true =>
      have h1 : i + 1000000 ∈ S := by simpa [exm] using hx
      have h2 := c2 _ h1
      simp only [Nat.blt_eq] at h2
      omega
  have hmem : ∀ i, i ∈ l0 ++ ((List.range ops.size).filter fun d => !l0.contains d) ↔ i < ops.size := fun i => by
    simp only [List.mem_append, List.mem_filter, List.mem_range, Bool.not_eq_true', List.contains_eq_mem, decide_eq_false_iff_not]
    constructor
    · rintro (hi | hi)
      · have := c4 i hi; simpa [Nat.blt_eq] using this
      · exact hi.1
    · intro hi
      by_cases h0 : i ∈ l0
      · exact .inl h0
      · exact .inr ⟨hi, h0⟩
  have hnd : (l0 ++ ((List.range ops.size).filter fun d => !l0.contains d)).Nodup := by
    refine List.nodup_append.2 ⟨nodupB_spec c5, List.nodup_range.filter _, fun x hx y hy e => ?_⟩
    subst e
    simp [hx] at hy
  have hlen : (l0 ++ ((List.range ops.size).filter fun d => !l0.contains d)).length = ops.size := by
    have := (List.perm_ext_iff_of_nodup hnd (List.nodup_range (n := ops.size))).2 (fun x => by rw [hmem, List.mem_range])
    rw [this.length_eq, List.length_range]
  have hun : ∀ k, k < ops.size → (Array.replicate ops.size false).getD k true = false := fun k hk => by simp [hk]
  refine wpIn_region_any hm (wpAny_tree (pend := l0) c1 hnx (fun k o ho e he hb => ?_) ops.size _ l0 _ k a _ hlen (fun i hi => (hmem i).1 hi) ?_ (List.Sublist.refl _) c6 c7 c8 hC h)
  · have h1 := c3 k (Array.getElem?_eq_some_iff.1 ho).1
    rw [ho] at h1
    have h2 := Array.all_eq_true_iff_forall_mem.1 h1 e he
    simpa [hb] using h2
  · refine ⟨by simp, fun p => ?_, by rw [permL_fst ops _ (fun i hi => (hmem i).1 hi)]; exact hnd, fun k o ho hl => ?_⟩
    · rw [permL_mem, hmem]
      constructor
      · exact fun ⟨h1, h2⟩ => ⟨h2, hun _ h1⟩
      · exact fun ⟨h1, _⟩ => ⟨(Array.getElem?_eq_some_iff.1 h1).1, h1⟩
    · have hlt := (Array.getElem?_eq_some_iff.1 ho).1
      simp [hlt] at hl
end
section
variable {X : Cx} {e : Env} {L : List Assn} {Q : Exit → Act → World → Prop} {R : Act → World → Prop} {l : List Oper} {C : World → Prop} {S : List Nat} {ops : Array Oper}
/-- a region by a tree of orders. -/
theorem t_tree (A : List Assn) (S : List Nat) (l0 : List Nat) (k : Tr) {id : Nat} (hm : X.P.follows .mixedOrders = true) (hchk : chkT S l.toArray l0 k = true) [st : Stay A L]
    (h : J X e L (swL X.P (Holds X.Φ A) S l.toArray (k.fin X.P (Holds X.Φ A) S l.toArray (Q .normal)) (permL l.toArray l0))) : J X e L (cw X.P (Code.region id l.toArray true) Q) := fun a w m hh _ro _ =>
  have hh' : Holds X.Φ L { w with drawn := w.drawn + 1 } := hh.draws rfl rfl rfl rfl
  wp_region_tree (C := Holds X.Φ A) (S := S) hm hchk (hh'.ent st.ent) (h a _ m hh')
theorem t_br {h : Nat} {l0 : List Nat} {k alt : Tr} (h1 : J X e L (swL X.P C S ops (k.fin X.P C S ops R) (permL ops (h :: l0)))) (h2 : J X e L (alt.walk X.P C S ops R)) : J X e L ((Tr.br h l0 k alt).walk X.P C S ops R) := fun a w m hh => by
  cases k with
  | done => exact ⟨h1 a w m hh, h2 a w m hh⟩
  | br _ _ _ _ => exact ⟨h1 a w m hh, h2 a w m hh⟩
theorem t_brF {h : Nat} {l0 : List Nat} {k alt : Tr} (h1 : J X e L (swL X.P C S ops (k.fin X.P C S ops R) (permL ops (h :: l0)))) (h2 : J X e L (alt.walk X.P C S ops R)) : J X e L ((Tr.br h l0 k alt).fin X.P C S ops R) := t_br h1 h2
theorem t_brN : J X e L (Tr.done.walk X.P C S ops R) := fun _ _ _ _ => trivial
end
end Go.Proofs.YtcnpkmdooekmgaaGreatDoor
namespace Go.Proofs.YtcnpkmdooekmgaaGreatDoor
open Go Sl
attribute [local irreducible] cw sw J Exit.then Exit.inBlock Exit.noGoto bodyPost swG swL permL
set_option maxHeartbeats 4000000 in
theorem join_c (n m : Nd) (x y : NR) (hn : n.whole) (hm : m.whole) (hl : n.leaf = m.leaf) (tn : n.wt) (tm : m.wt) (Φ : Base) :
    Sl.Fn Tryz.prog Φ F.node_Join [nV n x, nV m y] [node n x, node m y] (fun _ : NR => True) (fun q => nV (n.join m) q) (fun q => [node (n.join m) q]) := by
  have hk := hn.keys
  have hk2 := hm.keys
  obtain ⟨hv, hr⟩ := hn.lens
  obtain ⟨hv2, hr2⟩ := hm.lens
  obtain ⟨o1, o2, o3⟩ := tn.one
  obtain ⟨q1, q2, q3⟩ := tm.one
  have e1 : n.keys.map w64 ++ m.keys.map w64 = (n.join m).keys.map w64 := List.map_append.symm
  have e2 : (n.vals.flatMap fun v => v.map u8) ++ (m.vals.flatMap fun v => v.map u8) = (n.join m).vals.flatMap fun v => v.map u8 := List.flatMap_append.symm
  have e3 : n.kids.flatMap rcells ++ m.kids.flatMap rcells = (n.join m).kids.flatMap rcells := List.flatMap_append.symm
  have e4 : n.keys.length + m.keys.length = (n.join m).keys.length := List.length_append.symm
  have e5 : n.vals.length + m.vals.length = (n.join m).vals.length := List.length_append.symm
  have e6 : n.kids.length + m.kids.length = (n.join m).kids.length := List.length_append.symm
  refine fo fun F => ?_
  repeat refine s1 ?_
  refine r_box (cs := nbx n x) rfl rfl rfl rfl (fun t2 => ?_)
  repeat refine s1 ?_
  refine r_box (cs := nbx m y) rfl rfl rfl rfl (fun t3 => ?_)
  repeat refine s1 ?_
  refine al (fun t4 => ?_)
  repeat refine s1 ?_
  refine cl (whole_c n x hn.is Φ) ?_
  repeat refine s1 ?_
  refine cl (whole_c m y hm.is Φ) ?_
  repeat refine s1 ?_
  refine r_bne rfl rfl rfl ?_
  rw [show (!(n.leaf == m.leaf)) = false by simp [hl]]
  repeat refine s1 ?_
  refine j_head (node n x) (j_ent (Ent.unnode _) ?_)
  refine j_head (node m y) (j_ent (Ent.unnode _) ?_)
  refine t_tree [pt t2 (.cells (nbx n x).toArray T.node_Node (0, 0)), pt t3 (.cells (nbx m y).toArray T.node_Node (0, 0))] [1, 3, 5, 9, 11, 15, 17] [0, 1, 2, 3, 4, 5, 8, 9, 10, 11, 14, 15, 16, 17] (.br 6 [] (.br 7 [] (.br 12 [] (.br 13 [] (.br 18 [] (.br 19 [20, 21] .done .done) .done) (.br 18 [] (.br 13 [] (.br 19 [20, 21] .done .done) .done) .done)) (.br 18 [] (.br 12 [] (.br 13 [] (.br 19 [20, 21] .done .done) .done) .done) .done)) (.br 12 [] (.br 7 [] (.br 13 [] (.br 18 [] (.br 19 [20, 21] .done .done) .done) (.br 18 [] (.br 13 [] (.br 19 [20, 21] .done .done) .done) .done)) (.br 18 [] (.br 7 [] (.br 13 [] (.br 19 [20, 21] .done .done) .done) .done) .done)) (.br 18 [] (.br 7 [] (.br 12 [] (.br 13 [] (.br 19 [20, 21] .done .done) .done) .done) (.br 12 [] (.br 7 [] (.br 13 [] (.br 19 [20, 21] .done .done) .done) .done) .done)) .done))) (.br 12 [] (.br 6 [] (.br 7 [] (.br 13 [] (.br 18 [] (.br 19 [20, 21] .done .done) .done) (.br 18 [] (.br 13 [] (.br 19 [20, 21] .done .done) .done) .done)) (.br 18 [] (.br 7 [] (.br 13 [] (.br 19 [20, 21] .done .done) .done) .done) .done)) (.br 18 [] (.br 6 [] (.br 7 [] (.br 13 [] (.br 19 [20, 21] .done .done) .done) .done) .done) .done)) (.br 18 [] (.br 6 [] (.br 7 [] (.br 12 [] (.br 13 [] (.br 19 [20, 21] .done .done) .done) .done) (.br 12 [] (.br 7 [] (.br 13 [] (.br 19 [20, 21] .done .done) .done) .done) .done)) (.br 12 [] (.br 6 [] (.br 7 [] (.br 13 [] (.br 19 [20, 21] .done .done) .done) .done) .done) .done)) .done))) mixed (by decide +kernel) ?_
  repeat refine s1 ?_
  refine t_brF ?_ ?_
  · repeat refine s1 ?_
    refine r_build1s [.tmp 24, .tmp 26] [.slice x.ka n.keys.length x.kc, .slice y.ka m.keys.length y.kc] rfl rfl (by simp [Value.oneCell']) (by simp) rfl rfl rfl (fun b6 => ?_)
    refine fz ?_
    repeat refine s1 ?_
    refine t_brF ?_ ?_
    · repeat refine s1 ?_
      refine cx (concatK_c b6 0 2 x.ka y.ka n.keys.length x.kc m.keys.length y.kc (n.keys.map w64) (m.keys.map w64) o1 q1 (by omega) Φ) (fun p1 _ => ?_)
      repeat refine s1 ?_
      refine t_brF ?_ ?_
      · repeat refine s1 ?_
        refine r_build1s [.tmp 30, .tmp 32] [.slice x.va n.vals.length x.vc, .slice y.va m.vals.length y.vc] rfl rfl (by simp [Value.oneCell']) (by simp) rfl rfl rfl (fun b12 => ?_)
        refine fz ?_
        repeat refine s1 ?_
        refine t_brF ?_ ?_
        · repeat refine s1 ?_
          refine cx (concatV_c b12 0 2 x.va y.va n.vals.length x.vc m.vals.length y.vc (n.vals.flatMap fun v => v.map u8) (m.vals.flatMap fun v => v.map u8) o2 q2 (by omega) Φ) (fun p2 _ => ?_)
          repeat refine s1 ?_
          refine t_brF ?_ ?_
          · repeat refine s1 ?_
            refine r_build1s [.tmp 36, .tmp 38] [.slice x.ra n.kids.length x.rc, .slice y.ra m.kids.length y.rc] rfl rfl (by simp [Value.oneCell']) (by simp) rfl rfl rfl (fun b18 => ?_)
            refine fz ?_
            repeat refine s1 ?_
            refine t_brF ?_ ?_
            · repeat refine s1 ?_
              refine cx (concatR_c b18 0 2 x.ra y.ra n.kids.length x.rc m.kids.length y.rc (n.kids.flatMap rcells) (m.kids.flatMap rcells) o3 q3 (by omega) Φ) (fun p3 _ => ?_)
              rw [e1, e2, e3, e4, e5, e6]
              repeat refine s1 ?_
              refine r_build (cells := nbx (n.join m) ⟨p1.1, p1.2, p2.1, p2.2, p3.1, p3.2⟩) rfl (by rfl) rfl ?_
              repeat refine s1 ?_
              refine r_storeW (vs := nbx (n.join m) ⟨p1.1, p1.2, p2.1, p2.2, p3.1, p3.2⟩) rfl rfl (by rfl) (by rfl) (by simp [Value.oneCell']) rfl ?_
              repeat refine s1 ?_
              refine jh [vec p3.1 (n.join m).kids.length p3.2 T.api_Ref 33 ((n.join m).kids.flatMap rcells), vec p2.1 (n.join m).vals.length p2.2 T.a44_uint8 44 ((n.join m).vals.flatMap fun v => v.map u8), vec p1.1 (n.join m).keys.length p1.2 T.uint64 1 ((n.join m).keys.map w64)] ?_
              refine j_node (m := n.join m) ⟨p1.1, p1.2, p2.1, p2.2, p3.1, p3.2⟩ ?_
              exact j_fin rfl (.cons (rv_agg (l := nbx (n.join m) ⟨p1.1, p1.2, p2.1, p2.2, p3.1, p3.2⟩) (U := T.node_Node) (fr := (0, 0)) rfl (by rfl)) .nil) ⟨p1.1, p1.2, p2.1, p2.2, p3.1, p3.2⟩ rfl trivial
            exact t_brN
          exact t_brN
        refine t_br ?_ ?_
        · repeat refine s1 ?_
          refine r_build1s [.tmp 36, .tmp 38] [.slice x.ra n.kids.length x.rc, .slice y.ra m.kids.length y.rc] rfl rfl (by simp [Value.oneCell']) (by simp) rfl rfl rfl (fun b18 => ?_)
          refine fz ?_
          repeat refine s1 ?_
          refine t_brF ?_ ?_
          · repeat refine s1 ?_
            refine cx (concatV_c b12 0 2 x.va y.va n.vals.length x.vc m.vals.length y.vc (n.vals.flatMap fun v => v.map u8) (m.vals.flatMap fun v => v.map u8) o2 q2 (by omega) Φ) (fun p2 _ => ?_)
            repeat refine s1 ?_
            refine t_brF ?_ ?_
            · repeat refine s1 ?_
              refine cx (concatR_c b18 0 2 x.ra y.ra n.kids.length x.rc m.kids.length y.rc (n.kids.flatMap rcells) (m.kids.flatMap rcells) o3 q3 (by omega) Φ) (fun p3 _ => ?_)
              rw [e1, e2, e3, e4, e5, e6]
              repeat refine s1 ?_
              refine r_build (cells := nbx (n.join m) ⟨p1.1, p1.2, p2.1, p2.2, p3.1, p3.2⟩) rfl (by rfl) rfl ?_
              repeat refine s1 ?_
              refine r_storeW (vs := nbx (n.join m) ⟨p1.1, p1.2, p2.1, p2.2, p3.1, p3.2⟩) rfl rfl (by rfl) (by rfl) (by simp [Value.oneCell']) rfl ?_
              repeat refine s1 ?_
              refine jh [vec p3.1 (n.join m).kids.length p3.2 T.api_Ref 33 ((n.join m).kids.flatMap rcells), vec p2.1 (n.join m).vals.length p2.2 T.a44_uint8 44 ((n.join m).vals.flatMap fun v => v.map u8), vec p1.1 (n.join m).keys.length p1.2 T.uint64 1 ((n.join m).keys.map w64)] ?_
              refine j_node (m := n.join m) ⟨p1.1, p1.2, p2.1, p2.2, p3.1, p3.2⟩ ?_
              exact j_fin rfl (.cons (rv_agg (l := nbx (n.join m) ⟨p1.1, p1.2, p2.1, p2.2, p3.1, p3.2⟩) (U := T.node_Node) (fr := (0, 0)) rfl (by rfl)) .nil) ⟨p1.1, p1.2, p2.1, p2.2, p3.1, p3.2⟩ rfl trivial
            exact t_brN
          exact t_brN
        exact t_brN
      refine t_br ?_ ?_
      · repeat refine s1 ?_
        refine r_build1s [.tmp 36, .tmp 38] [.slice x.ra n.kids.length x.rc, .slice y.ra m.kids.length y.rc] rfl rfl (by simp [Value.oneCell']) (by simp) rfl rfl rfl (fun b18 => ?_)
        refine fz ?_
        repeat refine s1 ?_
        refine t_brF ?_ ?_
        · repeat refine s1 ?_
          refine r_build1s [.tmp 30, .tmp 32] [.slice x.va n.vals.length x.vc, .slice y.va m.vals.length y.vc] rfl rfl (by simp [Value.oneCell']) (by simp) rfl rfl rfl (fun b12 => ?_)
          refine fz ?_
          repeat refine s1 ?_
          refine t_brF ?_ ?_
          · repeat refine s1 ?_
            refine cx (concatV_c b12 0 2 x.va y.va n.vals.length x.vc m.vals.length y.vc (n.vals.flatMap fun v => v.map u8) (m.vals.flatMap fun v => v.map u8) o2 q2 (by omega) Φ) (fun p2 _ => ?_)
            repeat refine s1 ?_
            refine t_brF ?_ ?_
            · repeat refine s1 ?_
              refine cx (concatR_c b18 0 2 x.ra y.ra n.kids.length x.rc m.kids.length y.rc (n.kids.flatMap rcells) (m.kids.flatMap rcells) o3 q3 (by omega) Φ) (fun p3 _ => ?_)
              rw [e1, e2, e3, e4, e5, e6]
              repeat refine s1 ?_
              refine r_build (cells := nbx (n.join m) ⟨p1.1, p1.2, p2.1, p2.2, p3.1, p3.2⟩) rfl (by rfl) rfl ?_
              repeat refine s1 ?_
              refine r_storeW (vs := nbx (n.join m) ⟨p1.1, p1.2, p2.1, p2.2, p3.1, p3.2⟩) rfl rfl (by rfl) (by rfl) (by simp [Value.oneCell']) rfl ?_
              repeat refine s1 ?_
              refine jh [vec p3.1 (n.join m).kids.length p3.2 T.api_Ref 33 ((n.join m).kids.flatMap rcells), vec p2.1 (n.join m).vals.length p2.2 T.a44_uint8 44 ((n.join m).vals.flatMap fun v => v.map u8), vec p1.1 (n.join m).keys.length p1.2 T.uint64 1 ((n.join m).keys.map w64)] ?_
              refine j_node (m := n.join m) ⟨p1.1, p1.2, p2.1, p2.2, p3.1, p3.2⟩ ?_
              exact j_fin rfl (.cons (rv_agg (l := nbx (n.join m) ⟨p1.1, p1.2, p2.1, p2.2, p3.1, p3.2⟩) (U := T.node_Node) (fr := (0, 0)) rfl (by rfl)) .nil) ⟨p1.1, p1.2, p2.1, p2.2, p3.1, p3.2⟩ rfl trivial
            exact t_brN
          exact t_brN
        exact t_brN
      exact t_brN
    refine t_br ?_ ?_
    · repeat refine s1 ?_
      refine r_build1s [.tmp 30, .tmp 32] [.slice x.va n.vals.length x.vc, .slice y.va m.vals.length y.vc] rfl rfl (by simp [Value.oneCell']) (by simp) rfl rfl rfl (fun b12 => ?_)
      refine fz ?_
      repeat refine s1 ?_
      refine t_brF ?_ ?_
      · repeat refine s1 ?_
        refine cx (concatK_c b6 0 2 x.ka y.ka n.keys.length x.kc m.keys.length y.kc (n.keys.map w64) (m.keys.map w64) o1 q1 (by omega) Φ) (fun p1 _ => ?_)
        repeat refine s1 ?_
        refine t_brF ?_ ?_
        · repeat refine s1 ?_
          refine cx (concatV_c b12 0 2 x.va y.va n.vals.length x.vc m.vals.length y.vc (n.vals.flatMap fun v => v.map u8) (m.vals.flatMap fun v => v.map u8) o2 q2 (by omega) Φ) (fun p2 _ => ?_)
          repeat refine s1 ?_
          refine t_brF ?_ ?_
          · repeat refine s1 ?_
            refine r_build1s [.tmp 36, .tmp 38] [.slice x.ra n.kids.length x.rc, .slice y.ra m.kids.length y.rc] rfl rfl (by simp [Value.oneCell']) (by simp) rfl rfl rfl (fun b18 => ?_)
            refine fz ?_
            repeat refine s1 ?_
            refine t_brF ?_ ?_
            · repeat refine s1 ?_
              refine cx (concatR_c b18 0 2 x.ra y.ra n.kids.length x.rc m.kids.length y.rc (n.kids.flatMap rcells) (m.kids.flatMap rcells) o3 q3 (by omega) Φ) (fun p3 _ => ?_)
              rw [e1, e2, e3, e4, e5, e6]
              repeat refine s1 ?_
              refine r_build (cells := nbx (n.join m) ⟨p1.1, p1.2, p2.1, p2.2, p3.1, p3.2⟩) rfl (by rfl) rfl ?_
              repeat refine s1 ?_
              refine r_storeW (vs := nbx (n.join m) ⟨p1.1, p1.2, p2.1, p2.2, p3.1, p3.2⟩) rfl rfl (by rfl) (by rfl) (by simp [Value.oneCell']) rfl ?_
              repeat refine s1 ?_
              refine jh [vec p3.1 (n.join m).kids.length p3.2 T.api_Ref 33 ((n.join m).kids.flatMap rcells), vec p2.1 (n.join m).vals.length p2.2 T.a44_uint8 44 ((n.join m).vals.flatMap fun v => v.map u8), vec p1.1 (n.join m).keys.length p1.2 T.uint64 1 ((n.join m).keys.map w64)] ?_
              refine j_node (m := n.join m) ⟨p1.1, p1.2, p2.1, p2.2, p3.1, p3.2⟩ ?_
              exact j_fin rfl (.cons (rv_agg (l := nbx (n.join m) ⟨p1.1, p1.2, p2.1, p2.2, p3.1, p3.2⟩) (U := T.node_Node) (fr := (0, 0)) rfl (by rfl)) .nil) ⟨p1.1, p1.2, p2.1, p2.2, p3.1, p3.2⟩ rfl trivial
            exact t_brN
          exact t_brN
        refine t_br ?_ ?_
        · repeat refine s1 ?_
          refine r_build1s [.tmp 36, .tmp 38] [.slice x.ra n.kids.length x.rc, .slice y.ra m.kids.length y.rc] rfl rfl (by simp [Value.oneCell']) (by simp) rfl rfl rfl (fun b18 => ?_)
          refine fz ?_
          repeat refine s1 ?_
          refine t_brF ?_ ?_
          · repeat refine s1 ?_
            refine cx (concatV_c b12 0 2 x.va y.va n.vals.length x.vc m.vals.length y.vc (n.vals.flatMap fun v => v.map u8) (m.vals.flatMap fun v => v.map u8) o2 q2 (by omega) Φ) (fun p2 _ => ?_)
            repeat refine s1 ?_
            refine t_brF ?_ ?_
            · repeat refine s1 ?_
              refine cx (concatR_c b18 0 2 x.ra y.ra n.kids.length x.rc m.kids.length y.rc (n.kids.flatMap rcells) (m.kids.flatMap rcells) o3 q3 (by omega) Φ) (fun p3 _ => ?_)
              rw [e1, e2, e3, e4, e5, e6]
              repeat refine s1 ?_
              refine r_build (cells := nbx (n.join m) ⟨p1.1, p1.2, p2.1, p2.2, p3.1, p3.2⟩) rfl (by rfl) rfl ?_
              repeat refine s1 ?_
              refine r_storeW (vs := nbx (n.join m) ⟨p1.1, p1.2, p2.1, p2.2, p3.1, p3.2⟩) rfl rfl (by rfl) (by rfl) (by simp [Value.oneCell']) rfl ?_
              repeat refine s1 ?_
              refine jh [vec p3.1 (n.join m).kids.length p3.2 T.api_Ref 33 ((n.join m).kids.flatMap rcells), vec p2.1 (n.join m).vals.length p2.2 T.a44_uint8 44 ((n.join m).vals.flatMap fun v => v.map u8), vec p1.1 (n.join m).keys.length p1.2 T.uint64 1 ((n.join m).keys.map w64)] ?_
              refine j_node (m := n.join m) ⟨p1.1, p1.2, p2.1, p2.2, p3.1, p3.2⟩ ?_
              exact j_fin rfl (.cons (rv_agg (l := nbx (n.join m) ⟨p1.1, p1.2, p2.1, p2.2, p3.1, p3.2⟩) (U := T.node_Node) (fr := (0, 0)) rfl (by rfl)) .nil) ⟨p1.1, p1.2, p2.1, p2.2, p3.1, p3.2⟩ rfl trivial
            exact t_brN
          exact t_brN
        exact t_brN
      refine t_br ?_ ?_
      · repeat refine s1 ?_
        refine r_build1s [.tmp 36, .tmp 38] [.slice x.ra n.kids.length x.rc, .slice y.ra m.kids.length y.rc] rfl rfl (by simp [Value.oneCell']) (by simp) rfl rfl rfl (fun b18 => ?_)
        refine fz ?_
        repeat refine s1 ?_
        refine t_brF ?_ ?_
        · repeat refine s1 ?_
          refine cx (concatK_c b6 0 2 x.ka y.ka n.keys.length x.kc m.keys.length y.kc (n.keys.map w64) (m.keys.map w64) o1 q1 (by omega) Φ) (fun p1 _ => ?_)
          repeat refine s1 ?_
          refine t_brF ?_ ?_
          · repeat refine s1 ?_
            refine cx (concatV_c b12 0 2 x.va y.va n.vals.length x.vc m.vals.length y.vc (n.vals.flatMap fun v => v.map u8) (m.vals.flatMap fun v => v.map u8) o2 q2 (by omega) Φ) (fun p2 _ => ?_)
            repeat refine s1 ?_
            refine t_brF ?_ ?_
            · repeat refine s1 ?_
              refine cx (concatR_c b18 0 2 x.ra y.ra n.kids.length x.rc m.kids.length y.rc (n.kids.flatMap rcells) (m.kids.flatMap rcells) o3 q3 (by omega) Φ) (fun p3 _ => ?_)
              rw [e1, e2, e3, e4, e5, e6]
              repeat refine s1 ?_
              refine r_build (cells := nbx (n.join m) ⟨p1.1, p1.2, p2.1, p2.2, p3.1, p3.2⟩) rfl (by rfl) rfl ?_
              repeat refine s1 ?_
              refine r_storeW (vs := nbx (n.join m) ⟨p1.1, p1.2, p2.1, p2.2, p3.1, p3.2⟩) rfl rfl (by rfl) (by rfl) (by simp [Value.oneCell']) rfl ?_
              repeat refine s1 ?_
              refine jh [vec p3.1 (n.join m).kids.length p3.2 T.api_Ref 33 ((n.join m).kids.flatMap rcells), vec p2.1 (n.join m).vals.length p2.2 T.a44_uint8 44 ((n.join m).vals.flatMap fun v => v.map u8), vec p1.1 (n.join m).keys.length p1.2 T.uint64 1 ((n.join m).keys.map w64)] ?_
              refine j_node (m := n.join m) ⟨p1.1, p1.2, p2.1, p2.2, p3.1, p3.2⟩ ?_
              exact j_fin rfl (.cons (rv_agg (l := nbx (n.join m) ⟨p1.1, p1.2, p2.1, p2.2, p3.1, p3.2⟩) (U := T.node_Node) (fr := (0, 0)) rfl (by rfl)) .nil) ⟨p1.1, p1.2, p2.1, p2.2, p3.1, p3.2⟩ rfl trivial
            exact t_brN
          exact t_brN
        exact t_brN
      exact t_brN
    refine t_br ?_ ?_
    · repeat refine s1 ?_
      refine r_build1s [.tmp 36, .tmp 38] [.slice x.ra n.kids.length x.rc, .slice y.ra m.kids.length y.rc] rfl rfl (by simp [Value.oneCell']) (by simp) rfl rfl rfl (fun b18 => ?_)
      refine fz ?_
      repeat refine s1 ?_
      refine t_brF ?_ ?_
      · repeat refine s1 ?_
        refine cx (concatK_c b6 0 2 x.ka y.ka n.keys.length x.kc m.keys.length y.kc (n.keys.map w64) (m.keys.map w64) o1 q1 (by omega) Φ) (fun p1 _ => ?_)
        repeat refine s1 ?_
        refine t_brF ?_ ?_
        · repeat refine s1 ?_
          refine r_build1s [.tmp 30, .tmp 32] [.slice x.va n.vals.length x.vc, .slice y.va m.vals.length y.vc] rfl rfl (by simp [Value.oneCell']) (by simp) rfl rfl rfl (fun b12 => ?_)
          refine fz ?_
          repeat refine s1 ?_
          refine t_brF ?_ ?_
          · repeat refine s1 ?_
            refine cx (concatV_c b12 0 2 x.va y.va n.vals.length x.vc m.vals.length y.vc (n.vals.flatMap fun v => v.map u8) (m.vals.flatMap fun v => v.map u8) o2 q2 (by omega) Φ) (fun p2 _ => ?_)
            repeat refine s1 ?_
            refine t_brF ?_ ?_
            · repeat refine s1 ?_
              refine cx (concatR_c b18 0 2 x.ra y.ra n.kids.length x.rc m.kids.length y.rc (n.kids.flatMap rcells) (m.kids.flatMap rcells) o3 q3 (by omega) Φ) (fun p3 _ => ?_)
              rw [e1, e2, e3, e4, e5, e6]
              repeat refine s1 ?_
              refine r_build (cells := nbx (n.join m) ⟨p1.1, p1.2, p2.1, p2.2, p3.1, p3.2⟩) rfl (by rfl) rfl ?_
              repeat refine s1 ?_
              refine r_storeW (vs := nbx (n.join m) ⟨p1.1, p1.2, p2.1, p2.2, p3.1, p3.2⟩) rfl rfl (by rfl) (by rfl) (by simp [Value.oneCell']) rfl ?_
              repeat refine s1 ?_
              refine jh [vec p3.1 (n.join m).kids.length p3.2 T.api_Ref 33 ((n.join m).kids.flatMap rcells), vec p2.1 (n.join m).vals.length p2.2 T.a44_uint8 44 ((n.join m).vals.flatMap fun v => v.map u8), vec p1.1 (n.join m).keys.length p1.2 T.uint64 1 ((n.join m).keys.map w64)] ?_
              refine j_node (m := n.join m) ⟨p1.1, p1.2, p2.1, p2.2, p3.1, p3.2⟩ ?_
              exact j_fin rfl (.cons (rv_agg (l := nbx (n.join m) ⟨p1.1, p1.2, p2.1, p2.2, p3.1, p3.2⟩) (U := T.node_Node) (fr := (0, 0)) rfl (by rfl)) .nil) ⟨p1.1, p1.2, p2.1, p2.2, p3.1, p3.2⟩ rfl trivial
            exact t_brN
          exact t_brN
        exact t_brN
      refine t_br ?_ ?_
      · repeat refine s1 ?_
        refine r_build1s [.tmp 30, .tmp 32] [.slice x.va n.vals.length x.vc, .slice y.va m.vals.length y.vc] rfl rfl (by simp [Value.oneCell']) (by simp) rfl rfl rfl (fun b12 => ?_)
        refine fz ?_
        repeat refine s1 ?_
        refine t_brF ?_ ?_
        · repeat refine s1 ?_
          refine cx (concatK_c b6 0 2 x.ka y.ka n.keys.length x.kc m.keys.length y.kc (n.keys.map w64) (m.keys.map w64) o1 q1 (by omega) Φ) (fun p1 _ => ?_)
          repeat refine s1 ?_
          refine t_brF ?_ ?_
          · repeat refine s1 ?_
            refine cx (concatV_c b12 0 2 x.va y.va n.vals.length x.vc m.vals.length y.vc (n.vals.flatMap fun v => v.map u8) (m.vals.flatMap fun v => v.map u8) o2 q2 (by omega) Φ) (fun p2 _ => ?_)
            repeat refine s1 ?_
            refine t_brF ?_ ?_
            · repeat refine s1 ?_
              refine cx (concatR_c b18 0 2 x.ra y.ra n.kids.length x.rc m.kids.length y.rc (n.kids.flatMap rcells) (m.kids.flatMap rcells) o3 q3 (by omega) Φ) (fun p3 _ => ?_)
              rw [e1, e2, e3, e4, e5, e6]
              repeat refine s1 ?_
              refine r_build (cells := nbx (n.join m) ⟨p1.1, p1.2, p2.1, p2.2, p3.1, p3.2⟩) rfl (by rfl) rfl ?_
              repeat refine s1 ?_
              refine r_storeW (vs := nbx (n.join m) ⟨p1.1, p1.2, p2.1, p2.2, p3.1, p3.2⟩) rfl rfl (by rfl) (by rfl) (by simp [Value.oneCell']) rfl ?_
              repeat refine s1 ?_
              refine jh [vec p3.1 (n.join m).kids.length p3.2 T.api_Ref 33 ((n.join m).kids.flatMap rcells), vec p2.1 (n.join m).vals.length p2.2 T.a44_uint8 44 ((n.join m).vals.flatMap fun v => v.map u8), vec p1.1 (n.join m).keys.length p1.2 T.uint64 1 ((n.join m).keys.map w64)] ?_
              refine j_node (m := n.join m) ⟨p1.1, p1.2, p2.1, p2.2, p3.1, p3.2⟩ ?_
              exact j_fin rfl (.cons (rv_agg (l := nbx (n.join m) ⟨p1.1, p1.2, p2.1, p2.2, p3.1, p3.2⟩) (U := T.node_Node) (fr := (0, 0)) rfl (by rfl)) .nil) ⟨p1.1, p1.2, p2.1, p2.2, p3.1, p3.2⟩ rfl trivial
            exact t_brN
          exact t_brN
        exact t_brN
      exact t_brN
    exact t_brN
  refine t_br ?_ ?_
  · repeat refine s1 ?_
    refine r_build1s [.tmp 30, .tmp 32] [.slice x.va n.vals.length x.vc, .slice y.va m.vals.length y.vc] rfl rfl (by simp [Value.oneCell']) (by simp) rfl rfl rfl (fun b12 => ?_)
    refine fz ?_
    repeat refine s1 ?_
    refine t_brF ?_ ?_
    · repeat refine s1 ?_
      refine r_build1s [.tmp 24, .tmp 26] [.slice x.ka n.keys.length x.kc, .slice y.ka m.keys.length y.kc] rfl rfl (by simp [Value.oneCell']) (by simp) rfl rfl rfl (fun b6 => ?_)
      refine fz ?_
      repeat refine s1 ?_
      refine t_brF ?_ ?_
      · repeat refine s1 ?_
        refine cx (concatK_c b6 0 2 x.ka y.ka n.keys.length x.kc m.keys.length y.kc (n.keys.map w64) (m.keys.map w64) o1 q1 (by omega) Φ) (fun p1 _ => ?_)
        repeat refine s1 ?_
        refine t_brF ?_ ?_
        · repeat refine s1 ?_
          refine cx (concatV_c b12 0 2 x.va y.va n.vals.length x.vc m.vals.length y.vc (n.vals.flatMap fun v => v.map u8) (m.vals.flatMap fun v => v.map u8) o2 q2 (by omega) Φ) (fun p2 _ => ?_)
          repeat refine s1 ?_
          refine t_brF ?_ ?_
          · repeat refine s1 ?_
            refine r_build1s [.tmp 36, .tmp 38] [.slice x.ra n.kids.length x.rc, .slice y.ra m.kids.length y.rc] rfl rfl (by simp [Value.oneCell']) (by simp) rfl rfl rfl (fun b18 => ?_)
            refine fz ?_
            repeat refine s1 ?_
            refine t_brF ?_ ?_
            · repeat refine s1 ?_
              refine cx (concatR_c b18 0 2 x.ra y.ra n.kids.length x.rc m.kids.length y.rc (n.kids.flatMap rcells) (m.kids.flatMap rcells) o3 q3 (by omega) Φ) (fun p3 _ => ?_)
              rw [e1, e2, e3, e4, e5, e6]
              repeat refine s1 ?_
              refine r_build (cells := nbx (n.join m) ⟨p1.1, p1.2, p2.1, p2.2, p3.1, p3.2⟩) rfl (by rfl) rfl ?_
              repeat refine s1 ?_
              refine r_storeW (vs := nbx (n.join m) ⟨p1.1, p1.2, p2.1, p2.2, p3.1, p3.2⟩) rfl rfl (by rfl) (by rfl) (by simp [Value.oneCell']) rfl ?_
              repeat refine s1 ?_
              refine jh [vec p3.1 (n.join m).kids.length p3.2 T.api_Ref 33 ((n.join m).kids.flatMap rcells), vec p2.1 (n.join m).vals.length p2.2 T.a44_uint8 44 ((n.join m).vals.flatMap fun v => v.map u8), vec p1.1 (n.join m).keys.length p1.2 T.uint64 1 ((n.join m).keys.map w64)] ?_
              refine j_node (m := n.join m) ⟨p1.1, p1.2, p2.1, p2.2, p3.1, p3.2⟩ ?_
              exact j_fin rfl (.cons (rv_agg (l := nbx (n.join m) ⟨p1.1, p1.2, p2.1, p2.2, p3.1, p3.2⟩) (U := T.node_Node) (fr := (0, 0)) rfl (by rfl)) .nil) ⟨p1.1, p1.2, p2.1, p2.2, p3.1, p3.2⟩ rfl trivial
            exact t_brN
          exact t_brN
        refine t_br ?_ ?_
        · repeat refine s1 ?_
          refine r_build1s [.tmp 36, .tmp 38] [.slice x.ra n.kids.length x.rc, .slice y.ra m.kids.length y.rc] rfl rfl (by simp [Value.oneCell']) (by simp) rfl rfl rfl (fun b18 => ?_)
          refine fz ?_
          repeat refine s1 ?_
          refine t_brF ?_ ?_
          · repeat refine s1 ?_
            refine cx (concatV_c b12 0 2 x.va y.va n.vals.length x.vc m.vals.length y.vc (n.vals.flatMap fun v => v.map u8) (m.vals.flatMap fun v => v.map u8) o2 q2 (by omega) Φ) (fun p2 _ => ?_)
            repeat refine s1 ?_
            refine t_brF ?_ ?_
            · repeat refine s1 ?_
              refine cx (concatR_c b18 0 2 x.ra y.ra n.kids.length x.rc m.kids.length y.rc (n.kids.flatMap rcells) (m.kids.flatMap rcells) o3 q3 (by omega) Φ) (fun p3 _ => ?_)
              rw [e1, e2, e3, e4, e5, e6]
              repeat refine s1 ?_
              refine r_build (cells := nbx (n.join m) ⟨p1.1, p1.2, p2.1, p2.2, p3.1, p3.2⟩) rfl (by rfl) rfl ?_
              repeat refine s1 ?_
              refine r_storeW (vs := nbx (n.join m) ⟨p1.1, p1.2, p2.1, p2.2, p3.1, p3.2⟩) rfl rfl (by rfl) (by rfl) (by simp [Value.oneCell']) rfl ?_
              repeat refine s1 ?_
              refine jh [vec p3.1 (n.join m).kids.length p3.2 T.api_Ref 33 ((n.join m).kids.flatMap rcells), vec p2.1 (n.join m).vals.length p2.2 T.a44_uint8 44 ((n.join m).vals.flatMap fun v => v.map u8), vec p1.1 (n.join m).keys.length p1.2 T.uint64 1 ((n.join m).keys.map w64)] ?_
              refine j_node (m := n.join m) ⟨p1.1, p1.2, p2.1, p2.2, p3.1, p3.2⟩ ?_
              exact j_fin rfl (.cons (rv_agg (l := nbx (n.join m) ⟨p1.1, p1.2, p2.1, p2.2, p3.1, p3.2⟩) (U := T.node_Node) (fr := (0, 0)) rfl (by rfl)) .nil) ⟨p1.1, p1.2, p2.1, p2.2, p3.1, p3.2⟩ rfl trivial
            exact t_brN
          exact t_brN
        exact t_brN
      refine t_br ?_ ?_
      · repeat refine s1 ?_
        refine r_build1s [.tmp 36, .tmp 38] [.slice x.ra n.kids.length x.rc, .slice y.ra m.kids.length y.rc] rfl rfl (by simp [Value.oneCell']) (by simp) rfl rfl rfl (fun b18 => ?_)
        refine fz ?_
        repeat refine s1 ?_
        refine t_brF ?_ ?_
        · repeat refine s1 ?_
          refine cx (concatK_c b6 0 2 x.ka y.ka n.keys.length x.kc m.keys.length y.kc (n.keys.map w64) (m.keys.map w64) o1 q1 (by omega) Φ) (fun p1 _ => ?_)
          repeat refine s1 ?_
          refine t_brF ?_ ?_
          · repeat refine s1 ?_
            refine cx (concatV_c b12 0 2 x.va y.va n.vals.length x.vc m.vals.length y.vc (n.vals.flatMap fun v => v.map u8) (m.vals.flatMap fun v => v.map u8) o2 q2 (by omega) Φ) (fun p2 _ => ?_)
            repeat refine s1 ?_
            refine t_brF ?_ ?_
            · repeat refine s1 ?_
              refine cx (concatR_c b18 0 2 x.ra y.ra n.kids.length x.rc m.kids.length y.rc (n.kids.flatMap rcells) (m.kids.flatMap rcells) o3 q3 (by omega) Φ) (fun p3 _ => ?_)
              rw [e1, e2, e3, e4, e5, e6]
              repeat refine s1 ?_
              refine r_build (cells := nbx (n.join m) ⟨p1.1, p1.2, p2.1, p2.2, p3.1, p3.2⟩) rfl (by rfl) rfl ?_
              repeat refine s1 ?_
              refine r_storeW (vs := nbx (n.join m) ⟨p1.1, p1.2, p2.1, p2.2, p3.1, p3.2⟩) rfl rfl (by rfl) (by rfl) (by simp [Value.oneCell']) rfl ?_
              repeat refine s1 ?_
              refine jh [vec p3.1 (n.join m).kids.length p3.2 T.api_Ref 33 ((n.join m).kids.flatMap rcells), vec p2.1 (n.join m).vals.length p2.2 T.a44_uint8 44 ((n.join m).vals.flatMap fun v => v.map u8), vec p1.1 (n.join m).keys.length p1.2 T.uint64 1 ((n.join m).keys.map w64)] ?_
              refine j_node (m := n.join m) ⟨p1.1, p1.2, p2.1, p2.2, p3.1, p3.2⟩ ?_
              exact j_fin rfl (.cons (rv_agg (l := nbx (n.join m) ⟨p1.1, p1.2, p2.1, p2.2, p3.1, p3.2⟩) (U := T.node_Node) (fr := (0, 0)) rfl (by rfl)) .nil) ⟨p1.1, p1.2, p2.1, p2.2, p3.1, p3.2⟩ rfl trivial
            exact t_brN
          exact t_brN
        exact t_brN
      exact t_brN
    refine t_br ?_ ?_
    · repeat refine s1 ?_
      refine r_build1s [.tmp 36, .tmp 38] [.slice x.ra n.kids.length x.rc, .slice y.ra m.kids.length y.rc] rfl rfl (by simp [Value.oneCell']) (by simp) rfl rfl rfl (fun b18 => ?_)
      refine fz ?_
      repeat refine s1 ?_
      refine t_brF ?_ ?_
      · repeat refine s1 ?_
        refine r_build1s [.tmp 24, .tmp 26] [.slice x.ka n.keys.length x.kc, .slice y.ka m.keys.length y.kc] rfl rfl (by simp [Value.oneCell']) (by simp) rfl rfl rfl (fun b6 => ?_)
        refine fz ?_
        repeat refine s1 ?_
        refine t_brF ?_ ?_
        · repeat refine s1 ?_
          refine cx (concatK_c b6 0 2 x.ka y.ka n.keys.length x.kc m.keys.length y.kc (n.keys.map w64) (m.keys.map w64) o1 q1 (by omega) Φ) (fun p1 _ => ?_)
          repeat refine s1 ?_
          refine t_brF ?_ ?_
          · repeat refine s1 ?_
            refine cx (concatV_c b12 0 2 x.va y.va n.vals.length x.vc m.vals.length y.vc (n.vals.flatMap fun v => v.map u8) (m.vals.flatMap fun v => v.map u8) o2 q2 (by omega) Φ) (fun p2 _ => ?_)
            repeat refine s1 ?_
            refine t_brF ?_ ?_
            · repeat refine s1 ?_
              refine cx (concatR_c b18 0 2 x.ra y.ra n.kids.length x.rc m.kids.length y.rc (n.kids.flatMap rcells) (m.kids.flatMap rcells) o3 q3 (by omega) Φ) (fun p3 _ => ?_)
              rw [e1, e2, e3, e4, e5, e6]
              repeat refine s1 ?_
              refine r_build (cells := nbx (n.join m) ⟨p1.1, p1.2, p2.1, p2.2, p3.1, p3.2⟩) rfl (by rfl) rfl ?_
              repeat refine s1 ?_
              refine r_storeW (vs := nbx (n.join m) ⟨p1.1, p1.2, p2.1, p2.2, p3.1, p3.2⟩) rfl rfl (by rfl) (by rfl) (by simp [Value.oneCell']) rfl ?_
              repeat refine s1 ?_
              refine jh [vec p3.1 (n.join m).kids.length p3.2 T.api_Ref 33 ((n.join m).kids.flatMap rcells), vec p2.1 (n.join m).vals.length p2.2 T.a44_uint8 44 ((n.join m).vals.flatMap fun v => v.map u8), vec p1.1 (n.join m).keys.length p1.2 T.uint64 1 ((n.join m).keys.map w64)] ?_
              refine j_node (m := n.join m) ⟨p1.1, p1.2, p2.1, p2.2, p3.1, p3.2⟩ ?_
              exact j_fin rfl (.cons (rv_agg (l := nbx (n.join m) ⟨p1.1, p1.2, p2.1, p2.2, p3.1, p3.2⟩) (U := T.node_Node) (fr := (0, 0)) rfl (by rfl)) .nil) ⟨p1.1, p1.2, p2.1, p2.2, p3.1, p3.2⟩ rfl trivial
            exact t_brN
          exact t_brN
        exact t_brN
      exact t_brN
    exact t_brN
  refine t_br ?_ ?_
  · repeat refine s1 ?_
    refine r_build1s [.tmp 36, .tmp 38] [.slice x.ra n.kids.length x.rc, .slice y.ra m.kids.length y.rc] rfl rfl (by simp [Value.oneCell']) (by simp) rfl rfl rfl (fun b18 => ?_)
    refine fz ?_
    repeat refine s1 ?_
    refine t_brF ?_ ?_
    · repeat refine s1 ?_
      refine r_build1s [.tmp 24, .tmp 26] [.slice x.ka n.keys.length x.kc, .slice y.ka m.keys.length y.kc] rfl rfl (by simp [Value.oneCell']) (by simp) rfl rfl rfl (fun b6 => ?_)
      refine fz ?_
      repeat refine s1 ?_
      refine t_brF ?_ ?_
      · repeat refine s1 ?_
        refine cx (concatK_c b6 0 2 x.ka y.ka n.keys.length x.kc m.keys.length y.kc (n.keys.map w64) (m.keys.map w64) o1 q1 (by omega) Φ) (fun p1 _ => ?_)
        repeat refine s1 ?_
        refine t_brF ?_ ?_
        · repeat refine s1 ?_
          refine r_build1s [.tmp 30, .tmp 32] [.slice x.va n.vals.length x.vc, .slice y.va m.vals.length y.vc] rfl rfl (by simp [Value.oneCell']) (by simp) rfl rfl rfl (fun b12 => ?_)
          refine fz ?_
          repeat refine s1 ?_
          refine t_brF ?_ ?_
          · repeat refine s1 ?_
            refine cx (concatV_c b12 0 2 x.va y.va n.vals.length x.vc m.vals.length y.vc (n.vals.flatMap fun v => v.map u8) (m.vals.flatMap fun v => v.map u8) o2 q2 (by omega) Φ) (fun p2 _ => ?_)
            repeat refine s1 ?_
            refine t_brF ?_ ?_
            · repeat refine s1 ?_
              refine cx (concatR_c b18 0 2 x.ra y.ra n.kids.length x.rc m.kids.length y.rc (n.kids.flatMap rcells) (m.kids.flatMap rcells) o3 q3 (by omega) Φ) (fun p3 _ => ?_)
              rw [e1, e2, e3, e4, e5, e6]
              repeat refine s1 ?_
              refine r_build (cells := nbx (n.join m) ⟨p1.1, p1.2, p2.1, p2.2, p3.1, p3.2⟩) rfl (by rfl) rfl ?_
              repeat refine s1 ?_
              refine r_storeW (vs := nbx (n.join m) ⟨p1.1, p1.2, p2.1, p2.2, p3.1, p3.2⟩) rfl rfl (by rfl) (by rfl) (by simp [Value.oneCell']) rfl ?_
              repeat refine s1 ?_
              refine jh [vec p3.1 (n.join m).kids.length p3.2 T.api_Ref 33 ((n.join m).kids.flatMap rcells), vec p2.1 (n.join m).vals.length p2.2 T.a44_uint8 44 ((n.join m).vals.flatMap fun v => v.map u8), vec p1.1 (n.join m).keys.length p1.2 T.uint64 1 ((n.join m).keys.map w64)] ?_
              refine j_node (m := n.join m) ⟨p1.1, p1.2, p2.1, p2.2, p3.1, p3.2⟩ ?_
              exact j_fin rfl (.cons (rv_agg (l := nbx (n.join m) ⟨p1.1, p1.2, p2.1, p2.2, p3.1, p3.2⟩) (U := T.node_Node) (fr := (0, 0)) rfl (by rfl)) .nil) ⟨p1.1, p1.2, p2.1, p2.2, p3.1, p3.2⟩ rfl trivial
            exact t_brN
          exact t_brN
        exact t_brN
      refine t_br ?_ ?_
      · repeat refine s1 ?_
        refine r_build1s [.tmp 30, .tmp 32] [.slice x.va n.vals.length x.vc, .slice y.va m.vals.length y.vc] rfl rfl (by simp [Value.oneCell']) (by simp) rfl rfl rfl (fun b12 => ?_)
        refine fz ?_
        repeat refine s1 ?_
        refine t_brF ?_ ?_
        · repeat refine s1 ?_
          refine cx (concatK_c b6 0 2 x.ka y.ka n.keys.length x.kc m.keys.length y.kc (n.keys.map w64) (m.keys.map w64) o1 q1 (by omega) Φ) (fun p1 _ => ?_)
          repeat refine s1 ?_
          refine t_brF ?_ ?_
          · repeat refine s1 ?_
            refine cx (concatV_c b12 0 2 x.va y.va n.vals.length x.vc m.vals.length y.vc (n.vals.flatMap fun v => v.map u8) (m.vals.flatMap fun v => v.map u8) o2 q2 (by omega) Φ) (fun p2 _ => ?_)
            repeat refine s1 ?_
            refine t_brF ?_ ?_
            · repeat refine s1 ?_
              refine cx (concatR_c b18 0 2 x.ra y.ra n.kids.length x.rc m.kids.length y.rc (n.kids.flatMap rcells) (m.kids.flatMap rcells) o3 q3 (by omega) Φ) (fun p3 _ => ?_)
              rw [e1, e2, e3, e4, e5, e6]
              repeat refine s1 ?_
              refine r_build (cells := nbx (n.join m) ⟨p1.1, p1.2, p2.1, p2.2, p3.1, p3.2⟩) rfl (by rfl) rfl ?_
              repeat refine s1 ?_
              refine r_storeW (vs := nbx (n.join m) ⟨p1.1, p1.2, p2.1, p2.2, p3.1, p3.2⟩) rfl rfl (by rfl) (by rfl) (by simp [Value.oneCell']) rfl ?_
              repeat refine s1 ?_
              refine jh [vec p3.1 (n.join m).kids.length p3.2 T.api_Ref 33 ((n.join m).kids.flatMap rcells), vec p2.1 (n.join m).vals.length p2.2 T.a44_uint8 44 ((n.join m).vals.flatMap fun v => v.map u8), vec p1.1 (n.join m).keys.length p1.2 T.uint64 1 ((n.join m).keys.map w64)] ?_
              refine j_node (m := n.join m) ⟨p1.1, p1.2, p2.1, p2.2, p3.1, p3.2⟩ ?_
              exact j_fin rfl (.cons (rv_agg (l := nbx (n.join m) ⟨p1.1, p1.2, p2.1, p2.2, p3.1, p3.2⟩) (U := T.node_Node) (fr := (0, 0)) rfl (by rfl)) .nil) ⟨p1.1, p1.2, p2.1, p2.2, p3.1, p3.2⟩ rfl trivial
            exact t_brN
          exact t_brN
        exact t_brN
      exact t_brN
    refine t_br ?_ ?_
    · repeat refine s1 ?_
      refine r_build1s [.tmp 30, .tmp 32] [.slice x.va n.vals.length x.vc, .slice y.va m.vals.length y.vc] rfl rfl (by simp [Value.oneCell']) (by simp) rfl rfl rfl (fun b12 => ?_)
      refine fz ?_
      repeat refine s1 ?_
      refine t_brF ?_ ?_
      · repeat refine s1 ?_
        refine r_build1s [.tmp 24, .tmp 26] [.slice x.ka n.keys.length x.kc, .slice y.ka m.keys.length y.kc] rfl rfl (by simp [Value.oneCell']) (by simp) rfl rfl rfl (fun b6 => ?_)
        refine fz ?_
        repeat refine s1 ?_
        refine t_brF ?_ ?_
        · repeat refine s1 ?_
          refine cx (concatK_c b6 0 2 x.ka y.ka n.keys.length x.kc m.keys.length y.kc (n.keys.map w64) (m.keys.map w64) o1 q1 (by omega) Φ) (fun p1 _ => ?_)
          repeat refine s1 ?_
          refine t_brF ?_ ?_
          · repeat refine s1 ?_
            refine cx (concatV_c b12 0 2 x.va y.va n.vals.length x.vc m.vals.length y.vc (n.vals.flatMap fun v => v.map u8) (m.vals.flatMap fun v => v.map u8) o2 q2 (by omega) Φ) (fun p2 _ => ?_)
            repeat refine s1 ?_
            refine t_brF ?_ ?_
            · repeat refine s1 ?_
              refine cx (concatR_c b18 0 2 x.ra y.ra n.kids.length x.rc m.kids.length y.rc (n.kids.flatMap rcells) (m.kids.flatMap rcells) o3 q3 (by omega) Φ) (fun p3 _ => ?_)
              rw [e1, e2, e3, e4, e5, e6]
              repeat refine s1 ?_
              refine r_build (cells := nbx (n.join m) ⟨p1.1, p1.2, p2.1, p2.2, p3.1, p3.2⟩) rfl (by rfl) rfl ?_
              repeat refine s1 ?_
              refine r_storeW (vs := nbx (n.join m) ⟨p1.1, p1.2, p2.1, p2.2, p3.1, p3.2⟩) rfl rfl (by rfl) (by rfl) (by simp [Value.oneCell']) rfl ?_
              repeat refine s1 ?_
              refine jh [vec p3.1 (n.join m).kids.length p3.2 T.api_Ref 33 ((n.join m).kids.flatMap rcells), vec p2.1 (n.join m).vals.length p2.2 T.a44_uint8 44 ((n.join m).vals.flatMap fun v => v.map u8), vec p1.1 (n.join m).keys.length p1.2 T.uint64 1 ((n.join m).keys.map w64)] ?_
              refine j_node (m := n.join m) ⟨p1.1, p1.2, p2.1, p2.2, p3.1, p3.2⟩ ?_
              exact j_fin rfl (.cons (rv_agg (l := nbx (n.join m) ⟨p1.1, p1.2, p2.1, p2.2, p3.1, p3.2⟩) (U := T.node_Node) (fr := (0, 0)) rfl (by rfl)) .nil) ⟨p1.1, p1.2, p2.1, p2.2, p3.1, p3.2⟩ rfl trivial
            exact t_brN
          exact t_brN
        exact t_brN
      exact t_brN
    exact t_brN
  exact t_brN

end Go.Proofs.YtcnpkmdooekmgaaGreatDoor
namespace Go.Proofs.YtcnpkmdooekmgaaGreatDoor
open Go Sl
attribute [local irreducible] cw sw J Exit.then Exit.inBlock Exit.noGoto bodyPost swG swL permL
theorem cut_c (n : Nd) (x : NR) (i : Nat) (hw : n.whole) (ht : n.wt) (hi : i < n.keys.length) (Φ : Base) :
    Sl.Fn Tryz.prog Φ F.node_Cut [nV n x, i64 i] [node n x] (fun _ : NR => True) (fun q => nV ((n.part 0 i).join (n.part (i + 1) n.keys.length)) q) (fun q => [node ((n.part 0 i).join (n.part (i + 1) n.keys.length)) q]) := by
  have hk := hw.keys
  refine fo fun F => ?_
  repeat refine s1 ?_
  refine r_box (cs := nbx n x) rfl rfl rfl rfl (fun t2 => ?_)
  repeat refine s1 ?_
  refine al (fun t4 => ?_)
  repeat refine s1 ?_
  refine cl (whole_c n x hw.is Φ) ?_
  repeat' (first | refine r_nil ?_ | (refine k_move ?_; refine r_move rfl rfl ?_) | (refine k_assign ?_; refine r_assign rfl rfl ?_) | (refine k_nck ?_; first | refine r_nck rfl rfl ?_ | refine r_nckf rfl rfl ?_) | (refine k_fld ?_; first | refine r_fld0 rfl rfl ?_ | refine r_fld rfl rfl ?_) | (refine k_load ?_; first | refine r_load1L rfl rfl rfl ?_ | refine s_load1L rfl rfl rfl ?_ | refine r_load1 rfl rfl rfl rfl ?_ | refine r_loadW rfl rfl rfl rfl ?_ | refine s_loadW rfl rfl rfl rfl ?_) | (refine k_ext ?_; first | refine r_extL rfl rfl ?_ | refine r_ext rfl rfl rfl ?_) | (refine k_len ?_; refine r_lenS rfl rfl ?_) | (refine k_un ?_; first | refine r_notT rfl (by with_reducible rfl) rfl ?_ | refine r_notF rfl (by with_reducible rfl) rfl ?_ | refine r_not rfl rfl ?_) | (refine k_sl0 ?_; refine r_sliceA rfl (by decide) rfl ?_) | (refine k_conv ?_; refine r_conv rfl rfl ?_) | (refine k_pick ?_; first | refine r_pickT rfl (by with_reducible rfl) rfl rfl ?_ | refine r_pickF rfl (by with_reducible rfl) rfl rfl ?_) | (refine k_inc ?_; refine r_inc rfl (by omega) rfl ?_) | (refine k_bin ?_; first | refine r_icmpT rfl rfl rfl rfl ?_ | refine r_icmpF rfl rfl rfl rfl ?_ | refine r_icmp rfl rfl rfl rfl ?_) | (refine k_eql ?_; first | refine r_peqS rfl rfl rfl ?_ | refine r_peqN rfl rfl rfl ?_ | refine r_meqS rfl rfl rfl ?_ | refine r_meqN rfl rfl rfl ?_ | refine r_peq rfl rfl rfl ?_) | (refine k_neq ?_; first | refine r_pneS rfl rfl rfl ?_ | refine r_pneN rfl rfl rfl ?_ | refine r_mneS rfl rfl rfl ?_ | refine r_mneN rfl rfl rfl ?_ | refine r_pne rfl rfl rfl ?_) | (refine g_mark ?_; first | refine gg_pass rfl rfl (by with_reducible rfl) ?_ | refine gg_skipT rfl rfl (by with_reducible rfl) (blt_any rfl) ?_ | refine gg_skipF rfl rfl (by with_reducible rfl) (blt_any rfl) ?_ | refine gg_skipU rfl rfl (by with_reducible rfl) (blt_any rfl) ?_ | refine gg_splitD rfl rfl (fun _ => ?_) (fun _ => ?_) | refine gg_splitN rfl rfl (fun _ => ?_) (fun _ => ?_) | refine gg_split rfl rfl (fun _ => ?_) (fun _ => ?_)) | refine t_seq ?_ | refine t_perm rfl ?_ | refine t_permE ?_ | refine j_then ?_ | refine t_region ?_ | refine t_draw [] [] mixed (by decide +kernel) ?_ | (refine k_cond ?_; first | refine t_condT rfl (by with_reducible rfl) ?_ | refine t_condF rfl (by with_reducible rfl) ?_ | refine t_condS rfl (fun _ => ?_) (fun _ => ?_) | refine t_condSN rfl (fun _ => ?_) (fun _ => ?_) | refine t_condSB rfl (fun _ => ?_) (fun _ => ?_)) | refine t_block ?_ | refine j_in ?_ | refine t_skip ?_ | refine t_ret ?_ | refine j_then_ret ?_ | refine j_in_ret ?_ | refine t_exit ?_ | refine j_then_exit ?_ | refine j_in_exit ?_ | refine j_in_other rfl ?_ | refine t_scope ?_ | refine t_label ?_ | refine j_ng ?_ | refine j_ng_ret ?_ | refine j_ng_exit ?_)
  next h0 => exact absurd h0 (by omega)
  next h0 =>
    refine t_draw [pt t2 (.cells (nbx n x).toArray T.node_Node (0, 0))] [0, 3] mixed (by decide +kernel) ?_
    repeat refine s1 ?_
    refine cx (some_c n x 0 i hw ht (Nat.zero_le _) (by omega) Φ) (fun y1 _ => ?_)
    repeat refine s1 ?_
    refine cx (some_c n x (i + 1) n.keys.length hw ht (by omega) (by omega) Φ) (fun y2 _ => ?_)
    repeat refine s1 ?_
    refine cx (join_c (n.part 0 i) (n.part (i + 1) n.keys.length) y1 y2 (part_whole hw) (part_whole hw) rfl (part_wt ht _ _) (part_wt ht _ _) Φ) (fun q _ => ?_)
    generalize (n.part 0 i).join (n.part (i + 1) n.keys.length) = nA
    repeat refine s1 ?_
    refine r_storeW (vs := nbx nA q) rfl rfl (by rfl) (by rfl) (by simp [Value.oneCell']) rfl ?_
    repeat refine s1 ?_
    exact j_fin rfl (.cons (rv_agg (l := nbx nA q) (U := T.node_Node) (fr := (0, 0)) rfl (by rfl)) .nil) q rfl trivial
/-- the same, with rows of one's own. -/
theorem someO_c (n : Nd) (x : NR) (fr to : Nat) (hw : n.whole) (ht : n.wt) (h2 : fr ≤ to) (h3 : to ≤ n.keys.length) (Φ : Base) :
    Sl.Fn Tryz.prog Φ F.node_some [nV n x, i64 fr, i64 to] [node n x] (fun _ : NR => True) (fun y => nV (n.part fr to) y) (fun y => [vec y.ra (n.part fr to).kids.length y.rc T.api_Ref 33 ((n.part fr to).kids.flatMap rcells), vec y.va (n.part fr to).vals.length y.vc T.a44_uint8 44 ((n.part fr to).vals.flatMap fun v => v.map u8), vec y.ka (n.part fr to).keys.length y.kc T.uint64 1 ((n.part fr to).keys.map w64)]) := by
  have hk := hw.keys
  obtain ⟨hv, hr⟩ := hw.lens
  obtain ⟨o1, o2, o3⟩ := ht.one
  refine fo fun F => ?_
  repeat refine s1 ?_
  refine r_box (cs := nbx n x) rfl rfl rfl rfl (fun t3 => ?_)
  refine j_head (node n x) (j_ent (Ent.unnode _) ?_)
  repeat refine s1 ?_
  refine al (fun t6 => ?_)
  repeat refine s1 ?_
  refine t_draw [pt t3 (.cells (nbx n x).toArray T.node_Node (0, 0))] [1, 3, 8, 13] mixed (by decide +kernel) ?_
  repeat refine s1 ?_
  refine cx (partK_c x.ka n.keys.length x.kc fr to (n.keys.map w64) o1 (by omega) h2 (.inl h3) (by omega) Φ) (fun p1 _ => ?_)
  repeat refine s1 ?_
  refine cx (partV_c x.va n.vals.length x.vc fr to (n.vals.flatMap fun v => v.map u8) o2 (by omega) h2 (by omega) (by omega) Φ) (fun p2 _ => ?_)
  repeat refine s1 ?_
  refine cx (partR_c x.ra n.kids.length x.rc fr to (n.kids.flatMap rcells) o3 (by omega) h2 (by omega) (by omega) Φ) (fun p3 _ => ?_)
  repeat refine s1 ?_
  rw [flat_part 33 (f := rcells) (fun r hr => by simp [(ht.kids r hr).sum.1]), flat_part 44 (f := fun v : List Nat => v.map u8) (fun v hv => by simpa using (ht.vals v hv).1), map_flat w64, flat_part 1 (f := fun x : Nat => [w64 x]) (fun _ _ => rfl), ← map_flat w64,
    show min to n.keys.length - min fr n.keys.length = (n.part fr to).keys.length from (part_len ..).symm, show min to n.vals.length - min fr n.vals.length = (n.part fr to).vals.length from (part_len ..).symm,
    show min to n.kids.length - min fr n.kids.length = (n.part fr to).kids.length from (part_len ..).symm]
  refine r_build (cells := nbx (n.part fr to) ⟨p1.1, p1.2, p2.1, p2.2, p3.1, p3.2⟩) rfl (by rfl) rfl ?_
  refine r_storeW (vs := nbx (n.part fr to) ⟨p1.1, p1.2, p2.1, p2.2, p3.1, p3.2⟩) rfl rfl (by rfl) (by rfl) (by simp [Value.oneCell']) rfl ?_
  repeat refine s1 ?_
  change J _ _ (vec (NR.mk p1.1 p1.2 p2.1 p2.2 p3.1 p3.2).ra (n.part fr to).kids.length (NR.mk p1.1 p1.2 p2.1 p2.2 p3.1 p3.2).rc T.api_Ref 33 ((n.part fr to).kids.flatMap rcells) :: vec (NR.mk p1.1 p1.2 p2.1 p2.2 p3.1 p3.2).va (n.part fr to).vals.length (NR.mk p1.1 p1.2 p2.1 p2.2 p3.1 p3.2).vc T.a44_uint8 44 ((n.part fr to).vals.flatMap fun v => v.map u8) :: vec (NR.mk p1.1 p1.2 p2.1 p2.2 p3.1 p3.2).ka (n.part fr to).keys.length (NR.mk p1.1 p1.2 p2.1 p2.2 p3.1 p3.2).kc T.uint64 1 ((n.part fr to).keys.map w64) :: _) _
  exact j_fin rfl (.cons (rv_agg (l := nbx (n.part fr to) ⟨p1.1, p1.2, p2.1, p2.2, p3.1, p3.2⟩) (U := T.node_Node) (fr := (0, 0)) rfl (by rfl)) .nil) ⟨p1.1, p1.2, p2.1, p2.2, p3.1, p3.2⟩ rfl trivial
end Go.Proofs.YtcnpkmdooekmgaaGreatDoor
namespace Go.Proofs.YtcnpkmdooekmgaaGreatDoor
open Go Sl
theorem run_copyG {P : Program} {w : World} {dT sT ty elem : TypeId} {s : Nat} [tu : TUnd P dT (.slice elem)] [ts : TSize P elem s] {g o dl dc m cap2 : Nat} {a2 : Option Addr} {cur ys : List Value} {U : TypeId}
    (hg : w.heap[g]? = some (.cells cur.toArray U (0, 0))) (hy : Reads w a2 (min m dl) s ys) (hfit : o + ys.length ≤ cur.length) (h1 : ∀ v ∈ ys, v.oneCell' = true) :
    (Builtin.copy_ #[dT, sT] ty #[.slice (some ⟨g, o, none⟩) dl dc, .slice a2 m cap2]).run P w = .ok (goInt ((min m dl : Nat) : Int)) (w.setRow g (cur.take o ++ ys ++ cur.drop (o + ys.length)).toArray) := by
  have hf := run_first (P := P) (len := m) (cap := cap2) hy
  have hst := run_storeCells_at P g o U ys 0 cur.toArray w hg (by simp only [List.size_toArray]; omega) h1
  simp only [Nat.add_zero] at hst
  simp only [Builtin.copy_, List.getElem?_toArray, List.getElem?_cons_zero, List.getElem?_cons_succ, Sem.run_bind, tu.run, Result.andThen_ok, Builtin.lenOf, Sem.run_pure, ts.run, Nat.min_def] at hf hst ⊢
  simp only [hf, Result.andThen_ok, hst]
theorem run_append_zerosG {P : Program} {w : World} {t u ty E : TypeId} {ki : IntKind} {s by_ : Nat} {z : Value} [tu : TUnd P t (.slice E)] [tv : TUnd P u (.int ki)] [te : TElem P E s by_ z] {ad : Addr} {n cap m : Nat} {xs : List Value} (hx : Reads w (some ad) n s xs) (hs : 0 < s) (hm : 0 < m) (hc : n ≤ cap) (hg : cap < n + m)
    (hb : (n + m) * by_ ≤ 140737488355328) (h63 : n + m ≤ 9223372036854775807) :
    ∃ (nc : Nat) (zs : List Value), n + m ≤ nc ∧ zs.length = (nc - n) * z.cells.size ∧ (Builtin.append_ #[t, u] ty #[.slice (some ad) n cap, .int .i64 (m : Int)]).run P w = .ok (.slice (some ⟨w.heap.size, 0, none⟩) (n + m) nc) (w.drew.alloc (.cells (xs ++ zs).toArray E)) := by
  obtain ⟨i, hi, his, hib, hz⟩ := te.ex
  have hw : IntKind.i64.wrap (m : Int) = (m : Int) := i64_nat (by omega)
  have hbm : (m : Int) * (by_ : Int) ≤ 140737488355328 := by
    have h2 : m * by_ ≤ (n + m) * by_ := Nat.mul_le_mul_right _ (by omega)
    have h3 : ((m * by_ : Nat) : Int) ≤ 140737488355328 := by omega
    rwa [Int.natCast_mul] at h3
  have hf := growslice_fits hg hb
  have hnc : n + m ≤ grownCap w (n + m) cap E := by unfold grownCap Question.cut; exact Nat.le_add_right _ _
  refine ⟨grownCap w (n + m) cap E, (Builtin.zeroCells z.cells m ++ Builtin.zeroCells z.cells (grownCap w (n + m) cap E - (n + m))).toList, hnc, ?_, ?_⟩
  · simp [Builtin.zeroCells, ← Nat.add_mul]
    congr 1; omega
  have h0 : ¬ ((m : Int) < 0) := by omega
  have h3 : ¬ (n + m ≤ cap) := by omega
  have hfo : (Builtin.firstCells s n (.slice (some ad) n cap)).run P w.drew = .ok xs.toArray w.drew := run_first (P := P) (len := n) (cap := cap) (hx.drew rfl)
  have h6 : ¬ (m = 0) := by omega
  have h2' : ¬ (281474976710656 < (m : Int) * (by_ : Int)) := by omega
  have h4' : ¬ (9223372036854775807 < (n : Int) + (m : Int)) := by omega
  have h5' : ¬ (281474976710656 < Builtin.nextslicecap (n + m) cap * by_) := by omega
  simp [Builtin.append_, run_underlying tu.eq, run_underlying tv.eq, sizeOf, typeInfo, zeroValue, hi, hz, his, hib, asInt, asIntOf, hw, Builtin.lenOf, h0, h2', h3, h4', h5', Question.forced, hfo, newRow, grownCap]
  rw [if_neg (Nat.ne_of_gt (Nat.mul_pos hm hs))]
  congr 3
  apply Array.ext'
  simp
section
variable {X : Cx} {e : Env} {L L1 F : List Assn} {A : List Assn} {S : List Nat} {ops : Array Oper} {k : Nat} {l : List Oper} {R : Act → World → Prop} {G : Act → World → Prop}
variable {d : Nat} {T : TypeId} {pos : String} {af : Array Edge}
/-- a copy out of what can be read, elements of any size. -/
theorem r_copyG {dT sT elem : TypeId} {x y : Operand} {dst : Option Nat} {b o dl dc m cap2 s : Nat} {a2 : Option Addr} {cur : List Value} (cur' ys : List Value) {U : TypeId} {f : Obj → List Assn} [tu : TUnd X.P dT (.slice elem)] [ts : TSize X.P elem s]
    (hx : ev e x = some (.slice (some ⟨b, o, none⟩) dl dc)) (hy : ev e y = some (.slice a2 m cap2)) [g : Own b L (.cells cur.toArray U (0, 0)) f] (hrd : ∀ w, Holds X.Φ L w → Reads w a2 (min m dl) s ys) (hfit : o + ys.length ≤ cur.length) (h1 : ∀ v ∈ ys, v.oneCell' = true)
    (hc : cur.take o ++ ys ++ cur.drop (o + ys.length) = cur') [st : Stay A (f (.cells cur'.toArray U (0, 0)))]
    (h : J X (bnd dst (.int .i64 ((min m dl : Nat) : Int)) e) (f (.cells cur'.toArray U (0, 0))) (sw X.P (Holds X.Φ A) S ops R (k + 1) l)) (hs : S.contains k = false := by rfl) (hd : ∀ j, dst = some j → Nat.blt j X.n = true := by exact blt_any rfl) :
    J X e L (sw X.P (Holds X.Φ A) S ops R k (⟨dst, .call { callee := .builtin .copy, args := #[x, y], argTypes := #[dT, sT] }, T, pos, af, none⟩ :: l)) :=
  r_write (α := Unit) (q := fun _ => True) (V := fun _ => .int .i64 ((min m dl : Nat) : Int)) (M := fun _ => f (.cells cur'.toArray U (0, 0))) rfl (cls_write rfl hs rfl) hd (fun _ => st)
    (fun a w mt hh => by
      have hb : w.heap[b]? = some (.cells cur.toArray U (0, 0)) := by obtain ⟨im, hp, r, s⟩ := hh; exact r.hw _ _ (g.get _ _ s)
      have hrun := run_copyG (P := X.P) (dT := dT) (sT := sT) (ty := T) (dc := dc) (cap2 := cap2) hb (hrd w hh) hfit h1
      rw [hc] at hrun
      have h2 : (execOp a.eval (⟨dst, .call { callee := .builtin .copy, args := #[x, y], argTypes := #[dT, sT] }, T, pos, af, none⟩ : Oper)).run X.P w = .ok (.value (.int .i64 ((min m dl : Nat) : Int))) (w.setRow b cur'.toArray) := by
        simp only [execOp, resolve, invoke, builtin, Sem.run_bind, Sem.run_pure, Result.andThen_ok, List.map_toArray, List.map_cons, List.map_nil, mt.ev hx, mt.ev hy, pure_bind, hrun, goInt]
      rw [h2]
      refine ⟨(), trivial, rfl, hh.upd (b := b) (g := g) (o' := .cells cur'.toArray U (0, 0)) ?_ (fun c hc => ?_) rfl rfl rfl⟩
      · simp [World.setRow, Array.getElem?_modify, hb]
      · simp [World.setRow, Array.getElem?_modify, Ne.symm hc]) (fun _ _ => h)
/-- append of noughts beyond the room of a row that can be read. -/
theorem r_appendG {t u E : TypeId} {ki : IntKind} {x y : Operand} {s by_ : Nat} {z : Value} {ad : Addr} {n cap m : Nat} {xs : List Value} [tu : TUnd X.P t (.slice E)] [tv : TUnd X.P u (.int ki)] [te : TElem X.P E s by_ z]
    (hx : ev e x = some (.slice (some ad) n cap)) (hy : ev e y = some (.int .i64 (m : Int))) (hrd : ∀ w, Holds X.Φ L w → Reads w (some ad) n s xs) (hs : 0 < s) (hzc : z.cells.size = s) (hm : 0 < m) (hc : n ≤ cap) (hg : cap < n + m) (hb : (n + m) * by_ ≤ 140737488355328) (h63 : n + m ≤ 9223372036854775807)
    (hS : S.contains k = false) (hd : Nat.blt d X.n = true) [st : ∀ q : Nat × Nat × List Value, Stay A (pt q.1 (.cells (xs ++ q.2.2).toArray E (0, 0)) :: L)]
    (h : ∀ (b nc : Nat) (zs : List Value), n + m ≤ nc → zs.length = (nc - n) * s → J X ((d, .slice (some ⟨b, 0, none⟩) (n + m) nc) :: e) (pt b (.cells (xs ++ zs).toArray E (0, 0)) :: L) (sw X.P (Holds X.Φ A) S ops R (k + 1) l)) :
    J X e L (sw X.P (Holds X.Φ A) S ops R k (⟨some d, .call { callee := .builtin .append, args := #[x, y], argTypes := #[t, u] }, T, pos, af, none⟩ :: l)) :=
  r_write (α := Nat × Nat × List Value) (q := fun p => n + m ≤ p.2.1 ∧ p.2.2.length = (p.2.1 - n) * s) (V := fun p => .slice (some ⟨p.1, 0, none⟩) (n + m) p.2.1) (M := fun p => pt p.1 (.cells (xs ++ p.2.2).toArray E (0, 0)) :: L) rfl (cls_write rfl hS rfl) (blt_some hd) st
    (fun act w mt hh => by
      have hop : ∀ r, (Builtin.append_ #[t, u] T #[.slice (some ad) n cap, .int .i64 (m : Int)]).run X.P w = r → (execOp act.eval (⟨some d, .call { callee := .builtin .append, args := #[x, y], argTypes := #[t, u] }, T, pos, af, none⟩ : Oper)).run X.P w = r.andThen fun v w' => .ok (.value v) w' := fun r hr => by
        simp only [execOp, resolve, invoke, builtin, Sem.run_bind, Sem.run_pure, Result.andThen_ok, List.map_toArray, List.map_cons, List.map_nil, mt.ev hx, mt.ev hy, hr]
      obtain ⟨nc, zs, h1, h2, hr⟩ := run_append_zerosG (P := X.P) (w := w) (t := t) (u := u) (ty := T) (E := E) (hrd w hh) hs hm hc hg hb h63
      rw [hop _ hr]
      exact ⟨(w.heap.size, nc, zs), ⟨h1, by rw [h2, hzc]⟩, rfl, hh.alloc _ rfl rfl rfl rfl⟩)
    (fun p hp => h p.1 p.2.1 p.2.2 hp.1 hp.2)
/-- a row of one's own, opened: its block. -/
theorem Ent.openV {a : Option Addr} {n cap s : Nat} {E : TypeId} {xs : List Value} (h0 : 0 < n) (L : List Assn) :
    Ent (vec a n cap E s xs :: L) (box (fun q : Nat × List Value × List Value => a = some ⟨q.1, q.2.1.length, none⟩ ∧ q.2.2.length = (cap - n) * s ∧ xs.length = n * s ∧ n ≤ cap) (fun q => [pt q.1 (.cells (q.2.1 ++ xs ++ q.2.2).toArray E (0, 0))]) :: L) := by
  rintro im h ⟨p1, p2, pa, pb, pc, ⟨hl, hc, hd⟩, st⟩
  rcases hd with ⟨_, h1, _⟩ | ⟨b, off, pre, post, ha, hp, hq, hb⟩
  · omega
  · have hs := Ent.shut (L := L) (B := fun q : Nat × List Value × List Value => [pt q.1 (.cells (q.2.1 ++ xs ++ q.2.2).toArray E (0, 0))]) (Q := fun q => a = some ⟨q.1, q.2.1.length, none⟩ ∧ q.2.2.length = (cap - n) * s ∧ xs.length = n * s ∧ n ≤ cap) (b, pre, post) ⟨by rw [ha, hp], hq, hl, hc⟩
    exact hs im h ⟨p1, p2, pa, pb, pc, hb, st⟩
end
end Go.Proofs.YtcnpkmdooekmgaaGreatDoor
namespace Go.Proofs.YtcnpkmdooekmgaaGreatDoor
open Go Sl
theorem Ent.mkV {b n nc s : Nat} {E : TypeId} {xs post : List Value} (h1 : xs.length = n * s) (h2 : n ≤ nc) (h3 : post.length = (nc - n) * s) (L : List Assn) : Ent (pt b (.cells (xs ++ post).toArray E (0, 0)) :: L) (vec (some ⟨b, 0, none⟩) n nc E s xs :: L) := by
  rintro im h ⟨p1, p2, pa, pb, pc, hp, st⟩
  exact ⟨p1, p2, pa, pb, pc, ⟨h1, h2, .inr ⟨b, 0, [], post, rfl, rfl, h3, hp⟩⟩, st⟩
/-- a function that has no body: do two rows overlap? -/
class TOver (P : Program) (f : FuncId) (tS tR : outParam TypeId) : Prop where
  run : ∀ args w, (callFunc f args).run P w = ((Extern.SlicesOverlaps.overlaps #[tS, tS] #[tR] args).run P w).andThen fun v w' => .ok (.value v) w'
instance : TOver Tryz.prog F.slices_overlaps_uint64 T.sl_uint64 T.bool := ⟨fun args w => run_callFunc_extern (f := F.slices_overlaps_uint64) (P := Tryz.prog) Tryz.func184 (by kernel_rfl) (by kernel_rfl) (by kernel_rfl) (e := Extern.SlicesOverlaps.overlaps #[T.sl_uint64, T.sl_uint64] #[T.bool]) (by kernel_rfl) args w⟩
instance : TOver Tryz.prog F.slices_overlaps_44_byte T.sl_a44_uint8 T.bool := ⟨fun args w => run_callFunc_extern (f := F.slices_overlaps_44_byte) (P := Tryz.prog) Tryz.func186 (by kernel_rfl) (by kernel_rfl) (by kernel_rfl) (e := Extern.SlicesOverlaps.overlaps #[T.sl_a44_uint8, T.sl_a44_uint8] #[T.bool]) (by kernel_rfl) args w⟩
theorem two_pts {Φ : Base} {L : List Assn} {w : World} {b c : Nat} {o p : Obj} (h : Holds Φ (pt b o :: pt c p :: L) w) : b ≠ c ∧ w.heap[b]? = some o ∧ w.heap[c]? = some p := by
  obtain ⟨im, hp, r, h1, h2, e1, e2, e3, hb, k1, k2, f1, f2, f3, hc, _⟩ := h
  refine ⟨fun e => ?_, r.hw _ _ (e1 _ _ hb), r.hw _ _ (e2 _ _ (f1 _ _ hc))⟩
  subst e
  rcases e3 b with h | h
  · rw [show h1 b = some o from hb] at h; cases h
  · rw [f1 _ _ hc] at h; cases h
theorem r_over {X : Cx} {e : Env} {L A : List Assn} {S : List Nat} {ops : Array Oper} {k : Nat} {l : List Oper} {R : Act → World → Prop} {d : Nat} {T : TypeId} {pos : String} {af : Array Edge} {f : FuncId} {tS tR E : TypeId} {s : Nat} {x y : Operand} {ts : Array TypeId} {b o la ca c p lb cb : Nat} {c1 c2 : List Value} {U V : TypeId}
    [ov : TOver X.P f tS tR] [tu : TUnd X.P tS (.slice E)] [te : TSize X.P E s] (hx : ev e x = some (.slice (some ⟨b, o, none⟩) la ca)) (hy : ev e y = some (.slice (some ⟨c, p, none⟩) lb cb)) (hn : c2 ≠ []) [st : Stay A (pt b (.cells c1.toArray U (0, 0)) :: pt c (.cells c2.toArray V (0, 0)) :: L)] 
    (h : J X ((d, .bool false) :: e) (pt b (.cells c1.toArray U (0, 0)) :: pt c (.cells c2.toArray V (0, 0)) :: L) (sw X.P (Holds X.Φ A) S ops R (k + 1) l)) (hs : S.contains k = false := by rfl) (hd : Nat.blt d X.n = true := by rfl) :
    J X e (pt b (.cells c1.toArray U (0, 0)) :: pt c (.cells c2.toArray V (0, 0)) :: L) (sw X.P (Holds X.Φ A) S ops R k (⟨some d, .call { callee := .value (.func f), args := #[x, y], argTypes := ts }, T, pos, af, none⟩ :: l)) :=
  r_write (α := Unit) (q := fun _ => True) (V := fun _ => .bool false) (M := fun _ => pt b (.cells c1.toArray U (0, 0)) :: pt c (.cells c2.toArray V (0, 0)) :: L) rfl (cls_write rfl hs rfl) (blt_some hd) (fun _ => st)
    (fun a w m hh => by
      obtain ⟨hne, hb, hc⟩ := two_pts hh
      have h1 := Lib.run_overlaps_apart (P := X.P) w tS tR E tu.eq s te.run ⟨b, o, none⟩ ⟨c, p, none⟩ la ca lb cb hne U V c1.length c2.length (by simp [World.shape?, hb]) (by simp [World.shape?, hc]) (by simpa using hn) (by simp [World.frozen?, hb]) (by simp [World.frozen?, hb])
      have h2 : (execOp a.eval (⟨some d, .call { callee := .value (.func f), args := #[x, y], argTypes := ts }, T, pos, af, none⟩ : Oper)).run X.P w = .ok (.value (.bool false)) w := by
        have h3 : a.eval (.func f) = .func (.func f) #[] #[] := rfl
        simp only [execOp, resolve, h3, List.map_toArray, List.map_cons, List.map_nil, m.ev hx, m.ev hy]
        simp [Deferred.ofValue, invoke, ov.run, h1, go_sem]
      rw [h2]
      exact ⟨(), trivial, rfl, hh⟩) (fun _ _ => h)
theorem mid_take {α : Type} {pre xs post : List α} {off k : Nat} (h : pre.length = off) (hk : k ≤ xs.length) : (pre ++ xs ++ post).take (off + k) = pre ++ xs.take k := by
  subst h
  rw [List.append_assoc, List.take_length_add_append, List.take_append_of_le_length hk]
theorem mid_drop {α : Type} {pre xs post : List α} {off k m : Nat} (h : pre.length = off) (hk : k = xs.length + m) : (pre ++ xs ++ post).drop (off + k) = post.drop m := by
  subst h; subst hk
  rw [List.append_assoc, List.drop_length_add_append, List.drop_length_add_append]
attribute [local irreducible] cw sw J Exit.then Exit.inBlock Exit.noGoto bodyPost swG swL permL
set_option maxHeartbeats 2000000 in
theorem insertK_c (a : Option Addr) (n cap i c1 : Nat) (a1 : Addr) (xs ys : List Value) (h1 : ∀ v ∈ xs, v.oneCell' = true) (h2 : ∀ v ∈ ys, v.oneCell' = true) (hi : i ≤ n) (hn : n ≤ 1000) (hl : xs.length = n * 1) (hc : n ≤ cap) (hy : ys.length = 1) (Φ : Base) :
    Sl.Fn Tryz.prog Φ F.slices_Insert_uint64_uint64 [.slice a n cap, i64 i, .slice (some a1) 1 c1] [vec a n cap T.uint64 1 xs, vec (some a1) 1 c1 T.uint64 1 ys] (fun _ : Option Addr × Nat => True) (fun p => .slice p.1 (n + 1) p.2) (fun p => [vec p.1 (n + 1) p.2 T.uint64 1 (xs.take (i * 1) ++ ys ++ xs.drop (i * 1))]) := by
  refine fo fun F => ?_
  repeat refine s1 ?_
  refine r_piece (s := 1) i n cap rfl (.inr ⟨_, rfl⟩) (.inl ⟨rfl, rfl, rfl⟩) (.inl ⟨rfl, rfl⟩) hi hc (Nat.le_refl _) rfl ?_
  repeat' (first | refine r_nil ?_ | (refine k_move ?_; refine r_move rfl rfl ?_) | (refine k_assign ?_; refine r_assign rfl rfl ?_) | (refine k_nck ?_; first | refine r_nck rfl rfl ?_ | refine r_nckf rfl rfl ?_) | (refine k_fld ?_; first | refine r_fld0 rfl rfl ?_ | refine r_fld rfl rfl ?_) | (refine k_load ?_; first | refine r_load1L rfl rfl rfl ?_ | refine s_load1L rfl rfl rfl ?_ | refine r_load1 rfl rfl rfl rfl ?_ | refine r_loadW rfl rfl rfl rfl ?_ | refine s_loadW rfl rfl rfl rfl ?_) | (refine k_ext ?_; first | refine r_extL rfl rfl ?_ | refine r_ext rfl rfl rfl ?_) | (refine k_len ?_; refine r_lenS rfl rfl ?_) | (refine k_un ?_; first | refine r_notT rfl (by with_reducible rfl) rfl ?_ | refine r_notF rfl (by with_reducible rfl) rfl ?_ | refine r_not rfl rfl ?_) | (refine k_sl0 ?_; refine r_sliceA rfl (by decide) rfl ?_) | (refine k_conv ?_; refine r_conv rfl rfl ?_) | (refine k_pick ?_; first | refine r_pickT rfl (by with_reducible rfl) rfl rfl ?_ | refine r_pickF rfl (by with_reducible rfl) rfl rfl ?_) | (refine k_inc ?_; refine r_inc rfl (by omega) rfl ?_) | (refine k_bin ?_; first | refine r_icmpT rfl rfl rfl rfl ?_ | refine r_icmpF rfl rfl rfl rfl ?_ | refine r_icmp rfl rfl rfl rfl ?_) | (refine k_eql ?_; first | refine r_peqS rfl rfl rfl ?_ | refine r_peqN rfl rfl rfl ?_ | refine r_meqS rfl rfl rfl ?_ | refine r_meqN rfl rfl rfl ?_ | refine r_peq rfl rfl rfl ?_) | (refine k_neq ?_; first | refine r_pneS rfl rfl rfl ?_ | refine r_pneN rfl rfl rfl ?_ | refine r_mneS rfl rfl rfl ?_ | refine r_mneN rfl rfl rfl ?_ | refine r_pne rfl rfl rfl ?_) | (refine g_mark ?_; first | refine gg_pass rfl rfl (by with_reducible rfl) ?_ | refine gg_skipT rfl rfl (by with_reducible rfl) (blt_any rfl) ?_ | refine gg_skipF rfl rfl (by with_reducible rfl) (blt_any rfl) ?_ | refine gg_skipU rfl rfl (by with_reducible rfl) (blt_any rfl) ?_ | refine gg_splitD rfl rfl (fun _ => ?_) (fun _ => ?_) | refine gg_splitN rfl rfl (fun _ => ?_) (fun _ => ?_) | refine gg_split rfl rfl (fun _ => ?_) (fun _ => ?_)) | refine t_seq ?_ | refine t_perm rfl ?_ | refine t_permE ?_ | refine j_then ?_ | refine t_region ?_ | refine t_draw [] [] mixed (by decide +kernel) ?_ | (refine k_cond ?_; first | refine t_condT rfl (by with_reducible rfl) ?_ | refine t_condF rfl (by with_reducible rfl) ?_ | refine t_condS rfl (fun _ => ?_) (fun _ => ?_) | refine t_condSN rfl (fun _ => ?_) (fun _ => ?_) | refine t_condSB rfl (fun _ => ?_) (fun _ => ?_)) | refine t_block ?_ | refine j_in ?_ | refine t_skip ?_ | refine t_ret ?_ | refine j_then_ret ?_ | refine j_in_ret ?_ | refine t_exit ?_ | refine j_then_exit ?_ | refine j_in_exit ?_ | refine j_in_other rfl ?_ | refine t_scope ?_ | refine t_label ?_ | refine j_ng ?_ | refine j_ng_ret ?_ | refine j_ng_exit ?_)
  next he =>
    have he2 : i = n := by omega
    subst he2
    have hx : xs.take (i * 1) ++ ys ++ xs.drop (i * 1) = xs ++ ys := by rw [List.take_of_length_le (by omega), List.drop_eq_nil_of_le (by omega), List.append_nil]
    rw [hx]
    refine r_append (n := i) (m := 1) (s := 1) (xs := xs) (ys := ys) rfl rfl (by decide) (by rfl) h2 (by omega) (by omega) rfl rfl (fun a' cap' hn => ?_)
    repeat refine s1 ?_
    exact f1 (a', cap')
  next hne =>
    have hlt : i < n := by omega
    refine r_addN (m := n) (n := 1) rfl rfl (by omega) rfl ?_
    repeat refine s1 ?_
    refine r_capS rfl rfl ?_
    repeat' (first | refine r_nil ?_ | (refine k_move ?_; refine r_move rfl rfl ?_) | (refine k_assign ?_; refine r_assign rfl rfl ?_) | (refine k_nck ?_; first | refine r_nck rfl rfl ?_ | refine r_nckf rfl rfl ?_) | (refine k_fld ?_; first | refine r_fld0 rfl rfl ?_ | refine r_fld rfl rfl ?_) | (refine k_load ?_; first | refine r_load1L rfl rfl rfl ?_ | refine s_load1L rfl rfl rfl ?_ | refine r_load1 rfl rfl rfl rfl ?_ | refine r_loadW rfl rfl rfl rfl ?_ | refine s_loadW rfl rfl rfl rfl ?_) | (refine k_ext ?_; first | refine r_extL rfl rfl ?_ | refine r_ext rfl rfl rfl ?_) | (refine k_len ?_; refine r_lenS rfl rfl ?_) | (refine k_un ?_; first | refine r_notT rfl (by with_reducible rfl) rfl ?_ | refine r_notF rfl (by with_reducible rfl) rfl ?_ | refine r_not rfl rfl ?_) | (refine k_sl0 ?_; refine r_sliceA rfl (by decide) rfl ?_) | (refine k_conv ?_; refine r_conv rfl rfl ?_) | (refine k_pick ?_; first | refine r_pickT rfl (by with_reducible rfl) rfl rfl ?_ | refine r_pickF rfl (by with_reducible rfl) rfl rfl ?_) | (refine k_inc ?_; refine r_inc rfl (by omega) rfl ?_) | (refine k_bin ?_; first | refine r_icmpT rfl rfl rfl rfl ?_ | refine r_icmpF rfl rfl rfl rfl ?_ | refine r_icmp rfl rfl rfl rfl ?_) | (refine k_eql ?_; first | refine r_peqS rfl rfl rfl ?_ | refine r_peqN rfl rfl rfl ?_ | refine r_meqS rfl rfl rfl ?_ | refine r_meqN rfl rfl rfl ?_ | refine r_peq rfl rfl rfl ?_) | (refine k_neq ?_; first | refine r_pneS rfl rfl rfl ?_ | refine r_pneN rfl rfl rfl ?_ | refine r_mneS rfl rfl rfl ?_ | refine r_mneN rfl rfl rfl ?_ | refine r_pne rfl rfl rfl ?_) | (refine g_mark ?_; first | refine gg_pass rfl rfl (by with_reducible rfl) ?_ | refine gg_skipT rfl rfl (by with_reducible rfl) (blt_any rfl) ?_ | refine gg_skipF rfl rfl (by with_reducible rfl) (blt_any rfl) ?_ | refine gg_skipU rfl rfl (by with_reducible rfl) (blt_any rfl) ?_ | refine gg_splitD rfl rfl (fun _ => ?_) (fun _ => ?_) | refine gg_splitN rfl rfl (fun _ => ?_) (fun _ => ?_) | refine gg_split rfl rfl (fun _ => ?_) (fun _ => ?_)) | refine t_seq ?_ | refine t_perm rfl ?_ | refine t_permE ?_ | refine j_then ?_ | refine t_region ?_ | refine t_draw [] [] mixed (by decide +kernel) ?_ | (refine k_cond ?_; first | refine t_condT rfl (by with_reducible rfl) ?_ | refine t_condF rfl (by with_reducible rfl) ?_ | refine t_condS rfl (fun _ => ?_) (fun _ => ?_) | refine t_condSN rfl (fun _ => ?_) (fun _ => ?_) | refine t_condSB rfl (fun _ => ?_) (fun _ => ?_)) | refine t_block ?_ | refine j_in ?_ | refine t_skip ?_ | refine t_ret ?_ | refine j_then_ret ?_ | refine j_in_ret ?_ | refine t_exit ?_ | refine j_then_exit ?_ | refine j_in_exit ?_ | refine j_in_other rfl ?_ | refine t_scope ?_ | refine t_label ?_ | refine j_ng ?_ | refine j_ng_ret ?_ | refine j_ng_exit ?_)
    next hg =>
      have hcn : cap = n := by omega
      subst hcn
      refine j_vec (.inl (by omega)) (fun b off pre post ha hp hq hl' hc' => ?_)
      subst ha
      refine r_piece (s := 1) 0 i cap rfl (.inl ⟨rfl, rfl⟩) (.inr ⟨_, rfl⟩) (.inl ⟨rfl, rfl⟩) (Nat.zero_le _) hi (Nat.le_refl _) rfl ?_
      rw [if_neg (show ¬ cap = 0 by omega), Option.map_some, add_at, Nat.zero_mul, Nat.add_zero, Nat.sub_zero, Nat.sub_zero]
      repeat refine s1 ?_
      refine r_addN (m := cap) (n := 1) rfl rfl (by omega) rfl ?_
      repeat refine s1 ?_
      refine r_subN (m := cap + 1) (n := i) rfl rfl (by omega) (by omega) rfl ?_
      refine r_appendG (n := i) (m := cap + 1 - i) (s := 1) (xs := xs.take (i * 1)) rfl rfl (fun w hh => ?_) (by decide) (by rfl) (by omega) hi (by omega) (by omega) (by omega) rfl rfl (fun b2 nc zs hnc hzs => ?_)
      · have hb : w.heap[b]? = some (.cells (pre ++ xs ++ post).toArray T.uint64 (0, 0)) := hh.rd
        refine reads_of (by rw [List.length_take]; omega) hb (fun j v hj => Sl.get_mid hp ?_)
        rw [List.getElem?_take] at hj
        split at hj
        · exact hj
        · cases hj
      rw [show i + (cap + 1 - i) = cap + 1 by omega]
      repeat refine s1 ?_
      refine r_piece (s := 1) i (cap + 1) nc rfl (.inr ⟨_, rfl⟩) (.inl ⟨rfl, rfl, rfl⟩) (.inl ⟨rfl, rfl⟩) (by omega) (by omega) (Nat.le_refl _) rfl ?_
      rw [if_neg (show ¬ nc = i by omega), Option.map_some, add_at, Nat.zero_add]
      repeat refine s1 ?_
      have ht : (xs.take (i * 1)).length = i * 1 := by rw [List.length_take]; omega
      refine r_copyG (s := 1) (xs.take (i * 1) ++ ys ++ zs.drop 1) ys rfl rfl (fun w hh => ?_) (by rw [List.length_append, ht, hy, hzs]; omega) h2 ?_ ?_
      · rw [show min 1 (cap + 1 - i) = 1 by omega]
        obtain ⟨im, hp, r, st⟩ := hh
        exact RdS.get im hp w r.imw r.hw st
      · rw [List.take_left' ht, hy, List.drop_append, List.drop_eq_nil_of_le (by omega), ht, Nat.add_sub_cancel_left, List.nil_append]
      repeat refine s1 ?_
      refine r_addN (m := i) (n := 1) rfl rfl (by omega) rfl ?_
      refine r_piece (s := 1) (i + 1) (cap + 1) nc rfl (.inr ⟨_, rfl⟩) (.inl ⟨rfl, rfl, rfl⟩) (.inl ⟨rfl, rfl⟩) (by omega) (by omega) (Nat.le_refl _) rfl ?_
      rw [if_neg (show ¬ nc = i + 1 by omega), Option.map_some, add_at, Nat.zero_add]
      repeat refine s1 ?_
      refine r_piece (s := 1) i cap cap rfl (.inr ⟨_, rfl⟩) (.inl ⟨rfl, rfl, rfl⟩) (.inl ⟨rfl, rfl⟩) (by omega) (by omega) (Nat.le_refl _) rfl ?_
      rw [if_neg (show ¬ cap = i by omega), Option.map_some, add_at]
      have hd2 : (xs.drop (i * 1)).length = (cap - i) * 1 := by rw [List.length_drop]; omega
      have ht2 : (xs.take (i * 1) ++ ys).length = (i + 1) * 1 := by rw [List.length_append, ht, hy]; omega
      refine r_copyG (s := 1) (xs.take (i * 1) ++ ys ++ xs.drop (i * 1) ++ (zs.drop 1).drop ((cap - i) * 1)) (xs.drop (i * 1)) rfl rfl (fun w hh => ?_) (by rw [List.length_append, ht2, hd2, List.length_drop, hzs]; omega) (fun v hv => h1 v (List.mem_of_mem_drop hv)) ?_ ?_
      · rw [show min (cap - i) (cap + 1 - (i + 1)) = cap - i by omega]
        have hb : w.heap[b]? = some (.cells (pre ++ xs ++ post).toArray T.uint64 (0, 0)) := hh.rd
        refine reads_of hd2 hb (fun j v hj => ?_)
        rw [Nat.add_assoc]
        rw [List.getElem?_drop] at hj
        exact Sl.get_mid hp hj
      · have hz : (xs.take (i * 1) ++ ys).drop ((xs.take (i * 1) ++ ys).length + (cap - i) * 1) = [] := List.drop_eq_nil_of_le (by omega)
        rw [List.take_left' ht2, hd2, ← ht2, List.drop_append, hz, Nat.add_sub_cancel_left, List.nil_append]
      repeat refine s1 ?_
      refine j_ent (Ent.mkV (n := cap + 1) (nc := nc) (s := 1) (by rw [List.length_append, ht2, hd2]; omega) (by omega) (by rw [List.length_drop, List.length_drop, hzs]; omega) _) ?_
      exact f1 (some ⟨b2, 0, none⟩, nc)
    next hg =>
      have hg' : n + 1 ≤ cap := by omega
      refine j_vec (.inl (by omega)) (fun b off pre post ha hp hq hl' hc' => ?_)
      subst ha
      repeat refine s1 ?_
      refine r_addN (m := n) (n := 1) rfl rfl (by omega) rfl ?_
      refine r_piece (s := 1) 0 (n + 1) cap rfl (.inl ⟨rfl, rfl⟩) (.inr ⟨_, rfl⟩) (.inl ⟨rfl, rfl⟩) (Nat.zero_le _) hg' (Nat.le_refl _) rfl ?_
      rw [if_neg (show ¬ cap = 0 by omega), Option.map_some, add_at, Nat.zero_mul, Nat.add_zero, Nat.sub_zero, Nat.sub_zero]
      repeat refine s1 ?_
      refine r_addN (m := i) (n := 1) rfl rfl (by omega) rfl ?_
      refine r_piece (s := 1) (i + 1) (n + 1) cap rfl (.inr ⟨_, rfl⟩) (.inl ⟨rfl, rfl, rfl⟩) (.inl ⟨rfl, rfl⟩) (by omega) (by omega) (Nat.le_refl _) rfl ?_
      rw [if_neg (show ¬ cap = i + 1 by omega), Option.map_some, add_at]
      refine j_head (vec (some a1) 1 c1 T.uint64 1 ys) (j_vec (.inl (by omega)) (fun b1 off1 pre1 post1 ha1 hp1 hq1 _ hc1 => ?_))
      cases ha1
      refine r_over rfl rfl (by intro h; have := congrArg List.length h; rw [List.length_append, List.length_append, List.length_nil] at this; omega) ?_
      repeat refine s1 ?_
      refine r_addN (m := i) (n := 1) rfl rfl (by omega) rfl ?_
      refine r_piece (s := 1) (i + 1) (n + 1) cap rfl (.inr ⟨_, rfl⟩) (.inl ⟨rfl, rfl, rfl⟩) (.inl ⟨rfl, rfl⟩) (by omega) (by omega) (Nat.le_refl _) rfl ?_
      rw [if_neg (show ¬ cap = i + 1 by omega), Option.map_some, add_at]
      repeat refine s1 ?_
      refine r_piece (s := 1) i (n + 1) cap rfl (.inr ⟨_, rfl⟩) (.inl ⟨rfl, rfl, rfl⟩) (.inl ⟨rfl, rfl⟩) (by omega) (by omega) (Nat.le_refl _) rfl ?_
      rw [if_neg (show ¬ cap = i by omega), Option.map_some, add_at]
      have hd2 : (xs.drop (i * 1)).length = (n - i) * 1 := by rw [List.length_drop]; omega
      have ht2 : (xs.take ((i + 1) * 1)).length = (i + 1) * 1 := by rw [List.length_take]; omega
      have ht1 : (xs.take (i * 1)).length = i * 1 := by rw [List.length_take]; omega
      have hpost : 1 ≤ post.length := by rw [hq]; omega
      refine r_copyG (s := 1) (pre ++ (xs.take ((i + 1) * 1) ++ xs.drop (i * 1)) ++ post.drop 1) (xs.drop (i * 1)) rfl rfl (fun w hh => ?_) (by rw [List.length_append, List.length_append, hd2]; omega) (fun v hv => h1 v (List.mem_of_mem_drop hv)) ?_ ?_
      · rw [show min (n + 1 - i) (n + 1 - (i + 1)) = n - i by omega]
        have hb : w.heap[b]? = some (.cells (pre ++ xs ++ post).toArray T.uint64 (0, 0)) := hh.rd
        refine reads_of hd2 hb (fun j v hj => ?_)
        rw [Nat.add_assoc]
        rw [List.getElem?_drop] at hj
        exact Sl.get_mid hp hj
      · rw [mid_take hp (by omega), hd2, Nat.add_assoc, mid_drop (m := 1) hp (by omega)]
        simp
      repeat refine s1 ?_
      refine r_piece (s := 1) i (n + 1) cap rfl (.inr ⟨_, rfl⟩) (.inl ⟨rfl, rfl, rfl⟩) (.inl ⟨rfl, rfl⟩) (by omega) (by omega) (Nat.le_refl _) rfl ?_
      rw [if_neg (show ¬ cap = i by omega), Option.map_some, add_at]
      repeat refine s1 ?_
      refine r_copyG (s := 1) (pre ++ (xs.take (i * 1) ++ ys ++ xs.drop (i * 1)) ++ post.drop 1) ys rfl rfl (fun w hh => ?_) (by rw [List.length_append, List.length_append, List.length_append, hd2, ht2]; omega) h2 ?_ ?_
      · rw [show min 1 (n + 1 - i) = 1 by omega]
        have hb : w.heap[b1]? = some (.cells (pre1 ++ ys ++ post1).toArray T.uint64 (0, 0)) := hh.rd
        exact reads_of (by omega) hb (fun j v hj => Sl.get_mid hp1 hj)
      · have e1 : xs.take ((i + 1) * 1) ++ xs.drop (i * 1) = xs.take (i * 1) ++ ((xs.drop (i * 1)).take 1 ++ xs.drop (i * 1)) := by
          rw [← List.append_assoc, show (i + 1) * 1 = i * 1 + 1 by omega, List.take_add]
        have e2 : ((xs.drop (i * 1)).take 1).length = ys.length := by rw [List.length_take, hd2, hy]; omega
        rw [mid_take hp (by rw [List.length_append, ht2]; omega), List.take_append_of_le_length (by omega), List.take_take, show min (i * 1) ((i + 1) * 1) = i * 1 by omega, e1]
        have e3 : pre ++ (xs.take (i * 1) ++ ((xs.drop (i * 1)).take 1 ++ xs.drop (i * 1))) ++ post.drop 1 = (pre ++ (xs.take (i * 1) ++ (xs.drop (i * 1)).take 1)) ++ (xs.drop (i * 1) ++ post.drop 1) := by simp
        rw [e3, List.drop_left' (by rw [List.length_append, List.length_append, ht1, e2]; omega)]
        simp
      repeat refine s1 ?_
      refine jh [pt b (.cells (pre ++ (xs.take (i * 1) ++ ys ++ xs.drop (i * 1)) ++ post.drop 1).toArray T.uint64 (0, 0))] ?_
      refine j_ent (Ent.vec (n := n + 1) (cap := cap) (s := 1) (by rw [List.length_append, List.length_append, ht1, hd2]; omega) hg' hp (by rw [List.length_drop]; omega) _) ?_
      exact f1 (some ⟨b, off, none⟩, cap)
set_option maxHeartbeats 2000000 in
theorem insertV_c (a : Option Addr) (n cap i c1 : Nat) (a1 : Addr) (xs ys : List Value) (h1 : ∀ v ∈ xs, v.oneCell' = true) (h2 : ∀ v ∈ ys, v.oneCell' = true) (hi : i ≤ n) (hn : n ≤ 1000) (hl : xs.length = n * 44) (hc : n ≤ cap) (hy : ys.length = 44) (Φ : Base) :
    Sl.Fn Tryz.prog Φ F.slices_Insert_44_byte_44_byte [.slice a n cap, i64 i, .slice (some a1) 1 c1] [vec a n cap T.a44_uint8 44 xs, vec (some a1) 1 c1 T.a44_uint8 44 ys] (fun _ : Option Addr × Nat => True) (fun p => .slice p.1 (n + 1) p.2) (fun p => [vec p.1 (n + 1) p.2 T.a44_uint8 44 (xs.take (i * 44) ++ ys ++ xs.drop (i * 44))]) := by
  refine fo fun F => ?_
  repeat refine s1 ?_
  refine r_piece (s := 44) i n cap rfl (.inr ⟨_, rfl⟩) (.inl ⟨rfl, rfl, rfl⟩) (.inl ⟨rfl, rfl⟩) hi hc (Nat.le_refl _) rfl ?_
  repeat' (first | refine r_nil ?_ | (refine k_move ?_; refine r_move rfl rfl ?_) | (refine k_assign ?_; refine r_assign rfl rfl ?_) | (refine k_nck ?_; first | refine r_nck rfl rfl ?_ | refine r_nckf rfl rfl ?_) | (refine k_fld ?_; first | refine r_fld0 rfl rfl ?_ | refine r_fld rfl rfl ?_) | (refine k_load ?_; first | refine r_load1L rfl rfl rfl ?_ | refine s_load1L rfl rfl rfl ?_ | refine r_load1 rfl rfl rfl rfl ?_ | refine r_loadW rfl rfl rfl rfl ?_ | refine s_loadW rfl rfl rfl rfl ?_) | (refine k_ext ?_; first | refine r_extL rfl rfl ?_ | refine r_ext rfl rfl rfl ?_) | (refine k_len ?_; refine r_lenS rfl rfl ?_) | (refine k_un ?_; first | refine r_notT rfl (by with_reducible rfl) rfl ?_ | refine r_notF rfl (by with_reducible rfl) rfl ?_ | refine r_not rfl rfl ?_) | (refine k_sl0 ?_; refine r_sliceA rfl (by decide) rfl ?_) | (refine k_conv ?_; refine r_conv rfl rfl ?_) | (refine k_pick ?_; first | refine r_pickT rfl (by with_reducible rfl) rfl rfl ?_ | refine r_pickF rfl (by with_reducible rfl) rfl rfl ?_) | (refine k_inc ?_; refine r_inc rfl (by omega) rfl ?_) | (refine k_bin ?_; first | refine r_icmpT rfl rfl rfl rfl ?_ | refine r_icmpF rfl rfl rfl rfl ?_ | refine r_icmp rfl rfl rfl rfl ?_) | (refine k_eql ?_; first | refine r_peqS rfl rfl rfl ?_ | refine r_peqN rfl rfl rfl ?_ | refine r_meqS rfl rfl rfl ?_ | refine r_meqN rfl rfl rfl ?_ | refine r_peq rfl rfl rfl ?_) | (refine k_neq ?_; first | refine r_pneS rfl rfl rfl ?_ | refine r_pneN rfl rfl rfl ?_ | refine r_mneS rfl rfl rfl ?_ | refine r_mneN rfl rfl rfl ?_ | refine r_pne rfl rfl rfl ?_) | (refine g_mark ?_; first | refine gg_pass rfl rfl (by with_reducible rfl) ?_ | refine gg_skipT rfl rfl (by with_reducible rfl) (blt_any rfl) ?_ | refine gg_skipF rfl rfl (by with_reducible rfl) (blt_any rfl) ?_ | refine gg_skipU rfl rfl (by with_reducible rfl) (blt_any rfl) ?_ | refine gg_splitD rfl rfl (fun _ => ?_) (fun _ => ?_) | refine gg_splitN rfl rfl (fun _ => ?_) (fun _ => ?_) | refine gg_split rfl rfl (fun _ => ?_) (fun _ => ?_)) | refine t_seq ?_ | refine t_perm rfl ?_ | refine t_permE ?_ | refine j_then ?_ | refine t_region ?_ | refine t_draw [] [] mixed (by decide +kernel) ?_ | (refine k_cond ?_; first | refine t_condT rfl (by with_reducible rfl) ?_ | refine t_condF rfl (by with_reducible rfl) ?_ | refine t_condS rfl (fun _ => ?_) (fun _ => ?_) | refine t_condSN rfl (fun _ => ?_) (fun _ => ?_) | refine t_condSB rfl (fun _ => ?_) (fun _ => ?_)) | refine t_block ?_ | refine j_in ?_ | refine t_skip ?_ | refine t_ret ?_ | refine j_then_ret ?_ | refine j_in_ret ?_ | refine t_exit ?_ | refine j_then_exit ?_ | refine j_in_exit ?_ | refine j_in_other rfl ?_ | refine t_scope ?_ | refine t_label ?_ | refine j_ng ?_ | refine j_ng_ret ?_ | refine j_ng_exit ?_)
  next he =>
    have he2 : i = n := by omega
    subst he2
    have hx : xs.take (i * 44) ++ ys ++ xs.drop (i * 44) = xs ++ ys := by rw [List.take_of_length_le (by omega), List.drop_eq_nil_of_le (by omega), List.append_nil]
    rw [hx]
    refine r_append (n := i) (m := 1) (s := 44) (xs := xs) (ys := ys) rfl rfl (by decide) (by rfl) h2 (by omega) (by omega) rfl rfl (fun a' cap' hn => ?_)
    repeat refine s1 ?_
    exact f1 (a', cap')
  next hne =>
    have hlt : i < n := by omega
    refine r_addN (m := n) (n := 1) rfl rfl (by omega) rfl ?_
    repeat refine s1 ?_
    refine r_capS rfl rfl ?_
    repeat' (first | refine r_nil ?_ | (refine k_move ?_; refine r_move rfl rfl ?_) | (refine k_assign ?_; refine r_assign rfl rfl ?_) | (refine k_nck ?_; first | refine r_nck rfl rfl ?_ | refine r_nckf rfl rfl ?_) | (refine k_fld ?_; first | refine r_fld0 rfl rfl ?_ | refine r_fld rfl rfl ?_) | (refine k_load ?_; first | refine r_load1L rfl rfl rfl ?_ | refine s_load1L rfl rfl rfl ?_ | refine r_load1 rfl rfl rfl rfl ?_ | refine r_loadW rfl rfl rfl rfl ?_ | refine s_loadW rfl rfl rfl rfl ?_) | (refine k_ext ?_; first | refine r_extL rfl rfl ?_ | refine r_ext rfl rfl rfl ?_) | (refine k_len ?_; refine r_lenS rfl rfl ?_) | (refine k_un ?_; first | refine r_notT rfl (by with_reducible rfl) rfl ?_ | refine r_notF rfl (by with_reducible rfl) rfl ?_ | refine r_not rfl rfl ?_) | (refine k_sl0 ?_; refine r_sliceA rfl (by decide) rfl ?_) | (refine k_conv ?_; refine r_conv rfl rfl ?_) | (refine k_pick ?_; first | refine r_pickT rfl (by with_reducible rfl) rfl rfl ?_ | refine r_pickF rfl (by with_reducible rfl) rfl rfl ?_) | (refine k_inc ?_; refine r_inc rfl (by omega) rfl ?_) | (refine k_bin ?_; first | refine r_icmpT rfl rfl rfl rfl ?_ | refine r_icmpF rfl rfl rfl rfl ?_ | refine r_icmp rfl rfl rfl rfl ?_) | (refine k_eql ?_; first | refine r_peqS rfl rfl rfl ?_ | refine r_peqN rfl rfl rfl ?_ | refine r_meqS rfl rfl rfl ?_ | refine r_meqN rfl rfl rfl ?_ | refine r_peq rfl rfl rfl ?_) | (refine k_neq ?_; first | refine r_pneS rfl rfl rfl ?_ | refine r_pneN rfl rfl rfl ?_ | refine r_mneS rfl rfl rfl ?_ | refine r_mneN rfl rfl rfl ?_ | refine r_pne rfl rfl rfl ?_) | (refine g_mark ?_; first | refine gg_pass rfl rfl (by with_reducible rfl) ?_ | refine gg_skipT rfl rfl (by with_reducible rfl) (blt_any rfl) ?_ | refine gg_skipF rfl rfl (by with_reducible rfl) (blt_any rfl) ?_ | refine gg_skipU rfl rfl (by with_reducible rfl) (blt_any rfl) ?_ | refine gg_splitD rfl rfl (fun _ => ?_) (fun _ => ?_) | refine gg_splitN rfl rfl (fun _ => ?_) (fun _ => ?_) | refine gg_split rfl rfl (fun _ => ?_) (fun _ => ?_)) | refine t_seq ?_ | refine t_perm rfl ?_ | refine t_permE ?_ | refine j_then ?_ | refine t_region ?_ | refine t_draw [] [] mixed (by decide +kernel) ?_ | (refine k_cond ?_; first | refine t_condT rfl (by with_reducible rfl) ?_ | refine t_condF rfl (by with_reducible rfl) ?_ | refine t_condS rfl (fun _ => ?_) (fun _ => ?_) | refine t_condSN rfl (fun _ => ?_) (fun _ => ?_) | refine t_condSB rfl (fun _ => ?_) (fun _ => ?_)) | refine t_block ?_ | refine j_in ?_ | refine t_skip ?_ | refine t_ret ?_ | refine j_then_ret ?_ | refine j_in_ret ?_ | refine t_exit ?_ | refine j_then_exit ?_ | refine j_in_exit ?_ | refine j_in_other rfl ?_ | refine t_scope ?_ | refine t_label ?_ | refine j_ng ?_ | refine j_ng_ret ?_ | refine j_ng_exit ?_)
    next hg =>
      have hcn : cap = n := by omega
      subst hcn
      refine j_vec (.inl (by omega)) (fun b off pre post ha hp hq hl' hc' => ?_)
      subst ha
      refine r_piece (s := 44) 0 i cap rfl (.inl ⟨rfl, rfl⟩) (.inr ⟨_, rfl⟩) (.inl ⟨rfl, rfl⟩) (Nat.zero_le _) hi (Nat.le_refl _) rfl ?_
      rw [if_neg (show ¬ cap = 0 by omega), Option.map_some, add_at, Nat.zero_mul, Nat.add_zero, Nat.sub_zero, Nat.sub_zero]
      repeat refine s1 ?_
      refine r_addN (m := cap) (n := 1) rfl rfl (by omega) rfl ?_
      repeat refine s1 ?_
      refine r_subN (m := cap + 1) (n := i) rfl rfl (by omega) (by omega) rfl ?_
      refine r_appendG (n := i) (m := cap + 1 - i) (s := 44) (xs := xs.take (i * 44)) rfl rfl (fun w hh => ?_) (by decide) (by rfl) (by omega) hi (by omega) (by omega) (by omega) rfl rfl (fun b2 nc zs hnc hzs => ?_)
      · have hb : w.heap[b]? = some (.cells (pre ++ xs ++ post).toArray T.a44_uint8 (0, 0)) := hh.rd
        refine reads_of (by rw [List.length_take]; omega) hb (fun j v hj => Sl.get_mid hp ?_)
        rw [List.getElem?_take] at hj
        split at hj
        · exact hj
        · cases hj
      rw [show i + (cap + 1 - i) = cap + 1 by omega]
      repeat refine s1 ?_
      refine r_piece (s := 44) i (cap + 1) nc rfl (.inr ⟨_, rfl⟩) (.inl ⟨rfl, rfl, rfl⟩) (.inl ⟨rfl, rfl⟩) (by omega) (by omega) (Nat.le_refl _) rfl ?_
      rw [if_neg (show ¬ nc = i by omega), Option.map_some, add_at, Nat.zero_add]
      repeat refine s1 ?_
      have ht : (xs.take (i * 44)).length = i * 44 := by rw [List.length_take]; omega
      refine r_copyG (s := 44) (xs.take (i * 44) ++ ys ++ zs.drop 44) ys rfl rfl (fun w hh => ?_) (by rw [List.length_append, ht, hy, hzs]; omega) h2 ?_ ?_
      · rw [show min 1 (cap + 1 - i) = 1 by omega]
        obtain ⟨im, hp, r, st⟩ := hh
        exact RdS.get im hp w r.imw r.hw st
      · rw [List.take_left' ht, hy, List.drop_append, List.drop_eq_nil_of_le (by omega), ht, Nat.add_sub_cancel_left, List.nil_append]
      repeat refine s1 ?_
      refine r_addN (m := i) (n := 1) rfl rfl (by omega) rfl ?_
      refine r_piece (s := 44) (i + 1) (cap + 1) nc rfl (.inr ⟨_, rfl⟩) (.inl ⟨rfl, rfl, rfl⟩) (.inl ⟨rfl, rfl⟩) (by omega) (by omega) (Nat.le_refl _) rfl ?_
      rw [if_neg (show ¬ nc = i + 1 by omega), Option.map_some, add_at, Nat.zero_add]
      repeat refine s1 ?_
      refine r_piece (s := 44) i cap cap rfl (.inr ⟨_, rfl⟩) (.inl ⟨rfl, rfl, rfl⟩) (.inl ⟨rfl, rfl⟩) (by omega) (by omega) (Nat.le_refl _) rfl ?_
      rw [if_neg (show ¬ cap = i by omega), Option.map_some, add_at]
      have hd2 : (xs.drop (i * 44)).length = (cap - i) * 44 := by rw [List.length_drop]; omega
      have ht2 : (xs.take (i * 44) ++ ys).length = (i + 1) * 44 := by rw [List.length_append, ht, hy]; omega
      refine r_copyG (s := 44) (xs.take (i * 44) ++ ys ++ xs.drop (i * 44) ++ (zs.drop 44).drop ((cap - i) * 44)) (xs.drop (i * 44)) rfl rfl (fun w hh => ?_) (by rw [List.length_append, ht2, hd2, List.length_drop, hzs]; omega) (fun v hv => h1 v (List.mem_of_mem_drop hv)) ?_ ?_
      · rw [show min (cap - i) (cap + 1 - (i + 1)) = cap - i by omega]
        have hb : w.heap[b]? = some (.cells (pre ++ xs ++ post).toArray T.a44_uint8 (0, 0)) := hh.rd
        refine reads_of hd2 hb (fun j v hj => ?_)
        rw [Nat.add_assoc]
        rw [List.getElem?_drop] at hj
        exact Sl.get_mid hp hj
      · have hz : (xs.take (i * 44) ++ ys).drop ((xs.take (i * 44) ++ ys).length + (cap - i) * 44) = [] := List.drop_eq_nil_of_le (by omega)
        rw [List.take_left' ht2, hd2, ← ht2, List.drop_append, hz, Nat.add_sub_cancel_left, List.nil_append]
      repeat refine s1 ?_
      refine j_ent (Ent.mkV (n := cap + 1) (nc := nc) (s := 44) (by rw [List.length_append, ht2, hd2]; omega) (by omega) (by rw [List.length_drop, List.length_drop, hzs]; omega) _) ?_
      exact f1 (some ⟨b2, 0, none⟩, nc)
    next hg =>
      have hg' : n + 1 ≤ cap := by omega
      refine j_vec (.inl (by omega)) (fun b off pre post ha hp hq hl' hc' => ?_)
      subst ha
      repeat refine s1 ?_
      refine r_addN (m := n) (n := 1) rfl rfl (by omega) rfl ?_
      refine r_piece (s := 44) 0 (n + 1) cap rfl (.inl ⟨rfl, rfl⟩) (.inr ⟨_, rfl⟩) (.inl ⟨rfl, rfl⟩) (Nat.zero_le _) hg' (Nat.le_refl _) rfl ?_
      rw [if_neg (show ¬ cap = 0 by omega), Option.map_some, add_at, Nat.zero_mul, Nat.add_zero, Nat.sub_zero, Nat.sub_zero]
      repeat refine s1 ?_
      refine r_addN (m := i) (n := 1) rfl rfl (by omega) rfl ?_
      refine r_piece (s := 44) (i + 1) (n + 1) cap rfl (.inr ⟨_, rfl⟩) (.inl ⟨rfl, rfl, rfl⟩) (.inl ⟨rfl, rfl⟩) (by omega) (by omega) (Nat.le_refl _) rfl ?_
      rw [if_neg (show ¬ cap = i + 1 by omega), Option.map_some, add_at]
      refine j_head (vec (some a1) 1 c1 T.a44_uint8 44 ys) (j_vec (.inl (by omega)) (fun b1 off1 pre1 post1 ha1 hp1 hq1 _ hc1 => ?_))
      cases ha1
      refine r_over rfl rfl (by intro h; have := congrArg List.length h; rw [List.length_append, List.length_append, List.length_nil] at this; omega) ?_
      repeat refine s1 ?_
      refine r_addN (m := i) (n := 1) rfl rfl (by omega) rfl ?_
      refine r_piece (s := 44) (i + 1) (n + 1) cap rfl (.inr ⟨_, rfl⟩) (.inl ⟨rfl, rfl, rfl⟩) (.inl ⟨rfl, rfl⟩) (by omega) (by omega) (Nat.le_refl _) rfl ?_
      rw [if_neg (show ¬ cap = i + 1 by omega), Option.map_some, add_at]
      repeat refine s1 ?_
      refine r_piece (s := 44) i (n + 1) cap rfl (.inr ⟨_, rfl⟩) (.inl ⟨rfl, rfl, rfl⟩) (.inl ⟨rfl, rfl⟩) (by omega) (by omega) (Nat.le_refl _) rfl ?_
      rw [if_neg (show ¬ cap = i by omega), Option.map_some, add_at]
      have hd2 : (xs.drop (i * 44)).length = (n - i) * 44 := by rw [List.length_drop]; omega
      have ht2 : (xs.take ((i + 1) * 44)).length = (i + 1) * 44 := by rw [List.length_take]; omega
      have ht1 : (xs.take (i * 44)).length = i * 44 := by rw [List.length_take]; omega
      have hpost : 44 ≤ post.length := by rw [hq]; omega
      refine r_copyG (s := 44) (pre ++ (xs.take ((i + 1) * 44) ++ xs.drop (i * 44)) ++ post.drop 44) (xs.drop (i * 44)) rfl rfl (fun w hh => ?_) (by rw [List.length_append, List.length_append, hd2]; omega) (fun v hv => h1 v (List.mem_of_mem_drop hv)) ?_ ?_
      · rw [show min (n + 1 - i) (n + 1 - (i + 1)) = n - i by omega]
        have hb : w.heap[b]? = some (.cells (pre ++ xs ++ post).toArray T.a44_uint8 (0, 0)) := hh.rd
        refine reads_of hd2 hb (fun j v hj => ?_)
        rw [Nat.add_assoc]
        rw [List.getElem?_drop] at hj
        exact Sl.get_mid hp hj
      · rw [mid_take hp (by omega), hd2, Nat.add_assoc, mid_drop (m := 44) hp (by omega)]
        simp
      repeat refine s1 ?_
      refine r_piece (s := 44) i (n + 1) cap rfl (.inr ⟨_, rfl⟩) (.inl ⟨rfl, rfl, rfl⟩) (.inl ⟨rfl, rfl⟩) (by omega) (by omega) (Nat.le_refl _) rfl ?_
      rw [if_neg (show ¬ cap = i by omega), Option.map_some, add_at]
      repeat refine s1 ?_
      refine r_copyG (s := 44) (pre ++ (xs.take (i * 44) ++ ys ++ xs.drop (i * 44)) ++ post.drop 44) ys rfl rfl (fun w hh => ?_) (by rw [List.length_append, List.length_append, List.length_append, hd2, ht2]; omega) h2 ?_ ?_
      · rw [show min 1 (n + 1 - i) = 1 by omega]
        have hb : w.heap[b1]? = some (.cells (pre1 ++ ys ++ post1).toArray T.a44_uint8 (0, 0)) := hh.rd
        exact reads_of (by omega) hb (fun j v hj => Sl.get_mid hp1 hj)
      · have e1 : xs.take ((i + 1) * 44) ++ xs.drop (i * 44) = xs.take (i * 44) ++ ((xs.drop (i * 44)).take 44 ++ xs.drop (i * 44)) := by
          rw [← List.append_assoc, show (i + 1) * 44 = i * 44 + 44 by omega, List.take_add]
        have e2 : ((xs.drop (i * 44)).take 44).length = ys.length := by rw [List.length_take, hd2, hy]; omega
        rw [mid_take hp (by rw [List.length_append, ht2]; omega), List.take_append_of_le_length (by omega), List.take_take, show min (i * 44) ((i + 1) * 44) = i * 44 by omega, e1]
        have e3 : pre ++ (xs.take (i * 44) ++ ((xs.drop (i * 44)).take 44 ++ xs.drop (i * 44))) ++ post.drop 44 = (pre ++ (xs.take (i * 44) ++ (xs.drop (i * 44)).take 44)) ++ (xs.drop (i * 44) ++ post.drop 44) := by simp
        rw [e3, List.drop_left' (by rw [List.length_append, List.length_append, ht1, e2]; omega)]
        simp
      repeat refine s1 ?_
      refine jh [pt b (.cells (pre ++ (xs.take (i * 44) ++ ys ++ xs.drop (i * 44)) ++ post.drop 44).toArray T.a44_uint8 (0, 0))] ?_
      refine j_ent (Ent.vec (n := n + 1) (cap := cap) (s := 44) (by rw [List.length_append, List.length_append, ht1, hd2]; omega) hg' hp (by rw [List.length_drop]; omega) _) ?_
      exact f1 (some ⟨b, off, none⟩, cap)
end Go.Proofs.YtcnpkmdooekmgaaGreatDoor
