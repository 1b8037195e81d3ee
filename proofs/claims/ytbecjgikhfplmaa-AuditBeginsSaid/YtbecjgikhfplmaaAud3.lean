/-
  The contracts of Charge and Crash of a book. For each input.
-/
import Derived.Test.YtbecjgikhfplmaaAud2
namespace Go.Proofs.Ytbecjgikhfplmaa
open Go Sl
attribute [local irreducible] cw sw J Exit.then Exit.inBlock Exit.noGoto bodyPost swG swL permL
theorem nodup_len : ∀ (l m : List Int), l.Nodup → (∀ x ∈ l, x ∈ m) → l.length ≤ m.length
  | [], _, _, _ => Nat.zero_le _
  | x :: l, m, hn, hs => by
    obtain ⟨m1, m2, rfl⟩ := List.append_of_mem (hs x (by simp))
    have hx := List.nodup_cons.1 hn
    have := nodup_len l (m1 ++ m2) hx.2 (fun y hy => by
      have h1 := hs y (by simp [hy])
      have h2 : y ≠ x := fun e => hx.1 (e ▸ hy)
      simp only [List.mem_append, List.mem_cons] at h1 ⊢
      rcases h1 with h1 | h1 | h1
      · exact .inl h1
      · exact absurd h1 h2
      · exact .inr h1)
    simp only [List.length_append, List.length_cons] at this ⊢
    omega
open Classical in
/-- how many there are. -/
noncomputable def card (P : Int → Prop) : Nat := if h : ∃ l : List Int, l.Nodup ∧ ∀ w, w ∈ l ↔ P w then h.choose.length else 0
theorem card_eq {P : Int → Prop} {l : List Int} (hn : l.Nodup) (hm : ∀ w, w ∈ l ↔ P w) : card P = l.length := by
  have h : ∃ l : List Int, l.Nodup ∧ ∀ w, w ∈ l ↔ P w := ⟨l, hn, hm⟩
  unfold card
  rw [dif_pos h]
  have hc := h.choose_spec
  exact Nat.le_antisymm (nodup_len _ _ hc.1 (fun x hx => (hm x).2 ((hc.2 x).1 hx))) (nodup_len _ _ hn (fun x hx => (hc.2 x).2 ((hm x).1 hx)))
/-- a write that a state names. -/
def named (s : Side) (w : Int) : Prop := ∃ k v, s k = some v ∧ ∃ a, v.2 a = some w
noncomputable def chargeM (B : Bk) : Int := (card (fun w => named B.now w ∨ named B.kept w) : Nat)
def nm (t : List (Int × Vl)) (w : Int) : Prop := ∃ e ∈ t, ∃ a, e.2.2.2 a = some w
theorem nm_named {l : List (Int × Vl)} {s : Side} (h : Rep (vols l) s) (w : Int) : nm l w ↔ named s w := by
  constructor
  · rintro ⟨e, he, a, ha⟩
    exact ⟨e.1, volOf e.2, h.mem.1 (List.mem_map.2 ⟨e, he, rfl⟩), a, ha⟩
  · rintro ⟨k, v, hk, a, ha⟩
    obtain ⟨e, he, hv⟩ := List.mem_map.1 (h.mem.2 hk)
    cases hv
    exact ⟨e, he, a, ha⟩
theorem nm_mid {t1 t2 : List (Int × Vl)} {q : Int × Vl} {w : Int} : nm (t1 ++ q :: t2) w ↔ nm (t1 ++ t2) w ∨ ∃ a, q.2.2.2 a = some w := by
  constructor
  · rintro ⟨e, he, h⟩
    rcases List.mem_append.1 he with he | he
    · exact .inl ⟨e, List.mem_append.2 (.inl he), h⟩
    · rcases List.mem_cons.1 he with rfl | he
      · exact .inr h
      · exact .inl ⟨e, List.mem_append.2 (.inr he), h⟩
  · rintro (⟨e, he, h⟩ | h)
    · exact ⟨e, by rcases List.mem_append.1 he with he | he <;> simp [he], h⟩
    · exact ⟨q, by simp, h⟩
abbrev mapB (r : Nat) (f : Int → Option Bool) : Assn := mapF (Value.int .i64) Value.bool (isInt .i64) r f
set_option maxHeartbeats 1000000 in
theorem charge_c (p : Nat) (B : Bk) (Φ : Base) : Sl.Fn Try.prog Φ F.audit_Book_Charge [.pointer (some ⟨p, 0, none⟩)] [book p B] (fun _ : Unit => True) (fun _ => .int .i64 (chargeM B)) (fun _ => [book p B]) := by
  refine fn_of rfl rfl (fun F => ?_)
  dsimp only [argEnv, List.cons_append, List.nil_append, Nat.zero_add, Nat.reduceAdd]
  repeat refine s1 ?_
  refine r_call rfl (blt_some rfl) rfl (made_c p B Φ) ?_
  intro _ _; dsimp only [bnd, List.cons_append, List.nil_append]
  repeat refine s1 ?_
  refine r_makeMap (isInt .i64) rfl rfl (fun r3 => ?_)
  refine j_ent (Ent.mapF (κ := Value.int .i64) (ν := Value.bool) (l := []) Rep.nil _) ?_
  repeat refine s1 ?_
  refine j_head (book p B) ?_
  refine j_book (fun n k s ta tc hs => ?_)
  repeat refine s1 ?_
  refine r_buildA [.tmp 17, .tmp 21] [.map (some n), .map (some k)] rfl rfl (by simp [Value.oneCell']) rfl rfl ?_
  repeat refine s1 ?_
  refine t_loop (σ := Nat × (Int → Option Bool)) (fun s => [(23, i64 s.1), (22, .agg #[.map (some n), .map (some k)]), (3, .map (some r3))])
    (fun x => mapB r3 x.2 :: side n B.now :: side k B.kept :: pt p (.cells (bcells B n k s (.slice ta B.texts.length tc)).toArray T.audit_Book (0, 0)) :: mapI s B.ses :: vec ta B.texts.length tc T.sl_uint8 1 hs :: rows hs B.texts :: F)
    (fun s => s.1 ≤ 2 ∧ ∀ w, s.2 w ≠ none ↔ ((0 < s.1 ∧ named B.now w) ∨ (1 < s.1 ∧ named B.kept w))) (fun s => 2 - s.1)
    (0, (fun _ => none)) ⟨Nat.zero_le _, fun w => by simp⟩ ⟨rfl, rfl, rfl, trivial⟩ (by dsimp only; exact Le.ent) ?_
  rintro ⟨i, f⟩ ⟨hi, hf⟩
  dsimp only at hi hf ⊢
  repeat refine s1 ?_
  refine r_icmp rfl rfl rfl rfl ?_
  repeat refine s1 ?_
  refine t_condS rfl (fun h => ?_) (fun h => ?_)
  · have hlt : i < 2 := by omega
    repeat refine s1 ?_
    have hv : (#[.map (some n), .map (some k)] : Array Value)[i]? = some (.map (some (if i = 0 then n else k))) := by
      rcases (by omega : i = 0 ∨ i = 1) with rfl | rfl <;> rfl
    have hE : ∃ Z : Assn, (∀ R, Ent (side n B.now :: side k B.kept :: R) (side (if i = 0 then n else k) (if i = 0 then B.now else B.kept) :: Z :: R)) ∧ (∀ R, Ent (side (if i = 0 then n else k) (if i = 0 then B.now else B.kept) :: Z :: R) (side n B.now :: side k B.kept :: R)) := by
      rcases (by omega : i = 0 ∨ i = 1) with rfl | rfl
      · exact ⟨side k B.kept, fun _ => Ent.refl _, fun _ => Ent.refl _⟩
      · exact ⟨side n B.now, fun _ => Ent.swap _ _ _, fun _ => Ent.swap _ _ _⟩
    obtain ⟨Z, hE1, hE2⟩ := hE
    have hf2 : ∀ w, (f w ≠ none ∨ named (if i = 0 then B.now else B.kept) w) ↔ ((0 < i + 1 ∧ named B.now w) ∨ (1 < i + 1 ∧ named B.kept w)) := fun w => by
      rw [hf w]
      rcases (by omega : i = 0 ∨ i = 1) with rfl | rfl <;> simp
    refine r_indexV rfl rfl hlt hv rfl ?_
    refine j_heads [side n B.now, side k B.kept] ?_
    dsimp only [List.cons_append, List.nil_append]
    refine j_ent (hE1 _) ?_
    generalize (if i = 0 then n else k) = r at *
    generalize (if i = 0 then B.now else B.kept) = sd at *
    refine j_side (fun l hl => ?_)
    repeat refine s1 ?_
    refine r_rangeM rfl rfl rfl (fun it => ?_)
    repeat refine s1 ?_
    refine t_loop (σ := List (Int × Vl) × (Int → Option Bool) × Option (Value × Value)) (fun _ => [(27, .pointer (some ⟨it, 0, none⟩)), (23, i64 i), (22, .agg #[.map (some n), .map (some k)]), (3, .map (some r3))])
      (fun x => mit (isInt .i64) it r (emV l) (emV x.1) x.2.2 :: each l innr :: mapB r3 x.2.1 :: Z :: pt p (.cells (bcells B n k s (.slice ta B.texts.length tc)).toArray T.audit_Book (0, 0)) :: mapI s B.ses :: vec ta B.texts.length tc T.sl_uint8 1 hs :: rows hs B.texts :: F)
      (fun x => (∀ e ∈ x.1, e ∈ l) ∧ ∀ w, (x.2.1 w ≠ none ∨ nm x.1 w) ↔ ((0 < i + 1 ∧ named B.now w) ∨ (1 < i + 1 ∧ named B.kept w))) (fun x => x.1.length)
      (l, f, none) ⟨fun _ h => h, fun w => by rw [← hf2 w, nm_named hl]⟩ ⟨rfl, rfl, rfl, rfl, trivial⟩ (by dsimp only; exact Le.ent) ?_
    rintro ⟨t, g, cur⟩ ⟨hsub, hg⟩
    dsimp only at hsub hg ⊢
    repeat refine s1 ?_
    refine r_nextM rfl rfl rfl (fun h0 => ?_) (fun l1 q l2 h1 => ?_)
    · repeat refine s1 ?_
      have := em_nil h0
      subst this
      refine j_ent (Ent.mitEnd.trans (Ent.side hl _)) ?_
      refine j_heads [side r sd, Z] ?_
      dsimp only [List.cons_append, List.nil_append]
      refine j_ent (hE2 _) ?_
      refine j_again (i + 1, g) ⟨by omega, fun w => by rw [← hg w]; simp [nm]⟩ (by dsimp only; omega) ⟨rfl, rfl, rfl, trivial⟩ (by dsimp only; exact Le.ent)
    · obtain ⟨t1, q, t2, rfl, h2, rfl⟩ := em_split h1
      rw [h2]
      obtain ⟨m1, m2, hm⟩ := List.append_of_mem (hsub q (by simp))
      repeat refine s1 ?_
      refine r_entry rfl rfl rfl ?_
      repeat refine s1 ?_
      refine r_alloc (cs := [i64 0, .map none]) rfl rfl rfl (fun b7 => ?_)
      refine r_storeW (vs := [.int .i64 q.2.1, .map (some q.2.2.1)]) rfl rfl (by rfl) (by rfl) (by simp [Value.oneCell']) rfl ?_
      repeat refine s1 ?_
      refine j_head (each l innr) ?_
      rw [hm]
      refine j_ent (Ent.eachMid m1 q m2 innr _) ?_
      refine j_mapF (fun u hu => ?_)
      refine r_rangeM rfl rfl rfl (fun it2 => ?_)
      repeat refine s1 ?_
      refine t_loop (σ := List (Int × Int) × (Int → Option Bool) × Option (Value × Value)) (fun _ => [(34, .pointer (some ⟨it2, 0, none⟩)), (27, .pointer (some ⟨it, 0, none⟩)), (23, i64 i), (22, .agg #[.map (some n), .map (some k)]), (3, .map (some r3))])
        (fun x => mit (isInt .i64) it2 q.2.2.1 (emI u) (emI x.1) x.2.2 :: mapB r3 x.2.1 :: each (m1 ++ m2) innr :: mit (isInt .i64) it r (emV (m1 ++ q :: m2)) (emV (t1 ++ t2)) (some (Value.int .i64 q.1, encV q.2)) :: Z :: pt p (.cells (bcells B n k s (.slice ta B.texts.length tc)).toArray T.audit_Book (0, 0)) :: mapI s B.ses :: vec ta B.texts.length tc T.sl_uint8 1 hs :: rows hs B.texts :: F)
        (fun x => ∀ w, (x.2.1 w ≠ none ∨ (∃ a, (a, w) ∈ x.1) ∨ nm (t1 ++ t2) w) ↔ ((0 < i + 1 ∧ named B.now w) ∨ (1 < i + 1 ∧ named B.kept w))) (fun x => x.1.length)
        (u, g, none) (fun w => by
          rw [← hg w, nm_mid]
          have : (∃ a, (a, w) ∈ u) ↔ ∃ a, q.2.2.2 a = some w := ⟨fun ⟨a, h⟩ => ⟨a, hu.mem.1 h⟩, fun ⟨a, h⟩ => ⟨a, hu.mem.2 h⟩⟩
          dsimp only
          rw [this]
          constructor
          · rintro (h | h | h)
            · exact .inl h
            · exact .inr (.inr h)
            · exact .inr (.inl h)
          · rintro (h | h | h)
            · exact .inl h
            · exact .inr (.inr h)
            · exact .inr (.inl h)) ⟨rfl, rfl, rfl, rfl, rfl, trivial⟩ (by dsimp only; exact Le.ent) ?_
      rintro ⟨u', g', cur'⟩ hg'
      dsimp only at hg' ⊢
      repeat refine s1 ?_
      refine r_nextM rfl rfl rfl (fun h0 => ?_) (fun l3 q' l4 h3 => ?_)
      · repeat refine s1 ?_
        have := em_nil h0
        subst this
        refine j_ent (Ent.mitEnd.trans (Ent.mapF (κ := Value.int .i64) (ν := Value.int .i64) hu _)) ?_
        refine j_heads [mapI q.2.2.1 q.2.2.2, each (m1 ++ m2) innr] ?_
        dsimp only [List.cons_append, List.nil_append]
        refine j_ent (Ent.eachUnmid m1 q m2 innr _) ?_
        rw [← hm]
        exact j_again (t1 ++ t2, g', some (Value.int .i64 q.1, encV q.2)) ⟨fun e he => hsub e (by rcases List.mem_append.1 he with h | h <;> simp [h]), fun w => by rw [← hg' w]; simp⟩ (by simp) ⟨rfl, rfl, rfl, rfl, trivial⟩ (by dsimp only; exact Le.ent)
      · obtain ⟨u1, q', u2, rfl, h4, rfl⟩ := em_split h3
        rw [h4]
        repeat refine s1 ?_
        refine r_entry rfl rfl rfl ?_
        repeat refine s1 ?_
        refine j_head (mapB r3 g') ?_
        refine j_mapF (fun lb hlb => ?_)
        refine r_mapUpd (v := Value.bool true) rfl rfl rfl (isInt_mk _) rfl ?_
        rw [mset_em (ν := Value.bool) kv_inj]
        refine j_ent (Ent.mapF (κ := Value.int .i64) (ν := Value.bool) (hlb.set q'.2 true) _) ?_
        repeat refine s1 ?_
        refine j_again (u1 ++ u2, upd g' q'.2 (some true), some (Value.int .i64 q'.1, Value.int .i64 q'.2)) (fun w => ?_) (by simp) ⟨rfl, rfl, rfl, rfl, rfl, trivial⟩ (by dsimp only; exact Le.ent)
        rw [← hg' w]
        dsimp only [upd]
        by_cases hw : w = q'.2
        · subst hw
          rw [if_pos rfl]
          exact ⟨fun _ => .inr (.inl ⟨q'.1, by simp⟩), fun _ => .inl (by simp)⟩
        · rw [if_neg hw]
          constructor
          · rintro (h | ⟨a, h⟩ | h)
            · exact .inl h
            · exact .inr (.inl ⟨a, by rcases List.mem_append.1 h with h | h <;> simp [h]⟩)
            · exact .inr (.inr h)
          · rintro (h | ⟨a, h⟩ | h)
            · exact .inl h
            · refine .inr (.inl ⟨a, ?_⟩)
              rcases List.mem_append.1 h with h | h
              · simp [h]
              · rcases List.mem_cons.1 h with h | h
                · exact absurd (congrArg Prod.snd h) hw
                · simp [h]
            · exact .inr (.inr h)
  · have hi2 : i = 2 := by omega
    subst hi2
    repeat refine s1 ?_
    refine j_head (mapB r3 f) ?_
    refine j_mapF (fun lb hlb => ?_)
    refine r_lenM rfl rfl rfl ?_
    repeat refine s1 ?_
    refine j_shut (p := p) B (n := n) (k := k) (s := s) (ta := ta) (tc := tc) (hs := hs) ?_
    have hc : chargeM B = ((em (Value.int .i64) Value.bool lb).length : Nat) := by
      have h1 : (em (Value.int .i64) Value.bool lb).length = (lb.map Prod.fst).length := by simp [em]
      rw [h1, chargeM, card_eq hlb.nd (fun w => ?_)]
      have h2 : w ∈ lb.map Prod.fst ↔ f w ≠ none := by
        rw [← hlb.eq w]
        constructor
        · intro hw
          obtain ⟨q, hq, rfl⟩ := List.mem_map.1 hw
          rw [mem_alook hlb.nd (v := q.2) hq]
          exact fun h => by cases h
        · intro hw
          rcases Classical.em (w ∈ lb.map Prod.fst) with h | h
          · exact h
          · exact absurd (alook_none h) hw
      rw [h2, hf w]
      simp
    refine j_fin rfl (.cons (rv_tmp rfl) .nil) () (by rw [hc]; rfl) (by trivial)
abbrev Bk.crash (B : Bk) : Bk := { B with now := B.kept, ses := fun _ => none }
theorem crash_c (p : Nat) (B : Bk) (hw : B.wrong = false) (Φ : Base) : Sl.Fn Try.prog Φ F.audit_Book_Crash [.pointer (some ⟨p, 0, none⟩)] [book p B] (fun _ : Unit => True) (fun _ => i64 0) (fun _ => [book p B.crash]) := by
  refine fn_of rfl rfl (fun F => ?_)
  dsimp only [argEnv, List.cons_append, List.nil_append, Nat.zero_add, Nat.reduceAdd]
  repeat refine s1 ?_
  refine r_call rfl (blt_some rfl) rfl (made_c p B Φ) ?_
  intro _ _; dsimp only [bnd, List.cons_append, List.nil_append]
  repeat refine s1 ?_
  refine j_book (fun n k s ta tc hs => ?_)
  rw [bcells, hw]
  repeat refine s1 ?_
  refine r_call rfl (blt_some rfl) rfl (copy_c k B.kept Φ) ?_
  intro r' _
  dsimp only [bnd, List.cons_append, List.nil_append]
  repeat refine s1 ?_
  refine r_store1 rfl rfl (by simp [B.outer.2]) rfl rfl ?_
  repeat refine s1 ?_
  refine r_makeMap (isInt .i64) rfl rfl (fun r2 => ?_)
  refine j_ent (Ent.mapF (κ := Value.int .i64) (ν := Value.int .i64) (l := []) Rep.nil _) ?_
  repeat refine s1 ?_
  refine r_store1 rfl rfl (by simp [B.outer.2]) rfl rfl ?_
  repeat refine s1 ?_
  rw [← hw]
  refine j_shut (p := p) B.crash (n := r') (k := k) (s := r2) (ta := ta) (tc := tc) (hs := hs) ?_
  refine j_fin rfl (.cons (rv_tmp rfl) .nil) () (by rfl) (by trivial)
theorem crashN_c : Pure F.audit_Book_Crash [.pointer none] (i64 6) := by
  intro Φ
  refine fn_of rfl rfl (fun F => ?_)
  dsimp only [argEnv, List.cons_append, List.nil_append, Nat.zero_add, Nat.reduceAdd]
  repeat refine s1 ?_
  refine r_call rfl (blt_some rfl) rfl (madeN_c Φ) ?_
  intro _ _; dsimp only [bnd, List.cons_append, List.nil_append]
  repeat refine s1 ?_
  refine j_fin rfl (.cons (rv_tmp rfl) .nil) () (by rfl) (by trivial)
theorem crash0_c (p : Nat) (Φ : Base) : Sl.Fn Try.prog Φ F.audit_Book_Crash [.pointer (some ⟨p, 0, none⟩)] [blank p] (fun _ : Unit => True) (fun _ => i64 6) (fun _ => [blank p]) := by
  refine fn_of rfl rfl (fun F => ?_)
  dsimp only [argEnv, List.cons_append, List.nil_append, Nat.zero_add, Nat.reduceAdd]
  repeat refine s1 ?_
  refine r_call rfl (blt_some rfl) rfl (made0_c p Φ) ?_
  intro _ _; dsimp only [bnd, List.cons_append, List.nil_append]
  repeat refine s1 ?_
  refine j_fin rfl (.cons (rv_tmp rfl) .nil) () (by rfl) (by trivial)
theorem chargeN_c : Pure F.audit_Book_Charge [.pointer none] (i64 0) := by
  intro Φ
  refine fn_of rfl rfl (fun F => ?_)
  dsimp only [argEnv, List.cons_append, List.nil_append, Nat.zero_add, Nat.reduceAdd]
  repeat refine s1 ?_
  refine r_call rfl (blt_some rfl) rfl (madeN_c Φ) ?_
  intro _ _; dsimp only [bnd, List.cons_append, List.nil_append]
  repeat refine s1 ?_
  refine j_fin rfl (.cons (rv_tmp rfl) .nil) () (by rfl) (by trivial)
theorem charge0_c (p : Nat) (Φ : Base) : Sl.Fn Try.prog Φ F.audit_Book_Charge [.pointer (some ⟨p, 0, none⟩)] [blank p] (fun _ : Unit => True) (fun _ => i64 0) (fun _ => [blank p]) := by
  refine fn_of rfl rfl (fun F => ?_)
  dsimp only [argEnv, List.cons_append, List.nil_append, Nat.zero_add, Nat.reduceAdd]
  repeat refine s1 ?_
  refine r_call rfl (blt_some rfl) rfl (made0_c p Φ) ?_
  intro _ _; dsimp only [bnd, List.cons_append, List.nil_append]
  repeat refine s1 ?_
  refine j_fin rfl (.cons (rv_tmp rfl) .nil) () (by rfl) (by trivial)
end Go.Proofs.Ytbecjgikhfplmaa
