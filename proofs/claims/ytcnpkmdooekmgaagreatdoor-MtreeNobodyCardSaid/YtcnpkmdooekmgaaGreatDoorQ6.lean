/-
  Part 6 of what a proof of this claim uses: rules, contracts and plain laws. No condition.
-/
import Derived.Test.YtcnpkmdooekmgaaGreatDoorQ5
namespace Go.Proofs.YtcnpkmdooekmgaaGreatDoor
open Go Sl
/-- a tree that is nil, or that no call made. -/
abbrev noneV (x : Option Nat) : Value := .pointer (x.map fun b => ⟨b, 0, none⟩)
abbrev tnull (tp : Nat) : Assn := pt tp (.cells (.pointer none :: (rcells Rf0 ++ [.bool false])).toArray T.mtree_Tree (0, 0))
abbrev noneL : Option Nat → List Assn
  | none => []
  | some tp => [tnull tp]
abbrev noneA (x : Option Nat) : Assn := all (noneL x)
abbrev v44 (v : List Nat) : Value := .agg (v.map u8).toArray
abbrev z44 : List Nat := List.replicate 44 0
attribute [local irreducible] cw sw J Exit.then Exit.inBlock Exit.noGoto bodyPost swG swL permL
theorem made_n (x : Option Nat) (Φ : Base) : Sl.Fn Tryz.prog Φ F.mtree_Tree_made [noneV x] [noneA x] (fun _ : Unit => True) (fun _ => .bool false) (fun _ => [noneA x]) := by
  refine fo fun F => j_all ?_
  rcases x with _ | tp
  · dsimp only [noneV, noneL, Option.map_none, List.cons_append, List.nil_append]
    repeat refine s1 ?_
    refine js [] (B := all []) (fun L => Ent.unall [] L) ?_
    exact f1 ()
  · dsimp only [noneV, noneL, Option.map_some, List.cons_append, List.nil_append]
    repeat refine s1 ?_
    refine js [tnull tp] (B := all [tnull tp]) (fun L => Ent.unall [tnull tp] L) ?_
    exact f1 ()
theorem made_c (tp ps : Nat) (o : Option Rf) (Φ : Base) : Sl.Fn Tryz.prog Φ F.mtree_Tree_made [ptr tp] [tree tp ps o] (fun _ : Unit => True) (fun _ => .bool true) (fun _ => [tree tp ps o]) := by
  refine fo fun F => ?_
  repeat refine s1 ?_
  exact f1 ()
theorem root_n (x : Option Nat) (Φ : Base) : Sl.Fn Tryz.prog Φ F.mtree_Tree_Root [noneV x] [noneA x] (fun _ : Unit => True) (fun _ => .tuple #[.agg (rcells Rf0).toArray, .bool false]) (fun _ => [noneA x]) := by
  refine fo fun F => ?_
  repeat refine s1 ?_
  refine al (cs := rcells Rf0) (fun t2 => ?_)
  repeat refine s1 ?_
  refine cl (made_n x Φ) ?_
  repeat refine s1 ?_
  refine r_build (cells := rcells Rf0) rfl (by rfl) rfl ?_
  refine r_storeW (vs := rcells Rf0) rfl rfl (by rfl) (by rfl) (by simp [Value.oneCell']) rfl ?_
  repeat refine s1 ?_
  exact j_fin rfl (.cons (rv_agg (l := rcells Rf0) (U := T.api_Ref) (fr := (0, 0)) rfl (by rfl)) (.cons (rv_tmp rfl) .nil)) () rfl trivial
theorem root_c (tp ps : Nat) (o : Option Rf) (hw : oWt o) (Φ : Base) : Sl.Fn Tryz.prog Φ F.mtree_Tree_Root [ptr tp] [tree tp ps o] (fun _ : Unit => True) (fun _ => .tuple #[.agg (rcells (oR o)).toArray, .bool o.isSome]) (fun _ => [tree tp ps o]) := by
  refine fo fun F => ?_
  repeat refine s1 ?_
  refine al (cs := rcells Rf0) (fun t2 => ?_)
  repeat refine s1 ?_
  refine cl (made_c tp ps o Φ) ?_
  repeat refine s1 ?_
  refine t_draw [tree tp ps o] [3, 7] mixed (by decide +kernel) ?_
  repeat refine s1 ?_
  refine s_loadA (vs := rcells (oR o)) (off := 1) rfl (by simp [hw.sum.1]) tc_root rfl rfl ?_
  repeat refine s1 ?_
  refine s_load1 rfl (by rw [List.getElem?_toArray]; exact tc_has hw) rfl rfl ?_
  repeat refine s1 ?_
  refine r_storeW (vs := rcells (oR o)) rfl rfl (by simp [hw.sum.1]) (by rfl) (by simp [Value.oneCell']) rfl ?_
  repeat refine s1 ?_
  exact j_fin rfl (.cons (rv_agg (l := rcells (oR o)) (U := T.api_Ref) (fr := (0, 0)) rfl (by simp [hw.sum.1])) (.cons (rv_tmp rfl) .nil)) () rfl trivial
theorem tstore_n (x : Option Nat) (Φ : Base) : Sl.Fn Tryz.prog Φ F.mtree_Tree_Store [noneV x] [noneA x] (fun _ : Unit => True) (fun _ => .pointer none) (fun _ => [noneA x]) := by
  refine fo fun F => ?_
  repeat refine s1 ?_
  refine cl (made_n x Φ) ?_
  repeat refine s1 ?_
  exact f1 ()
theorem tstore_c (tp ps : Nat) (o : Option Rf) (Φ : Base) : Sl.Fn Tryz.prog Φ F.mtree_Tree_Store [ptr tp] [tree tp ps o] (fun _ : Unit => True) (fun _ => ptr ps) (fun _ => [tree tp ps o]) := by
  refine fo fun F => ?_
  repeat refine s1 ?_
  refine cl (made_c tp ps o Φ) ?_
  repeat refine s1 ?_
  exact f1 ()
theorem tnew_c (ps : Nat) (Φ : Base) : Sl.Fn Tryz.prog Φ F.mtree_New [ptr ps] [] (fun _ : Nat => True) (fun tp => ptr tp) (fun tp => [tree tp ps none]) := by
  refine fo fun F => ?_
  repeat refine s1 ?_
  refine r_build (cells := tcells ps none) rfl (by rfl) rfl ?_
  refine r_box (cs := tcells ps none) rfl rfl rfl rfl (fun tp => ?_)
  repeat refine s1 ?_
  exact f1 tp
theorem put_n (x : Option Nat) (k : Nat) (v : List Nat) (Φ : Base) : Sl.Fn Tryz.prog Φ F.mtree_Tree_Put [noneV x, w64 k, v44 v] [noneA x] (fun _ : Unit => True) (fun _ => i64 6) (fun _ => [noneA x]) := by
  refine fo fun F => ?_
  repeat refine s1 ?_
  refine r_box (cs := v.map u8) rfl rfl rfl rfl (fun t5 => ?_)
  repeat refine s1 ?_
  refine cl (made_n x Φ) ?_
  repeat refine s1 ?_
  exact f1 ()
theorem del_n (x : Option Nat) (k : Nat) (Φ : Base) : Sl.Fn Tryz.prog Φ F.mtree_Tree_Del [noneV x, w64 k] [noneA x] (fun _ : Unit => True) (fun _ => .tuple #[.bool false, i64 6]) (fun _ => [noneA x]) := by
  refine fo fun F => ?_
  repeat refine s1 ?_
  refine cl (made_n x Φ) ?_
  repeat refine s1 ?_
  exact f2 ()
theorem clone_n (x : Option Nat) (Φ : Base) : Sl.Fn Tryz.prog Φ F.mtree_Tree_Clone [noneV x] [noneA x] (fun _ : Unit => True) (fun _ => .pointer none) (fun _ => [noneA x]) := by
  refine fo fun F => ?_
  repeat refine s1 ?_
  refine cl (made_n x Φ) ?_
  repeat refine s1 ?_
  exact f1 ()
theorem free_n (x : Option Nat) (Φ : Base) : Sl.Fn Tryz.prog Φ F.mtree_Tree_Free [noneV x] [noneA x] (fun _ : Unit => True) (fun _ => i64 6) (fun _ => [noneA x]) := by
  refine fo fun F => ?_
  repeat refine s1 ?_
  refine cl (made_n x Φ) ?_
  repeat refine s1 ?_
  exact f1 ()
theorem become_n (x : Option Nat) (y : Value) (Φ : Base) : Sl.Fn Tryz.prog Φ F.mtree_Tree_Become [noneV x, y] [noneA x] (fun _ : Unit => True) (fun _ => i64 6) (fun _ => [noneA x]) := by
  refine fo fun F => ?_
  repeat refine s1 ?_
  refine cl (made_n x Φ) ?_
  repeat refine s1 ?_
  exact f1 ()
theorem get_n (x : Option Nat) (k : Nat) (Φ : Base) : Sl.Fn Tryz.prog Φ F.mtree_Tree_Get [noneV x, w64 k] [noneA x] (fun _ : Unit => True) (fun _ => .tuple #[v44 z44, .bool false, i64 6]) (fun _ => [noneA x]) := by
  refine fo fun F => ?_
  repeat refine s1 ?_
  refine al (cs := z44.map u8) (fun t4 => ?_)
  repeat refine s1 ?_
  refine al (cs := z44.map u8) (fun t7 => ?_)
  repeat refine s1 ?_
  refine cl (made_n x Φ) ?_
  repeat refine s1 ?_
  refine r_storeW (vs := z44.map u8) rfl rfl (by rfl) (by rfl) (by simp [Value.oneCell']) rfl ?_
  repeat refine s1 ?_
  exact j_fin rfl (.cons (rv_agg (l := z44.map u8) (fr := (0, 0)) rfl (by rfl)) (.cons (rv_tmp rfl) (.cons (rv_tmp rfl) .nil))) () rfl trivial
theorem range_n (x : Option Nat) (a b : Nat) (n : Int) (Φ : Base) : Sl.Fn Tryz.prog Φ F.mtree_Tree_Range [noneV x, w64 a, w64 b, .int .i64 n] [noneA x] (fun _ : Unit => True) (fun _ => .tuple #[.slice none 0 0, i64 6]) (fun _ => [noneA x]) := by
  refine fo fun F => ?_
  repeat refine s1 ?_
  refine r_box (cs := [w64 b]) rfl rfl rfl rfl (fun t6 => ?_)
  repeat refine s1 ?_
  refine r_box (cs := [.int .i64 n]) rfl rfl rfl rfl (fun t7 => ?_)
  repeat refine s1 ?_
  refine cl (made_n x Φ) ?_
  repeat refine s1 ?_
  exact f2 ()
end Go.Proofs.YtcnpkmdooekmgaaGreatDoor
namespace Go.Proofs.YtcnpkmdooekmgaaGreatDoor
open Go Sl
theorem TsOk.settled {S S1 : St} {A B : List Tre} {t t' : Tre} {K : Kp} (h : TsOk S (A ++ t :: B)) (cE : S1.E = S.E) (cle : S.g.le S1.g) (cok : S1.wf) (ht : TOk S1.g t') (w : Swept S1.K (S1.turn t.rt t'.rt).E K) :
    TsOk ((S1.turn t.rt t'.rt).withK K) (A ++ t' :: B) := by
  have hE : ∀ s, (S1.turn t.rt t'.rt).E s = hold (A ++ t' :: B) s := fun s => by
    show S1.E s + hdO t'.rt s - hdO t.rt s = _
    rw [cE, h.E, hold_mid, hold_mid]
    show hdO t.rt s + _ + _ - _ = hdO t'.rt s + _
    omega
  have each1 : ∀ x ∈ A ++ t' :: B, TOk S1.g x := fun x hx => by
    rcases List.mem_append.1 hx with hx | hx
    · exact (h.each x (by simp [hx])).le cle
    · rcases List.mem_cons.1 hx with rfl | hx
      · exact ht
      · exact (h.each x (by simp [hx])).le cle
  have hr : ∀ x ∈ A ++ t' :: B, ∀ r, x.rt = some r → S1.K r.sec ≠ none := fun x hx r hr => by
    obtain ⟨_, _, hh, U, hs⟩ := (each1 x hx).sh hr
    obtain ⟨ks, hk, _⟩ := sh_known hs _ (sh_root hs)
    rw [show S1.K r.sec = S1.g.K r.sec from rfl, hk]; simp
  have hw : (S1.turn t.rt t'.rt).wf := turn_wf cok (hr t' (by simp))
  refine ⟨hE, w.ok hw, w.tight, fun x hx => (each1 x hx).less w.less (fun r hr => ?_)⟩
  rw [hE]
  exact hold_at hx hr
/-- two that hang on the same roots, within what is known. -/
theorem two_tight {K0 K1 K2 : Kp} {E : Nat → Nat} {f c : Nat} (h1 : Kok K1 E f c) (t1 : Tight K1 E) (h2 : Kok K2 E f c) (t2 : Tight K2 E) (s1' : ∀ s ks, K1 s = some ks → K0 s = some ks) (s2' : ∀ s ks, K2 s = some ks → K0 s = some ks) : K1 = K2 := by
  have key : ∀ {K1 K2 : Kp}, Kok K1 E f c → Tight K1 E → Kok K2 E f c → (∀ s ks, K1 s = some ks → K0 s = some ks) → (∀ s ks, K2 s = some ks → K0 s = some ks) → ∀ s ks, K1 s = some ks → K2 s = some ks := by
    intro K1 K2 h1 t1 h2 s1' s2' s ks hk
    have := cover h1 t1 (fun s => K2 s ≠ none) (fun s hs => h2.ext s hs) (fun s ks hs hk k hk' => by
      obtain ⟨ks', e⟩ := Option.ne_none_iff_exists'.1 hs
      have e1 := s1' s ks hk
      have e2 := s2' s ks' e
      rw [e1] at e2
      obtain rfl := Option.some.inj e2
      exact h2.closed s ks e k hk') s (by rw [hk]; simp)
    obtain ⟨ks', e⟩ := Option.ne_none_iff_exists'.1 this
    have e1 := s1' s ks hk
    have e2 := s2' s ks' e
    rw [e1] at e2
    rw [e, ← Option.some.inj e2]
  funext s
  rcases hk1 : K1 s with _ | ks
  · rcases hk2 : K2 s with _ | ks
    · rfl
    · have := key h2 t2 h1 s2' s1' s ks hk2
      rw [this] at hk1; cases hk1
  · exact (key h1 t1 h2 s1' s2' s ks hk1).symm
/-- what was refused left all as it was. -/
theorem TsOk.refused {S S1 : St} {D D1 : Dk} {n : Nat} {ts : List Tre} {K : Kp} (h : TsOk S ts) (c : Chg S S1 D D1 n) (w : Swept S1.K S1.E K) : TsOk (S1.withK K) ts ∧ K = S.K := by
  have hw := w.ok c.ok
  have hk : K = S.K := by
    have e1 := c.E
    have e2 := c.frm
    have e3 := c.cnt
    have t1 := w.tight
    rw [e1] at hw t1
    rw [e2, e3] at hw
    refine two_tight (K0 := S1.K) hw t1 h.ok h.tight w.sub (fun s ks hs => ?_)
    exact (c.le s ks hs).1
  refine ⟨⟨fun s => by show S1.E s = _; rw [c.E, h.E], w.ok c.ok, w.tight, fun x hx => ((h.each x hx).le c.le).less w.less (fun r hr => ?_)⟩, hk⟩
  rw [c.E, h.E]
  exact hold_at hx hr
theorem TsOk.agr {S1 : St} {D1 : Dk} {K : Kp} (a : Agr S1 D1) (hs : ∀ s ks, K s = some ks → S1.K s = some ks) {E : Nat → Nat} : Agr ({ S1 with E := E }.withK K) D1 :=
  ⟨fun s h => a.sec s (by
    obtain ⟨ks, e⟩ := Option.ne_none_iff_exists'.1 h
    rw [hs s ks e]; simp), a.size, a.left⟩
end Go.Proofs.YtcnpkmdooekmgaaGreatDoor
namespace Go.Proofs.YtcnpkmdooekmgaaGreatDoor
open Go Sl
/-- a change of a tree: it is done, or was refused and all is as it was. -/
structure TrQ (S : St) (D : Dk) (A B : List Tre) (t : Tre) (kv' : KV) (Y : Prop) (x : Nat × Option Rf × St × Dk) : Prop where
  pd : x.2.2.1.pd = S.pd
  pl : x.2.2.1.pl = S.pl
  frm : x.2.2.1.frm = S.frm
  cnt : x.2.2.1.cnt = S.cnt
  agr : Agr x.2.2.1 x.2.2.2
  dle : DLe S.K S.frm S.cnt D x.2.2.2 70
  ok : x.1 = 0 → TsOk x.2.2.1 (A ++ ⟨t.p, x.2.1, kv'⟩ :: B)
  er : x.1 ≠ 0 → x.2.1 = t.rt ∧ TsOk x.2.2.1 (A ++ t :: B) ∧ x.2.2.1.K = S.K ∧ (x.1 = 5 ∧ S.cnt ≤ card S.K + (2 * Nat.log2 t.kv.length + 4) ∨ x.1 = 30 ∧ x.2.2.2.down = true ∨ x.1 = 4 ∧ Y)
  fell : x.1 = 5 → x.2.2.2.down = D.down
theorem pow_small {h n : Nat} (h1 : 4 ^ h ≤ n) (h2 : n ≤ 1000000) : h ≤ 10 := by
  rcases Nat.lt_or_ge 10 h with h0 | h0
  · have := Nat.pow_le_pow_right (show 0 < 4 by omega) (show 11 ≤ h by omega)
    omega
  · exact h0
theorem pow_log {h n : Nat} (h1 : 4 ^ h ≤ n) : h ≤ Nat.log2 n := by
  have h0 : n ≠ 0 := by have := Nat.pow_pos (n := h) (show 0 < 4 by omega); omega
  rw [Nat.le_log2 h0]
  exact Nat.le_trans (Nat.pow_le_pow_left (by omega) h) h1
theorem log_small {n : Nat} (h : n ≤ 1000000) : Nat.log2 n ≤ 20 := by
  by_cases h0 : n = 0
  · subst h0; decide
  · have : Nat.log2 n < 21 := (Nat.log2_lt h0).2 (by omega)
    omega
theorem TrQ.done {S S1 : St} {D D1 : Dk} {n : Nat} {A B : List Tre} {t : Tre} {kv' : KV} {o' : Option Rf} {Y : Prop} {K : Kp} (h : TsOk S (A ++ t :: B)) (c : Chg S S1 D D1 n) (hn : n ≤ 70) (ht : TOk S1.g ⟨t.p, o', kv'⟩) (w : Swept S1.K (S1.turn t.rt o').E K) :
    TrQ S D A B t kv' Y (0, o', (S1.turn t.rt o').withK K, D1) :=
  ⟨c.pd, c.pl, c.frm, c.cnt, TsOk.agr c.agr w.sub, c.dle.mono hn, fun _ => h.settled (t' := ⟨t.p, o', kv'⟩) c.E c.le c.ok ht w, fun h0 => absurd rfl h0, fun h0 => absurd h0 (by decide : ¬ 0 = 5)⟩
theorem TrQ.not {S S1 : St} {D D1 : Dk} {n e : Nat} {A B : List Tre} {t : Tre} {kv' : KV} {Y : Prop} {K : Kp} (h : TsOk S (A ++ t :: B)) (c : Chg S S1 D D1 n) (hn : n ≤ 70) (hn2 : n ≤ 2 * Nat.log2 t.kv.length + 4) (he : Er D.down S1 D1 e ∨ e = 4 ∧ Y) (w : Swept S1.K S1.E K) :
    TrQ S D A B t kv' Y (e, t.rt, S1.withK K, D1) :=
  ⟨c.pd, c.pl, c.frm, c.cnt, TsOk.agr (E := S1.E) c.agr w.sub, c.dle.mono hn, fun h0 => absurd h0 (he.elim (fun he => he.ne) fun he => (by rw [show e = 4 from he.1]; exact (by decide : ¬ 4 = 0))), fun _ => ⟨rfl, (h.refused c w).1, (h.refused c w).2, by
    rcases he with (⟨a, b⟩ | he) | he
    · left
      have := c.card
      have := c.cnt
      exact ⟨a, by omega⟩
    · exact .inr (.inl he)
    · exact .inr (.inr he)⟩, fun h5 => by
    rcases he with (⟨_, _, b⟩ | ⟨he, _⟩) | ⟨he, _⟩
    · exact b
    · dsimp only at h5; omega
    · dsimp only at h5; omega⟩
theorem oWt_of {g : Gd} {t : Tre} (h : TOk g t) : oWt t.rt := oR_wt fun r hr => by
  obtain ⟨_, _, hh, U, hs⟩ := h.sh hr
  exact hs.1
theorem tre_low {S : St} {A B : List Tre} {t : Tre} (h : TsOk S (A ++ t :: B)) (hl : (A ++ t :: B).length ≤ 1000000) : (∀ s, S.E s < 1000000000) ∧ ∀ r, t.rt = some r → 0 < S.E r.sec :=
  ⟨fun s => by rw [h.E]; have := hold_le s (A ++ t :: B); omega, fun r hr => by rw [h.E]; exact hold_at (by simp) hr⟩
theorem grow_tok {g : Gd} {p : Nat} {kv : KV} {o : Option Rf} (hs : Srt kv) (h : (kv = [] → o = none) ∧ (kv ≠ [] → ∃ r h U, o = some r ∧ Sh g 1 h r kv U)) : TOk g ⟨p, o, kv⟩ := by
  unfold TOk
  by_cases h0 : kv = []
  · rw [h.1 h0]; exact h0
  · obtain ⟨r, hh, U, rfl, hsh⟩ := h.2 h0
    exact ⟨hs, h0, hh, U, hsh⟩
theorem Fn.frame {P : Program} {Φ : Base} {f : FuncId} {args : List Value} {Pre : List Assn} {α : Type} {q : α → Prop} {V : α → Value} {Post : α → List Assn} (h : Sl.Fn P Φ f args Pre q V Post) (R : List Assn) :
    Sl.Fn P Φ f args (Pre ++ R) q V (fun x => Post x ++ R) := fun F w hh =>
  (h (R ++ F) w (by rw [← List.append_assoc]; exact hh)).mono fun _ w' ⟨x, hx, he, hw⟩ => ⟨x, hx, he, by rw [List.append_assoc]; exact hw⟩
/-- a node that a change made, or none. -/
structure MidS (S : St) (D : Dk) (kv : KV) (c : Nat) (Y : Prop) (z : Nat × Nd × NR × St × Dk) : Prop where
  chg : Chg S z.2.2.2.1 D z.2.2.2.2 c
  ok : z.1 = 0 → ∃ h U, NSh z.2.2.2.1.g h z.2.1 kv U ∧ z.2.1.keys.length ≤ 2 * mostN z.2.1
  er : z.1 ≠ 0 → Er D.down z.2.2.2.1 z.2.2.2.2 z.1 ∨ z.1 = 4 ∧ Y
  dn : z.1 = 0 → z.2.2.2.2.down = D.down
structure GrwQ (S : St) (D : Dk) (kv : KV) (c : Nat) (Y : Prop) (x : Nat × Option Rf × St × Dk) : Prop where
  chg : Chg S x.2.2.1 D x.2.2.2 c
  ok : x.1 = 0 → (kv = [] → x.2.1 = none) ∧ (kv ≠ [] → ∃ r h U, x.2.1 = some r ∧ Sh x.2.2.1.g 1 h r kv U)
  er : x.1 ≠ 0 → x.2.1 = none ∧ (Er D.down x.2.2.1 x.2.2.2 x.1 ∨ x.1 = 4 ∧ Y)
theorem cgrowM_c (pc ps N : Nat) (S : St) (D : Dk) (kv : KV) (c : Nat) (Y : Prop) (z : Nat × Nd × NR × St × Dk) (hz : MidS S D kv c Y z) (hs : Srt kv) (hN : N ≤ 700000000) (hwt : z.2.2.2.2.waits.length ≤ 700000000) (Φ : Base) (hT : Tab Φ) :
    Sl.Fn Tryz.prog Φ F.mtree_change_grow [ptr pc, nV z.2.1 z.2.2.1] (cgA pc ps z.2.2.2.1 z.2.2.2.2 N z.1 ++ [node z.2.1 z.2.2.1]) (fun x => GrwQ S D kv (c + 4) Y x ∧ (x.1 = 0 → z.1 = 0)) (fun x => .tuple #[.agg (rcells (oR x.2.1)).toArray, .bool x.2.1.isSome]) (fun x => cgA pc ps x.2.2.1 x.2.2.2 (N + 4) x.1) := by
  obtain ⟨e, n, x, S1, D1⟩ := z
  obtain ⟨hC, hok, her, hdn⟩ := hz
  dsimp only at hC hok her hdn hwt ⊢
  by_cases he : e = 0
  · subst he
    obtain ⟨h, U, hn, hm⟩ := hok rfl
    refine Fn.conseq (cgrow_c pc ps N S1 D1 n x h kv U hn hs hm hC.ok hC.agr hN hwt Φ hT) (fun F _ _ s => s) (fun y hy => ⟨y, ?_, rfl, fun F _ _ s => s⟩)
    exact ⟨⟨hC.trans hy.chg, hy.ok, fun h0 => ⟨(hy.er h0).1, .inl (hdn rfl ▸ (hy.er h0).2)⟩⟩, fun _ => rfl⟩
  · have h1 := her he
    refine Fn.conseq (Fn.frame (cgrow_e pc ps e n x he Φ) [store ps S1, disk S1.pd D1, hlog S1.pl N]) (fun F => ?_) (fun y hy => ⟨(e, none, S1, D1), ?_, rfl, fun F => ?_⟩)
    · dsimp only [List.cons_append, List.nil_append]; exact Le.ent
    · exact ⟨⟨hC.mono (by omega), fun h0 => absurd h0 he, fun _ => ⟨rfl, h1⟩⟩, fun h0 => h0⟩
    · dsimp only [List.cons_append, List.nil_append]
      exact Ent.trans (Le.ent (A := hlog S1.pl N :: pt pc (.cells [ptr ps, i64 e].toArray T.mtree_change (0, 0)) :: store ps S1 :: disk S1.pd D1 :: F)) ((hlogUp (N' := N + 4) (by omega) _).trans Le.ent)
attribute [local irreducible] cw sw J Exit.then Exit.inBlock Exit.noGoto bodyPost swG swL permL
theorem tend_c (ps pc N : Nat) (S S1 : St) (D D1 : Dk) (n : Nat) (A B : List Tre) (t : Tre) (kv' : KV) (z : Nat × Option Rf) (h : TsOk S (A ++ t :: B)) (c : Chg S S1 D D1 n) (hn : n ≤ 70) (hn2 : n ≤ 2 * Nat.log2 t.kv.length + 4) (hl : (A ++ t :: B).length ≤ 1000000) (hs : Srt kv')
    (ok : z.1 = 0 → (kv' = [] → z.2 = none) ∧ (kv' ≠ [] → ∃ r h U, z.2 = some r ∧ Sh S1.g 1 h r kv' U)) (Y : Prop) (er : z.1 ≠ 0 → Er D.down S1 D1 z.1 ∨ z.1 = 4 ∧ Y) (hz : z.1 ≠ 0 → z.2 = none) (Φ : Base) :
    Sl.Fn Tryz.prog Φ F.mtree_Tree_settle [ptr t.p, ptr pc, .agg (rcells (oR z.2)).toArray, .bool z.2.isSome] (tree t.p ps t.rt :: cgA pc ps S1 D1 N z.1) (fun x => TrQ S D A B t kv' Y x ∧ x.1 = z.1) (fun x => i64 x.1)
      (fun x => [tree t.p ps x.2.1, pt pc (.cells [ptr ps, i64 z.1].toArray T.mtree_change (0, 0)), store ps x.2.2.1, disk S1.pd x.2.2.2, hlog S1.pl N]) := by
  obtain ⟨e, o'⟩ := z
  have hlow := tre_low h hl
  have hto := oWt_of (h.each t (by simp))
  by_cases he : e = 0
  · subst he
    have ht := grow_tok (p := t.p) hs (ok rfl)
    refine Fn.conseq (settle_c t.p pc ps N S1 D1 t.rt o' hto (oWt_of (t := ⟨t.p, o', kv'⟩) ht) c.ok (by rw [c.E]; exact hlow.1) (fun r hr => by
      subst hr
      obtain ⟨_, _, hh, U, hs⟩ := ht.sh rfl
      obtain ⟨ks, hk, _⟩ := sh_known hs _ (sh_root hs)
      rw [show S1.K r.sec = S1.g.K r.sec from rfl, hk]; simp) (by rw [c.E]; exact hlow.2) Φ) (fun F _ _ s => s) (fun K hK => ⟨(0, o', (S1.turn t.rt o').withK K, D1), ⟨TrQ.done h c hn ht hK, rfl⟩, rfl, fun F _ _ s => s⟩)
  · have := hz he
    dsimp only at this
    subst this
    refine Fn.conseq (settle_no t.p pc ps N e S1 D1 t.rt none he c.ok Φ) (fun F _ _ s => s) (fun K hK => ⟨(e, t.rt, S1.withK K, D1), ⟨TrQ.not h c hn hn2 (er he) hK, rfl⟩, rfl, fun F _ _ s => s⟩)
abbrev leaf1 (bk bv : Nat) : NR := ⟨some ⟨bk, 0, none⟩, 1, some ⟨bv, 0, none⟩, 1, none, 0⟩
theorem leaf1_ent (k : Nat) (v : List Nat) (bk bv : Nat) (L : List Assn) : Ent (isl (some ⟨bk, 0, none⟩) 1 1 T.uint64 1 [w64 k] :: isl (some ⟨bv, 0, none⟩) 1 1 T.a44_uint8 44 (v.map u8) :: isl none 0 0 T.api_Ref 33 [] :: L) (node (leafN [(k, v)]) (leaf1 bk bv) :: L) := by
  have := Ent.node (n := leafN [(k, v)]) (x := leaf1 bk bv) L
  have e : ((leafN [(k, v)]).vals.flatMap fun v => v.map u8) = v.map u8 := by simp [leafN]
  unfold valsA at this
  rw [e] at this
  exact this
theorem Srt.one (k : Nat) (v : List Nat) : Srt [(k, v)] := List.pairwise_singleton ..
theorem tput_c (ps pd pl N k : Nat) (v : List Nat) (S : St) (D : Dk) (A B : List Tre) (t : Tre) (hk : k < 18446744073709551616) (hv : bytes 44 v) (h : TsOk S (A ++ t :: B)) (ha : Agr S D) (hN : N ≤ 600000000) (hwt : D.waits.length ≤ 600000000) (hkv : t.kv.length ≤ 1000000) (hl : (A ++ t :: B).length ≤ 1000000) (hpd : S.pd = pd) (hpl : S.pl = pl) (Φ : Base) (hT : Tab Φ) :
    Sl.Fn Tryz.prog Φ F.mtree_Tree_Put [ptr t.p, w64 k, v44 v] [tree t.p ps t.rt, store ps S, disk pd D, hlog pl N] (TrQ S D A B t (ins k v t.kv) False) (fun x => i64 x.1) (fun x => [tree t.p ps x.2.1, store ps x.2.2.1, disk pd x.2.2.2, hlog pl (N + 200)]) := by
  obtain rfl := hpd
  obtain rfl := hpl
  have ht := h.each t (by simp)
  have hsrt : Srt (ins k v t.kv) := ins_srt ht.srt
  have hlg := log_small hkv
  refine fo fun F => ?_
  repeat refine s1 ?_
  refine r_box (cs := v.map u8) rfl rfl rfl rfl (fun t5 => ?_)
  repeat refine s1 ?_
  refine cl (made_c t.p ps t.rt Φ) ?_
  repeat refine s1 ?_
  refine r_build (cells := [ptr ps, i64 0]) rfl (by rfl) rfl ?_
  refine r_box (cs := [ptr ps, i64 0]) rfl rfl rfl rfl (fun pc => ?_)
  repeat refine s1 ?_
  refine r_build1s [.tmp 20] [w64 k] rfl rfl (by simp [Value.oneCell']) (by simp) rfl rfl rfl (fun bk => ?_)
  repeat refine s1 ?_
  refine r_loadW (vs := v.map u8) rfl (by simpa using hv.1) rfl rfl ?_
  refine r_buildA1 (v := v.map u8) rfl (by simpa using hv.1) (by decide) (fun bv => ?_)
  refine r_build (cells := nbx (leafN [(k, v)]) (leaf1 bk bv)) rfl (by rfl) rfl ?_
  refine al (cs := nbx nd0 nr0) (fun t8 => ?_)
  refine r_storeW (vs := nbx (leafN [(k, v)]) (leaf1 bk bv)) rfl rfl (by rfl) (by rfl) (by simp [Value.oneCell']) rfl ?_
  repeat refine s1 ?_
  refine ld rfl (tc_has (oWt_of ht)) ?_
  repeat refine s1 ?_
  refine t_meet (σ := Nat × Nd × NR × St × Dk) (fun _ => [(7, ptr pc), (8, ptr t8), (0, ptr t.p)]) (fun z => pt t8 (.cells (nbx z.2.1 z.2.2.1).toArray T.node_Node (0, 0)) :: node z.2.1 z.2.2.1 :: tree t.p ps t.rt :: cgA pc ps z.2.2.2.1 z.2.2.2.2 (N + 40) z.1 ++ F) (MidS S D (ins k v t.kv) (2 * Nat.log2 t.kv.length) False) ?_ (fun z hz => ?_)
  · rcases hr : t.rt with _ | r
    · rw [Option.isSome_none]
      have hkv0 := ht.nil hr
      repeat refine s1 ?_
      refine j_ent (Ent.islNil (E := T.api_Ref) (s := 33) (cap := 0) (a := none) _) ?_
      refine jh [vec (some ⟨bv, 0, none⟩) 1 1 T.a44_uint8 44 (v.map u8)] (fz ?_)
      refine jh [vec (some ⟨bk, 0, none⟩) 1 1 T.uint64 1 [w64 k]] (fz ?_)
      refine js [isl (some ⟨bk, 0, none⟩) 1 1 T.uint64 1 [w64 k], isl (some ⟨bv, 0, none⟩) 1 1 T.a44_uint8 44 (v.map u8), isl none 0 0 T.api_Ref 33 []] (B := node (leafN [(k, v)]) (leaf1 bk bv)) (fun L => leaf1_ent k v bk bv L) ?_
      refine jh [hlog S.pl N] (j_ent (hlogUp (N' := N + 40) (by omega) _) ?_)
      refine j_meet (0, leafN [(k, v)], leaf1 bk bv, S, D) ?_ ⟨rfl, rfl, rfl, trivial⟩ (by first | exact Le.ent | (dsimp only; exact Le.ent) | (dsimp only [List.cons_append, List.nil_append]; exact Le.ent) | (dsimp only [List.cons_append, List.nil_append]; simp only [List.take_zero, List.map_nil, List.flatMap_nil, List.length_nil]; exact Le.ent))
      rw [hkv0]
      exact ⟨Chg.refl h.ok ha _, fun _ => ⟨0, [], ⟨rfl, rfl, fun x hx => by simp [ins] at hx; subst hx; exact ⟨hk, hv⟩⟩, by show 1 ≤ 2 * mostN (leafN [(k, v)]); simp [mostN, leafN]⟩, fun h0 => absurd rfl h0, fun _ => rfl⟩
    · rw [Option.isSome_some]
      obtain ⟨_, hne, hh, U, hsh⟩ := ht.sh hr
      have hh10 := pow_small (sh_size hsh).2 hkv
      have hhl := pow_log (sh_size hsh).2
      have hrw := hsh.1
      repeat refine s1 ?_
      refine r_loadA (vs := rcells r) (off := 1) rfl (by simp [hrw.sum.1]) (tc_root (o := some r)) rfl rfl ?_
      repeat refine s1 ?_
      refine r_loadW (vs := v.map u8) rfl (by simpa using hv.1) rfl rfl ?_
      refine r_build (cells := w64 k :: v.map u8) rfl (by simp [fillL, hv.1, Value.cells]) rfl ?_
      refine cx (cput_c pc ps k v hk hv Φ hT hh N S D r 1 t.kv U hsh ht.srt h.ok ha (by omega) (by omega)) (fun z hz => ?_)
      obtain ⟨e1, n1, S1, D1, x1⟩ := z
      dsimp only at hz ⊢
      refine r_storeW (vs := nbx n1 x1) rfl rfl (by rfl) (by rfl) (by simp [Value.oneCell']) rfl ?_
      repeat refine s1 ?_
      refine jh [hlog S1.pl (N + 3 * (hh + 1))] (j_ent (hlogUp (N' := N + 40) (by omega) _) ?_)
      refine j_meet (e1, n1, x1, S1, D1) ?_ ⟨rfl, rfl, rfl, trivial⟩ (by first | exact Le.ent | (dsimp only; exact Le.ent) | (dsimp only [List.cons_append, List.nil_append]; exact Le.ent) | (dsimp only [List.cons_append, List.nil_append]; simp only [List.take_zero, List.map_nil, List.flatMap_nil, List.length_nil]; exact Le.ent))
      refine ⟨hz.chg.mono (by omega), fun h0 => ?_, fun h0 => .inl (hz.er h0), fun h0 => hz.chg.dle.upb (hz.ok h0).choose_spec.2.2.2⟩
      obtain ⟨U', h1, h2, h3, _⟩ := hz.ok h0
      refine ⟨hh, U', h1, ?_⟩
      dsimp only at h3 ⊢
      have : 9 ≤ mostN n1 := by unfold mostN; split <;> omega
      omega
  · obtain ⟨e1, n1, x1, S1, D1⟩ := z
    have hl1 := hz.chg.dle.len
    dsimp only [List.cons_append, List.nil_append] at hl1 ⊢
    repeat refine s1 ?_
    refine cx (cgrowM_c pc ps (N + 40) S D (ins k v t.kv) (2 * Nat.log2 t.kv.length) False (e1, n1, x1, S1, D1) hz hsrt (by omega) (by dsimp only; omega) Φ hT) (fun y hy => ?_)
    obtain ⟨e2, o2, S2, D2⟩ := y
    obtain ⟨hy, _⟩ := hy
    have hpd := hy.chg.pd
    have hpl := hy.chg.pl
    dsimp only at hpd hpl ⊢
    repeat refine s1 ?_
    refine al (cs := rcells Rf0) (fun t9 => ?_)
    have how : oWt o2 := by
      by_cases he : e2 = 0
      · exact oWt_of (t := ⟨t.p, o2, ins k v t.kv⟩) (grow_tok (p := t.p) hsrt (hy.ok he))
      · have := (hy.er he).1
        dsimp only at this
        subst this
        exact Rf0_wt
    refine r_storeW (vs := rcells (oR o2)) rfl rfl (by simp [how.sum.1]) (by rfl) (by simp [Value.oneCell']) rfl ?_
    repeat refine s1 ?_
    refine r_loadW (vs := rcells (oR o2)) rfl (by simp [how.sum.1]) rfl rfl ?_
    repeat refine s1 ?_
    refine cx (tend_c ps pc (N + 40 + 4) S S2 D D2 (2 * Nat.log2 t.kv.length + 4) A B t (ins k v t.kv) (e2, o2) h hy.chg (by omega) (Nat.le_refl _) hl hsrt hy.ok False (fun h0 => (hy.er h0).2) (fun h0 => (hy.er h0).1) Φ) (fun x hx => ?_)
    obtain ⟨hx, hxe⟩ := hx
    dsimp only at hxe ⊢
    rw [hpd, hpl]
    repeat refine s1 ?_
    refine jh [hlog S.pl (N + 40 + 4)] (j_ent (hlogUp (N' := N + 200) (by omega) _) ?_)
    exact f1 x (hq := hx)
end Go.Proofs.YtcnpkmdooekmgaaGreatDoor
namespace Go.Proofs.YtcnpkmdooekmgaaGreatDoor
open Go Sl
theorem del_hd {k : Nat} {t : Tre} (h : t.kv = []) : get? k t.kv = none := by rw [h]; rfl
/-- what Del answers. -/
abbrev delV (e : Nat) : Value := .tuple #[.bool (decide (e = 0)), i64 (if e = 4 then 0 else e)]
attribute [local irreducible] cw sw J Exit.then Exit.inBlock Exit.noGoto bodyPost swG swL permL
theorem tdel_c (ps pd pl N k : Nat) (S : St) (D : Dk) (A B : List Tre) (t : Tre) (hk : k < 18446744073709551616) (h : TsOk S (A ++ t :: B)) (ha : Agr S D) (hN : N ≤ 600000000) (hwt : D.waits.length ≤ 600000000) (hkv : t.kv.length ≤ 1000000) (hl : (A ++ t :: B).length ≤ 1000000) (hpd : S.pd = pd) (hpl : S.pl = pl) (Φ : Base) (hT : Tab Φ) :
    Sl.Fn Tryz.prog Φ F.mtree_Tree_Del [ptr t.p, w64 k] [tree t.p ps t.rt, store ps S, disk pd D, hlog pl N] (fun x => TrQ S D A B t (del k t.kv) (get? k t.kv = none) x ∧ (x.1 = 0 → get? k t.kv ≠ none)) (fun x => delV x.1) (fun x => [tree t.p ps x.2.1, store ps x.2.2.1, disk pd x.2.2.2, hlog pl (N + 200)]) := by
  obtain rfl := hpd
  obtain rfl := hpl
  have ht := h.each t (by simp)
  have hsrt : Srt (del k t.kv) := del_srt ht.srt
  have hlg := log_small hkv
  refine fo fun F => ?_
  repeat refine s1 ?_
  refine cl (made_c t.p ps t.rt Φ) ?_
  repeat refine s1 ?_
  refine ld rfl (tc_has (oWt_of ht)) ?_
  rcases hr : t.rt with _ | r
  · rw [Option.isSome_none]
    have hkv0 := ht.nil hr
    repeat refine s1 ?_
    refine jh [hlog S.pl N] (j_ent (hlogUp (N' := N + 200) (by omega) _) ?_)
    exact f2 (4, none, S, D) (hq := ⟨⟨rfl, rfl, rfl, rfl, ha, DLe.refl _ _ _ _ _, fun h0 => (by cases h0), fun _ => ⟨hr.symm, h, rfl, .inr (.inr ⟨rfl, del_hd hkv0⟩)⟩, fun _ => rfl⟩, fun h0 => (by cases h0)⟩)
  · rw [Option.isSome_some]
    obtain ⟨_, hne, hh, U, hsh⟩ := ht.sh hr
    have hh10 := pow_small (sh_size hsh).2 hkv
    have hhl := pow_log (sh_size hsh).2
    have hrw := hsh.1
    repeat refine s1 ?_
    refine r_build (cells := [ptr ps, i64 0]) rfl (by rfl) rfl ?_
    refine r_box (cs := [ptr ps, i64 0]) rfl rfl rfl rfl (fun pc => ?_)
    repeat refine s1 ?_
    refine r_loadA (vs := rcells r) (off := 1) rfl (by simp [hrw.sum.1]) (tc_root (o := some r)) rfl rfl ?_
    repeat refine s1 ?_
    refine cx (cdel_c pc ps k hk Φ hT hh N S D r 1 t.kv U hsh ht.srt h.ok ha (by omega) (by omega)) (fun z hz => ?_)
    obtain ⟨e1, n1, S1, D1, x1⟩ := z
    have hl1 := hz.chg.dle.len
    dsimp only at hl1 hz ⊢
    have hm : MidS S D (del k t.kv) (2 * Nat.log2 t.kv.length) (get? k t.kv = none) (e1, n1, x1, S1, D1) := by
      refine ⟨hz.chg.mono (by omega), fun h0 => ?_, fun h0 => ?_, fun h0 => hz.chg.dle.upb (hz.ok h0).2.1⟩
      · obtain ⟨_, _, U', h1, h2, h3⟩ := hz.ok h0
        refine ⟨hh, U', h1, ?_⟩
        dsimp only at h3 ⊢
        omega
      · by_cases h4 : e1 = 4
        · exact .inr ⟨h4, (hz.none h4).1⟩
        · exact .inl (hz.er h0 h4)
    refine cx (cgrowM_c pc ps (N + 4 * (hh + 1)) S D (del k t.kv) (2 * Nat.log2 t.kv.length) (get? k t.kv = none) (e1, n1, x1, S1, D1) hm hsrt (by omega) (by dsimp only; omega) Φ hT) (fun y hy => ?_)
    obtain ⟨e2, o2, S2, D2⟩ := y
    obtain ⟨hy, hy0⟩ := hy
    have hpd := hy.chg.pd
    have hpl := hy.chg.pl
    dsimp only at hpd hpl hy0 ⊢
    have how : oWt o2 := by
      by_cases he : e2 = 0
      · exact oWt_of (t := ⟨t.p, o2, del k t.kv⟩) (grow_tok (p := t.p) hsrt (hy.ok he))
      · have := (hy.er he).1
        dsimp only at this
        subst this
        exact Rf0_wt
    repeat refine s1 ?_
    refine al (cs := rcells Rf0) (fun t9 => ?_)
    refine r_storeW (vs := rcells (oR o2)) rfl rfl (by simp [how.sum.1]) (by rfl) (by simp [Value.oneCell']) rfl ?_
    repeat refine s1 ?_
    refine r_loadW (vs := rcells (oR o2)) rfl (by simp [how.sum.1]) rfl rfl ?_
    repeat refine s1 ?_
    rw [← hr]
    refine cx (tend_c ps pc (N + 4 * (hh + 1) + 4) S S2 D D2 (2 * Nat.log2 t.kv.length + 4) A B t (del k t.kv) (e2, o2) h hy.chg (by omega) (Nat.le_refl _) hl hsrt hy.ok (get? k t.kv = none) (fun h0 => (hy.er h0).2) (fun h0 => (hy.er h0).1) Φ) (fun x hx => ?_)
    obtain ⟨hx, hxe⟩ := hx
    obtain ⟨e3, o3, S3, D3⟩ := x
    dsimp only at hxe ⊢
    subst hxe
    rw [hpd, hpl]
    repeat refine s1 ?_
    refine jh [hlog S.pl (N + 4 * (hh + 1) + 4)] (j_ent (hlogUp (N' := N + 200) (by omega) _) ?_)
    refine r_icmp rfl rfl rfl rfl ?_
    repeat refine s1 ?_
    refine t_condSB rfl (fun g => ?_) (fun g => ?_)
    · have g := of_decide_eq_true g
      obtain rfl : e3 = 4 := by omega
      repeat refine s1 ?_
      exact f2 (4, o3, S3, D3) (hq := ⟨hx, fun h0 => (by cases h0)⟩)
    · have g := of_decide_eq_false g
      have g4 : e3 ≠ 4 := by omega
      repeat refine s1 ?_
      refine r_icmp rfl rfl rfl rfl ?_
      repeat refine s1 ?_
      exact f2 (e3, o3, S3, D3) (hV := by dsimp only [delV]; rw [if_neg g4]; simp) (hq := ⟨hx, fun h0 => (hz.ok (hy0 h0)).1⟩)
end Go.Proofs.YtcnpkmdooekmgaaGreatDoor
namespace Go.Proofs.YtcnpkmdooekmgaaGreatDoor
open Go Sl
/-- the store of other trees: on the same disk. -/
structure FrQ (S : St) (ts : List Tre) (S' : St) : Prop where
  pd : S'.pd = S.pd
  pl : S'.pl = S.pl
  frm : S'.frm = S.frm
  cnt : S'.cnt = S.cnt
  agr : ∀ D, Agr S D → Agr S' D
  ok : TsOk S' ts
theorem tok_root {g : Gd} {t : Tre} {r : Rf} (h : TOk g t) (hr : t.rt = some r) : g.K r.sec ≠ none := by
  obtain ⟨_, _, hh, U, hs⟩ := h.sh hr
  obtain ⟨ks, hk, _⟩ := sh_known hs _ (sh_root hs)
  rw [hk]; simp
theorem TsOk.clone {S : St} {ts : List Tre} {t : Tre} (h : TsOk S ts) (ht : TOk S.g t) : TsOk (S.turn none t.rt) (t :: ts) := by
  refine ⟨fun s => ?_, turn_wf h.ok (fun r hr => tok_root ht hr), fun s hs => ?_, fun x hx => ?_⟩
  · rw [hold_cons]
    show S.E s + hdO t.rt s - hdO none s = hdO t.rt s + _
    rw [h.E]
    have : hdO none s = 0 := rfl
    omega
  · rcases h.tight s hs with h0 | h0
    · left
      show 0 < S.E s + hdO t.rt s - hdO none s
      have : hdO none s = 0 := rfl
      omega
    · exact .inr h0
  · rcases List.mem_cons.1 hx with rfl | hx
    · exact ht
    · exact h.each x hx
theorem TsOk.freed {S : St} {A B : List Tre} {t : Tre} {K : Kp} (h : TsOk S (A ++ t :: B)) (l : Less S.K (S.turn t.rt none).E K) (ll : Loose K (S.turn t.rt none).E fun _ => False) : FrQ S (A ++ B) ((S.turn t.rt none).withK K) := by
  have hE : ∀ s, (S.turn t.rt none).E s = hold (A ++ B) s := fun s => by
    show S.E s + hdO none s - hdO t.rt s = _
    rw [h.E, hold_mid]
    show hdO t.rt s + _ + 0 - _ = _
    omega
  have hw : (S.turn t.rt none).wf := turn_wf h.ok (fun r hr => by cases hr)
  refine ⟨rfl, rfl, rfl, rfl, fun D a => TsOk.agr a l.sub, hE, l.ok hw, ll.tight (l.ok hw), fun x hx => ?_⟩
  have hx' : x ∈ A ++ t :: B := by rcases List.mem_append.1 hx with hx | hx <;> simp [hx]
  exact (h.each x hx').less l (fun r hr => by rw [hE]; exact hold_at hx hr)
theorem TsOk.became {S : St} {A B : List Tre} {t o : Tre} {K : Kp} (h : TsOk S (A ++ t :: B)) (ho : TOk S.g o) (l : Less S.K (S.turn t.rt o.rt).E K) (ll : Loose K (S.turn t.rt o.rt).E fun _ => False) : FrQ S (A ++ ⟨t.p, o.rt, o.kv⟩ :: B) ((S.turn t.rt o.rt).withK K) := by
  have hw : (S.turn t.rt o.rt).wf := turn_wf h.ok (fun r hr => tok_root ho hr)
  have ht : TOk S.g ⟨t.p, o.rt, o.kv⟩ := ho
  have := h.settled (t' := ⟨t.p, o.rt, o.kv⟩) (K := K) rfl (Gd.le_refl _) h.ok ht (l.swept (ll.tight (l.ok hw)))
  exact ⟨rfl, rfl, rfl, rfl, fun D a => TsOk.agr a l.sub, this⟩
section
variable {X : Cx} {e : Env} {L A : List Assn} {S : List Nat} {ops : Array Oper} {k : Nat} {l : List Oper} {R : Act → World → Prop} {d : Nat} {T : TypeId} {pos : String} {af : Array Edge}
/-- a pointer is itself. -/
theorem r_pneR {t u E : TypeId} {n : Nat} {x y : Operand} {p : Addr} [tu : TUnd X.P t (.pointer E)] [ts : TSize X.P E n] (hx : ev e x = some (.pointer (some p))) (hy : ev e y = some (.pointer (some p)))
    (h : J X ((d, .bool false) :: e) L (sw X.P (Holds X.Φ A) S ops R (k + 1) l)) (hd : Nat.blt d X.n = true := by rfl) : J X e L (sw X.P (Holds X.Φ A) S ops R k (⟨some d, .binOp .neq t x y u, T, pos, af, none⟩ :: l)) :=
  r_pure rfl (fun a mt w => by
    have h2 : (binOp .neq t (.pointer (some p)) (.pointer (some p))).run X.P w = .ok (.bool false) w := by
      refine run_neq_by (b := true) rfl (fun d => ?_)
      simp only [Op.equalIn, Sem.run_bind, tu.run, Result.andThen_ok, ts.run]
      split
      · simp [sameAddr]
      · simp
    have h3 : eqGuard .neq t x y (.pointer (some p)) (.pointer (some p)) = pure () := rfl
    simp only [execOp, mt.ev hx, mt.ev hy, Sem.run_bind, h3, Sem.run_pure, h2, Result.andThen_ok]) hd h
end
theorem z35_one : ∀ v ∈ Value.pointer none :: (rcells Rf0 ++ [.bool false]), v.oneCell' = true := fun v hv => by
  rcases List.mem_cons.1 hv with rfl | hv
  · rfl
  · exact tc_one (ps := 0) (o := none) v (by simp only [tcells, List.mem_cons]; exact .inr hv)
attribute [local irreducible] cw sw J Exit.then Exit.inBlock Exit.noGoto bodyPost swG swL permL
theorem tclone_c (ps : Nat) (S : St) (t : Tre) (hw : oWt t.rt) (hk : ∀ r, t.rt = some r → S.K r.sec ≠ none) (hE : ∀ s, S.E s < 1000000000) (Φ : Base) :
    Sl.Fn Tryz.prog Φ F.mtree_Tree_Clone [ptr t.p] [tree t.p ps t.rt, store ps S] (fun _ : Nat => True) (fun x => ptr x) (fun x => [tree x ps t.rt, tree t.p ps t.rt, store ps (S.turn none t.rt)]) := by
  refine fo fun F => ?_
  repeat refine s1 ?_
  refine cl (made_c t.p ps t.rt Φ) ?_
  repeat refine s1 ?_
  refine r_loadW (vs := tcells ps t.rt) rfl (tc_len hw) rfl rfl ?_
  refine al (cs := .pointer none :: (rcells Rf0 ++ [.bool false])) (fun t3 => ?_)
  refine r_storeW (vs := tcells ps t.rt) rfl rfl (tc_len hw) (by rfl) tc_one rfl ?_
  repeat refine s1 ?_
  refine ld rfl (tc_has hw) ?_
  rcases hr : t.rt with _ | r
  · rw [Option.isSome_none]
    repeat refine s1 ?_
    rw [turn_none]
    exact f1 t3
  · rw [Option.isSome_some]
    rw [hr] at hw
    have hrw : r.wt := hw
    repeat refine s1 ?_
    refine r_loadA (vs := rcells r) (off := 1) rfl (by simp [hrw.sum.1]) (tc_root (o := some r)) rfl rfl ?_
    refine cl (shold_c ps S r hrw (hk r hr) (hE _) Φ) ?_
    rw [turn_up]
    repeat refine s1 ?_
    exact f1 t3
theorem tfree_c (ps : Nat) (S : St) (A B : List Tre) (t : Tre) (h : TsOk S (A ++ t :: B)) (Φ : Base) :
    Sl.Fn Tryz.prog Φ F.mtree_Tree_Free [ptr t.p] [tree t.p ps t.rt, store ps S] (FrQ S (A ++ B)) (fun _ => i64 0) (fun x => [tnull t.p, store ps x]) := by
  have ht := h.each t (by simp)
  have hw := oWt_of ht
  refine fo fun F => ?_
  repeat refine s1 ?_
  refine cl (made_c t.p ps t.rt Φ) ?_
  repeat refine s1 ?_
  refine ld rfl (tc_has hw) ?_
  repeat refine s1 ?_
  refine t_meet (σ := St) (fun _ => [(0, ptr t.p), (2, i64 0)]) (fun x => tree t.p ps t.rt :: store ps x :: F) (FrQ S (A ++ B)) ?_ (fun x hx => ?_)
  · rcases hr : t.rt with _ | r
    · rw [Option.isSome_none]
      repeat refine s1 ?_
      refine j_meet S ?_ ⟨rfl, rfl, trivial⟩ (by first | exact Le.ent | (dsimp only; exact Le.ent) | (dsimp only [List.cons_append, List.nil_append]; exact Le.ent) | (dsimp only [List.cons_append, List.nil_append]; simp only [List.take_zero, List.map_nil, List.flatMap_nil, List.length_nil]; exact Le.ent))
      have := h.freed (K := S.K)
      rw [hr, turn_none] at this
      exact this (Less.refl h.ok) (h.tight.loose h.ok)
    · rw [Option.isSome_some]
      rw [hr] at hw
      have hrw : r.wt := hw
      repeat refine s1 ?_
      refine r_loadA (vs := rcells r) (off := 1) rfl (by simp [hrw.sum.1]) (tc_root (o := some r)) rfl rfl ?_
      refine cx (sdrop_c ps S r (fun _ => False) hrw h.ok (by rw [h.E]; exact hold_at (by simp) hr) (h.tight.loose h.ok) Φ) (fun K hK => ?_)
      rw [turn_down] at hK ⊢
      repeat refine s1 ?_
      refine j_meet ((S.turn (some r) none).withK K) ?_ ⟨rfl, rfl, trivial⟩ (by first | exact Le.ent | (dsimp only; exact Le.ent) | (dsimp only [List.cons_append, List.nil_append]; exact Le.ent) | (dsimp only [List.cons_append, List.nil_append]; simp only [List.take_zero, List.map_nil, List.flatMap_nil, List.length_nil]; exact Le.ent))
      have := h.freed (K := K)
      rw [hr] at this
      exact this hK.1 hK.2
  · repeat refine s1 ?_
    refine r_build (cells := .pointer none :: (rcells Rf0 ++ [.bool false])) rfl (by rfl) rfl ?_
    repeat refine s1 ?_
    refine r_storeW (vs := .pointer none :: (rcells Rf0 ++ [.bool false])) rfl rfl (by rfl) (tc_len hw) z35_one rfl ?_
    repeat refine s1 ?_
    exact f1 x (hq := hx)
theorem tbecome_c (ps : Nat) (S : St) (A B : List Tre) (t o : Tre) (h : TsOk S (A ++ t :: B)) (ho : TOk S.g o) (hl : (A ++ t :: B).length ≤ 1000000) (Φ : Base) :
    Sl.Fn Tryz.prog Φ F.mtree_Tree_Become [ptr t.p, ptr o.p] [tree t.p ps t.rt, tree o.p ps o.rt, store ps S] (FrQ S (A ++ ⟨t.p, o.rt, o.kv⟩ :: B)) (fun _ => i64 0) (fun x => [tree t.p ps o.rt, tree o.p ps o.rt, store ps x]) := by
  have ht := h.each t (by simp)
  have hw := oWt_of ht
  have how := oWt_of ho
  have hlow := tre_low h hl
  refine fo fun F => ?_
  repeat refine s1 ?_
  refine cl (made_c t.p ps t.rt Φ) ?_
  repeat refine s1 ?_
  refine cl (made_c o.p ps o.rt Φ) ?_
  repeat refine s1 ?_
  refine r_pneR rfl rfl ?_
  repeat refine s1 ?_
  refine ld rfl (tc_has how) ?_
  repeat refine s1 ?_
  refine t_meet (σ := Unit) (fun _ => [(0, ptr t.p), (1, ptr o.p)]) (fun _ => tree t.p ps t.rt :: tree o.p ps o.rt :: store ps (S.turn none o.rt) :: F) (fun _ => True) ?_ (fun _ _ => ?_)
  · rcases hr : o.rt with _ | r
    · rw [Option.isSome_none]
      repeat refine s1 ?_
      rw [turn_none]
      exact j_meet () trivial ⟨rfl, rfl, trivial⟩ (by first | exact Le.ent | (dsimp only; exact Le.ent) | (dsimp only [List.cons_append, List.nil_append]; exact Le.ent) | (dsimp only [List.cons_append, List.nil_append]; simp only [List.take_zero, List.map_nil, List.flatMap_nil, List.length_nil]; exact Le.ent))
    · rw [Option.isSome_some]
      rw [hr] at how
      have hrw : r.wt := how
      repeat refine s1 ?_
      refine r_loadA (vs := rcells r) (off := 1) rfl (by simp [hrw.sum.1]) (tc_root (o := some r)) rfl rfl ?_
      refine cl (shold_c ps S r hrw (tok_root ho hr) (hlow.1 _) Φ) ?_
      rw [turn_up]
      repeat refine s1 ?_
      exact j_meet () trivial ⟨rfl, rfl, trivial⟩ (by first | exact Le.ent | (dsimp only; exact Le.ent) | (dsimp only [List.cons_append, List.nil_append]; exact Le.ent) | (dsimp only [List.cons_append, List.nil_append]; simp only [List.take_zero, List.map_nil, List.flatMap_nil, List.length_nil]; exact Le.ent))
  have hS1 : (S.turn none o.rt).wf := turn_wf h.ok (fun r hr => tok_root ho hr)
  have hE1 : ∀ s, S.E s ≤ (S.turn none o.rt).E s := fun s => by
    show S.E s ≤ S.E s + hdO o.rt s - hdO none s
    have : hdO none s = 0 := rfl
    omega
  have hT1 : Tight S.K (S.turn none o.rt).E := fun s hs => (h.tight s hs).imp (fun h0 => Nat.lt_of_lt_of_le h0 (hE1 s)) id
  repeat refine s1 ?_
  refine ld rfl (tc_has hw) ?_
  repeat refine s1 ?_
  refine t_meet (σ := St) (fun _ => [(0, ptr t.p), (1, ptr o.p)]) (fun x => tree t.p ps t.rt :: tree o.p ps o.rt :: store ps x :: F) (FrQ S (A ++ ⟨t.p, o.rt, o.kv⟩ :: B)) ?_ (fun x hx => ?_)
  · rcases hr : t.rt with _ | r
    · rw [Option.isSome_none]
      repeat refine s1 ?_
      refine j_meet (S.turn none o.rt) ?_ ⟨rfl, rfl, trivial⟩ (by first | exact Le.ent | (dsimp only; exact Le.ent) | (dsimp only [List.cons_append, List.nil_append]; exact Le.ent) | (dsimp only [List.cons_append, List.nil_append]; simp only [List.take_zero, List.map_nil, List.flatMap_nil, List.length_nil]; exact Le.ent))
      have := h.became (K := S.K) ho
      rw [hr] at this
      exact this (Less.refl hS1) (hT1.loose hS1)
    · rw [Option.isSome_some]
      rw [hr] at hw
      have hrw : r.wt := hw
      have hpos := hlow.2 r hr
      repeat refine s1 ?_
      refine r_loadA (vs := rcells r) (off := 1) rfl (by simp [hrw.sum.1]) (tc_root (o := some r)) rfl rfl ?_
      refine cx (sdrop_c ps (S.turn none o.rt) r (fun _ => False) hrw hS1 (Nat.lt_of_lt_of_le hpos (hE1 _)) (hT1.loose hS1) Φ) (fun K hK => ?_)
      rw [turn_down, turn_turn] at hK ⊢
      repeat refine s1 ?_
      refine j_meet ((S.turn (some r) o.rt).withK K) ?_ ⟨rfl, rfl, trivial⟩ (by first | exact Le.ent | (dsimp only; exact Le.ent) | (dsimp only [List.cons_append, List.nil_append]; exact Le.ent) | (dsimp only [List.cons_append, List.nil_append]; simp only [List.take_zero, List.map_nil, List.flatMap_nil, List.length_nil]; exact Le.ent))
      have := h.became (K := K) ho
      rw [hr] at this
      exact this hK.1 hK.2
  · repeat refine s1 ?_
    refine r_loadA (vs := rcells (oR o.rt)) (off := 1) rfl (by simp [how.sum.1]) tc_root rfl rfl ?_
    repeat refine s1 ?_
    refine ld rfl (tc_has how) ?_
    repeat refine s1 ?_
    refine r_storeA (cs' := ptr ps :: (rcells (oR o.rt) ++ [.bool t.rt.isSome])) (vs := rcells (oR o.rt)) (off := 1) rfl rfl (by simp [how.sum.1]) (by rw [tc_len hw]; omega) (by simp [Value.oneCell']) (tc_setroot hw how) rfl ?_
    repeat refine s1 ?_
    refine so (hl := tc_sethas how) rfl rfl ?_ (ho := by simp [how.sum.1])
    repeat refine s1 ?_
    exact f1 x (hq := hx)
end Go.Proofs.YtcnpkmdooekmgaaGreatDoor
namespace Go.Proofs.YtcnpkmdooekmgaaGreatDoor
open Go Sl
abbrev dnN (D : Dk) (m : Nd) : Nd := if D.down then nd0 else m
abbrev dnE (D : Dk) : Nat := if D.down then 30 else 0
/-- a value that may not be there. -/
abbrev gotV (o : Option (List Nat)) (e : Nat) : Value := .tuple #[v44 (o.getD z44), .bool o.isSome, i64 e]
/-- at the end of a search in a leaf. -/
theorem below_hit {kv : KV} {k : Nat} (hs : Srt kv) : get? k kv = if k ∈ kv.map (·.1) then (kv.map (·.2))[below (kv.map (·.1)) k]? else none := by
  induction kv with
  | nil => rfl
  | cons a l ih =>
    obtain ⟨h1, h2⟩ := List.pairwise_cons.1 hs
    obtain ⟨j, w⟩ := a
    by_cases hj : j = k
    · subst hj
      have h0 : below (((j, w) :: l).map (·.1)) j = 0 := by
        rw [below, List.countP_eq_zero]
        intro x hx
        rcases List.mem_cons.1 hx with rfl | hx
        · simp
        · obtain ⟨y, hy, rfl⟩ := List.mem_map.1 hx
          have := h1 y hy
          simp at this ⊢; omega
      rw [h0]
      simp [get?]
    · have hj' : ¬ k = j := fun e => hj e.symm
      have hg : get? k ((j, w) :: l) = get? k l := by simp [get?, hj']
      rw [hg, ih h2]
      by_cases hm : k ∈ l.map (·.1)
      · have hlt : j < k := by
          obtain ⟨y, hy, rfl⟩ := List.mem_map.1 hm
          exact h1 y hy
        have hb : below (((j, w) :: l).map (·.1)) k = below (l.map (·.1)) k + 1 := by
          simp [below, hlt]
        rw [if_pos hm, if_pos (by simp; exact .inr (by simpa using hm)), hb]
        rfl
      · rw [if_neg hm, if_neg (by simp only [List.map_cons, List.mem_cons, not_or]; exact ⟨fun h => hj h.symm, hm⟩)]
attribute [local irreducible] cw sw J Exit.then Exit.inBlock Exit.noGoto bodyPost swG swL permL
theorem tload_c (ps N : Nat) (S : St) (D : Dk) (r : Rf) (m : Nd) (hr : r.wt) (hS : S.wf) (hK : S.K r.sec ≠ none) (hm : m.right) (hw : m.wt) (hsec : S.sec r.sec = m.enc) (hsum : r.sum = shaM m.enc) (ha : Agr S D) (hN : N ≤ 900000000) (Φ : Base) :
    Sl.Fn Tryz.prog Φ F.shadow_Store_Load [ptr ps, .agg (rcells r).toArray] [store ps S, disk S.pd D, hlog S.pl N] (fun _ : NR => True) (fun y => .tuple #[nV (dnN D m) y, i64 (dnE D)])
      (fun y => [store ps S, disk S.pd D, hlog S.pl (N + 1), node (dnN D m) y]) := by
  have hrg := hS.rng _ hK
  unfold dnN dnE
  rcases hd : D.down with _ | _
  · have := sload_s ps N S D r m hr hrg.1 hrg.2 hm hw (by rw [ha.sec _ hK]; exact hsec) ha.size hd hN Φ
    simp only [ldN, if_pos hsum.symm] at this
    simpa only [Bool.false_eq_true, if_false] using this
  · simp only [if_true]
    refine Fn.conseq (Fn.frame (sload_d ps S D r hr hrg.1 hrg.2 hd Φ) [hlog S.pl N]) (fun F _ _ s => s) (fun _ _ => ⟨nr0, trivial, rfl, fun F => ?_⟩)
    dsimp only [List.cons_append, List.nil_append]
    exact Ent.trans (Le.ent (A := hlog S.pl N :: store ps S :: disk S.pd D :: node nd0 nr0 :: F)) ((hlogUp (N' := N + 1) (by omega) _).trans Le.ent)
theorem tget_c (ps pd pl N k : Nat) (S : St) (D : Dk) (t : Tre) (_hk : k < 18446744073709551616) (ht : TOk S.g t) (hS : S.wf) (ha : Agr S D) (hN : N ≤ 600000000) (hkv : t.kv.length ≤ 1000000) (hpd : S.pd = pd) (hpl : S.pl = pl) (Φ : Base) :
    Sl.Fn Tryz.prog Φ F.mtree_Tree_Get [ptr t.p, w64 k] [tree t.p ps t.rt, store ps S, disk pd D, hlog pl N] (fun _ : Unit => True) (fun _ => if t.rt.isSome ∧ D.down = true then gotV none 30 else gotV (get? k t.kv) 0) (fun _ => [tree t.p ps t.rt, store ps S, disk pd D, hlog pl (N + 200)]) := by
  obtain rfl := hpd
  obtain rfl := hpl
  have hw := oWt_of ht
  refine fo fun F => ?_
  repeat refine s1 ?_
  refine al (cs := z44.map u8) (fun t4 => ?_)
  repeat refine s1 ?_
  refine al (cs := z44.map u8) (fun t7 => ?_)
  repeat refine s1 ?_
  refine cl (made_c t.p ps t.rt Φ) ?_
  repeat refine s1 ?_
  refine ld rfl (tc_has hw) ?_
  rcases hrt : t.rt with _ | r0
  · rw [Option.isSome_none]
    have hkv0 := ht.nil hrt
    repeat refine s1 ?_
    refine r_storeW (vs := z44.map u8) rfl rfl (by rfl) (by rfl) (by simp [Value.oneCell']) rfl ?_
    repeat refine s1 ?_
    refine jh [hlog S.pl N] (j_ent (hlogUp (N' := N + 200) (by omega) _) ?_)
    exact j_fin rfl (.cons (rv_agg (l := z44.map u8) (fr := (0, 0)) rfl (by rfl)) (.cons (rv_tmp rfl) (.cons (rv_tmp rfl) .nil))) () (by rw [if_neg (by simp), hkv0]; rfl) trivial
  · rw [Option.isSome_some]
    rw [hrt] at hw
    have hrw : r0.wt := hw
    obtain ⟨hsrt, hne, H, U, hsh⟩ := ht.sh hrt
    have hh10 := pow_small (sh_size hsh).2 hkv
    repeat refine s1 ?_
    refine r_loadA (vs := rcells r0) (off := 1) rfl (by simp [hrw.sum.1]) (tc_root (o := some r0)) rfl rfl ?_
    refine al (cs := rcells Rf0) (fun t8 => ?_)
    refine r_storeW (vs := rcells r0) rfl rfl (by simp [hrw.sum.1]) (by rfl) (by simp [Value.oneCell']) rfl ?_
    repeat refine s1 ?_
    refine t_loop (σ := Nat × Rf × Nat) (fun z => [(8, ptr z.2.2), (7, ptr t7), (4, ptr t4), (0, ptr t.p), (1, w64 k), (5, .bool false), (6, i64 0)])
      (fun z => pt z.2.2 (.cells (rcells z.2.1).toArray T.api_Ref (0, 0)) :: pt t7 (.cells (z44.map u8).toArray T.a44_uint8 (0, 0)) :: pt t4 (.cells (z44.map u8).toArray T.a44_uint8 (0, 0)) :: tree t.p ps (some r0) :: store ps S :: disk S.pd D :: hlog S.pl (N + (H - z.1)) :: F)
      (fun z => z.1 ≤ H ∧ ∃ lo kv' U, Sh S.g lo z.1 z.2.1 kv' U ∧ Srt kv' ∧ get? k kv' = get? k t.kv) (fun z => z.1) (H, r0, t8) ⟨Nat.le_refl _, 1, t.kv, U, hsh, hsrt, rfl⟩ ⟨rfl, rfl, rfl, rfl, rfl, rfl, rfl, trivial⟩ (by dsimp only; rw [Nat.sub_self, Nat.add_zero]; exact Le.ent) ?_
    rintro ⟨h, r, t8⟩ ⟨hle, lo, kv, U, hsh, hs, hg⟩
    dsimp only at hle hsh hs hg ⊢
    obtain ⟨hr, m, V, hn, hmr, hlo, hsec, hsum, hK, rfl⟩ := hsh
    have hmw := nsh_wt hn
    repeat refine s1 ?_
    refine t_meet (σ := NR × Nat) (fun z => [(9, ptr z.2), (10, i64 (dnE D)), (8, ptr t8), (7, ptr t7), (4, ptr t4), (0, ptr t.p), (1, w64 k), (5, .bool false), (6, i64 0)])
      (fun z => pt z.2 (.cells (nbx (dnN D m) z.1).toArray T.node_Node (0, 0)) :: node (dnN D m) z.1 :: pt t8 (.cells (rcells r).toArray T.api_Ref (0, 0)) :: pt t7 (.cells (z44.map u8).toArray T.a44_uint8 (0, 0)) :: pt t4 (.cells (z44.map u8).toArray T.a44_uint8 (0, 0)) :: tree t.p ps (some r0) :: store ps S :: disk S.pd D :: hlog S.pl (N + (H - h) + 1) :: F) (fun _ => True) ?_ ?_
    · have HA : ∀ y : NR, True := fun _ => trivial
      refine t_draw2 [tree t.p ps (some r0), pt t8 (.cells (rcells r).toArray T.api_Ref (0, 0))] [3, 4] 5 9 [9, 0, 1, 2, 3, 4, 5, 6, 7, 8, 10, 11] mixed (by decide +kernel) ?_ ?_
      · repeat refine s1 ?_
        refine s_loadW (vs := rcells r) rfl (by simp [hr.sum.1]) rfl rfl ?_
        repeat refine s1 ?_
        refine cx (tload_c ps (N + (H - h)) S D r m hr hS (by rw [show S.K r.sec = S.g.K r.sec from rfl, hK]; simp) hmr hmw hsec hsum ha (by omega) Φ) (fun y _ => ?_)
        generalize hmm : dnN D m = m2
        repeat refine s1 ?_
        refine al (cs := nbx nd0 nr0) (fun t9 => ?_)
        repeat refine s1 ?_
        refine r_storeW (vs := nbx m2 y) rfl rfl (by rfl) (by rfl) (by simp [Value.oneCell']) rfl ?_
        repeat refine s1 ?_
        rw [← hmm]
        exact j_meet (y, t9) trivial ⟨rfl, rfl, rfl, rfl, rfl, rfl, rfl, rfl, rfl, trivial⟩ (by first | exact Le.ent | (dsimp only; exact Le.ent) | (dsimp only [List.cons_append, List.nil_append]; exact Le.ent) | (dsimp only [List.cons_append, List.nil_append]; simp only [List.take_zero, List.map_nil, List.flatMap_nil, List.length_nil]; exact Le.ent))
      · repeat refine s1 ?_
        refine al (cs := nbx nd0 nr0) (fun t9 => ?_)
        repeat refine s1 ?_
        refine s_loadW (vs := rcells r) rfl (by simp [hr.sum.1]) rfl rfl ?_
        repeat refine s1 ?_
        refine cx (tload_c ps (N + (H - h)) S D r m hr hS (by rw [show S.K r.sec = S.g.K r.sec from rfl, hK]; simp) hmr hmw hsec hsum ha (by omega) Φ) (fun y _ => ?_)
        generalize hmm : dnN D m = m2
        repeat refine s1 ?_
        refine r_storeW (vs := nbx m2 y) rfl rfl (by rfl) (by rfl) (by simp [Value.oneCell']) rfl ?_
        repeat refine s1 ?_
        rw [← hmm]
        exact j_meet (y, t9) trivial ⟨rfl, rfl, rfl, rfl, rfl, rfl, rfl, rfl, rfl, trivial⟩ (by first | exact Le.ent | (dsimp only; exact Le.ent) | (dsimp only [List.cons_append, List.nil_append]; exact Le.ent) | (dsimp only [List.cons_append, List.nil_append]; simp only [List.take_zero, List.map_nil, List.flatMap_nil, List.length_nil]; exact Le.ent))
    rintro ⟨y, t9⟩ _
    rcases hd : D.down with _ | _
    · unfold dnN dnE
      simp only [hd, Bool.false_eq_true, if_false]
      repeat refine s2 ?_
      cases h with
      | zero =>
        obtain ⟨rfl, rfl, hok⟩ := hn
        have hkl : kv.length ≤ 9 := by have := (hmr.leaf rfl).2.1; simpa [leafN] using this
        rw [show (leafN kv).leaf = true from rfl, Bool.not_true]
        have hkeys : (leafN kv).keys = kv.map (·.1) := rfl
        repeat refine s1 ?_
        refine cl (find_c (leafN kv) y k hmr.rise (by simp [leafN]; omega) Φ) ?_
        have hbl := below_hit (k := k) hs
        rw [hg] at hbl
        by_cases hm : k ∈ kv.map (·.1)
        · rw [hkeys, decide_eq_true hm]
          rw [if_pos hm] at hbl
          have hlt : below (kv.map (·.1)) k < kv.length := by
            rcases Nat.lt_or_ge (below (kv.map (·.1)) k) kv.length with h0 | h0
            · exact h0
            · rw [List.getElem?_eq_none (by simpa using h0)] at hbl
              rw [← hg] at hbl
              exact absurd hm (get_iff.1 hbl)
          generalize below (kv.map (·.1)) k = i at hbl hlt ⊢
          have hil : i < (leafN kv).vals.length := by simpa [leafN] using hlt
          have hvi : (leafN kv).vals[i]? = get? k t.kv := hbl.symm
          obtain ⟨u, hu⟩ : ∃ u, (leafN kv).vals[i]? = some u := ⟨_, List.getElem?_eq_getElem hil⟩
          have hgu : get? k t.kv = some u := by rw [← hvi, hu]
          have hul : u.length = 44 := (hmw.vals u (List.mem_of_getElem? hu)).1
          have hxs : ∀ (j : Nat) (v : Value), (u.map u8)[j]? = some v → ((leafN kv).vals.flatMap fun v => v.map u8)[i * 44 + j]? = some v := fun j v hv => by
            have hj := (List.getElem?_eq_some_iff.1 hv).1
            rw [flat_in (f := fun v : List Nat => v.map u8) (c := 44) (fun z hz => by simpa using (hmw.vals z hz).1) hu (by simpa [hul] using hj)]
            exact hv
          refine jh [node (leafN kv) y] (j_ent (Ent.unnode _) ?_)
          refine jh [valsA (leafN kv) y] (j_leni (fun _ _ hka => ?_))
          obtain ⟨kb, ko, hkb⟩ := hka (by omega)
          obtain ⟨mka, mkc, mva, mvc, mra, mrc⟩ := y
          dsimp only at hkb
          subst hkb
          dsimp only
          repeat refine s1 ?_
          refine ix rfl rfl hil ?_
          refine r_loadIA (off := ko) (n := (leafN kv).vals.length) (cap := mvc) (E := T.a44_uint8) (s := 44) (xs := (leafN kv).vals.flatMap fun v => v.map u8) (vs := u.map u8) rfl (j := i * 44) (by omega) (by simp [hul]) hxs rfl rfl ?_
          repeat refine s1 ?_
          refine r_storeW (vs := u.map u8) rfl rfl (by simp [hul]) (by rfl) (by simp [Value.oneCell']) rfl ?_
          repeat refine s1 ?_
          refine jh [hlog S.pl (N + (H - 0) + 1)] (j_ent (hlogUp (N' := N + 200) (by omega) _) ?_)
          exact j_fin rfl (.cons (rv_agg (l := u.map u8) (fr := (0, 0)) rfl (by simp [hul])) (.cons (rv_tmp rfl) (.cons (rv_tmp rfl) .nil))) () (by rw [if_neg (by simp), hgu]; rfl) trivial
        · rw [hkeys, decide_eq_false hm]
          rw [if_neg hm] at hbl
          repeat refine s1 ?_
          refine r_storeW (vs := z44.map u8) rfl rfl (by rfl) (by rfl) (by simp [Value.oneCell']) rfl ?_
          repeat refine s1 ?_
          refine jh [hlog S.pl (N + (H - 0) + 1)] (j_ent (hlogUp (N' := N + 200) (by omega) _) ?_)
          exact j_fin rfl (.cons (rv_agg (l := z44.map u8) (fr := (0, 0)) rfl (by rfl)) (.cons (rv_tmp rfl) (.cons (rv_tmp rfl) .nil))) () (by rw [if_neg (by simp), hbl]; rfl) trivial
      | succ h =>
        have hlf : m.leaf = false := nsh_leaf hn
        have hwh : m.keys.length ≤ 11 := hmr.most
        obtain ⟨cs, hmi, hkv', hV, hcs⟩ := nsh_succ.1 hn
        have hrise := hmr.rise
        have hrl : m.kids.length = cs.length := by rw [hmi]; simp [inner]
        have hpos : 2 ≤ cs.length := by have := (hmr.inner hlf).1; have : m.keys.length = cs.length := (by rw [hmi]; simp [inner]); omega
        obtain ⟨A, c, B, hcut, hAl, hc1, hc2⟩ := way_cut (k := k) (cs := cs) (by intro e; rw [e] at hpos; simp at hpos) (by have := hrise; rw [hmi] at this; exact this)
        have hwk : way m.keys k = A.length := by rw [hAl, hmi]; rfl
        have hcc := hcs c (by rw [hcut]; simp)
        have hsrt' := hs
        rw [hkv', hcut] at hsrt'
        obtain ⟨hsA, hsB⟩ := way_sides (k := k) hsrt' (fun d hd => (hcs d (by rw [hcut]; exact hd)).1) hc1 hc2
        have hkid : m.kids[A.length]? = some c.rf := by rw [hmi, hcut]; simp [inner]
        have hAlt : A.length < m.kids.length := by rw [hrl, hcut]; simp
        have hkid2 : m.kids[A.length] = c.rf := by have := (List.getElem?_eq_some_iff.1 hkid).2; exact this
        rw [hlf, Bool.not_false]
        refine jh [node m y] (j_ent (Ent.unnode _) ?_)
        refine jh [kidsA m y] (j_leni (fun _ _ hka => ?_))
        obtain ⟨kb, ko, hkb⟩ := hka (by omega)
        obtain ⟨mka, mkc, mva, mvc, mra, mrc⟩ := y
        dsimp only at hkb
        subst hkb
        repeat refine s1 ?_
        refine t_draw [pt t9 (.cells (nbx m ⟨mka, mkc, mva, mvc, some ⟨kb, ko, none⟩, mrc⟩).toArray T.node_Node (0, 0))] [1, 2] mixed (by decide +kernel) ?_
        repeat refine s1 ?_
        refine cl (way_c m ⟨mka, mkc, mva, mvc, some ⟨kb, ko, none⟩, mrc⟩ k hrise (by omega) Φ) ?_
        rw [hwk]
        dsimp only
        refine ix rfl rfl hAlt ?_
        refine r_loadIA (off := ko) (n := m.kids.length) (cap := mrc) (E := T.api_Ref) (s := 33) (xs := m.kids.flatMap rcells) (vs := rcells c.rf) rfl (j := A.length * 33) (by omega) (by simp [hcc.2.1.sum.1]) (by
          have := kid_at hmw hAlt
          rw [hkid2] at this; exact this) rfl rfl ?_
        refine r_storeW (vs := rcells c.rf) rfl rfl (by simp [hcc.2.1.sum.1]) (by simp [hr.sum.1]) (by simp [Value.oneCell']) rfl ?_
        repeat refine s1 ?_
        refine r_loadW (vs := rcells c.rf) rfl (by simp [hcc.2.1.sum.1]) rfl rfl ?_
        repeat refine s1 ?_
        refine al (cs := rcells Rf0) (fun t8' => ?_)
        refine r_storeW (vs := rcells c.rf) rfl rfl (by simp [hcc.2.1.sum.1]) (by rfl) (by simp [Value.oneCell']) rfl ?_
        repeat refine s1 ?_
        exact j_again (h, c.rf, t8') ⟨by omega, 4, c.kv, c.U, hcc.2, srt_mid hsrt', by
          rw [← hg, hkv', hcut]
          exact (get_mid hsA hsB).symm⟩ (Nat.lt_succ_self h) ⟨rfl, rfl, rfl, rfl, rfl, rfl, rfl, trivial⟩ (by
          dsimp only
          rw [show N + (H - (h + 1)) + 1 = N + (H - h) by omega]
          exact Le.ent)
    · unfold dnN dnE
      simp only [hd, if_true]
      repeat refine s2 ?_
      refine r_storeW (vs := z44.map u8) rfl rfl (by rfl) (by rfl) (by simp [Value.oneCell']) rfl ?_
      repeat refine s1 ?_
      refine jh [hlog S.pl (N + (H - h) + 1)] (j_ent (hlogUp (N' := N + 200) (by omega) _) ?_)
      exact j_fin rfl (.cons (rv_agg (l := z44.map u8) (fr := (0, 0)) rfl (by rfl)) (.cons (rv_tmp rfl) (.cons (rv_tmp rfl) .nil))) () (by rw [if_pos (by simp)]; rfl) trivial
end Go.Proofs.YtcnpkmdooekmgaaGreatDoor
namespace Go.Proofs.YtcnpkmdooekmgaaGreatDoor
open Go Sl
abbrev yl (l : Nat) : Value := .func (.yield l) #[] #[]
theorem Ent.mid (A : List Assn) (z : Assn) (B : List Assn) : Ent (A ++ z :: B) (z :: (A ++ B)) := by
  induction A with
  | nil => exact Ent.refl _
  | cons a A ih => exact (Ent.cons a ih).trans (Ent.swap _ _ _)
theorem Ent.unmid (A : List Assn) (z : Assn) (B : List Assn) : Ent (z :: (A ++ B)) (A ++ z :: B) := by
  induction A with
  | nil => exact Ent.refl _
  | cons a A ih => exact (Ent.swap _ _ _).trans (Ent.cons a ih)
/-- what a call of yield does. -/
def Yd (P : Program) (Φ : Base) (l : Nat) (args : List Value) (Pre : Assn) (b : Bool) (Post : Assn) : Prop :=
  ∀ F w, Holds Φ (Pre :: F) w → upS P (fun v w' => v = .bool b ∧ Holds Φ (Post :: F) w') ((Instr.yield l args.toArray).run P w)
/-- an iterator's way: what comes of a state, and whether it came to the end. -/
def rounds {σ ξ : Type} (nxt : σ → ξ → σ) (go : σ → ξ → Bool) : σ → List ξ → σ × Bool
  | s, [] => (s, true)
  | s, x :: xs => if go s x then rounds nxt go (nxt s x) xs else (nxt s x, false)
abbrev fin2 {σ : Type} (B Bx : σ → Assn) (r : σ × Bool) : Assn := if r.2 then B r.1 else Bx r.1
/-- an iterator: it hands over xs, in order, till one answers 'no more'. -/
def SeqOk (P : Program) (Φ : Base) (gf : Nat) (lb : List Value) {ξ : Type} (enc : ξ → List Value) (xs : List ξ) (Pre : List Assn) {α : Type} (q : α → Prop) (Post : α → List Assn) : Prop :=
  ∀ (l : Nat) (σ : Type) (B Bx : σ → Assn) (nxt : σ → ξ → σ) (go : σ → ξ → Bool) (Iv : σ → List ξ → Prop), (∀ s x rem, Iv s (x :: rem) → Yd P Φ l (enc x) (B s) (go s x) (if go s x then B (nxt s x) else Bx (nxt s x))) → (∀ s x rem, Iv s (x :: rem) → go s x = true → Iv (nxt s x) rem) → ∀ s0, Iv s0 xs →
    Sl.Fn P Φ gf (yl l :: lb) (B s0 :: Pre) q (fun _ => .tuple #[]) (fun z => fin2 B Bx (rounds nxt go s0 xs) :: Post z)
def jcode : Exit → Code
  | .exit id => .exit id
  | _ => .ret
/-- how a round ends. -/
def RndQ (Φ : Base) (jx : Exit) (b : Bool) (G Gx : List Assn) : Exit → Act → World → Prop
  | .normal, _, w => b = true ∧ Holds Φ G w
  | .ret, _, w => jx = .ret ∧ b = false ∧ Holds Φ Gx w
  | .exit id, _, w => jx = .exit id ∧ b = false ∧ Holds Φ Gx w
  | _, _, _ => False
section
variable {X : Cx} {e : Env} {L : List Assn} {Q : Exit → Act → World → Prop}
theorem j_rnd {jx : Exit} {G Gx : List Assn} (hE : Ent L G) : J X e L (RndQ X.Φ jx true G Gx .normal) := fun _ _ _ hh => ⟨rfl, hh.ent hE⟩
theorem j_rnd_ret {G Gx : List Assn} (hE : Ent L Gx) : J X e L (RndQ X.Φ .ret false G Gx .ret) := fun _ _ _ hh => ⟨rfl, rfl, hh.ent hE⟩
theorem j_rnd_exit {id : Nat} {G Gx : List Assn} (hE : Ent L Gx) : J X e L (RndQ X.Φ (.exit id) false G Gx (.exit id)) := fun _ _ _ hh => ⟨rfl, rfl, hh.ent hE⟩
/-- the environment of a round. -/
def penv : List Nat → List Value → Env → Env
  | p :: ps, v :: vs, e => penv ps vs ((p, v) :: e)
  | _, _, e => e
theorem penv_mt {n : Nat} : ∀ (ps : List Nat) (vs : List Value) (e : Env) (tmps : Array Value), (∀ p ∈ ps, Nat.blt p n = true) → Mt [] n e { tmps := tmps, defers := [] } →
    Mt [] n (penv ps vs e) { tmps := (ps.zip vs).foldl (fun t (p : Nat × Value) => t.setIfInBounds p.1 p.2) tmps, defers := [] }
  | [], _, e, tmps, _, m => by simpa [penv] using m
  | _ :: _, [], e, tmps, _, m => by simpa [penv] using m
  | p :: ps, v :: vs, e, tmps, hp, m => by
    have h1 := Mt.put (v := v) m (hp p (by simp))
    have := penv_mt ps vs ((p, v) :: e) (tmps.setIfInBounds p v) (fun p' h => hp p' (by simp [h])) h1
    simpa [penv] using this
theorem t_range {σ ξ ζ : Type} {g : Operand} {gf : Nat} {lb : List Value} {ps : List Nat} {asg body : Code} {enc : ξ → List Value} {xs : List ξ} {Pre R : List Assn} {α : Type} {q : α → Prop} {Post : α → List Assn} [tf : TFn X.P gf]
    (hg : ev e g = some (.func (.func gf) #[] lb.toArray)) (hseq : SeqOk X.P X.Φ gf lb enc xs Pre q Post)
    (B Bx : σ → Assn) (nxt : σ → ξ → σ) (go : σ → ξ → Bool) (Iv : σ → List ξ → Prop) (hIv : ∀ s x rem, Iv s (x :: rem) → go s x = true → Iv (nxt s x) rem) (jx : Exit) (hjx : jx = .ret ∨ ∃ id, jx = .exit id) (s0 : σ) (hI0 : Iv s0 xs) (E : σ → ξ → ζ → Env) (M : σ → ξ → ζ → List Assn)
    (hL : Ent L (B s0 :: (Pre ++ R)))
    (hps : ∀ x, (enc x).length = ps.length) (hpn : ∀ p ∈ ps, Nat.blt p X.n = true) (hra : noR asg = true) (hrb : noR body = true)
    (hasg : ∀ s x rem, Iv s (x :: rem) → ∀ F, J ⟨X.P, X.Φ, X.n, []⟩ (penv ps (enc x) e) (B s :: F) (cw X.P asg (Meet ⟨X.P, X.Φ, X.n, []⟩ (E s x) (fun z => M s x z ++ F) (fun _ => True) (fun _ _ _ => False))))
    (hbody : ∀ s x rem, Iv s (x :: rem) → ∀ z F, J ⟨X.P, X.Φ, X.n, []⟩ (E s x z) (M s x z ++ F) (cw X.P body (RndQ X.Φ jx (go s x) (B (nxt s x) :: F) (Bx (nxt s x) :: F))))
    (hend : ∀ D z, q z → (rounds nxt go s0 xs).2 = true → J ⟨X.P, X.Φ, X.n, { target := .collected D, args := #[] } :: X.ds⟩ e (pt D (.deferred (some [])) :: B (rounds nxt go s0 xs).1 :: (Post z ++ R)) (Q .normal))
    (hstop : ∀ D z, q z → (rounds nxt go s0 xs).2 = false → J ⟨X.P, X.Φ, X.n, { target := .collected D, args := #[] } :: X.ds⟩ e (pt D (.deferred (some [])) :: Bx (rounds nxt go s0 xs).1 :: (Post z ++ R)) (Q jx)) :
    J X e L (cw X.P (Code.rangeFunc g ps.toArray asg body) Q) := fun a w m hh ro hr => by
  obtain rfl := hr.resolve_right (by simp [noR])
  refine wpIn_rangeFunc ?_
  intro fn hfn
  obtain ⟨rec, hrec⟩ : ∃ rec : LoopState → Option Code → Loop, rec = fun st pe => { state := st, pending := pe, fn, tmps := a.tmps, params := ps.toArray, assign := asg, body, defers := w.heap.size } := ⟨_, rfl⟩
  obtain ⟨W1, hW1⟩ : ∃ W1, (w.alloc (.deferred (some []))).alloc (.loop (rec .ready none)) = W1 := ⟨_, rfl⟩
  have hh1 : Holds X.Φ (pt (w.heap.size + 1) (.loop (rec .ready none)) :: pt w.heap.size (.deferred (some [])) :: L) W1 := by
    have h1 := hh.alloc (w' := w.alloc (.deferred (some []))) (.deferred (some [])) rfl rfl rfl rfl
    have h2 := h1.alloc (w' := W1) (.loop (rec .ready none)) (by rw [← hW1]; rfl) (by rw [← hW1]; rfl) (by rw [← hW1]; rfl) (by rw [← hW1]; rfl)
    rwa [World.size_alloc] at h2
  have hev : a.eval g = .func (.func gf) #[] lb.toArray := m.ev hg
  refine ⟨w.heap.size + 1, [{ target := .collected w.heap.size, args := #[] }], W1, { target := .fn (.func gf) lb.toArray, args := #[.func (.yield (w.heap.size + 1)) #[] #[]] }, W1, gf,
    #[.func (.yield (w.heap.size + 1)) #[] #[]] ++ lb.toArray, W1, ?_, ?_, fun f' _ => trivial, ?_, fun h => (by cases h), ?_⟩
  · rw [← hW1, hrec]; exact run_enterLoop_outer _ _ _ _ _
  · simp only [resolve, hev]
    simp [go_sem]
  · simp [invoke, go_sem, tf.run]
  · generalize hl : w.heap.size + 1 = l at hh1 ⊢
    generalize hD : w.heap.size = D at hh1 ⊢
    have hargs : #[.func (.yield l) #[] #[]] ++ lb.toArray = (yl l :: lb).toArray := by simp
    rw [hargs]
    have hY : ∀ s x rem, Iv s (x :: rem) → Yd X.P X.Φ l (enc x) (all [pt l (.loop (rec .ready none)), B s]) (go s x) (if go s x then all [pt l (.loop (rec .ready none)), B (nxt s x)] else all [pt l (.loop (rec .done (some (jcode jx)))), Bx (nxt s x)]) := by
      intro s x rem hx F w1 hw1
      have hw1 : Holds X.Φ (pt l (.loop (rec .ready none)) :: B s :: F) w1 := hw1.ent (Ent.all _ _)
      have hlw : w1.heap[l]? = some (.loop (rec .ready none)) := hw1.rd
      have hy := run_yield (P := X.P) (args := (enc x).toArray) hlw (by rw [hrec]; simpa using hps x)
      rw [hy]
      have hw1' : Holds X.Φ (B s :: pt l (.loop (rec .ready none)) :: F) w1 := hw1.ent (Ent.swap _ _ _)
      have hmt : Mt [] X.n (penv ps (enc x) e) { tmps := (((rec .ready none).params.zip (enc x).toArray).foldl (fun tmps (t, a) => tmps.setIfInBounds t a) (rec .ready none).tmps), defers := [] } := by
        have := penv_mt ps (enc x) e a.tmps hpn ⟨m.size, rfl, m.val⟩
        rw [hrec]
        simpa [Array.zip, List.zip, ← Array.foldl_toList] using this
      have hrt : RoundIn Fence.wide 0 X.P l fn (((rec .ready none).params.zip (enc x).toArray).foldl (fun tmps (t, a) => tmps.setIfInBounds t a) (rec .ready none).tmps) asg body w1
          (fun e' w' => ∃ v, e' = .returned v ∧ v = .bool (go s x) ∧ Holds X.Φ ((if go s x then all [pt l (.loop (rec .ready none)), B (nxt s x)] else all [pt l (.loop (rec .done (some (jcode jx)))), Bx (nxt s x)]) :: F) w') := by
        refine roundIn_of_wpIn trivial (wpIn_mono (hasg s x rem hx (pt l (.loop (rec .ready none)) :: F) _ w1 hmt hw1' (some l) (.inr hra)) ?_)
        intro x' a1 w2 hx'
        cases x' with
        | normal =>
          obtain ⟨z, _, hm1, hw2⟩ := hx'
          have hw2' := hw2.ent (Ent.mid _ _ _)
          have hl2 : w2.heap[l]? = some (.loop (rec .ready none)) := hw2'.rd
          refine ⟨_, run_beginRound hl2 (by rw [hrec]), ?_⟩
          have hlt : l < w2.heap.size := (Array.getElem?_eq_some_iff.1 hl2).1
          have hbz : ({ rec .ready none with state := .busy } : Loop) = rec .busy none := by rw [hrec]
          rw [hbz]
          have hw3 : Holds X.Φ (pt l (.loop (rec .busy none)) :: (M s x z ++ F)) (w2.putObj l (.loop (rec .busy none))) := hw2'.upd (World.putObj_heap_same hlt) (fun c hc => World.putObj_heap_other hc) rfl rfl rfl
          refine wpIn_mono (hbody s x rem hx z (pt l (.loop (rec .busy none)) :: F) a1 _ hm1 (hw3.ent (Ent.unmid _ _ _)) (some l) (.inr hrb)) ?_
          intro x2 a2 w4 h4
          have fin : ∀ (jump : Option Code) (G : Assn), Holds X.Φ (G :: pt l (.loop (rec .busy none)) :: F) w4 → ∃ w5, (Instr.endRound l jump).run X.P w4 = .ok (.bool jump.isNone) w5 ∧ Holds X.Φ (all [pt l (.loop (rec (if jump.isNone then .ready else .done) jump)), G] :: F) w5 := fun jump G hG => by
            have h5 := hG.ent (Ent.swap _ _ _)
            have hl5 : w4.heap[l]? = some (.loop (rec .busy none)) := h5.rd
            have hlt5 : l < w4.heap.size := (Array.getElem?_eq_some_iff.1 hl5).1
            refine ⟨_, run_endRound jump hl5, ?_⟩
            have he : ({ rec .busy none with state := if jump.isNone then .ready else .done, pending := jump } : Loop) = rec (if jump.isNone then .ready else .done) jump := by rw [hrec]
            rw [he]
            exact (h5.upd (o' := .loop (rec (if jump.isNone then .ready else .done) jump)) (World.putObj_heap_same hlt5) (fun c hc => World.putObj_heap_other hc) rfl rfl rfl).ent (Ent.unall [pt l (.loop (rec (if jump.isNone then .ready else .done) jump)), G] F)
          cases x2 with
          | normal =>
            obtain ⟨hb, h4⟩ := h4
            obtain ⟨w5, h6, h7⟩ := fin none _ h4
            exact ⟨_, _, h6, _, rfl, by rw [hb]; rfl, by rw [hb]; exact h7⟩
          | ret =>
            obtain ⟨hj, hb, h4⟩ := h4
            obtain ⟨w5, h6, h7⟩ := fin (some .ret) _ h4
            exact ⟨_, _, h6, _, rfl, by rw [hb]; rfl, by rw [hb, hj]; exact h7⟩
          | exit id =>
            obtain ⟨hj, hb, h4⟩ := h4
            obtain ⟨w5, h6, h7⟩ := fin (some (.exit id)) _ h4
            exact ⟨_, _, h6, _, rfl, by rw [hb]; rfl, by rw [hb, hj]; exact h7⟩
          | goto => exact h4.elim
          | panic => exact h4.elim
          | outgrown => exact h4.elim
        | exit => exact hx'.elim
        | ret => exact hx'.elim
        | goto => exact hx'.elim
        | panic => exact hx'.elim
        | outgrown => exact hx'.elim
      have hfx : (rec .ready none).fn = fn ∧ (rec .ready none).assign = asg ∧ (rec .ready none).body = body := by rw [hrec]; exact ⟨rfl, rfl, rfl⟩
      rw [hfx.1, hfx.2.1, hfx.2.2]
      exact hrt
    have hW : Holds X.Φ ((all [pt l (.loop (rec .ready none)), B s0] :: Pre) ++ (pt D (.deferred (some [])) :: R)) W1 := by
      refine hh1.ent ((Ent.cons _ (Ent.cons _ hL)).trans ((Ent.cons _ (Ent.swap _ _ _)).trans ((Ent.cons _ (Ent.cons _ (Ent.unmid _ _ _))).trans ?_)))
      exact Ent.unall [pt l (.loop (rec .ready none)), B s0] _
    refine (fen_calls none (hseq l σ (fun s => all [pt l (.loop (rec .ready none)), B s]) (fun s => all [pt l (.loop (rec .done (some (jcode jx)))), Bx s]) nxt go Iv hY hIv s0 hI0 (pt D (.deferred (some [])) :: R) W1 hW)).mono ?_
    rintro _ w3 ⟨z, hq, rfl, hw3⟩
    have hmt2 : Mt ({ target := .collected D, args := #[] } :: X.ds) X.n e { a with defers := [{ target := .collected D, args := #[] }] ++ a.defers } := ⟨m.size, by simp [m.defers], m.val⟩
    have hout : ∀ (st : LoopState) (pe : Option Code) (G : Assn), st ≠ .busy → Holds X.Φ ((all [pt l (.loop (rec st pe)), G] :: Post z) ++ (pt D (.deferred (some [])) :: R)) w3 → ∃ w4, (Instr.endLoop l).run X.P w3 = .ok pe w4 ∧ Holds X.Φ (pt D (.deferred (some [])) :: G :: (Post z ++ R)) w4 := fun st pe G hst hG => by
      have h5 : Holds X.Φ (pt l (.loop (rec st pe)) :: G :: (Post z ++ pt D (.deferred (some [])) :: R)) w3 := hG.ent (Ent.all [pt l (.loop (rec st pe)), G] _)
      have hl5 : w3.heap[l]? = some (.loop (rec st pe)) := h5.rd
      have hlt5 : l < w3.heap.size := (Array.getElem?_eq_some_iff.1 hl5).1
      have h6 := run_endLoop (P := X.P) hl5 (by rw [hrec]; exact hst)
      refine ⟨_, by rw [hrec] at h6; exact h6, ?_⟩
      have h7 : Holds X.Φ (pt l (.loop { rec st pe with state := .exhausted }) :: G :: (Post z ++ pt D (.deferred (some [])) :: R)) (w3.putObj l (.loop { rec st pe with state := .exhausted })) := h5.upd (World.putObj_heap_same hlt5) (fun c hc => World.putObj_heap_other hc) rfl rfl rfl
      rw [hrec] at h7
      exact h7.ent ((Ent.drop _ _).trans ((Ent.cons _ (Ent.mid _ _ _)).trans (Ent.swap _ _ _)))
    cases hr2 : (rounds nxt go s0 xs).2 with
    | true =>
      rw [fin2, hr2, if_pos rfl] at hw3
      obtain ⟨w4, h4, h5⟩ := hout .ready none _ (by simp) hw3
      exact ⟨none, w4, h4, hend D z hq hr2 _ w4 hmt2 h5⟩
    | false =>
      rw [fin2, hr2, if_neg (by simp)] at hw3
      obtain ⟨w4, h4, h5⟩ := hout .done (some (jcode jx)) _ (by simp) hw3
      refine ⟨some (jcode jx), w4, h4, ?_⟩
      have := hstop D z hq hr2 _ w4 hmt2 h5
      rcases hjx with rfl | ⟨id, rfl⟩
      · exact wpIn_ret this
      · exact wpIn_exit this
/-- a call of yield. -/
theorem r_yield {A : List Assn} {S : List Nat} {ops : Array Oper} {k : Nat} {lo : List Oper} {K : Act → World → Prop} {d : Nat} {T : TypeId} {pos : String} {af : Array Edge} {l : Nat} {x : Operand} {os : List Operand} {ts : Array TypeId} {vs : List Value} {Pre Post : Assn} {b : Bool} {F : List Assn}
    (hx : ev e x = some (yl l)) (hy : Yd X.P X.Φ l vs Pre b Post) [sp : Split [Pre] L F] [st : Stay A (Post :: F)]
    (h : J X ((d, .bool b) :: e) (Post :: F) (sw X.P (Holds X.Φ A) S ops K (k + 1) lo)) (hvs : evL e os = some vs := by rfl) (hs : S.contains k = false := by rfl) (hd : Nat.blt d X.n = true := by rfl) :
    J X e L (sw X.P (Holds X.Φ A) S ops K k (⟨some d, .call { callee := .value x, args := os.toArray, argTypes := ts }, T, pos, af, none⟩ :: lo)) :=
  r_write (α := Unit) (q := fun _ => True) (V := fun _ => .bool b) (M := fun _ => Post :: F) rfl (by simp only [cls, hs]; cases x <;> rfl) (blt_some hd) (fun _ => st) (fun a w m hh => by
    have h1 : os.toArray.map a.eval = vs.toArray := by rw [← m.evL hvs]; simp
    have h2 := hy F w (hh.ent sp.ent)
    have h3 : (execOp a.eval (⟨some d, .call { callee := .value x, args := os.toArray, argTypes := ts }, T, pos, af, none⟩ : Oper)).run X.P w = (Instr.yield l vs.toArray).run X.P w := by
      simp only [execOp, resolve, m.ev hx, h1]
      simp [Deferred.ofValue, invoke, go_sem]
    rw [h3]
    exact upS_mono (fun v w' ⟨h4, h5⟩ => ⟨(), trivial, h4, h5⟩) h2) (fun _ _ => h)
/-- a loop in which ranges over functions lay their marks. -/
def AgainD (X : Cx) {σ : Type} (ds : σ → List Deferred) (E : σ → Env) (M : σ → List Assn) (I : σ → Prop) (μ : σ → Nat) (s : σ) (a : Act) (w : World) : Prop :=
  ∃ s', (I s' ∧ Mt (ds s') X.n (E s') a ∧ Holds X.Φ (M s') w) ∧ μ s' < μ s
theorem t_loopD {σ : Type} {c : Code} (ds : σ → List Deferred) (E : σ → Env) (M : σ → List Assn) (I : σ → Prop) (μ : σ → Nat) (s : σ) (hs : I s) (hds : X.ds = ds s)
    (he : Sub (E s) e) (hm : Ent L (M s))
    (round : ∀ s, I s → J ⟨X.P, X.Φ, X.n, ds s⟩ (E s) (M s) (cw X.P c (Exit.then (AgainD X ds E M I μ s) Q))) : J X e L (cw X.P (Code.loop c) Q) := fun a w m hh ro hr =>
  wp_loop_by (fun s a w => I s ∧ Mt (ds s) X.n (E s) a ∧ Holds X.Φ (M s) w) μ ro (fun s a w ⟨h1, h2, h3⟩ => round s h1 a w h2 h3 ro hr) s a w
    ⟨hs, ⟨m.size, m.defers.trans hds, fun t v ht => m.val t v (he.lk t v ht)⟩, hh.ent hm⟩
theorem j_againD {σ : Type} {X0 : Cx} {ds : σ → List Deferred} {E : σ → Env} {M : σ → List Assn} {I : σ → Prop} {μ : σ → Nat} {s : σ} (s' : σ) (hs : I s') (hlt : μ s' < μ s) (hds : X.ds = ds s')
    (he : Sub (E s') e) (hm : Ent L (M s')) (hn : X.n = X0.n := by rfl) (hΦ : X.Φ = X0.Φ := by rfl) : J X e L (AgainD X0 ds E M I μ s) := fun _ _ m hh =>
  ⟨s', ⟨hs, ⟨m.size.trans hn, m.defers.trans hds, fun t v ht => m.val t v (he.lk t v ht)⟩, by rw [← hΦ]; exact hh.ent hm⟩, hlt⟩
/- a function that holds ranges over functions -/
def marks (Ds : List Nat) : List Deferred := Ds.map fun D => { target := .collected D, args := #[] }
def mkA (Ds : List Nat) : Assn := all (Ds.map fun D => pt D (.deferred (some [])))
theorem mkA_nil (L : List Assn) : Ent L (mkA [] :: L) := Ent.unall [] L
theorem mkA_cons (D : Nat) (Ds : List Nat) (L : List Assn) : Ent (pt D (.deferred (some [])) :: mkA Ds :: L) (mkA (D :: Ds) :: L) := (Ent.cons _ (Ent.all _ L)).trans (Ent.unall (pt D (.deferred (some [])) :: Ds.map fun D => pt D (.deferred (some []))) L)
theorem foM {P : Program} {Φ : Base} {f : FuncId} {fn : Func} {c : Code} {n : Nat} {args : List Value} {Pre : List Assn} {α : Type} {q : α → Prop} {V : α → Value} {Post : α → List Assn} {E : Env} {C : List Assn → List Assn}
    [tb : TBody P f fn n] [ae : AEnv args E] [ap : ∀ F, AppL Pre F (C F)] (h : ∀ F, J ⟨P, Φ, n, []⟩ E (C F) (cw P c (bodyPostM Fence.wide 0 P fn (PostR Φ q V Post F))))
    (hb : fn.body = some c := by rfl) (hl : Nat.ble args.length n = true := by rfl) : Sl.Fn P Φ f args Pre q V Post := fun F w hh =>
  callsIn_wide.1 (callsIn_of_wp_marks (n := 0) tb.hf hb trivial (h F _ w ⟨by have := Nat.le_of_ble_eq_true hl; rw [← tb.hn] at this ⊢; simp; omega, rfl, fun t v ht => by
    rw [← ae.eq] at ht
    obtain ⟨_, h2⟩ := argEnv_spec args 0 t v ht
    have hlt := (List.getElem?_eq_some_iff.1 h2).1
    simp only [Nat.sub_zero] at h2 hlt
    rw [Array.getElem?_append_left (by simpa using hlt)]
    simpa using h2⟩ (by rw [← (ap F).eq]; exact hh) none (.inl rfl)))
theorem leaveM {X : Cx} {fn : Func} {tmps : Array Value} {R : Ending → World → Prop} {L : List Assn} (h : ∀ w, Holds X.Φ L w → ∃ v, (results fn tmps).run X.P w = .ok v w ∧ R (.returned v) w) : ∀ (Ds : List Nat) (w : World), Holds X.Φ (mkA Ds :: L) w → LeavesInM Fence.wide 0 X.P fn tmps R (marks Ds) .returning w
  | [], w, hh => h w (hh.ent (Ent.drop _ _))
  | D :: Ds, w, hh => by
    have h1 : Holds X.Φ (pt D (.deferred (some [])) :: ((Ds.map fun D => pt D (.deferred (some []))) ++ L)) w := hh.ent (Ent.all (pt D (.deferred (some [])) :: Ds.map fun D => pt D (.deferred (some []))) L)
    have h2 : w.heap[D]? = some (.deferred (some [])) := h1.rd
    refine ⟨by simp, .inl ⟨D, _, rfl, run_takeDeferred h2, leaveM h Ds _ ?_⟩⟩
    have h3 : Holds X.Φ (pt D (.deferred none) :: ((Ds.map fun D => pt D (.deferred (some []))) ++ L)) (w.putObj D (.deferred none)) := h1.upd (World.putObj_heap_same (Array.getElem?_eq_some_iff.1 h2).1) (fun c hc => World.putObj_heap_other hc) rfl rfl rfl
    exact h3.ent ((Ent.drop _ _).trans (Ent.unall _ L))
theorem j_finM {X : Cx} {e : Env} {L F : List Assn} {fn : Func} {rs : List ResultVar} {vs : List Value} {α : Type} {q : α → Prop} {V : α → Value} {Post : α → List Assn} (Ds : List Nat) (hds : X.ds = marks Ds) (hr : fn.results = rs.toArray) (h : RvsOK X e L rs vs)
    (x : α) (hV : V x = pack vs) (hq : q x) [ft : Fits (Post x) F L] :
    J X e (mkA Ds :: L) (bodyPostM Fence.wide 0 X.P fn (PostR X.Φ q V Post F) .ret) := fun a w m hh => by
  show LeavesInM Fence.wide 0 X.P fn a.tmps _ a.defers .returning w
  rw [m.defers.trans hds]
  exact leaveM (fun w hw => ⟨pack vs, results_ok hr h m hw, x, hq, by rw [hV], hw.ent ft.ent⟩) Ds w hh
end
end Go.Proofs.YtcnpkmdooekmgaaGreatDoor
namespace Go.Proofs.YtcnpkmdooekmgaaGreatDoor
open Go Sl
abbrev encP (x : Nat × List Nat) : List Value := [.agg (w64 x.1 :: x.2.map u8).toArray]
abbrev filt (k : Nat) (kv : KV) : KV := kv.filter fun x => decide (k ≤ x.1)
theorem rounds_app {σ ξ : Type} (nxt : σ → ξ → σ) (go : σ → ξ → Bool) : ∀ (xs ys : List ξ) (s : σ), rounds nxt go s (xs ++ ys) = if (rounds nxt go s xs).2 then rounds nxt go (rounds nxt go s xs).1 ys else rounds nxt go s xs
  | [], ys, s => by simp [rounds]
  | x :: xs, ys, s => by
    simp only [List.cons_append, rounds]
    split
    · exact rounds_app nxt go xs ys _
    · simp
theorem rounds_inv {σ ξ : Type} {nxt : σ → ξ → σ} {go : σ → ξ → Bool} {Iv : σ → List ξ → Prop} (hst : ∀ s x rem, Iv s (x :: rem) → go s x = true → Iv (nxt s x) rem) {ys : List ξ} : ∀ {xs : List ξ} {s : σ}, Iv s (xs ++ ys) → (rounds nxt go s xs).2 = true → Iv (rounds nxt go s xs).1 ys
  | [], s, h, _ => h
  | x :: xs, s, h, hr => by
    simp only [rounds] at hr ⊢
    split at hr
    · rename_i hg
      rw [if_pos hg]
      exact rounds_inv hst (hst s x _ h hg) hr
    · cases hr
theorem filt_none {k : Nat} {kv : KV} (h : ∀ x ∈ kv, x.1 < k) : filt k kv = [] := List.filter_eq_nil_iff.2 fun x hx => by have := h x hx; simp; omega
theorem filt_app (k : Nat) (a b : KV) : filt k (a ++ b) = filt k a ++ filt k b := List.filter_append ..
/-- in a leaf: from where on. -/
theorem filt_drop {k : Nat} : ∀ {kv : KV}, Srt kv → filt k kv = kv.drop (below (kv.map (·.1)) k)
  | [], _ => rfl
  | a :: l, h => by
    obtain ⟨h1, h2⟩ := List.pairwise_cons.1 h
    by_cases hk : a.1 < k
    · have hb : below ((a :: l).map (·.1)) k = below (l.map (·.1)) k + 1 := by simp [below, hk]
      rw [hb, List.drop_succ_cons, ← filt_drop h2]
      simp [filt, show ¬ k ≤ a.1 by omega]
    · have hb : below ((a :: l).map (·.1)) k = 0 := by
        rw [below, List.countP_eq_zero]
        intro x hx
        rcases List.mem_cons.1 hx with rfl | hx
        · simpa using hk
        · obtain ⟨y, hy, rfl⟩ := List.mem_map.1 hx
          have := h1 y hy
          simp; omega
      rw [hb, List.drop_zero]
      refine List.filter_eq_self.2 fun x hx => ?_
      rcases List.mem_cons.1 hx with rfl | hx
      · simpa using hk
      · have := h1 x hx
        simp; omega
abbrev wkPre (bt br bf bk tp pf : Nat) (r : Rf) (k e : Nat) : List Assn := [pt bt (.cells [ptr tp].toArray T.p_mtree_Tree (0, 0)), pt br (.cells (rcells r).toArray T.api_Ref (0, 0)), pt bf (.cells [ptr pf].toArray T.p_api_Errno (0, 0)), pt bk (.cells [w64 k].toArray T.uint64 (0, 0)), pt pf (.cells [i64 e].toArray T.api_Errno (0, 0))]
instance : TAgg Tryz.prog 256 false := ⟨Go.Proofs.Tryz.isAgg256⟩
attribute [local irreducible] cw sw J Exit.then Exit.inBlock Exit.noGoto bodyPost swG swL permL
theorem walkf_c (tp pf k : Nat) (r : Rf) (Φ : Base) : Sl.Fn Tryz.prog Φ F.mtree_Tree_walk [ptr tp, .agg (rcells r).toArray, w64 k, ptr pf] [] (fun _ : Nat × Nat × Nat × Nat => True) (fun z => .func (.func 126) #[] [ptr z.1, ptr z.2.1, ptr z.2.2.1, ptr z.2.2.2].toArray)
    (fun z => [pt z.1 (.cells [ptr tp].toArray T.p_mtree_Tree (0, 0)), pt z.2.1 (.cells (rcells r).toArray T.api_Ref (0, 0)), pt z.2.2.1 (.cells [ptr pf].toArray T.p_api_Errno (0, 0)), pt z.2.2.2 (.cells [w64 k].toArray T.uint64 (0, 0))]) := by
  refine fo fun F => ?_
  repeat refine s1 ?_
  refine r_box (cs := [ptr tp]) rfl rfl rfl rfl (fun b4 => ?_)
  refine r_box (cs := rcells r) rfl rfl rfl rfl (fun b5 => ?_)
  refine r_box (cs := [w64 k]) rfl rfl rfl rfl (fun b6 => ?_)
  refine r_box (cs := [ptr pf]) rfl rfl rfl rfl (fun b7 => ?_)
  repeat refine s1 ?_
  refine mkf (vs := [ptr b4, ptr b5, ptr b7, ptr b6]) rfl ?_
  repeat refine s1 ?_
  exact f1 (b4, b5, b7, b6)
set_option maxHeartbeats 2000000 in
theorem walk_s (tp ps pf k : Nat) (o : Option Rf) (S : St) (D : Dk) (hS : S.wf) (ha : Agr S D) (Φ : Base) : ∀ (h N : Nat) (r : Rf) (lo : Nat) (kv : KV) (U : List Nat) (bt br bf bk : Nat), Sh S.g lo h r kv U → Srt kv → N + U.length ≤ 700000000 →
    SeqOk Tryz.prog Φ F.mtree_Tree_walk_c1 [ptr bt, ptr br, ptr bf, ptr bk] encP (if D.down then [] else filt k kv) (wkPre bt br bf bk tp pf r k 0 ++ [tree tp ps o, store ps S, disk S.pd D, hlog S.pl N]) (fun _ : Unit => True) (fun _ => wkPre bt br bf bk tp pf r k (dnE D) ++ [tree tp ps o, store ps S, disk S.pd D, hlog S.pl (N + U.length)]) := by
  intro h
  induction h using Nat.strongRecOn with
  | _ h ih =>
  intro N r lo kv U bt br bf bk hsh hs hN
  obtain ⟨hr, m, V, hn, hmr, hlo, hsec, hsum, hK, rfl⟩ := hsh
  have hmw := nsh_wt hn
  have hkvok := nsh_ok hn
  rw [List.length_cons] at hN
  intro l σ B Bx nxt go Iv hy hst s0 hI0
  refine foM fun F => ?_
  dsimp only [List.cons_append, List.nil_append]
  repeat refine s1 ?_
  refine r_box (cs := [yl l]) rfl rfl rfl rfl (fun t5 => ?_)
  repeat refine s1 ?_
  refine t_meet (σ := NR × Nat) (fun z => [(6, ptr z.2), (7, i64 (dnE D)), (5, ptr t5), (1, ptr bt), (2, ptr br), (3, ptr bf), (4, ptr bk)])
    (fun z => pt z.2 (.cells (nbx (dnN D m) z.1).toArray T.node_Node (0, 0)) :: node (dnN D m) z.1 :: pt t5 (.cells [yl l].toArray T.func_256 (0, 0)) :: B s0 :: (wkPre bt br bf bk tp pf r k 0 ++ tree tp ps o :: store ps S :: disk S.pd D :: hlog S.pl (N + 1) :: F)) (fun _ => True) ?_ ?_
  · refine t_draw2 [pt bt (.cells [ptr tp].toArray T.p_mtree_Tree (0, 0)), pt br (.cells (rcells r).toArray T.api_Ref (0, 0)), tree tp ps o] [0, 3, 4] 5 9 [9, 0, 1, 2, 3, 4, 5, 6, 7, 8, 10, 11] mixed (by decide +kernel) ?_ ?_
    · repeat refine s1 ?_
      refine s_loadW (vs := rcells r) rfl (by simp [hr.sum.1]) rfl rfl ?_
      repeat refine s1 ?_
      refine cx (tload_c ps N S D r m hr hS (by rw [show S.K r.sec = S.g.K r.sec from rfl, hK]; simp) hmr hmw hsec hsum ha (by omega) Φ) (fun y _ => ?_)
      generalize hmm : dnN D m = m2
      repeat refine s1 ?_
      refine al (cs := nbx nd0 nr0) (fun t9 => ?_)
      repeat refine s1 ?_
      refine r_storeW (vs := nbx m2 y) rfl rfl (by rfl) (by rfl) (by simp [Value.oneCell']) rfl ?_
      repeat refine s1 ?_
      rw [← hmm]
      exact j_meet (y, t9) trivial ⟨rfl, rfl, rfl, rfl, rfl, rfl, rfl, trivial⟩ (by first | exact Le.ent | (dsimp only; exact Le.ent) | (dsimp only [List.cons_append, List.nil_append]; exact Le.ent) | (dsimp only [List.cons_append, List.nil_append]; simp only [List.take_zero, List.map_nil, List.flatMap_nil, List.length_nil]; exact Le.ent))
    · repeat refine s1 ?_
      refine al (cs := nbx nd0 nr0) (fun t9 => ?_)
      repeat refine s1 ?_
      refine s_loadW (vs := rcells r) rfl (by simp [hr.sum.1]) rfl rfl ?_
      repeat refine s1 ?_
      refine cx (tload_c ps N S D r m hr hS (by rw [show S.K r.sec = S.g.K r.sec from rfl, hK]; simp) hmr hmw hsec hsum ha (by omega) Φ) (fun y _ => ?_)
      generalize hmm : dnN D m = m2
      repeat refine s1 ?_
      refine r_storeW (vs := nbx m2 y) rfl rfl (by rfl) (by rfl) (by simp [Value.oneCell']) rfl ?_
      repeat refine s1 ?_
      rw [← hmm]
      exact j_meet (y, t9) trivial ⟨rfl, rfl, rfl, rfl, rfl, rfl, rfl, trivial⟩ (by first | exact Le.ent | (dsimp only; exact Le.ent) | (dsimp only [List.cons_append, List.nil_append]; exact Le.ent) | (dsimp only [List.cons_append, List.nil_append]; simp only [List.take_zero, List.map_nil, List.flatMap_nil, List.length_nil]; exact Le.ent))
  rintro ⟨y, t6⟩ _
  dsimp only [List.cons_append, List.nil_append]
  rcases hd : D.down with _ | _
  · unfold dnN dnE
    simp only [hd, Bool.false_eq_true, if_false]
    simp only [dnE, hd, Bool.false_eq_true, if_false] at hI0 ih
    repeat refine s2 ?_
    cases h with
    | zero =>
      obtain ⟨rfl, rfl, hok⟩ := hn
      have hkl : kv.length ≤ 9 := by have := (hmr.leaf rfl).2.1; simpa [leafN] using this
      rw [show (leafN kv).leaf = true from rfl]
      have hkeys : (leafN kv).keys = kv.map (·.1) := rfl
      repeat refine s1 ?_
      refine cl (find_c (leafN kv) y k hmr.rise (by simp [leafN]; omega) Φ) ?_
      rw [hkeys]
      have hfl := filt_drop (k := k) hs
      have hble : below (kv.map (·.1)) k ≤ kv.length := by have := List.countP_le_length (p := fun x => decide (x < k)) (l := kv.map (·.1)); simpa [below] using this
      generalize below (kv.map (·.1)) k = b0 at hfl hble ⊢
      have hpos : 1 ≤ kv.length := by have := hmr.pos; simpa [leafN] using this
      have hln : (leafN kv).vals.length = kv.length := by simp [leafN]
      refine jh [node (leafN kv) y] (j_ent (Ent.unnode _) ?_)
      refine jh [keysA (leafN kv) y] (j_leni (fun _ _ hka => ?_))
      obtain ⟨kb, ko, hkb⟩ := hka (by simp [leafN]; omega)
      refine jh [valsA (leafN kv) y] (j_leni (fun _ _ hva => ?_))
      obtain ⟨vb, vo, hvb⟩ := hva (by simp [leafN]; omega)
      obtain ⟨mka, mkc, mva, mvc, mra, mrc⟩ := y
      dsimp only at hkb hvb
      subst hkb
      subst hvb
      repeat refine s1 ?_
      refine t_loop (σ := Nat × σ) (fun z => [(8, i64 z.1), (6, ptr t6), (5, ptr t5), (1, ptr bt), (2, ptr br), (3, ptr bf), (4, ptr bk)])
        (fun z => isl (some ⟨kb, ko, none⟩) (leafN kv).keys.length mkc T.uint64 1 ((leafN kv).keys.map w64) :: isl (some ⟨vb, vo, none⟩) (leafN kv).vals.length mvc T.a44_uint8 44 ((leafN kv).vals.flatMap fun v => v.map u8) ::
          pt t6 (.cells [.bool (leafN kv).leaf, .slice (some ⟨kb, ko, none⟩) (leafN kv).keys.length mkc, .slice (some ⟨vb, vo, none⟩) (leafN kv).vals.length mvc, .slice mra (leafN kv).kids.length mrc].toArray T.node_Node (0, 0)) :: pt t5 (.cells [yl l].toArray T.func_256 (0, 0)) :: B z.2 :: (wkPre bt br bf bk tp pf r k 0 ++ tree tp ps o :: store ps S :: disk S.pd D :: hlog S.pl (N + 1) :: F))
        (fun z => b0 ≤ z.1 ∧ z.1 ≤ kv.length ∧ rounds nxt go s0 ((kv.take z.1).drop b0) = (z.2, true) ∧ Iv z.2 (kv.drop z.1)) (fun z => kv.length - z.1) (b0, s0) ⟨Nat.le_refl _, hble, by show rounds nxt go s0 ((kv.take b0).drop b0) = (s0, true); rw [show (kv.take b0).drop b0 = [] from List.drop_eq_nil_of_le (List.length_take_le _ _)]; rfl, by rw [hfl] at hI0; exact hI0⟩ ⟨rfl, rfl, rfl, rfl, rfl, rfl, rfl, trivial⟩ (by first | exact Le.ent | (dsimp only; exact Le.ent) | (dsimp only [List.cons_append, List.nil_append]; exact Le.ent) | (dsimp only [List.cons_append, List.nil_append]; simp only [List.take_zero, List.map_nil, List.flatMap_nil, List.length_nil]; exact Le.ent)) ?_
      rintro ⟨i, s⟩ ⟨h1, h2, h3, h4⟩
      dsimp only [List.cons_append, List.nil_append] at h1 h2 h3 h4 ⊢
      repeat refine s1 ?_
      refine r_iop rfl rfl rfl rfl ?_
      repeat refine s1 ?_
      refine t_condSB rfl (fun hq => ?_) (fun hq => ?_)
      · have hi : i < kv.length := by have := of_decide_eq_true hq; simp [leafN] at this; omega
        have hil : i < (leafN kv).vals.length := by rw [hln]; exact hi
        have hik : i < (leafN kv).keys.length := by simp [leafN]; exact hi
        rcases hkvi : kv[i] with ⟨key, u⟩
        have hku : (leafN kv).keys[i]? = some key := by simp [leafN, hkvi, hi]
        have hu : (leafN kv).vals[i]? = some u := by simp [leafN, hkvi, hi]
        have hul : u.length = 44 := (hmw.vals u (List.mem_of_getElem? hu)).1
        have hxs : ∀ (j : Nat) (v : Value), (u.map u8)[j]? = some v → ((leafN kv).vals.flatMap fun v => v.map u8)[i * 44 + j]? = some v := fun j v hv => by
          have hj := (List.getElem?_eq_some_iff.1 hv).1
          rw [flat_in (f := fun v : List Nat => v.map u8) (c := 44) (fun z hz => by simpa using (hmw.vals z hz).1) hu (by simpa [hul] using hj)]
          exact hv
        have htk : (kv.take (i + 1)).drop b0 = (kv.take i).drop b0 ++ [(key, u)] := by
          rw [List.take_add_one, List.getElem?_eq_getElem hi, hkvi, Option.toList_some, List.drop_append_of_le_length (by simp; omega)]
        have hdi : kv.drop i = (key, u) :: kv.drop (i + 1) := by rw [List.drop_eq_getElem_cons hi, hkvi]
        rw [hdi] at h4
        have hyx := hy s (key, u) _ h4
        have hro : rounds nxt go s0 ((kv.take (i + 1)).drop b0) = (nxt s (key, u), go s (key, u)) := by
          rw [htk, rounds_app, h3, if_pos rfl]
          simp only [rounds]
          split <;> simp_all
        repeat refine s1 ?_
        refine ix rfl rfl hik ?_
        refine r_loadI (n := (leafN kv).keys.length) (cap := mkc) (E := T.uint64) (s := 1) (xs := (leafN kv).keys.map w64) (off := ko) rfl (j := i) (v := w64 key) (by omega) (by rw [List.getElem?_map, hku]; rfl) rfl rfl ?_
        repeat refine s1 ?_
        refine ix rfl rfl hil ?_
        refine r_loadIA (off := vo) (n := (leafN kv).vals.length) (cap := mvc) (E := T.a44_uint8) (s := 44) (xs := (leafN kv).vals.flatMap fun v => v.map u8) (vs := u.map u8) rfl (j := i * 44) (by omega) (by simp [hul]) hxs rfl rfl ?_
        refine r_build (cells := w64 key :: u.map u8) rfl (by simp [fillL, hul, Value.cells]) rfl ?_
        refine r_yield rfl hyx ?_
        rcases hgo : go s (key, u) with _ | _
        · simp only [Bool.false_eq_true, if_false]
          repeat refine s1 ?_
          have hf : fin2 B Bx (rounds nxt go s0 (filt k kv)) = Bx (nxt s (key, u)) := by
            rw [hfl, ← List.take_append_drop (i + 1) kv, List.drop_append_of_le_length (by simp; omega), rounds_app, hro, hgo]
            simp
          rw [hf]
          refine jh [hlog S.pl (N + 1)] (j_ent (hlogUp (N' := N + (r.sec :: ([] : List Nat)).length) (by simp) _) ?_)
          refine j_ent (mkA_nil _) ?_
          exact j_finM (rs := []) [] rfl rfl .nil () rfl trivial
        · simp only [if_true]
          repeat refine s1 ?_
          rw [hgo] at hro
          exact j_again (i + 1, nxt s (key, u)) ⟨by omega, by omega, hro, hst s (key, u) _ h4 hgo⟩ (by omega) ⟨rfl, rfl, rfl, rfl, rfl, rfl, rfl, trivial⟩ (by first | exact Le.ent | (dsimp only; exact Le.ent) | (dsimp only [List.cons_append, List.nil_append]; exact Le.ent) | (dsimp only [List.cons_append, List.nil_append]; simp only [List.take_zero, List.map_nil, List.flatMap_nil, List.length_nil]; exact Le.ent))
      · have hi : i = kv.length := by have := of_decide_eq_false hq; simp [leafN] at this; omega
        subst hi
        rw [List.take_length, ← hfl] at h3
        repeat refine s1 ?_
        have hf : fin2 B Bx (rounds nxt go s0 (filt k kv)) = B s := by rw [h3]; simp
        rw [hf]
        refine jh [hlog S.pl (N + 1)] (j_ent (hlogUp (N' := N + (r.sec :: ([] : List Nat)).length) (by simp) _) ?_)
        refine j_ent (mkA_nil _) ?_
        exact j_finM (rs := []) [] rfl rfl .nil () rfl trivial
    | succ h =>
      have hlf : m.leaf = false := nsh_leaf hn
      have hwh : m.keys.length ≤ 11 := hmr.most
      obtain ⟨cs, hmi, hkv, hV, hcs⟩ := nsh_succ.1 hn
      have hrise := hmr.rise
      have hrl : m.kids.length = cs.length := by rw [hmi]; simp [inner]
      have hpos : 2 ≤ cs.length := by have := (hmr.inner hlf).1; have : m.keys.length = cs.length := (by rw [hmi]; simp [inner]); omega
      obtain ⟨A, c, C, hcut, hAl, hc1, hc2⟩ := way_cut (k := k) (cs := cs) (by intro e; rw [e] at hpos; simp at hpos) (by have := hrise; rw [hmi] at this; exact this)
      have hwk : way m.keys k = A.length := by rw [hAl, hmi]; rfl
      have hcl11 : cs.length ≤ 11 := by have : m.keys.length = cs.length := (by rw [hmi]; simp [inner]); omega
      have hsrt' := hs
      rw [hkv, hcut] at hsrt'
      obtain ⟨hsA, hsB⟩ := way_sides (k := k) hsrt' (fun d hd => (hcs d (by rw [hcut]; exact hd)).1) hc1 hc2
      rw [hlf]
      repeat refine s1 ?_
      refine cl (way_c m y k hrise (by omega) Φ) ?_
      rw [hwk]
      refine jh [node m y] (j_ent (Ent.unnode _) ?_)
      refine jh [kidsA m y] (j_leni (fun _ _ hka => ?_))
      obtain ⟨kb, ko, hkb⟩ := hka (by omega)
      obtain ⟨mka, mkc, mva, mvc, mra, mrc⟩ := y
      dsimp only at hkb
      subst hkb
      repeat refine s1 ?_
      refine jh [hlog S.pl (N + 1)] (j_ent (hlogUp (N' := N + 1 + ((cs.take A.length).flatMap (·.U)).length) (by omega) _) ?_)
      refine j_ent (mkA_nil _) ?_
      refine t_loopD (σ := Nat × σ × List Nat) (fun z => marks z.2.2) (fun z => [(10, i64 z.1), (6, ptr t6), (5, ptr t5), (1, ptr bt), (2, ptr br), (3, ptr bf), (4, ptr bk)])
        (fun z => mkA z.2.2 :: isl (some ⟨kb, ko, none⟩) m.kids.length mrc T.api_Ref 33 (m.kids.flatMap rcells) ::
          pt t6 (.cells [.bool m.leaf, .slice mka m.keys.length mkc, .slice mva m.vals.length mvc, .slice (some ⟨kb, ko, none⟩) m.kids.length mrc].toArray T.node_Node (0, 0)) :: pt t5 (.cells [yl l].toArray T.func_256 (0, 0)) :: B z.2.1 :: (wkPre bt br bf bk tp pf r k 0 ++ tree tp ps o :: store ps S :: disk S.pd D :: hlog S.pl (N + 1 + ((cs.take z.1).flatMap (·.U)).length) :: F))
        (fun z => z.1 ≤ cs.length ∧ rounds nxt go s0 (filt k ((cs.take z.1).flatMap (·.kv))) = (z.2.1, true) ∧ Iv z.2.1 (filt k ((cs.drop z.1).flatMap (·.kv)))) (fun z => cs.length - z.1) (A.length, s0, []) ⟨by rw [hcut]; simp, by dsimp only; rw [hcut, List.take_left, filt_none hsA]; rfl, by dsimp only; rw [hkv, hcut, List.flatMap_append, filt_app, filt_none hsA, List.nil_append] at hI0; rw [hcut, List.drop_left]; exact hI0⟩ rfl ⟨rfl, rfl, rfl, rfl, rfl, rfl, rfl, trivial⟩ ?_ ?_
      · dsimp only [List.cons_append, List.nil_append]
        exact Le.ent
      rintro ⟨i, s, Ds⟩ ⟨h1, h2, h3⟩
      dsimp only [List.cons_append, List.nil_append] at h1 h2 h3 ⊢
      repeat refine s1 ?_
      refine r_iop rfl rfl rfl rfl ?_
      repeat refine s1 ?_
      refine t_condSB rfl (fun hq => ?_) (fun hq => ?_)
      · have hi : i < cs.length := by have := of_decide_eq_true hq; omega
        have hik : i < m.kids.length := by omega
        have hcc := hcs cs[i] (List.getElem_mem hi)
        have hkid : m.kids[i] = cs[i].rf := by simp [hmi, inner]
        generalize hci : cs[i] = c' at hcc hkid
        have htk : cs.take (i + 1) = cs.take i ++ [c'] := by rw [List.take_add_one, List.getElem?_eq_getElem hi, hci]; rfl
        repeat refine s1 ?_
        refine ix rfl rfl hik ?_
        refine r_loadIA (off := ko) (n := m.kids.length) (cap := mrc) (E := T.api_Ref) (s := 33) (xs := m.kids.flatMap rcells) (vs := rcells c'.rf) rfl (j := i * 33) (by omega) (by simp [hcc.2.1.sum.1]) (by
          have := kid_at hmw hik
          rw [hkid] at this; exact this) rfl rfl ?_
        repeat refine s1 ?_
        refine cx (walkf_c tp pf k c'.rf Φ) (fun z _ => ?_)
        obtain ⟨b1, b2, b3, b4⟩ := z
        dsimp only
        repeat refine s1 ?_
        have hkv2 : kv = (cs.take i).flatMap (·.kv) ++ (c'.kv ++ (cs.drop (i + 1)).flatMap (·.kv)) := by
          rw [hkv]
          conv => lhs; rw [← List.take_append_drop (i + 1) cs, htk]
          simp
        have hcsrt : Srt c'.kv := by
          have := hs
          rw [hkv2] at this
          exact (List.pairwise_append.1 (List.pairwise_append.1 this).2.1).1
        have hUl : ((cs.take (i + 1)).flatMap (·.U)).length = ((cs.take i).flatMap (·.U)).length + c'.U.length := by rw [htk]; simp
        have hUV : ((cs.take (i + 1)).flatMap (·.U)).length ≤ V.length := by
          rw [hV]
          conv => rhs; rw [← List.take_append_drop (i + 1) cs]
          rw [List.flatMap_append, List.length_append]
          omega
        have hdi : cs.drop i = c' :: cs.drop (i + 1) := by rw [List.drop_eq_getElem_cons hi, hci]
        rw [hdi, List.flatMap_cons, filt_app] at h3
        have hlen : ∀ x ∈ filt k c'.kv, x.2.length = 44 := fun x hx => (hkvok x (by rw [hkv2]; simp only [List.mem_append]; exact .inr (.inl (List.mem_filter.1 hx).1))).2.1
        have hfs : filt k ((cs.take (i + 1)).flatMap (·.kv)) = filt k ((cs.take i).flatMap (·.kv)) ++ filt k c'.kv := by
          rw [htk, List.flatMap_append, filt_app]; simp
        have hinv : (rounds nxt go s (filt k c'.kv)).2 = true → Iv (rounds nxt go s (filt k c'.kv)).1 (filt k ((cs.drop (i + 1)).flatMap (·.kv))) := fun h5 => rounds_inv hst h3 h5
        have hro : rounds nxt go s0 (filt k ((cs.take (i + 1)).flatMap (·.kv))) = rounds nxt go s (filt k c'.kv) := by
          rw [hfs, rounds_app, h2, if_pos rfl]
        refine t_range (ps := [74]) (ζ := Nat) (lb := [ptr b1, ptr b2, ptr b3, ptr b4])
          (R := mkA Ds :: isl (some ⟨kb, ko, none⟩) m.kids.length mrc T.api_Ref 33 (m.kids.flatMap rcells) :: pt t6 (.cells [.bool m.leaf, .slice mka m.keys.length mkc, .slice mva m.vals.length mvc, .slice (some ⟨kb, ko, none⟩) m.kids.length mrc].toArray T.node_Node (0, 0)) ::
            pt bt (.cells [ptr tp].toArray T.p_mtree_Tree (0, 0)) :: pt br (.cells (rcells r).toArray T.api_Ref (0, 0)) :: pt bf (.cells [ptr pf].toArray T.p_api_Errno (0, 0)) :: pt bk (.cells [w64 k].toArray T.uint64 (0, 0)) :: F)
          rfl (ih h (Nat.lt_succ_self h) (N + 1 + ((cs.take i).flatMap (·.U)).length) c'.rf 4 c'.kv c'.U b1 b2 b3 b4 hcc.2 hcsrt (by omega))
          (fun s => all [pt t5 (.cells [yl l].toArray T.func_256 (0, 0)), B s]) (fun s => all [pt t5 (.cells [yl l].toArray T.func_256 (0, 0)), Bx s]) nxt go (fun s' rem => Iv s' (rem ++ filt k ((cs.drop (i + 1)).flatMap (·.kv))) ∧ ∀ x ∈ rem, x.2.length = 44) (fun s' x rem h5 hgo => ⟨hst s' x _ h5.1 hgo, fun y hy => h5.2 y (by simp [hy])⟩) .ret (.inl rfl) s ⟨h3, hlen⟩ (fun _ _ z => [(11, ptr z), (5, ptr t5)])
          (fun s x z => [pt z (.cells (w64 x.1 :: x.2.map u8).toArray T.mtree_Pair (0, 0)), all [pt t5 (.cells [yl l].toArray T.func_256 (0, 0)), B s]]) ?_ (fun _ => rfl) (by simp) rfl rfl ?_ ?_ ?_ ?_
        · refine Ent.trans ?_ (Ent.unall [pt t5 (.cells [yl l].toArray T.func_256 (0, 0)), B s] _)
          dsimp only [wkPre, List.cons_append, List.nil_append]
          exact Le.ent
        · intro s' x rem hx F'
          dsimp only [penv]
          repeat refine s1 ?_
          refine al (cs := w64 0 :: z44.map u8) (fun t11 => ?_)
          refine r_storeW (vs := w64 x.1 :: x.2.map u8) rfl rfl (by simp [hx.2 x (by simp)]) (by rfl) (by simp [Value.oneCell']) rfl ?_
          repeat refine s1 ?_
          exact j_meet t11 trivial ⟨rfl, rfl, trivial⟩ (by first | exact Le.ent | (dsimp only; exact Le.ent) | (dsimp only [List.cons_append, List.nil_append]; exact Le.ent) | (dsimp only [List.cons_append, List.nil_append]; simp only [List.take_zero, List.map_nil, List.flatMap_nil, List.length_nil]; exact Le.ent))
        · intro s' x rem hx z F'
          dsimp only [List.cons_append, List.nil_append]
          refine jh [all [pt t5 (.cells [yl l].toArray T.func_256 (0, 0)), B s']] (j_all ?_)
          dsimp only [List.cons_append, List.nil_append]
          repeat refine s1 ?_
          refine r_loadW (vs := w64 x.1 :: x.2.map u8) rfl (by simp [hx.2 x (by simp)]) rfl rfl ?_
          refine r_yield rfl (hy s' x _ hx.1) ?_
          rcases hgo : go s' x with _ | _
          · simp only [Bool.false_eq_true, if_false]
            repeat refine s1 ?_
            exact j_rnd_ret ((Le.ent (A := pt t5 (.cells [yl l].toArray T.func_256 (0, 0)) :: Bx (nxt s' x) :: F')).trans (Ent.unall [pt t5 (.cells [yl l].toArray T.func_256 (0, 0)), Bx (nxt s' x)] F'))
          · simp only [if_true]
            repeat refine s1 ?_
            exact j_rnd ((Le.ent (A := pt t5 (.cells [yl l].toArray T.func_256 (0, 0)) :: B (nxt s' x) :: F')).trans (Ent.unall [pt t5 (.cells [yl l].toArray T.func_256 (0, 0)), B (nxt s' x)] F'))
        · intro Dm z _ hr2
          dsimp only [wkPre, List.cons_append, List.nil_append]
          refine jh [all [pt t5 (.cells [yl l].toArray T.func_256 (0, 0)), B (rounds nxt go s (filt k c'.kv)).1]] (j_all ?_)
          refine js [pt Dm (.deferred (some [])), mkA Ds] (B := mkA (Dm :: Ds)) (fun L => mkA_cons Dm Ds L) ?_
          rw [show N + 1 + ((cs.take i).flatMap (·.U)).length + c'.U.length = N + 1 + ((cs.take (i + 1)).flatMap (·.U)).length by omega]
          repeat refine s2 ?_
          exact j_againD (i + 1, (rounds nxt go s (filt k c'.kv)).1, Dm :: Ds) ⟨by omega, by rw [hro]; exact Prod.ext rfl hr2, hinv hr2⟩ (by dsimp only; omega) rfl ⟨rfl, rfl, rfl, rfl, rfl, rfl, rfl, trivial⟩ (by first | exact Le.ent | (dsimp only; exact Le.ent) | (dsimp only [List.cons_append, List.nil_append]; exact Le.ent) | (dsimp only [List.cons_append, List.nil_append]; simp only [List.take_zero, List.map_nil, List.flatMap_nil, List.length_nil]; exact Le.ent))
        · intro Dm z _ hr2
          dsimp only [wkPre, List.cons_append, List.nil_append]
          refine jh [all [pt t5 (.cells [yl l].toArray T.func_256 (0, 0)), Bx (rounds nxt go s (filt k c'.kv)).1]] (j_all ?_)
          refine js [pt Dm (.deferred (some [])), mkA Ds] (B := mkA (Dm :: Ds)) (fun L => mkA_cons Dm Ds L) ?_
          repeat refine s1 ?_
          have hf : fin2 B Bx (rounds nxt go s0 (filt k kv)) = Bx (rounds nxt go s (filt k c'.kv)).1 := by
            have h5 : kv = (cs.take (i + 1)).flatMap (·.kv) ++ (cs.drop (i + 1)).flatMap (·.kv) := by rw [hkv, ← List.flatMap_append, List.take_append_drop]
            rw [h5, filt_app, rounds_app, hro, hr2]
            simp [fin2, hr2]
          rw [hf]
          refine jh [hlog S.pl (N + 1 + ((cs.take i).flatMap (·.U)).length + c'.U.length)] (j_ent (hlogUp (N' := N + (r.sec :: V).length) (by rw [List.length_cons]; omega) _) ?_)
          refine jh [mkA (Dm :: Ds)] ?_
          exact j_finM (rs := []) (Dm :: Ds) rfl rfl .nil () rfl trivial
      · have hi : i = cs.length := by have := of_decide_eq_false hq; omega
        subst hi
        rw [List.take_length, ← hkv] at h2
        repeat refine s1 ?_
        have hf : fin2 B Bx (rounds nxt go s0 (filt k kv)) = B s := by rw [h2]; simp
        rw [hf]
        refine jh [hlog S.pl (N + 1 + ((cs.take cs.length).flatMap (·.U)).length)] (j_ent (hlogUp (N' := N + (r.sec :: V).length) (by rw [List.length_cons, List.take_length, hV]; omega) _) ?_)
        refine jh [mkA Ds] ?_
        exact j_finM (rs := []) Ds rfl rfl .nil () rfl trivial
  · unfold dnN dnE
    simp only [hd, if_true]
    repeat refine s2 ?_
    refine so rfl rfl ?_
    repeat refine s1 ?_
    have hf : fin2 B Bx (rounds nxt go s0 ([] : KV)) = B s0 := by simp [rounds]
    rw [hf]
    refine jh [hlog S.pl (N + 1)] (j_ent (hlogUp (N' := N + (V.length + 1)) (by omega) _) ?_)
    refine j_ent (mkA_nil _) ?_
    refine j_finM (rs := []) [] rfl rfl .nil () rfl ?_
    trivial
end Go.Proofs.YtcnpkmdooekmgaaGreatDoor
namespace Go.Proofs.YtcnpkmdooekmgaaGreatDoor
open Go Sl
abbrev pcell (x : Nat × List Nat) : List Value := w64 x.1 :: x.2.map u8
abbrev prow (a : Option Addr) (n c : Nat) (l : KV) : Assn := vec a n c T.mtree_Pair 45 (l.flatMap pcell)
theorem prow_nil (L : List Assn) : Ent L (prow none ([] : KV).length 0 [] :: L) := Ent.vecNil (E := T.mtree_Pair) (s := 45) L
def nxtR (b : Nat) (s : KV) (x : Nat × List Nat) : KV := if b < x.1 then s else s ++ [x]
def goR (b : Nat) (n : Int) (s : KV) (x : Nat × List Nat) : Bool := !decide (b < x.1) && !decide (((s.length + 1 : Nat) : Int) = n)
def rngL (a b : Nat) (n : Int) (kv : KV) : KV := ((kv.filter fun x => decide (a ≤ x.1)).filter fun x => decide (x.1 ≤ b)).take n.toNat
theorem rounds_rng {b : Nat} {n : Int} : ∀ {xs s : KV}, Srt xs → (s.length : Int) < n → (rounds (nxtR b) (goR b n) s xs).1 = s ++ (xs.filter fun x => decide (x.1 ≤ b)).take (n.toNat - s.length)
  | [], s, _, _ => by simp [rounds]
  | x :: xs, s, hs, hn => by
    obtain ⟨h1, h2⟩ := List.pairwise_cons.1 hs
    by_cases hb : b < x.1
    · have hf : (x :: xs).filter (fun x => decide (x.1 ≤ b)) = [] := List.filter_eq_nil_iff.2 fun y hy => by
        rcases List.mem_cons.1 hy with rfl | hy
        · simp; omega
        · have := h1 y hy; simp; omega
      rw [hf]
      simp [rounds, goR, nxtR, hb]
    · have hf : (x :: xs).filter (fun x => decide (x.1 ≤ b)) = x :: xs.filter (fun x => decide (x.1 ≤ b)) := List.filter_cons_of_pos (by simp; omega)
      rw [hf]
      have hsub : n.toNat - s.length = (n.toNat - (s.length + 1)) + 1 := by omega
      rw [hsub, List.take_succ_cons]
      by_cases hl : ((s.length + 1 : Nat) : Int) = n
      · have : n.toNat - (s.length + 1) = 0 := by omega
        rw [this, List.take_zero]
        simp [rounds, goR, nxtR, hb, hl]
      · have := rounds_rng (b := b) (n := n) (xs := xs) (s := s ++ [x]) h2 (by simp; omega)
        have hg : goR b n s x = true := by simp [goR, hb]; omega
        have hx : nxtR b s x = s ++ [x] := by simp [nxtR, hb]
        simp only [rounds, hg, if_true, hx]
        rw [this, List.length_append, List.append_assoc]
        rfl
/-- what Range hands back. -/
def rngO (D : Dk) (t : Tre) (a b : Nat) (n : Int) : KV := if t.rt.isSome = true ∧ ¬ n < 1 ∧ ¬ b < a ∧ D.down = false then rngL a b n t.kv else []
def rngE (D : Dk) (t : Tre) (a b : Nat) (n : Int) : Nat := if t.rt.isSome = true ∧ ¬ n < 1 ∧ ¬ b < a ∧ D.down = true then 30 else 0
/-- what Range has gathered. -/
abbrev gotA (t10 t6 t7 b : Nat) (n : Int) (s : KV) (z : Option Addr × Nat) : List Assn := [pt t10 (.cells [.slice z.1 s.length z.2].toArray T.sl_mtree_Pair (0, 0)), prow z.1 s.length z.2 s, pt t6 (.cells [w64 b].toArray T.uint64 (0, 0)), pt t7 (.cells [.int .i64 n].toArray T.int (0, 0))]
def gotB (t10 t6 t7 b : Nat) (n : Int) (s : KV) : Assn := ex fun z : Option Addr × Nat => all (gotA t10 t6 t7 b n s z)
theorem gotB_of {t10 t6 t7 b : Nat} {n : Int} {s : KV} (z : Option Addr × Nat) (L : List Assn) : Ent (gotA t10 t6 t7 b n s z ++ L) (gotB t10 t6 t7 b n s :: L) := (Ent.unall (gotA t10 t6 t7 b n s z) L).trans (Ent.mkEx (f := fun z => all (gotA t10 t6 t7 b n s z)) z)
theorem j_got {X : Cx} {e : Env} {L : List Assn} {G : Act → World → Prop} {t10 t6 t7 b : Nat} {n : Int} {s : KV} (h : ∀ z, J X e (gotA t10 t6 t7 b n s z ++ L) G) : J X e (gotB t10 t6 t7 b n s :: L) G := j_ex fun z => j_all (h z)
attribute [local irreducible] cw sw J Exit.then Exit.inBlock Exit.noGoto bodyPost swG swL permL
set_option maxHeartbeats 2000000 in
theorem trange_c (ps pd pl N a b : Nat) (n : Int) (S : St) (D : Dk) (t : Tre) (ht : TOk S.g t) (hS : S.wf) (ha : Agr S D) (hN : N ≤ 600000000) (hkv : t.kv.length ≤ 1000000) (hpd : S.pd = pd) (hpl : S.pl = pl) (Φ : Base) :
    Sl.Fn Tryz.prog Φ F.mtree_Tree_Range [ptr t.p, w64 a, w64 b, .int .i64 n] [tree t.p ps t.rt, store ps S, disk pd D, hlog pl N] (fun _ : Option Addr × Nat => True) (fun x => .tuple #[.slice x.1 (rngO D t a b n).length x.2, i64 (rngE D t a b n)])
      (fun x => [prow x.1 (rngO D t a b n).length x.2 (rngO D t a b n), tree t.p ps t.rt, store ps S, disk pd D, hlog pl (N + t.kv.length + 1)]) := by
  obtain rfl := hpd
  obtain rfl := hpl
  have hw := oWt_of ht
  refine foM fun F => ?_
  repeat refine s1 ?_
  refine r_box (cs := [w64 b]) rfl rfl rfl rfl (fun t6 => ?_)
  repeat refine s1 ?_
  refine r_box (cs := [.int .i64 n]) rfl rfl rfl rfl (fun t7 => ?_)
  repeat refine s1 ?_
  refine cl (made_c t.p ps t.rt Φ) ?_
  repeat refine s1 ?_
  refine ld rfl (tc_has hw) ?_
  rcases hrt : t.rt with _ | r
  · rw [Option.isSome_none]
    repeat refine s1 ?_
    have h0 : rngO D t a b n = [] := by simp [rngO, hrt]
    have h1 : rngE D t a b n = 0 := by simp [rngE, hrt]
    rw [h0, h1]
    refine j_ent (prow_nil _) ?_
    refine jh [hlog S.pl N] (j_ent (hlogUp (N' := N + t.kv.length + 1) (by omega) _) ?_)
    refine j_ent (mkA_nil _) ?_
    exact j_finM (rs := [.tmp 8, .tmp 9]) [] rfl rfl (.cons (rv_tmp rfl) (.cons (rv_tmp rfl) .nil)) (none, 0) rfl trivial
  · rw [Option.isSome_some]
    rw [hrt] at hw
    have hrw : r.wt := hw
    obtain ⟨hsrt, hne, H, U, hsh⟩ := ht.sh hrt
    have hul : U.length ≤ t.kv.length + 1 := by have := (sh_size hsh).1; omega
    repeat refine s1 ?_
    refine r_iop rfl rfl rfl rfl ?_
    by_cases hn : n < 1
    · rw [decide_eq_true hn]
      repeat refine s1 ?_
      have h0 : rngO D t a b n = [] := by simp [rngO, hn]
      have h1 : rngE D t a b n = 0 := by simp [rngE, hn]
      rw [h0, h1]
      refine j_ent (prow_nil _) ?_
      refine jh [hlog S.pl N] (j_ent (hlogUp (N' := N + t.kv.length + 1) (by omega) _) ?_)
      refine j_ent (mkA_nil _) ?_
      exact j_finM (rs := [.tmp 8, .tmp 9]) [] rfl rfl (.cons (rv_tmp rfl) (.cons (rv_tmp rfl) .nil)) (none, 0) rfl trivial
    · rw [decide_eq_false hn]
      repeat refine s1 ?_
      refine r_icmp rfl rfl rfl rfl ?_
      by_cases hab : b < a
      · rw [decide_eq_true (show (b : Int) < (a : Int) by omega)]
        repeat refine s1 ?_
        have h0 : rngO D t a b n = [] := by simp [rngO, hab]
        have h1 : rngE D t a b n = 0 := by simp [rngE, hab]
        rw [h0, h1]
        refine j_ent (prow_nil _) ?_
        refine jh [hlog S.pl N] (j_ent (hlogUp (N' := N + t.kv.length + 1) (by omega) _) ?_)
        refine j_ent (mkA_nil _) ?_
        exact j_finM (rs := [.tmp 8, .tmp 9]) [] rfl rfl (.cons (rv_tmp rfl) (.cons (rv_tmp rfl) .nil)) (none, 0) rfl trivial
      · rw [decide_eq_false (show ¬ (b : Int) < (a : Int) by omega)]
        repeat refine s1 ?_
        refine al (cs := [.slice none 0 0]) (fun t10 => ?_)
        repeat refine s1 ?_
        refine al (cs := [i64 0]) (fun t11 => ?_)
        repeat refine s1 ?_
        refine so rfl rfl ?_
        repeat refine s1 ?_
        refine r_loadA (vs := rcells r) (off := 1) rfl (by simp [hrw.sum.1]) (tc_root (o := some r)) rfl rfl ?_
        repeat refine s1 ?_
        refine cx (walkf_c t.p t11 a r Φ) (fun z _ => ?_)
        obtain ⟨b1, b2, b3, b4⟩ := z
        dsimp only
        repeat refine s1 ?_
        have hseq := walk_s t.p ps t11 a (some r) S D hS ha Φ H N r 1 t.kv U b1 b2 b3 b4 hsh hsrt (by omega)
        refine t_range (ps := [37]) (ζ := Nat) (lb := [ptr b1, ptr b2, ptr b3, ptr b4]) (R := F) rfl hseq (gotB t10 t6 t7 b n) (gotB t10 t6 t7 b n) (nxtR b) (goR b n) (fun s rem => s.length + rem.length ≤ 1000000 ∧ ∀ x ∈ rem, x.2.length = 44) (fun s x rem h5 _ => ⟨by
            have h6 := h5.1
            rw [List.length_cons] at h6
            unfold nxtR
            split
            · omega
            · rw [List.length_append, List.length_singleton]; omega, fun y hy => h5.2 y (by simp [hy])⟩) (.exit 0) (.inr ⟨0, rfl⟩) [] ⟨?_, ?_⟩ (fun _ _ z => [(12, ptr z), (6, ptr t6), (7, ptr t7), (10, ptr t10)])
          (fun s x z => [pt z (.cells (pcell x).toArray T.mtree_Pair (0, 0)), gotB t10 t6 t7 b n s]) ?_ (fun _ => rfl) (by simp) rfl rfl ?_ ?_ ?_ ?_
        · split
          · simp
          · have := List.length_filter_le (fun x : Nat × List Nat => decide (a ≤ x.1)) t.kv
            simp only [List.length_nil, Nat.zero_add, filt]; omega
        · intro x hx
          split at hx
          · cases hx
          · exact (ht.kvok x (List.mem_filter.1 hx).1).2.1
        · refine Ent.trans ?_ (gotB_of (none, 0) _)
          dsimp only [wkPre, List.cons_append, List.nil_append]
          exact (prow_nil _).trans Le.ent
        · intro s' x rem hx F'
          dsimp only [penv]
          repeat refine s1 ?_
          refine al (cs := w64 0 :: z44.map u8) (fun t11 => ?_)
          refine r_storeW (vs := pcell x) rfl rfl (by simp [hx.2 x (by simp)]) (by rfl) (by simp [Value.oneCell']) rfl ?_
          repeat refine s1 ?_
          exact j_meet t11 trivial ⟨rfl, rfl, rfl, rfl, trivial⟩ (by first | exact Le.ent | (dsimp only; exact Le.ent) | (dsimp only [List.cons_append, List.nil_append]; exact Le.ent) | (dsimp only [List.cons_append, List.nil_append]; simp only [List.take_zero, List.map_nil, List.flatMap_nil, List.length_nil]; exact Le.ent))
        · intro s' x rem hx z F'
          have hxl := hx.2 x (by simp)
          have hsl := hx.1
          rw [List.length_cons] at hsl
          dsimp only [List.cons_append, List.nil_append]
          refine jh [gotB t10 t6 t7 b n s'] (j_got fun z2 => ?_)
          obtain ⟨oa, oc⟩ := z2
          dsimp only [List.cons_append, List.nil_append]
          repeat refine s1 ?_
          refine r_icmp rfl rfl rfl rfl ?_
          by_cases hbx : b < x.1
          · rw [decide_eq_true (show (b : Int) < (x.1 : Int) by omega)]
            have hg : goR b n s' x = false := by simp [goR, hbx]
            have hnx : nxtR b s' x = s' := by simp [nxtR, hbx]
            rw [hg, hnx]
            repeat refine s1 ?_
            refine js (gotA t10 t6 t7 b n s' (oa, oc)) (B := gotB t10 t6 t7 b n s') (fun L => gotB_of (oa, oc) L) ?_
            exact j_rnd_exit Le.ent
          · rw [decide_eq_false (show ¬ (b : Int) < (x.1 : Int) by omega)]
            have hnx : nxtR b s' x = s' ++ [x] := by simp [nxtR, hbx]
            rw [hnx]
            repeat refine s1 ?_
            refine r_loadW (vs := pcell x) rfl (by simp [hxl]) rfl rfl ?_
            refine r_buildA1 (v := pcell x) rfl (by simp [hxl]) (by decide) (fun bv => ?_)
            refine r_append (n := s'.length) (m := 1) (s := 45) (xs := s'.flatMap pcell) (ys := pcell x) rfl rfl (by decide) (by rfl) (by simp [Value.oneCell']) (by omega) (by omega) rfl rfl (fun a' c' _ => ?_)
            have he : s'.flatMap pcell ++ pcell x = (s' ++ [x]).flatMap pcell := by simp
            have hln : s'.length + 1 = (s' ++ [x]).length := by simp
            rw [he, hln]
            refine so rfl rfl ?_
            repeat refine s1 ?_
            refine r_icmp rfl rfl rfl rfl ?_
            by_cases hl : (((s' ++ [x]).length : Nat) : Int) = n
            · rw [decide_eq_true hl]
              have hg : goR b n s' x = false := by rw [← hln] at hl; simp [goR, hl]
              rw [hg]
              repeat refine s1 ?_
              refine js (gotA t10 t6 t7 b n (s' ++ [x]) (a', c')) (B := gotB t10 t6 t7 b n (s' ++ [x])) (fun L => gotB_of (a', c') L) ?_
              exact j_rnd_exit Le.ent
            · rw [decide_eq_false hl]
              have hg : goR b n s' x = true := by
                rw [← hln] at hl
                simp only [goR, decide_eq_false hbx, decide_eq_false hl, Bool.not_false, Bool.and_true]
              rw [hg]
              repeat refine s1 ?_
              refine js (gotA t10 t6 t7 b n (s' ++ [x]) (a', c')) (B := gotB t10 t6 t7 b n (s' ++ [x])) (fun L => gotB_of (a', c') L) ?_
              exact j_rnd Le.ent
        all_goals
          intro Dm z _ hr2
          dsimp only [wkPre, dnE, List.cons_append, List.nil_append]
          have hl : D.down = false → (rounds (nxtR b) (goR b n) [] (if D.down = true then [] else filt a t.kv)).1 = rngL a b n t.kv := fun hd => by
            simp only [hd, Bool.false_eq_true, if_false]
            rw [rounds_rng (hsrt.sublist List.filter_sublist) (by simp; omega)]
            simp [rngL]
          generalize (rounds (nxtR b) (goR b n) [] (if D.down = true then [] else filt a t.kv)).1 = out at hl ⊢
          refine j_ent (mkA_nil _) ?_
          refine js [pt Dm (.deferred (some [])), mkA []] (B := mkA [Dm]) (fun L => mkA_cons Dm [] L) ?_
          refine jh [hlog S.pl (N + U.length)] (j_ent (hlogUp (N' := N + t.kv.length + 1) (by omega) _) ?_)
          rcases hd : D.down with _ | _
          · have h0 : rngO D t a b n = out := by simp only [rngO, hrt, hd]; rw [if_pos ⟨rfl, hn, hab, trivial⟩, hl hd]
            have h1 : rngE D t a b n = 0 := by simp [rngE, hd]
            rw [h0, h1]
            simp only [Bool.false_eq_true, if_false]
            refine jh [gotB t10 t6 t7 b n out] (j_got fun z2 => ?_)
            obtain ⟨oa, oc⟩ := z2
            dsimp only [List.cons_append, List.nil_append]
            repeat refine s2 ?_
            refine jh [mkA [Dm]] ?_
            exact j_finM (rs := [.tmp 8, .tmp 9]) [Dm] rfl rfl (.cons (rv_tmp rfl) (.cons (rv_tmp rfl) .nil)) (oa, oc) rfl trivial
          · have h0 : rngO D t a b n = [] := by simp [rngO, hd]
            have h1 : rngE D t a b n = 30 := by simp only [rngE, hrt, hd]; rw [if_pos ⟨rfl, hn, hab, trivial⟩]
            rw [h0, h1]
            simp only [if_true]
            repeat refine s2 ?_
            refine j_ent (prow_nil _) ?_
            refine jh [mkA [Dm]] ?_
            exact j_finM (rs := [.tmp 8, .tmp 9]) [Dm] rfl rfl (.cons (rv_tmp rfl) (.cons (rv_tmp rfl) .nil)) (none, 0) rfl trivial
end Go.Proofs.YtcnpkmdooekmgaaGreatDoor
namespace Go.Proofs.YtcnpkmdooekmgaaGreatDoor
open Go Sl
structure RP where
  k : Nat
  v : List Nat
  a : Option Addr
  c : Nat
abbrev rpc (x : RP) : List Value := [w64 x.k, .slice x.a x.v.length x.c]
abbrev valA (x : RP) : Assn := isl x.a x.v.length x.c T.uint8 1 (x.v.map u8)
abbrev kvs (l : List RP) : KV := l.map fun x => (x.k, x.v)
/-- a list's values; nobody turns them. -/
def rvals (l : List RP) : Assn := im' (fun im => ∀ x ∈ l, (valA x).sat im Hp.emp) (fun hm h x hx => (valA x).mono hm (h x hx))
instance (l : List RP) : Pers (rvals l) := ⟨fun _ _ h => h⟩
abbrev rowR (a : Option Addr) (n c : Nat) (l : List RP) : Assn := isl a n c T.casemateref15_Pair 2 (l.flatMap rpc)
abbrev rowV (a : Option Addr) (n c : Nat) (l : List RP) : Assn := vec a n c T.casemateref15_Pair 2 (l.flatMap rpc)
theorem rvals_nil (L : List Assn) : Ent L (rvals [] :: L) := fun _ h s => ⟨Hp.emp, h, Hp.emp_le _, Hp.le_refl _, Hp.emp_dis _, fun x hx => (by cases hx), s⟩
theorem rvals_one (x : RP) (L : List Assn) : Ent (valA x :: L) (rvals [x] :: L) := by
  rintro im h ⟨a1, a2, e1, e2, e3, hn, s⟩
  exact ⟨Hp.emp, h, Hp.emp_le _, Hp.le_refl _, Hp.emp_dis _, fun z hz => by simp only [List.mem_singleton] at hz; subst hz; exact hn, satL_mono (Hp.le_refl _) e2 s⟩
theorem rvals_app (l m : List RP) (L : List Assn) : Ent (rvals l :: rvals m :: L) (rvals (l ++ m) :: L) := by
  rintro im h ⟨a1, a2, e1, e2, e3, hn, b1, b2, f1, f2, f3, hm, s⟩
  refine ⟨Hp.emp, h, Hp.emp_le _, Hp.le_refl _, Hp.emp_dis _, fun x hx => ?_, satL_mono (Hp.le_refl _) (Hp.le_trans f2 e2) s⟩
  rcases List.mem_append.1 hx with hx | hx
  · exact hn x hx
  · exact hm x hx
theorem rvals_at {l : List RP} {x : RP} (hx : x ∈ l) (L : List Assn) : Ent (rvals l :: L) (valA x :: rvals l :: L) := by
  rintro im h ⟨a1, a2, e1, e2, e3, hn, s⟩
  exact ⟨Hp.emp, h, Hp.emp_le _, Hp.le_refl _, Hp.emp_dis _, hn x hx, a1, a2, e1, e2, e3, hn, s⟩
theorem rpc_at {l : List RP} {i : Nat} {x : RP} (h : l[i]? = some x) : (l.flatMap rpc)[i * 2]? = some (w64 x.k) ∧ (l.flatMap rpc)[i * 2 + 1]? = some (.slice x.a x.v.length x.c) := by
  have h1 := flat_in (f := rpc) (c := 2) (l := l) (fun _ _ => rfl) h (j := 0) (by decide)
  have h2 := flat_in (f := rpc) (c := 2) (l := l) (fun _ _ => rfl) h (j := 1) (by decide)
  exact ⟨h1, h2⟩
theorem rowV_nil (L : List Assn) : Ent L (rowV none ([] : List RP).length 0 [] :: L) := Ent.vecNil (E := T.casemateref15_Pair) (s := 2) L
attribute [local irreducible] cw sw J Exit.then Exit.inBlock Exit.noGoto bodyPost swG swL permL
end Go.Proofs.YtcnpkmdooekmgaaGreatDoor
namespace Go.Proofs.YtcnpkmdooekmgaaGreatDoor
open Go Sl
theorem take_step {l : List RP} {x : RP} {n : Nat} : (l ++ [x]).take n = if (l.take n).length < n then l.take n ++ [x] else l.take n := by
  split
  · rename_i h
    rw [List.length_take] at h
    have hl : l.length < n := by omega
    rw [List.take_of_length_le (by simp; omega), List.take_of_length_le (by omega)]
  · rename_i h
    rw [List.length_take] at h
    rw [List.take_append_of_le_length (by omega)]
attribute [local irreducible] cw sw J Exit.then Exit.inBlock Exit.noGoto bodyPost swG swL permL
end Go.Proofs.YtcnpkmdooekmgaaGreatDoor
namespace Go.Proofs.YtcnpkmdooekmgaaGreatDoor
open Go Sl
theorem imm_isl {b n cap s : Nat} {E U : TypeId} {fr : Nat × Nat} {xs : List Value} (h1 : xs.length = n * s) (h2 : n ≤ cap) (L : List Assn) : Ent (imm b (.cells xs.toArray U fr) :: L) (isl (some ⟨b, 0, none⟩) n cap E s xs :: L) := by
  rintro im h ⟨a1, a2, e1, e2, e3, hb, s⟩
  exact ⟨a1, a2, e1, e2, e3, ⟨h1, h2, .inr ⟨b, 0, _, U, fr, rfl, hb, fun j x hj => by simpa using hj⟩⟩, s⟩
theorem pcell_at {o : KV} (hv : ∀ x ∈ o, x.2.length = 44) {i : Nat} {x : Nat × List Nat} (h : o[i]? = some x) : ∀ (j : Nat) (v : Value), (pcell x)[j]? = some v → (o.flatMap pcell)[i * 45 + j]? = some v := fun j v hj => by
  have hx := hv x (List.mem_of_getElem? h)
  rw [flat_in (f := pcell) (c := 45) (l := o) (fun z hz => by simp [hv z hz]) h (by have := (List.getElem?_eq_some_iff.1 hj).1; simpa [hx] using this)]
  exact hj
section
variable {X : Cx} {e : Env} {L A : List Assn} {S : List Nat} {ops : Array Oper} {k : Nat} {l : List Oper} {R : Act → World → Prop} {d : Nat} {T : TypeId} {pos : String} {af : Array Edge}
/-- a row's string, where the row stays. -/
theorem s_toStr {t u el : TypeId} {x : Operand} {a : Option Addr} {n cap : Nat} (xs : List Nat) [ts : TUnd X.P t (.slice el)] [te : TUnd X.P el (.int .u8)] [td : TUnd X.P u .string] (hx : ev e x = some (.slice a n cap)) {vs : List Value} [g : RdS a n 1 vs A] (hv : vs = xs.map u8)
    (h : J X ((d, .string (bstr xs)) :: e) L (sw X.P (Holds X.Φ A) S ops R (k + 1) l)) (hd : Nat.blt d X.n = true := by rfl) (hs : S.contains k = true := by rfl) : J X e L (sw X.P (Holds X.Φ A) S ops R k (⟨some d, .convert t u x, T, pos, af, none⟩ :: l)) :=
  r_stable rfl hs rfl hd (fun act w m hh => by
    have hr : Reads w a n 1 (xs.map u8) := by rw [← hv]; exact hh.rds
    have h1 := run_toStr (P := X.P) (src := t) (dst := u) (cap := cap) hr
    simp only [execOp, m.ev hx, Sem.run_bind, h1, Result.andThen_ok, Sem.run_pure]) h
end
section
variable {X : Cx} {e : Env} {L A : List Assn} {S : List Nat} {ops : Array Oper} {k : Nat} {l : List Oper} {R : Act → World → Prop} {d : Nat} {T : TypeId} {pos : String} {af : Array Edge}
theorem r_strne {t u : TypeId} {x y : Operand} {xs ys : List Nat} [_tu : TUnd X.P t .string] (hx : ev e x = some (.string (bstr xs))) (hy : ev e y = some (.string (bstr ys))) (h1 : ∀ x ∈ xs, x < 256) (h2 : ∀ y ∈ ys, y < 256)
    (h : J X ((d, .bool (!decide (xs = ys))) :: e) L (sw X.P (Holds X.Φ A) S ops R (k + 1) l)) (hd : Nat.blt d X.n = true := by rfl) : J X e L (sw X.P (Holds X.Φ A) S ops R k (⟨some d, .binOp .neq t x y u, T, pos, af, none⟩ :: l)) :=
  r_pure rfl (fun a m w => by
    have h3 : (binOp .neq t (.string (bstr xs)) (.string (bstr ys))).run X.P w = .ok (.bool (!decide (xs = ys))) w := by
      have h4 : ((bstr xs).toList == (bstr ys).toList) = decide (xs = ys) := bstr_beq h1 h2
      have h5 : ((bstr xs).toList != (bstr ys).toList) = !decide (xs = ys) := by rw [bne, h4]
      have h6 : (binOp .neq t (.string (bstr xs)) (.string (bstr ys))).run X.P w = .ok (.bool ((bstr xs).toList != (bstr ys).toList)) w := by
        simp [binOp, Op.stringOp, go_sem]
        rw [bne, Bool.not_not]
      rw [h6, h5]
    have h4 : eqGuard .neq t x y (.string (bstr xs)) (.string (bstr ys)) = pure () := rfl
    simp only [execOp, m.ev hx, m.ev hy, Sem.run_bind, h4, Sem.run_pure, h3, Result.andThen_ok]) hd h
end
abbrev mkq (key : Nat) (u : List Nat) (t5 : Nat) : RP := ⟨key, u, some ⟨t5, 0, none⟩, 44⟩
attribute [local irreducible] cw sw J Exit.then Exit.inBlock Exit.noGoto bodyPost swG swL permL
theorem as_c (a : Option Addr) (c : Nat) (o : KV) (hl : o.length ≤ 1000000) (hv : ∀ x ∈ o, x.2.length = 44) (Φ : Base) :
    Sl.Fn Tryz.prog Φ F.casematelaw15_As [.slice a o.length c] [isl a o.length c T.mtree_Pair 45 (o.flatMap pcell)] (fun z : List RP × Option Addr × Nat => kvs z.1 = o) (fun z => .slice z.2.1 z.1.length z.2.2) (fun z => [rowR z.2.1 z.1.length z.2.2 z.1, rvals z.1]) := by
  refine fo fun F => ?_
  repeat refine s1 ?_
  refine j_ent (rowV_nil _) ?_
  refine j_ent (rvals_nil _) ?_
  refine t_loop (σ := Nat × List RP × Option Addr × Nat) (fun z => [(4, i64 z.1), (3, .slice z.2.2.1 z.2.1.length z.2.2.2), (0, .slice a o.length c)]) (fun z => rvals z.2.1 :: rowV z.2.2.1 z.2.1.length z.2.2.2 z.2.1 :: isl a o.length c T.mtree_Pair 45 (o.flatMap pcell) :: F)
    (fun z => z.1 ≤ o.length ∧ kvs z.2.1 = o.take z.1) (fun z => o.length - z.1) (0, [], none, 0) ⟨Nat.zero_le _, rfl⟩ ⟨rfl, rfl, rfl, trivial⟩ (by first | exact Le.ent | (dsimp only; exact Le.ent) | (dsimp only [List.cons_append, List.nil_append]; exact Le.ent) | (dsimp only [List.cons_append, List.nil_append]; simp only [List.take_zero, List.map_nil, List.flatMap_nil, List.length_nil]; exact Le.ent)) ?_
  rintro ⟨i, out, oa, oc⟩ ⟨h1, h2⟩
  dsimp only at h1 h2 ⊢
  have hol : out.length = i := by have := congrArg List.length h2; rw [List.length_map, List.length_take_of_le h1] at this; exact this
  refine jh [isl a o.length c T.mtree_Pair 45 (o.flatMap pcell)] (j_leni (fun _ _ hla => ?_))
  repeat refine s1 ?_
  refine r_iop rfl rfl rfl rfl ?_
  repeat refine s1 ?_
  refine t_condSB rfl (fun hq => ?_) (fun hq => ?_)
  · have hi : i < o.length := by have := of_decide_eq_true hq; omega
    obtain ⟨lb, lo, rfl⟩ := hla (by omega)
    obtain ⟨x, hx⟩ : ∃ x, o[i]? = some x := ⟨_, List.getElem?_eq_getElem hi⟩
    obtain ⟨key, u⟩ := x
    have hat := pcell_at hv hx
    have hul : u.length = 44 := hv _ (List.mem_of_getElem? hx)
    have htk : o.take (i + 1) = o.take i ++ [(key, u)] := by rw [List.take_add_one, hx]; rfl
    repeat refine s1 ?_
    refine ix rfl rfl hi ?_
    repeat refine s1 ?_
    refine r_loadIA (off := lo) (n := o.length) (cap := c) (E := T.mtree_Pair) (s := 45) (xs := o.flatMap pcell) (vs := u.map u8) rfl (j := i * 45 + 1) (by omega) (by simp [hul]) (fun j v hj => by rw [Nat.add_assoc, Nat.add_comm 1 j]; exact hat (j + 1) v (by simpa using hj)) rfl rfl ?_
    refine al (cs := z44.map u8) (fun t5 => ?_)
    refine r_storeW (vs := u.map u8) rfl rfl (by simp [hul]) (by rfl) (by simp [Value.oneCell']) rfl ?_
    repeat refine s1 ?_
    refine ix rfl rfl hi ?_
    repeat refine s1 ?_
    refine r_loadI (off := lo) (n := o.length) (cap := c) (E := T.mtree_Pair) (s := 45) (xs := o.flatMap pcell) (v := w64 key) rfl (j := i * 45) (by omega) (hat 0 _ rfl) rfl rfl ?_
    repeat refine s1 ?_
    rw [show (Value.slice (some ⟨t5, 0, none⟩) 44 44) = .slice (some ⟨t5, 0, none⟩) u.length 44 by rw [hul]]
    refine r_build (cells := rpc (mkq key u t5)) rfl (by rfl) rfl ?_
    refine r_buildA1 (v := rpc (mkq key u t5)) rfl (by rfl) (by decide) (fun bv => ?_)
    refine r_append (n := out.length) (m := 1) (s := 2) (xs := out.flatMap rpc) (ys := rpc (mkq key u t5)) rfl rfl (by decide) (by rfl) (by simp [Value.oneCell']) (by omega) (by omega) rfl rfl (fun oa' oc' _ => ?_)
    rw [show out.flatMap rpc ++ rpc (mkq key u t5) = (out ++ [mkq key u t5]).flatMap rpc by simp, show out.length + 1 = (out ++ [mkq key u t5]).length by simp]
    repeat refine s1 ?_
    refine j_freeze t5 ?_
    refine j_ent (imm_isl (n := u.length) (cap := 44) (E := T.uint8) (s := 1) (by simp) (by omega) _) ?_
    refine js [valA (mkq key u t5)] (B := rvals [mkq key u t5]) (fun L => rvals_one _ L) ?_
    refine js [rvals out, rvals [mkq key u t5]] (B := rvals (out ++ [mkq key u t5])) (fun L => rvals_app _ _ L) ?_
    exact j_again (i + 1, out ++ [mkq key u t5], oa', oc') ⟨by omega, by dsimp only; rw [htk, ← h2]; simp [kvs]⟩ (by dsimp only; omega) ⟨rfl, rfl, rfl, trivial⟩ (by first | exact Le.ent | (dsimp only; exact Le.ent) | (dsimp only [List.cons_append, List.nil_append]; exact Le.ent) | (dsimp only [List.cons_append, List.nil_append]; simp only [List.take_zero, List.map_nil, List.flatMap_nil, List.length_nil]; exact Le.ent))
  · have hi : i = o.length := by have := of_decide_eq_false hq; omega
    subst hi
    rw [List.take_length] at h2
    repeat refine s1 ?_
    refine jh [rowV oa out.length oc out] (fz ?_)
    exact f1 (out, oa, oc) (hq := h2)
theorem same_c (a b : Option Addr) (c d : Nat) (l m : List RP) (hl : l.length ≤ 1000000) (hb1 : ∀ x ∈ l, ∀ y ∈ x.v, y < 256) (hb2 : ∀ x ∈ m, ∀ y ∈ x.v, y < 256) (Φ : Base) :
    Sl.Fn Tryz.prog Φ F.casemateref15_Same [.slice a l.length c, .slice b m.length d] [rowR a l.length c l, rvals l, rowR b m.length d m, rvals m] (fun _ : Unit => True) (fun _ => .bool (decide (kvs l = kvs m))) (fun _ => []) := by
  refine fo fun F => ?_
  repeat refine s1 ?_
  refine r_icmp rfl rfl rfl rfl ?_
  by_cases hlm : l.length = m.length
  · rw [show (!decide ((l.length : Int) = (m.length : Int))) = false by simp [hlm]]
    repeat refine s1 ?_
    refine t_loop (σ := Nat) (fun z => [(5, i64 z), (0, .slice a l.length c), (1, .slice b m.length d)]) (fun z => rowR a l.length c l :: rvals l :: rowR b m.length d m :: rvals m :: F)
      (fun z => z ≤ l.length ∧ kvs (l.take z) = kvs (m.take z)) (fun z => l.length - z) 0 ⟨Nat.zero_le _, rfl⟩ ⟨rfl, rfl, rfl, trivial⟩ (by first | exact Le.ent | (dsimp only; exact Le.ent) | (dsimp only [List.cons_append, List.nil_append]; exact Le.ent) | (dsimp only [List.cons_append, List.nil_append]; simp only [List.take_zero, List.map_nil, List.flatMap_nil, List.length_nil]; exact Le.ent)) ?_
    rintro i ⟨h1, h2⟩
    refine jh [rowR b m.length d m] (j_leni (fun _ _ hlb => ?_))
    refine jh [rowR a l.length c l] (j_leni (fun _ _ hla => ?_))
    repeat refine s1 ?_
    refine r_iop rfl rfl rfl rfl ?_
    repeat refine s1 ?_
    refine t_condSB rfl (fun hq => ?_) (fun hq => ?_)
    · have hi : i < l.length := by have := of_decide_eq_true hq; omega
      obtain ⟨lb, lo, rfl⟩ := hla (by omega)
      obtain ⟨mb, mo, rfl⟩ := hlb (by omega)
      obtain ⟨x, hx⟩ : ∃ x, l[i]? = some x := ⟨_, List.getElem?_eq_getElem hi⟩
      obtain ⟨y, hy⟩ : ∃ y, m[i]? = some y := ⟨_, List.getElem?_eq_getElem (by omega)⟩
      have hat := rpc_at hx
      have hbt := rpc_at hy
      have hxy : kvs (l.take (i + 1)) = kvs (m.take (i + 1)) ↔ x.k = y.k ∧ x.v = y.v := by
        rw [List.take_add_one, List.take_add_one, hx, hy, Option.toList_some, Option.toList_some, kvs, kvs, List.map_append, List.map_append, ← kvs, ← kvs, h2]
        simp
      have hno : kvs (l.take (i + 1)) ≠ kvs (m.take (i + 1)) → kvs l ≠ kvs m := fun h3 h4 => h3 (by
        rw [kvs, kvs, List.map_take, List.map_take]
        rw [kvs, kvs] at h4
        rw [h4])
      refine jh [rvals l] (j_ent (rvals_at (List.mem_of_getElem? hx) _) ?_)
      refine jh [rvals m] (j_ent (rvals_at (List.mem_of_getElem? hy) _) ?_)
      repeat refine s1 ?_
      refine t_draw [valA x, valA y] [17, 23] mixed (by decide +kernel) ?_
      repeat refine s1 ?_
      refine ix rfl rfl hi ?_
      repeat refine s1 ?_
      refine r_loadI (off := lo) (n := l.length) (cap := c) (E := T.casemateref15_Pair) (s := 2) (xs := l.flatMap rpc) (v := w64 x.k) rfl (j := i * 2) (by omega) hat.1 rfl rfl ?_
      repeat refine s1 ?_
      refine ix rfl rfl (by omega) ?_
      repeat refine s1 ?_
      refine r_loadI (off := mo) (n := m.length) (cap := d) (E := T.casemateref15_Pair) (s := 2) (xs := m.flatMap rpc) (v := w64 y.k) rfl (j := i * 2) (by omega) hbt.1 rfl rfl ?_
      repeat refine s1 ?_
      refine r_icmp rfl rfl rfl rfl ?_
      by_cases hk : x.k = y.k
      · rw [show (!decide ((x.k : Int) = (y.k : Int))) = false by simp [hk]]
        repeat refine s1 ?_
        refine ix rfl rfl hi ?_
        repeat refine s1 ?_
        refine r_loadI (off := lo) (n := l.length) (cap := c) (E := T.casemateref15_Pair) (s := 2) (xs := l.flatMap rpc) (v := .slice x.a x.v.length x.c) rfl (j := i * 2 + 1) (by omega) hat.2 rfl rfl ?_
        repeat refine s1 ?_
        refine s_toStr x.v rfl rfl ?_
        repeat refine s1 ?_
        refine ix rfl rfl (by omega) ?_
        repeat refine s1 ?_
        refine r_loadI (off := mo) (n := m.length) (cap := d) (E := T.casemateref15_Pair) (s := 2) (xs := m.flatMap rpc) (v := .slice y.a y.v.length y.c) rfl (j := i * 2 + 1) (by omega) hbt.2 rfl rfl ?_
        repeat refine s1 ?_
        refine s_toStr y.v rfl rfl ?_
        repeat refine s1 ?_
        refine r_strne rfl rfl (hb1 x (List.mem_of_getElem? hx)) (hb2 y (List.mem_of_getElem? hy)) ?_
        by_cases hv : x.v = y.v
        · rw [decide_eq_true hv, Bool.not_true]
          repeat refine s1 ?_
          exact j_again (i + 1) ⟨by omega, hxy.2 ⟨hk, hv⟩⟩ (by omega) ⟨rfl, rfl, rfl, trivial⟩ (by first | exact Le.ent | (dsimp only; exact Le.ent) | (dsimp only [List.cons_append, List.nil_append]; exact Le.ent) | (dsimp only [List.cons_append, List.nil_append]; simp only [List.take_zero, List.map_nil, List.flatMap_nil, List.length_nil]; exact Le.ent))
        · rw [decide_eq_false hv, Bool.not_false]
          rw [decide_eq_false (hno (fun h3 => hv (hxy.1 h3).2))]
          repeat refine s1 ?_
          exact f1 ()
      · rw [show (!decide ((x.k : Int) = (y.k : Int))) = true by simp; omega]
        rw [decide_eq_false (hno (fun h3 => hk (hxy.1 h3).1))]
        repeat refine s1 ?_
        exact f1 ()
    · have hi : i = l.length := by have := of_decide_eq_false hq; omega
      subst hi
      rw [List.take_length, hlm, List.take_length] at h2
      rw [decide_eq_true h2]
      repeat refine s1 ?_
      exact f1 ()
  · rw [show (!decide ((l.length : Int) = (m.length : Int))) = true by simp; omega]
    have hne : kvs l ≠ kvs m := fun h => hlm (by have := congrArg List.length h; simpa [kvs] using this)
    rw [decide_eq_false hne]
    repeat refine s1 ?_
    exact f1 ()
end Go.Proofs.YtcnpkmdooekmgaaGreatDoor
namespace Go.Proofs.YtcnpkmdooekmgaaGreatDoor
open Go Sl
def valL (by_ key : Nat) : List Nat := by_ :: (key % 256) :: (List.replicate 41 0 ++ [by_])
theorem valL_bytes {b k : Nat} (h : b < 256) : bytes 44 (valL b k) := ⟨by simp [valL], fun x hx => by
  simp only [valL, List.mem_cons, List.mem_append, List.mem_replicate, List.not_mem_nil, or_false] at hx
  omega⟩
section
variable {X : Cx} {e : Env} {L A : List Assn} {S : List Nat} {ops : Array Oper} {k : Nat} {l : List Oper} {R : Act → World → Prop} {d : Nat} {T : TypeId} {pos : String} {af : Array Edge}
theorem r_buildF {t : TypeId} {parts : Array (Nat × Operand)} {vs : List (Nat × Value)} {cells : List Value} (hp : evP e parts.toList = some vs) (hb : X.P.built t vs = some cells.toArray)
    (h : J X ((d, .agg cells.toArray) :: e) L (sw X.P (Holds X.Φ A) S ops R (k + 1) l)) (hd : Nat.blt d X.n = true := by rfl) : J X e L (sw X.P (Holds X.Φ A) S ops R k (⟨some d, .build t parts, T, pos, af, none⟩ :: l)) :=
  r_pure rfl (fun a m w => by
    have e1 : (parts.map fun (i, x) => (i, a.eval x)).toList = vs := by rw [← m.evP hp, Array.toList_map]
    have h1 : (Instr.build t (parts.map fun (i, x) => (i, a.eval x))).run X.P w = .ok (.agg cells.toArray) w := run_build w t _ _ (by rw [e1, hb])
    simp only [execOp, Sem.run_bind, h1, Result.andThen_ok, Sem.run_pure]) hd h
end
theorem wrap8 (k : Nat) : IntKind.u8.wrap (k : Int) = ((k % 256 : Nat) : Int) := by simp [IntKind.wrap, IntKind.signed, IntKind.bits]
theorem built51 (u v w : Value) (hu : u.cells = #[u]) (hv : v.cells = #[v]) (hw : w.cells = #[w]) : Program.built Tryz.prog 51 [(0, u), (1, v), (43, w)] = some ([u, v] ++ List.replicate 41 (u8 0) ++ [w]).toArray := by
  have h1 : Program.built Tryz.prog 51 [(0, u), (1, v), (43, w)] = Instr.fill (fun i => some (i * 1, 1)) (List.replicate 44 (u8 0)).toArray [(0, u), (1, v), (43, w)] := by kernel_rfl
  rw [h1]
  simp [Instr.fill, hu, hv, hw]
  done
attribute [local irreducible] cw sw J Exit.then Exit.inBlock Exit.noGoto bodyPost swG swL permL
theorem val_c (b k : Nat) (Φ : Base) : Sl.Fn Tryz.prog Φ F.casematelaw15_Val [u8 b, w64 k] [] (fun _ : Unit => True) (fun _ => v44 (valL b k)) (fun _ => []) := by
  refine fo fun F => ?_
  repeat refine s1 ?_
  refine al (cs := z44.map u8) (fun t4 => ?_)
  repeat refine s1 ?_
  rw [wrap8]
  refine r_buildF (cells := (valL b k).map u8) rfl ?_ ?_
  · rw [built51 _ _ _ rfl rfl rfl]; simp [valL]
  refine r_storeW (vs := (valL b k).map u8) rfl rfl (by rfl) (by rfl) (by simp [Value.oneCell']) rfl ?_
  repeat refine s1 ?_
  exact j_fin rfl (.cons (rv_agg (l := (valL b k).map u8) (U := T.a44_uint8) (fr := (0, 0)) rfl (by rfl)) .nil) () rfl trivial
abbrev Dk0 (n : Nat) : Dk := ⟨n, fun _ => none, fun _ => none, [], reg0, 0, false, 0, false⟩
theorem begin_c (n : Nat) (h1 : 1 ≤ n) (h2 : n ≤ 60000) (Φ : Base) : Sl.Fn Tryz.prog Φ F.casematelaw15_Begin [i64 n] [] (fun _ : Nat × Nat × Nat => True) (fun z => .tuple #[ptr z.1, ptr z.2.1, .bool true]) (fun z => [store z.2.1 (St0 z.1 z.2.2 3 n), disk z.1 (Dk0 (n + 3)), hlog z.2.2 0]) := by
  refine fo fun F => ?_
  repeat refine s1 ?_
  refine r_addN (m := n) (n := 3) rfl rfl (by omega) rfl ?_
  refine cx (dnew_c (n + 3) (by omega) (by omega) Φ) (fun pd _ => ?_)
  repeat refine s2 ?_
  refine cx (hlognew_c Φ) (fun pl _ => ?_)
  refine cx (snew_c pd pl 3 n (Dk0 (n + 3)) h1 (by show 3 + n ≤ n + 3; omega) Φ) (fun ps _ => ?_)
  repeat refine s2 ?_
  exact f3 (pd, ps, pl)
theorem all_c (ps pd pl N : Nat) (S : St) (D : Dk) (t : Tre) (ht : TOk S.g t) (hS : S.wf) (ha : Agr S D) (hN : N ≤ 600000000) (hkv : t.kv.length ≤ 1000000) (hpd : S.pd = pd) (hpl : S.pl = pl) (Φ : Base) :
    Sl.Fn Tryz.prog Φ F.casematelaw15_All [ptr t.p] [tree t.p ps t.rt, store ps S, disk pd D, hlog pl N] (fun z : List RP × Option Addr × Nat => (D.down = false ∨ t.rt = none) → kvs z.1 = t.kv) (fun z => .tuple #[.slice z.2.1 z.1.length z.2.2, .bool (decide (D.down = false ∨ t.rt = none))])
      (fun z => [rowR z.2.1 z.1.length z.2.2 z.1, rvals z.1, tree t.p ps t.rt, store ps S, disk pd D, hlog pl (N + t.kv.length + 1)]) := by
  have hall : rngO D t 0 18446744073709551615 1048576 = if D.down = false ∨ t.rt = none then t.kv else [] := by
    have hf : rngL 0 18446744073709551615 1048576 t.kv = t.kv := by
      unfold rngL
      rw [show t.kv.filter (fun x => decide (0 ≤ x.1)) = t.kv from List.filter_eq_self.2 (fun x hx => by simp), List.filter_eq_self.2 (fun x hx => by have := (ht.kvok x hx).1; simp; omega), List.take_of_length_le (by show _ ≤ 1048576; omega)]
    unfold rngO
    rcases hr : t.rt with _ | r
    · simp [ht.nil hr]
    · rcases hd : D.down with _ | _
      · simp [hf]
      · simp
  have hE : rngE D t 0 18446744073709551615 1048576 = if D.down = false ∨ t.rt = none then 0 else 30 := by
    unfold rngE
    rcases hr : t.rt with _ | r
    · simp
    · rcases hd : D.down with _ | _ <;> simp
  have hlen : ∀ x ∈ rngO D t 0 18446744073709551615 1048576, x.2.length = 44 := fun x hx => by
    rw [hall] at hx
    split at hx
    · exact (ht.kvok x hx).2.1
    · cases hx
  have hll : (rngO D t 0 18446744073709551615 1048576).length ≤ 1000000 := by
    rw [hall]
    split
    · exact hkv
    · simp
  refine fo fun F => ?_
  repeat refine s1 ?_
  refine cx (trange_c ps pd pl N 0 18446744073709551615 1048576 S D t ht hS ha hN hkv hpd hpl Φ) (fun x _ => ?_)
  obtain ⟨oa, oc⟩ := x
  dsimp only
  generalize rngO D t 0 18446744073709551615 1048576 = o at hall hlen hll ⊢
  rw [hE]
  refine jh [prow oa o.length oc o] (fz ?_)
  repeat refine s1 ?_
  refine cx (as_c oa oc o hll hlen Φ) (fun z hz => ?_)
  repeat refine s1 ?_
  refine r_icmp rfl rfl rfl rfl ?_
  repeat refine s1 ?_
  exact f2 z (hV := by by_cases hP : D.down = false ∨ t.rt = none <;> simp [hP]) (hq := fun hP => by rw [hall, if_pos hP] at hz; exact hz)
end Go.Proofs.YtcnpkmdooekmgaaGreatDoor
namespace Go.Proofs.YtcnpkmdooekmgaaGreatDoor
open Go Sl
/-- a play: a store and its trees; the disk fails by no plan. -/
structure Lv (pd pl n : Nat) (S : St) (D : Dk) (ts : List Tre) : Prop where
  ok : TsOk S ts
  agr : Agr S D
  cnt : S.cnt = n
  plan : D.plan = false
  up : D.down = false
  pd : S.pd = pd
  pl : S.pl = pl
theorem Lv.begin (pd pl n p : Nat) : Lv pd pl n (St0 pd pl 3 n) (Dk0 (n + 3)) [⟨p, none, []⟩] :=
  ⟨⟨fun s => by simp [hold, hd1], St0_wf _ _ _ _, fun s hs => absurd rfl hs, fun t ht => by simp only [List.mem_singleton] at ht; subst ht; rfl⟩,
    ⟨fun s hs => absurd rfl hs, by show 3 + n ≤ n + 3; omega, by show 0 ≤ _; decide⟩, rfl, rfl, rfl, rfl, rfl⟩
theorem Lv.room {pd pl n : Nat} {S : St} {D : Dk} {ts : List Tre} (h : Lv pd pl n S D ts) : 3 * card S.K ≤ (ts.map fun t => t.kv.length + 2).sum := h.ok.used
/-- a change that had room is done. -/
theorem Lv.done {pd pl n : Nat} {S : St} {D : Dk} {A B : List Tre} {t : Tre} {kv' : KV} {Y : Prop} {x : Nat × Option Rf × St × Dk} (h : Lv pd pl n S D (A ++ t :: B)) (q : TrQ S D A B t kv' Y x) (hr : card S.K + (2 * Nat.log2 t.kv.length + 4) < n) (hy : ¬ Y) :
    x.1 = 0 ∧ Lv pd pl n x.2.2.1 x.2.2.2 (A ++ ⟨t.p, x.2.1, kv'⟩ :: B) := by
  have hu := q.dle.up h.plan
  have h0 : x.1 = 0 := by
    rcases Nat.eq_zero_or_pos x.1 with h0 | h0
    · exact h0
    · rcases (q.er (by omega)).2.2.2 with ⟨_, h1⟩ | ⟨_, h1⟩ | ⟨_, h1⟩
      · rw [h.cnt] at h1; omega
      · rw [hu, h.up] at h1; cases h1
      · exact absurd h1 hy
  exact ⟨h0, q.ok h0, q.agr, q.cnt.trans h.cnt, q.dle.plan.trans h.plan, hu.trans h.up, q.pd.trans h.pd, q.pl.trans h.pl⟩
theorem card_pos {K : Kp} (hf : ∃ l, Rep l K) {s : Nat} (hs : K s ≠ none) : 1 ≤ card K := by
  obtain ⟨l, hl⟩ := hf
  rw [card_rep hl]
  have := (rep_keys hl s).2 hs
  cases l with
  | nil => simp at this
  | cons a l => simp
theorem built51o (u : Value) (hu : u.cells = #[u]) : Program.built Tryz.prog 51 [(0, u)] = some ([u] ++ List.replicate 43 (u8 0)).toArray := by
  have h1 : Program.built Tryz.prog 51 [(0, u)] = Instr.fill (fun i => some (i * 1, 1)) (List.replicate 44 (u8 0)).toArray [(0, u)] := by kernel_rfl
  rw [h1]
  simp [Instr.fill, hu]
def oneL (b : Nat) : List Nat := b :: List.replicate 43 0
theorem oneL_bytes {b : Nat} (h : b < 256) : bytes 44 (oneL b) := ⟨by simp [oneL], fun x hx => by
  simp only [oneL, List.mem_cons, List.mem_replicate] at hx
  omega⟩
attribute [local irreducible] cw sw J Exit.then Exit.inBlock Exit.noGoto bodyPost swG swL permL
set_option maxHeartbeats 1000000 in
theorem alive_c (Φ : Base) (hT : Tab Φ) : Sl.Fn Tryz.prog Φ F.casematelaw15_alive [] [] (fun _ : Unit => True) (fun _ => .bool true) (fun _ => []) := by
  refine fo fun F => ?_
  repeat refine s1 ?_
  refine cx (begin_c 20 (by decide) (by decide) Φ) (fun z _ => ?_)
  obtain ⟨pd, ps, pl⟩ := z
  dsimp only
  repeat refine s1 ?_
  refine cx (tnew_c ps Φ) (fun tp _ => ?_)
  repeat refine s1 ?_
  refine r_buildF (cells := (oneL 7).map u8) rfl ?_ ?_
  · rw [built51o _ rfl]; simp [oneL]
  have l0 := Lv.begin pd pl 20 tp
  refine cx (tput_c ps pd pl 0 1 (oneL 7) (St0 pd pl 3 20) (Dk0 23) [] [] ⟨tp, none, []⟩ (by decide) (oneL_bytes (by decide)) l0.ok l0.agr (by decide) (by show 0 ≤ _; decide) (by show 0 ≤ _; decide) (by show 1 ≤ _; decide) rfl rfl Φ hT) (fun x hx => ?_)
  obtain ⟨hx0, l1⟩ := l0.done hx (by have := l0.room; simp at this ⊢; omega) (fun h => h)
  obtain ⟨e1, o1, S1, D1⟩ := x
  dsimp only at hx0 l1 ⊢
  subst hx0
  have l1 : Lv pd pl 20 S1 D1 [⟨tp, o1, [(1, oneL 7)]⟩] := l1
  have w1 : D1.waits.length ≤ 70 := by have := hx.dle.len; simpa using this
  repeat refine s1 ?_
  refine r_buildF (cells := (oneL 8).map u8) rfl ?_ ?_
  · rw [built51o _ rfl]; simp [oneL]
  refine cx (tput_c ps pd pl 200 2 (oneL 8) S1 D1 [] [] ⟨tp, o1, [(1, oneL 7)]⟩ (by decide) (oneL_bytes (by decide)) l1.ok l1.agr (by decide) (by omega) (by show 1 ≤ _; decide) (by show 1 ≤ _; decide) l1.pd l1.pl Φ hT) (fun x hx2 => ?_)
  obtain ⟨hx0, l2⟩ := l1.done hx2 (by have h9 := l1.room; simp only [List.map_cons, List.map_nil, List.sum_cons, List.sum_nil, List.length_cons, List.length_nil] at h9; show card S1.K + (2 * Nat.log2 1 + 4) < 20; have : Nat.log2 1 = 0 := (by decide); omega) (fun h => h)
  obtain ⟨e2, o2, S2, D2⟩ := x
  dsimp only at hx0 l2 ⊢
  subst hx0
  have l2 : Lv pd pl 20 S2 D2 [⟨tp, o2, [(1, oneL 7), (2, oneL 8)]⟩] := l2
  have w2 : D2.waits.length ≤ 140 := by have := hx2.dle.len; dsimp only at this; omega
  repeat refine s1 ?_
  refine cx (tdel_c ps pd pl 400 1 S2 D2 [] [] ⟨tp, o2, [(1, oneL 7), (2, oneL 8)]⟩ (by decide) l2.ok l2.agr (by decide) (by omega) (by show 2 ≤ _; decide) (by show 1 ≤ _; decide) l2.pd l2.pl Φ hT) (fun x hx3 => ?_)
  obtain ⟨hx0, l3⟩ := l2.done hx3.1 (by have h9 := l2.room; simp only [List.map_cons, List.map_nil, List.sum_cons, List.sum_nil, List.length_cons, List.length_nil] at h9; show card S2.K + (2 * Nat.log2 2 + 4) < 20; have : Nat.log2 2 = 1 := (by decide); omega) (by simp [get?])
  obtain ⟨e3, o3, S3, D3⟩ := x
  dsimp only at hx0 l3 ⊢
  subst hx0
  have l3 : Lv pd pl 20 S3 D3 [⟨tp, o3, [(2, oneL 8)]⟩] := l3
  rw [show delV 0 = .tuple #[.bool true, i64 0] from rfl]
  have ht3 := l3.ok.each ⟨tp, o3, [(2, oneL 8)]⟩ (by simp)
  have hro : o3.isSome = true := ht3.has.2 (by simp)
  repeat refine s1 ?_
  refine cx (trange_c ps pd pl 600 0 18446744073709551615 9 S3 D3 ⟨tp, o3, [(2, oneL 8)]⟩ ht3 l3.ok.ok l3.agr (by decide) (by show 1 ≤ _; decide) l3.pd l3.pl Φ) (fun x _ => ?_)
  have hout : rngO D3 ⟨tp, o3, [(2, oneL 8)]⟩ 0 18446744073709551615 9 = [(2, oneL 8)] := by
    rw [rngO, if_pos ⟨hro, by decide, by decide, l3.up⟩]; simp [rngL]
  have hoe : rngE D3 ⟨tp, o3, [(2, oneL 8)]⟩ 0 18446744073709551615 9 = 0 := by simp [rngE, l3.up]
  rw [hout, hoe]
  obtain ⟨ra, rc⟩ := x
  dsimp only
  refine jh [prow ra [(2, oneL 8)].length rc [(2, oneL 8)]] (fz (j_leni (fun _ _ hra => ?_)))
  obtain ⟨rb, rof, rfl⟩ := hra (by decide)
  repeat refine s1 ?_
  refine cl (tget_c ps pd pl 602 2 S3 D3 ⟨tp, o3, [(2, oneL 8)]⟩ (by decide) ht3 l3.ok.ok l3.agr (by decide) (by show 1 ≤ _; decide) l3.pd l3.pl Φ) ?_
  rw [if_neg (by simp [l3.up])]
  rw [show gotV (get? 2 [(2, oneL 8)]) 0 = .tuple #[v44 (oneL 8), .bool true, i64 0] from rfl]
  repeat refine s1 ?_
  refine al (cs := z44.map u8) (fun t11 => ?_)
  refine r_storeW (vs := (oneL 8).map u8) rfl rfl (by rfl) (by rfl) (by simp [Value.oneCell']) rfl ?_
  repeat refine s2 ?_
  refine ix (i := 0) rfl rfl (by decide) ?_
  repeat refine s1 ?_
  refine r_loadI (off := rof) (n := [(2, oneL 8)].length) (cap := rc) (E := T.mtree_Pair) (s := 45) (xs := [(2, oneL 8)].flatMap pcell) (v := w64 2) rfl (j := 0) (by omega) (by rfl) rfl rfl ?_
  repeat refine s2 ?_
  have hc1 : 1 ≤ card S3.K := by
    obtain ⟨r, rfl⟩ := Option.isSome_iff_exists.1 hro
    exact card_pos l3.ok.ok.fin (tok_root ht3 rfl)
  have hc2 : card S3.K = 1 := by
    have h9 := l3.room
    simp only [List.map_cons, List.map_nil, List.sum_cons, List.sum_nil, List.length_cons, List.length_nil] at h9
    omega
  refine cl (sused_c ps S3 noδ Φ) ?_
  rw [hc2]
  repeat refine s2 ?_
  exact f1 ()
end Go.Proofs.YtcnpkmdooekmgaaGreatDoor
namespace Go.Proofs.YtcnpkmdooekmgaaGreatDoor
open Go Sl
structure Opn where
  kind : Int
  key : Nat
  to : Nat
  by_ : Nat
  n : Int
structure Opn.wt (o : Opn) : Prop where
  key : o.key < 18446744073709551616
  to : o.to < 18446744073709551616
  by_ : o.by_ < 256
abbrev ocells (o : Opn) : List Value := [.int .i64 o.kind, w64 o.key, w64 o.to, u8 o.by_, .int .i64 o.n]
theorem kvs_bytes {l : List RP} (h : KVok (kvs l)) : ∀ x ∈ l, ∀ y ∈ x.v, y < 256 := fun x hx => (h (x.k, x.v) (List.mem_map.2 ⟨x, hx, rfl⟩)).2.2
attribute [local irreducible] cw sw J Exit.then Exit.inBlock Exit.noGoto bodyPost swG swL permL
end Go.Proofs.YtcnpkmdooekmgaaGreatDoor
namespace Go.Proofs.YtcnpkmdooekmgaaGreatDoor
open Go Sl
theorem ocells_at {os : List Opn} {i : Nat} {o : Opn} (h : os[i]? = some o) : ∀ (j : Nat) (v : Value), (ocells o)[j]? = some v → (os.flatMap ocells)[i * 5 + j]? = some v := fun j v hv => by
  rw [flat_in (f := ocells) (c := 5) (l := os) (fun _ _ => rfl) h (by have := (List.getElem?_eq_some_iff.1 hv).1; simpa using this)]
  exact hv
attribute [local irreducible] cw sw J Exit.then Exit.inBlock Exit.noGoto bodyPost swG swL permL
end Go.Proofs.YtcnpkmdooekmgaaGreatDoor
namespace Go.Proofs.YtcnpkmdooekmgaaGreatDoor
open Go Sl
abbrev Fd := Nat × (Nd × NR)
abbrev vF (x : Nd × NR) : Value := nV x.1 x.2
abbrev fk (l : List Fd) : List (Nat × List Nat) := l.map fun e => (e.1, secs e.2.1)
/-- what was found stands there, and its kids were found. -/
structure FOk (g : Gd) (f c : Nat) (l : List Fd) : Prop where
  nd : (l.map Prod.fst).Nodup
  at' : ∀ e ∈ l, g.K e.1 = some (secs e.2.1) ∧ e.2.1.wt ∧ e.2.1.kids.length ≤ 11 ∧ f ≤ e.1 ∧ e.1 < f + c
  closed : ∀ e ∈ l, ∀ k ∈ secs e.2.1, k ∈ l.map Prod.fst
theorem aset_mem {β : Type} {l : List (Nat × β)} {k : Nat} {x : β} : ∀ y ∈ aset l k x, y = (k, x) ∨ y ∈ l := by
  induction l with
  | nil => intro y hy; simp [aset] at hy; exact .inl hy
  | cons p l ih =>
    intro y hy
    unfold aset at hy
    split at hy
    · simp only [List.mem_cons] at hy ⊢
      rcases hy with rfl | hy
      · exact .inl rfl
      · exact .inr (.inr hy)
    · simp only [List.mem_cons] at hy ⊢
      rcases hy with rfl | hy
      · exact .inr (.inl rfl)
      · exact (ih y hy).imp id .inr
theorem aset_keys {β : Type} {l : List (Nat × β)} {k : Nat} {x : β} : ∀ s, s ∈ (aset l k x).map Prod.fst ↔ s = k ∨ s ∈ l.map Prod.fst := by
  induction l with
  | nil => intro s; simp [aset]
  | cons p l ih =>
    intro s
    unfold aset
    split
    · rename_i e
      simp only [List.map_cons, List.mem_cons]
      constructor
      · rintro (h | h)
        · exact .inl h
        · exact .inr (.inr h)
      · rintro (h | h | h)
        · exact .inl h
        · exact .inl (by rw [h]; first | exact e | exact eq_of_beq e)
        · exact .inr h
    · simp only [List.map_cons, List.mem_cons, ih]
      constructor
      · rintro (h | h | h)
        · exact .inr (.inl h)
        · exact .inl h
        · exact .inr (.inr h)
      · rintro (h | h | h)
        · exact .inr (.inl h)
        · exact .inl h
        · exact .inr (.inr h)
theorem FOk.add {g : Gd} {f c : Nat} {l : List Fd} (h : FOk g f c l) {s : Nat} {n : Nd} {y : NR} (hK : g.K s = some (secs n)) (hw : n.wt) (hk : n.kids.length ≤ 11) (h1 : f ≤ s) (h2 : s < f + c) (hc : ∀ k ∈ secs n, k ∈ l.map Prod.fst) : FOk g f c (aset l s (n, y)) := by
  refine ⟨(Rep.set (l := l) (f := alook l) ⟨h.nd, fun _ => rfl⟩ s (n, y)).nd, fun e he => ?_, fun e he k hk' => ?_⟩
  · rcases aset_mem e he with rfl | he
    · exact ⟨hK, hw, hk, h1, h2⟩
    · exact h.at' e he
  · refine (aset_keys k).2 (.inr ?_)
    rcases aset_mem e he with rfl | he
    · exact hc k hk'
    · exact h.closed e he k hk'
/-- what they say of kids. -/
def kf (l : List Fd) : Kp := fun s => (alook l s).map fun x => secs x.1
theorem kf_rep {l : List Fd} (h : (l.map Prod.fst).Nodup) : Rep (fk l) (kf l) := by
  refine ⟨by simpa [fk, List.map_map, Function.comp_def] using h, fun s => ?_⟩
  exact alook_map (fun x : Nd × NR => secs x.1) l s
theorem kf_perm {l m : List Fd} (h : (l.map Prod.fst).Nodup) (p : m.Perm l) : kf m = kf l := by
  have hm : (m.map Prod.fst).Nodup := (p.map Prod.fst).nodup_iff.2 h
  funext s
  rcases hk : kf l s with _ | ks
  · rcases hk' : kf m s with _ | ks
    · rfl
    · have := (kf_rep hm).mem.2 hk'
      have := (kf_rep h).mem.1 ((p.map fun e : Fd => (e.1, secs e.2.1)).mem_iff.1 this)
      rw [hk] at this; cases this
  · have := (kf_rep h).mem.2 hk
    exact (kf_rep hm).mem.1 ((p.map fun e : Fd => (e.1, secs e.2.1)).mem_iff.2 this)
/-- all that were found are all that are kept, where it all hangs on one. -/
theorem kf_all {S : St} {l : List Fd} {f c : Nat} (hw : S.wf) (ht : Tight S.K S.E) (h : FOk S.g f c l) (hE : ∀ s, 0 < S.E s → s ∈ l.map Prod.fst) : kf l = S.K := by
  funext s
  have hin := fun s => rep_keys (kf_rep h.nd) s
  have hfst : (fk l).map Prod.fst = l.map Prod.fst := by simp [fk, List.map_map, Function.comp_def]
  rw [hfst] at hin
  have hsub : ∀ s ks, kf l s = some ks → S.K s = some ks := fun s ks hs => by
    obtain ⟨e, he, hx⟩ := List.mem_map.1 ((kf_rep h.nd).mem.2 hs)
    have := (h.at' e he).1
    cases hx
    exact this
  rcases hk : S.K s with _ | ks
  · rcases hk' : kf l s with _ | ks'
    · rfl
    · rw [hsub s ks' hk'] at hk; cases hk
  · have h1 := cover hw ht (fun s => kf l s ≠ none) (fun s hs => (hin s).1 (hE s hs)) (fun s ks hs hk k hk' => by
      obtain ⟨e, he, hes⟩ := List.mem_map.1 ((hin s).2 hs)
      have h2 := (h.at' e he).1
      rw [show S.g.K e.1 = S.K e.1 from rfl, hes, hk] at h2
      cases h2
      exact (hin k).1 (h.closed e he k hk')) s (by rw [hk]; simp)
    obtain ⟨ks', e⟩ := Option.ne_none_iff_exists'.1 h1
    have e2 := hsub s ks' e
    rw [hk] at e2
    rw [e, ← e2]
/-- nodes that were found stand where nobody turns them. -/
def fnds (l : List Fd) : Assn := im' (fun im => ∀ e ∈ l, (node e.2.1 e.2.2).sat im Hp.emp) (fun hm h z hz => (node z.2.1 z.2.2).mono hm (h z hz))
instance (l : List Fd) : Pers (fnds l) := ⟨fun _ _ h => h⟩
theorem ent_fndsNil (L : List Assn) : Ent L (fnds [] :: L) := fun _ h s => ⟨Hp.emp, h, Hp.emp_le _, Hp.le_refl _, Hp.emp_dis _, (fun x hx => by cases hx), s⟩
theorem ent_fndsAdd {l l' : List Fd} {s : Nat} {n : Nd} {y : NR} (hl : ∀ e ∈ l', e = (s, n, y) ∨ e ∈ l) (L : List Assn) : Ent (node n y :: fnds l :: L) (fnds l' :: L) := by
  rintro im h ⟨a1, a2, e1, e2, e3, hn, b1, b2, f1, f2, f3, hm, t⟩
  refine ⟨Hp.emp, h, Hp.emp_le _, Hp.le_refl _, Hp.emp_dis _, fun x hx => ?_, satL_mono (Hp.le_refl _) (Hp.le_trans f2 e2) t⟩
  rcases hl x hx with rfl | hx
  · exact hn
  · exact hm x hx
theorem j_fndAt {X : Cx} {e : Env} {L : List Assn} {G : Act → World → Prop} {l : List Fd} {z : Fd} (hz : z ∈ l) (h : J X e (node z.2.1 z.2.2 :: fnds l :: L) G) : J X e (fnds l :: L) G := by
  refine j_ent ?_ h
  rintro im hp ⟨a1, a2, e1, e2, e3, hn, s⟩
  exact ⟨Hp.emp, hp, Hp.emp_le _, Hp.le_refl _, Hp.emp_dis _, hn z hz, a1, a2, e1, e2, e3, hn, s⟩
/-- light steps, up to a block. -/
theorem s3 {G R : Prop} (k : R) (h : R → G := by intro k; (first | refine r_nil ?_ | (refine k_move ?_; refine r_move rfl rfl ?_) | (refine k_assign ?_; refine r_assign rfl rfl ?_) | (refine k_nck ?_; first | refine r_nck rfl rfl ?_ | refine r_nckf rfl rfl ?_) | (refine k_fld ?_; first | refine r_fld0 rfl rfl ?_ | refine r_fld rfl rfl ?_) | (refine k_load ?_; first | refine r_load1L rfl rfl rfl ?_ | refine s_load1L rfl rfl rfl ?_ | refine r_load1 rfl rfl rfl rfl ?_ | refine r_loadW rfl rfl rfl rfl ?_ | refine s_loadW rfl rfl rfl rfl ?_) | (refine k_ext ?_; first | refine r_extL rfl rfl ?_ | refine r_ext rfl rfl rfl ?_) | (refine k_len ?_; refine r_lenS rfl rfl ?_) | (refine k_ixA ?_; refine ixA rfl rfl rfl rfl ?_) | (refine k_un ?_; first | refine r_notT rfl (by with_reducible rfl) rfl ?_ | refine r_notF rfl (by with_reducible rfl) rfl ?_ | refine r_not rfl rfl ?_) | (refine k_sl0 ?_; refine r_sliceA rfl (by decide) rfl ?_) | (refine k_conv ?_; refine r_conv rfl rfl ?_) | (refine k_pick ?_; first | refine r_pickT rfl (by with_reducible rfl) rfl rfl ?_ | refine r_pickF rfl (by with_reducible rfl) rfl rfl ?_) | (refine k_inc ?_; refine r_inc rfl (by clear k; omega) rfl ?_) | (refine k_eql ?_; first | refine r_peqS rfl rfl rfl ?_ | refine r_peqN rfl rfl rfl ?_ | refine r_meqS rfl rfl rfl ?_ | refine r_meqN rfl rfl rfl ?_ | refine r_peq rfl rfl rfl ?_) | (refine k_neq ?_; first | refine r_pneS rfl rfl rfl ?_ | refine r_pneN rfl rfl rfl ?_ | refine r_mneS rfl rfl rfl ?_ | refine r_mneN rfl rfl rfl ?_ | refine r_pne rfl rfl rfl ?_) | (refine g_mark ?_; first | refine gg_pass rfl rfl (by with_reducible rfl) ?_ | refine gg_skipT rfl rfl (by with_reducible rfl) (blt_any rfl) ?_ | refine gg_skipF rfl rfl (by with_reducible rfl) (blt_any rfl) ?_ | refine gg_skipU rfl rfl (by with_reducible rfl) (blt_any rfl) ?_) | refine t_seq ?_ | refine t_perm rfl ?_ | refine t_permE ?_ | refine j_then ?_ | refine t_region ?_ | refine t_draw [] [] mixed (by decide +kernel) ?_ | (refine k_cond ?_; first | refine t_condT rfl (by with_reducible rfl) ?_ | refine t_condF rfl (by with_reducible rfl) ?_) | refine j_in ?_ | refine t_skip ?_ | refine t_ret ?_ | refine j_then_ret ?_ | refine j_in_ret ?_ | refine t_exit ?_ | refine j_then_exit ?_ | refine j_in_exit ?_ | refine j_in_other rfl ?_ | refine t_scope ?_ | refine t_label ?_ | refine j_ng ?_ | refine j_ng_ret ?_ | refine j_ng_exit ?_); exact k) : G := h k
end Go.Proofs.YtcnpkmdooekmgaaGreatDoor
namespace Go.Proofs.YtcnpkmdooekmgaaGreatDoor
open Go Sl
abbrev fmap (m : Nat) (l : List Fd) : Assn := mp (isInt .u32) m (em kU vF l)
/-- what a call of gather does. -/
structure GatQ (g : Gd) (f c : Nat) (s : Nat) (l l' : List Fd) : Prop where
  ok : FOk g f c l'
  sub : ∀ k ∈ l.map Prod.fst, k ∈ l'.map Prod.fst
  has : s ∈ l'.map Prod.fst
abbrev GFn (Φ : Base) (p pd pl m : Nat) (S : St) (D : Dk) (g : Gd) (r : Rf) (deep N c : Nat) (l : List Fd) : Prop :=
  Sl.Fn Tryz.prog Φ F.shadow_Store_gather [ptr p, .agg (rcells r).toArray, .map (some m), i64 deep] [store p S, disk pd D, hlog pl N, fmap m l, fnds l]
    (GatQ g S.frm S.cnt r.sec l) (fun _ => i64 0) (fun l' => [store p S, disk pd D, hlog pl (N + c), fmap m l', fnds l'])
attribute [local irreducible] cw sw J Exit.then Exit.inBlock Exit.noGoto bodyPost swG swL permL
set_option maxHeartbeats 1000000 in
theorem gather_step (p pd pl m : Nat) (S : St) (D : Dk) (g : Gd) (hpd : S.pd = pd) (hpl : S.pl = pl) (hK : ∀ s, S.K s = none) (hsz : S.frm + S.cnt ≤ D.size) (hd : D.down = false) (r : Rf) (hr : r.wt) (n : Nd) (cs : List Ch) (hn : n.kids = cs.map (·.rf)) (hnr : n.right) (hnw : n.wt) (h1 : S.frm ≤ r.sec) (h2 : r.sec < S.frm + S.cnt)
    (hsec : D.sec r.sec = n.enc) (hsum : shaM n.enc = r.sum) (hgK : g.K r.sec = some (secs n)) (Φ : Base) (deep : Nat) (hdp : deep ≤ 40)
    (rec : ∀ ch ∈ cs, ∀ N l, FOk g S.frm S.cnt l → N + ch.U.length ≤ 800000000 → GFn Φ p pd pl m S D g ch.rf (deep + 1) N ch.U.length l) (N : Nat) (l : List Fd) (hl : FOk g S.frm S.cnt l) (hN : N + (cs.flatMap (·.U)).length + 1 ≤ 800000000) :
    GFn Φ p pd pl m S D g r deep N ((cs.flatMap (·.U)).length + 1) l := by
  subst hpd hpl
  have hkl : n.kids.length ≤ 11 := by
    have := hnr.most
    cases hlf : n.leaf
    · have := (hnr.inner hlf).2.2.1; omega
    · rw [(hnr.leaf hlf).2.2.2]; simp
  have hcl : n.kids.length = cs.length := by rw [hn]; simp
  refine fo fun F => ?_
  repeat refine s1 ?_
  refine r_box (cs := rcells r) rfl rfl rfl rfl (fun t5 => ?_)
  repeat refine s2 ?_
  refine r_icmp rfl rfl rfl rfl ?_
  rw [decide_eq_false (show ¬ (deep : Int) > 40 by omega)]
  repeat refine s1 ?_
  refine r_lookup2 rfl rfl ⟨_, rfl⟩ rfl rfl ?_
  rw [mget_em kU_inj]
  rcases hk : alook l r.sec with _ | y
  · simp only [Option.map_none, Option.getD_none, Option.isSome_none]
    repeat refine s1 ?_
    refine al (cs := nbx nd0 nr0) (fun t9 => ?_)
    refine r_storeW (vs := nbx nd0 nr0) rfl rfl (by rfl) (by rfl) (by simp [Value.oneCell']) rfl ?_
    repeat refine s1 ?_
    refine cl (shas_c p S noδ r.sec Φ) ?_
    rw [hK, Option.isSome_none]
    repeat refine s1 ?_
    refine r_loadW (vs := rcells r) rfl (by simp [hr.sum.1]) rfl rfl ?_
    refine cx (sload_s p N S D r n hr h1 h2 hnr hnw hsec hsz hd (by omega) Φ) (fun y _ => ?_)
    rw [ldN, if_pos hsum, if_pos hsum]
    repeat refine s1 ?_
    refine al (cs := nbx nd0 nr0) (fun t11 => ?_)
    refine r_storeW (vs := nbx n y) rfl rfl (by rfl) (by rfl) (by simp [Value.oneCell']) rfl ?_
    repeat refine s2 ?_
    refine jh [node n y] (j_ent (Ent.unnode _) ?_)
    refine jh [kidsA n y] (j_leni (fun _ _ hra => ?_))
    obtain ⟨ka0, kc0, va0, vc0, ra0, rc0⟩ := y
    dsimp only at hra
    repeat refine s1 ?_
    refine t_loop (σ := Nat × List Fd) (fun z => [(44, i64 z.1), (43, i64 n.kids.length), (42, .slice ra0 n.kids.length rc0), (11, ptr t11), (5, ptr t5), (2, .map (some m)), (3, i64 deep), (0, ptr p)])
      (fun z => kidsA n ⟨ka0, kc0, va0, vc0, ra0, rc0⟩ :: node n ⟨ka0, kc0, va0, vc0, ra0, rc0⟩ :: store p S :: disk S.pd D :: hlog S.pl (N + 1 + ((cs.take z.1).flatMap (·.U)).length) :: fmap m z.2 :: fnds z.2 :: pt t5 (.cells (rcells r).toArray T.api_Ref (0, 0)) :: pt t11 (.cells (nbx n ⟨ka0, kc0, va0, vc0, ra0, rc0⟩).toArray T.node_Node (0, 0)) :: F)
      (fun z => z.1 ≤ cs.length ∧ FOk g S.frm S.cnt z.2 ∧ (∀ k ∈ l.map Prod.fst, k ∈ z.2.map Prod.fst) ∧ ∀ k ∈ (secs n).take z.1, k ∈ z.2.map Prod.fst) (fun z => cs.length - z.1) (0, l) ⟨Nat.zero_le _, hl, fun _ h => h, fun k hk => by simp at hk⟩ ⟨rfl, rfl, rfl, rfl, rfl, rfl, rfl, rfl, trivial⟩ (by first | exact Le.ent | (dsimp only; exact Le.ent) | (dsimp only [List.cons_append, List.nil_append]; exact Le.ent) | (dsimp only [List.cons_append, List.nil_append]; simp only [List.take_zero, List.flatMap_nil, List.length_nil]; exact Le.ent)) ?_
    rintro ⟨i, l1⟩ ⟨g1, g2, g3, g4⟩
    dsimp only at g1 g2 g3 g4 ⊢
    repeat refine s1 ?_
    refine r_icmp rfl rfl rfl rfl ?_
    repeat refine s1 ?_
    refine t_condS rfl (fun hlt => ?_) (fun hge => ?_)
    · have hil : i < n.kids.length := by omega
      have hic : i < cs.length := by omega
      obtain ⟨b, o, rfl⟩ := hra (by omega)
      have hki : n.kids[i] = cs[i].rf := by simp [hn]
      have hq := hnw.kids _ (List.getElem_mem hil)
      have htk : (cs.take (i + 1)).flatMap (·.U) = (cs.take i).flatMap (·.U) ++ cs[i].U := by
        rw [List.take_add_one, List.getElem?_eq_getElem hic, List.flatMap_append, Option.toList_some, List.flatMap_cons, List.flatMap_nil, List.append_nil]
      have hfl : ((cs.take (i + 1)).flatMap (·.U)).length ≤ (cs.flatMap (·.U)).length := by
        have := congrArg (fun l : List Ch => (l.flatMap (·.U)).length) (List.take_append_drop (i + 1) cs)
        simp only [List.flatMap_append, List.length_append] at this
        omega
      rw [htk, List.length_append] at hfl
      repeat refine s1 ?_
      refine ix rfl rfl hil ?_
      refine r_loadIA (off := o) (n := n.kids.length) (cap := rc0) (E := T.api_Ref) (s := 33) (xs := n.kids.flatMap rcells) (vs := rcells n.kids[i]) rfl (j := i * 33) (by omega) (by simp [hq.sum.1]) (kid_at hnw hil) rfl rfl ?_
      refine al (fun t14 => ?_)
      refine r_storeW (vs := rcells n.kids[i]) rfl rfl (by simp [hq.sum.1]) (by simp) (by simp [Value.oneCell']) rfl ?_
      repeat refine s1 ?_
      refine r_loadW (vs := rcells n.kids[i]) rfl (by simp [hq.sum.1]) rfl rfl ?_
      repeat refine s1 ?_
      rw [hki]
      refine cx (rec cs[i] (List.getElem_mem hic) (N + 1 + ((cs.take i).flatMap (·.U)).length) l1 g2 (by omega)) (fun l2 hg => ?_)
      repeat refine s2 ?_
      refine jh [hlog S.pl (N + 1 + ((cs.take i).flatMap (·.U)).length + cs[i].U.length)] ?_
      rw [show N + 1 + ((cs.take i).flatMap (·.U)).length + cs[i].U.length = N + 1 + ((cs.take (i + 1)).flatMap (·.U)).length by rw [htk, List.length_append]; omega]
      refine j_again (i + 1, l2) ⟨hic, hg.ok, fun k hk => hg.sub k (g3 k hk), fun k hk => ?_⟩ (by dsimp only; omega) ⟨rfl, rfl, rfl, rfl, rfl, rfl, rfl, rfl, trivial⟩ (by first | exact Le.ent | (dsimp only; exact Le.ent) | (dsimp only [List.cons_append, List.nil_append]; exact Le.ent) | (dsimp only [List.cons_append, List.nil_append]; simp only [List.take_zero, List.map_nil, List.flatMap_nil, List.length_nil]; exact Le.ent))
      dsimp only at hk
      rw [List.take_add_one, List.mem_append] at hk
      rcases hk with hk | hk
      · exact hg.sub k (g4 k hk)
      · have : (secs n)[i]? = some cs[i].rf.sec := by simp [List.getElem?_eq_getElem hil, hki]
        rw [this] at hk
        simp at hk
        subst hk
        exact hg.has
    · have hil : i = cs.length := by omega
      subst hil
      rw [List.take_of_length_le (by simp [hcl])] at g4
      repeat refine s1 ?_
      rw [show Value.agg (nbx n ⟨ka0, kc0, va0, vc0, ra0, rc0⟩).toArray = vF (n, ⟨ka0, kc0, va0, vc0, ra0, rc0⟩) from rfl]
      refine r_mapUpd rfl rfl rfl ⟨_, rfl⟩ rfl ?_
      rw [mset_em kU_inj]
      repeat refine s1 ?_
      refine js [node n ⟨ka0, kc0, va0, vc0, ra0, rc0⟩, fnds l1] (B := fnds (aset l1 r.sec (n, ⟨ka0, kc0, va0, vc0, ra0, rc0⟩))) (fun L => ent_fndsAdd (fun e he => aset_mem e he) L) ?_
      rw [List.take_of_length_le (Nat.le_refl _)]
      refine jh [hlog S.pl (N + 1 + (cs.flatMap (·.U)).length)] ?_
      rw [show N + 1 + (cs.flatMap (·.U)).length = N + ((cs.flatMap (·.U)).length + 1) by omega]
      exact f1 (aset l1 r.sec (n, ⟨ka0, kc0, va0, vc0, ra0, rc0⟩)) (hq := ⟨g2.add hgK hnw hkl h1 h2 g4, fun k hk => (aset_keys k).2 (.inr (g3 k hk)), (aset_keys _).2 (.inl rfl)⟩)
  · simp only [Option.map_some, Option.getD_some, Option.isSome_some]
    repeat refine s1 ?_
    refine al (cs := nbx nd0 nr0) (fun t9 => ?_)
    refine r_storeW (vs := nbx y.1 y.2) rfl rfl (by rfl) (by rfl) (by simp [Value.oneCell']) rfl ?_
    repeat refine s1 ?_
    refine jh [hlog S.pl N] (j_ent (hlogUp (N' := N + ((cs.flatMap (·.U)).length + 1)) (by omega) _) ?_)
    exact f1 l (hq := ⟨hl, fun _ h => h, List.mem_map.2 ⟨(r.sec, y), alook_mem hk, rfl⟩⟩)
theorem srt_mid' {A B : List Ch} {c : Ch} (h : Srt ((A ++ c :: B).flatMap (·.kv))) : Srt c.kv := by
  rw [List.flatMap_append, List.flatMap_cons] at h
  exact (List.pairwise_append.1 (List.pairwise_append.1 h).2.1).1
theorem gather_c (p pd pl m : Nat) (S : St) (D : Dk) (g : Gd) (hpd : S.pd = pd) (hpl : S.pl = pl) (hK : ∀ s, S.K s = none) (hsz : S.frm + S.cnt ≤ D.size) (hd : D.down = false) (hg : ∀ s ks, g.K s = some ks → D.sec s = g.sec s ∧ S.frm ≤ s ∧ s < S.frm + S.cnt) (Φ : Base) :
    ∀ (h : Nat) (r : Rf) (lo : Nat) (kv : KV) (U : List Nat), Sh g lo h r kv U → Srt kv → ∀ deep, deep + h ≤ 40 → ∀ (N : Nat) (l : List Fd), FOk g S.frm S.cnt l → N + U.length ≤ 800000000 → GFn Φ p pd pl m S D g r deep N U.length l := by
  intro h
  induction h with
  | zero =>
    intro r lo kv U hsh hs deep hdp N l hl hN
    obtain ⟨hr, n, V, hn, hnr, hlo, hsec, hsum, hK', rfl⟩ := hsh
    obtain ⟨rfl, rfl, hok⟩ := hn
    have hnw := nsh_wt (g := g) (h := 0) (U := []) ⟨rfl, rfl, hok⟩
    obtain ⟨d1, d2, d3⟩ := hg _ _ hK'
    exact gather_step p pd pl m S D g hpd hpl hK hsz hd r hr (leafN kv) [] rfl hnr hnw d2 d3 (d1.trans hsec) hsum.symm hK' Φ deep (by omega) (fun ch hch => by cases hch) N l hl (by simpa using hN)
  | succ h ih =>
    intro r lo kv U hsh hs deep hdp N l hl hN
    obtain ⟨hr, n, V, hn, hnr, hlo, hsec, hsum, hK', rfl⟩ := hsh
    have hnw := nsh_wt hn
    obtain ⟨cs, e1, e2, e3, e4⟩ := nsh_succ.1 hn
    obtain ⟨d1, d2, d3⟩ := hg _ _ hK'
    subst e3
    refine gather_step p pd pl m S D g hpd hpl hK hsz hd r hr n cs (by rw [e1]; rfl) hnr hnw d2 d3 (d1.trans hsec) hsum.symm hK' Φ deep (by omega) (fun ch hch N l hl hN => ?_) N l hl (by rw [List.length_cons] at hN; omega)
    exact ih ch.rf 4 ch.kv ch.U (e4 ch hch).2 (by
      rw [e2] at hs
      obtain ⟨A, B, rfl⟩ := List.append_of_mem hch
      exact srt_mid' hs) (deep + 1) (by omega) N l hl hN
end Go.Proofs.YtcnpkmdooekmgaaGreatDoor
namespace Go.Proofs.YtcnpkmdooekmgaaGreatDoor
open Go Sl
theorem innK0 (s : Nat) : innK (fun _ => none) s = 0 := (innK_rep (K := fun _ => none) (l := []) ⟨List.nodup_nil, fun _ => rfl⟩ s).trans rfl
theorem kf_nil : kf [] = fun _ => none := by funext s; rfl
theorem kf_snoc {d : List Fd} {q : Fd} (h : q.1 ∉ d.map Prod.fst) (hd : (d.map Prod.fst).Nodup) : kf (d ++ [q]) = upd (kf d) q.1 (some (secs q.2.1)) := by
  have hn : ((d ++ [q]).map Prod.fst).Nodup := by
    rw [List.map_append, List.nodup_append]
    refine ⟨hd, by simp, fun a ha b hb e => ?_⟩
    simp at hb
    subst hb; subst e
    exact h ha
  have h1 := (kf_rep hd).set q.1 (secs q.2.1)
  have h2 : aset (fk d) q.1 (secs q.2.1) = fk (d ++ [q]) := by
    rw [aset_new]
    · simp [fk]
    · rw [(kf_rep hd).eq]
      rcases hk : kf d q.1 with _ | ks
      · rfl
      · exact absurd (by
          obtain ⟨e, he, hx⟩ := List.mem_map.1 ((kf_rep hd).mem.2 hk)
          exact List.mem_map.2 ⟨e, he, (Prod.mk.inj hx).1⟩) h
  rw [h2] at h1
  funext s
  rw [← (kf_rep hn).eq, h1.eq]
def δf (l : List Fd) : Nat → Int := fun s => - (inn (fk l) s : Int)
theorem FOk.len {g : Gd} {f c : Nat} {l : List Fd} (h : FOk g f c l) : l.length ≤ c := by
  have := sub_len (a := l.map Prod.fst) (b := (List.range c).map (f + ·)) h.nd (fun x hx => by
    obtain ⟨e, he, rfl⟩ := List.mem_map.1 hx
    have := h.at' e he
    exact List.mem_map.2 ⟨e.1 - f, by simp; omega, by omega⟩)
  simpa using this
theorem inn_sub {g : Gd} {f c : Nat} {l d t : List Fd} (h : FOk g f c l) (hp : (d ++ t).Perm l) (hc : c ≤ 60000) (s : Nat) : inn (fk d) s + inn (fk t) s ≤ 660000 := by
  have h1 : (fk d ++ fk t).Perm (fk l) := by
    have := hp.map fun e : Fd => (e.1, secs e.2.1)
    simpa [fk] using this
  have h2 := inn_perm h1 s
  rw [inn_app] at h2
  have h3 := inn_le (c := 11) (s := s) (l := fk l) (fun p hp => by
    obtain ⟨e, he, rfl⟩ := List.mem_map.1 hp
    have := (h.at' e he).2.2.1
    simpa using this)
  have h4 := h.len
  have h5 : (fk l).length = l.length := by simp
  rw [h5] at h3
  have : l.length * 11 ≤ 60000 * 11 := Nat.mul_le_mul_right _ (by omega)
  omega
theorem ent_sec {p : Nat} {S : St} {sec : Nat → List Nat} (L : List Assn) : Ent (store p S :: L) (store p { S with sec := sec } :: L) := by
  rintro im h1 ⟨a1, a2, e1, e2, e3, ⟨x, hx⟩, s⟩
  refine ⟨a1, a2, e1, e2, e3, ⟨x, ?_⟩, s⟩
  obtain ⟨b1, b2, f1, f2, f3, g1, t⟩ := hx
  exact ⟨b1, b2, f1, f2, f3, ⟨g1.rep, g1.rng, g1.held, g1.few, g1.pos, g1.big, g1.lim, g1.dl⟩, t⟩
abbrev νz : Unit → Value := fun _ => i64 0
theorem look_z (hm : List (Nat × Unit)) (s : Nat) : (mget (em kU νz hm) (kU s)).getD (i64 0) = i64 0 := by
  rw [mget_em kU_inj]
  cases alook hm s <;> rfl
abbrev S1o (S0 : St) (pl : Nat) (K : Kp) : St := { S0 with pl := pl, K := K, E := fun _ => 0 }
theorem pow_small2 {h n : Nat} (h1 : 4 ^ h ≤ n) (h2 : n ≤ 1000000) : h ≤ 10 := by
  rcases Nat.lt_or_ge 10 h with h0 | h0
  · have := Nat.pow_le_pow_right (show 0 < 4 by omega) (show 11 ≤ h by omega)
    omega
  · exact h0
theorem tok_root2 {g : Gd} {lo h : Nat} {r : Rf} {kv : KV} {U : List Nat} (hs : Sh g lo h r kv U) : g.K r.sec ≠ none := by
  obtain ⟨ks, hk, _⟩ := sh_known hs _ (sh_root hs)
  rw [hk]; simp
attribute [local irreducible] cw sw J Exit.then Exit.inBlock Exit.noGoto bodyPost swG swL permL
set_option maxHeartbeats 2000000 in
theorem adopt_c (p pl N : Nat) (S0 : St) (D : Dk) (t : Tre) (r : Rf) (hr : t.rt = some r) (h : TsOk S0 [t]) (ha : Agr S0 D) (hd : D.down = false) (hc : S0.cnt ≤ 60000) (hkv : t.kv.length ≤ 1000000) (hN : N ≤ 700000000) (Φ : Base) :
    Sl.Fn Tryz.prog Φ F.shadow_Store_Adopt [ptr p, .agg (rcells r).toArray] [store p (S1o S0 pl fun _ => none), disk S0.pd D, hlog pl N] (fun _ : Unit => True) (fun _ => i64 0)
      (fun _ => [store p { S0 with pl := pl }, disk S0.pd D, hlog pl (N + t.kv.length + 3)]) := by
  have ht := h.each t (by simp)
  obtain ⟨hsr, hne, hh, U, hsh⟩ := ht.sh hr
  have hrw := hsh.1
  have hus := (sh_size hsh).1
  have h10 := pow_small2 (sh_size hsh).2 hkv
  have hgd : ∀ s ks, S0.g.K s = some ks → D.sec s = S0.g.sec s ∧ S0.frm ≤ s ∧ s < S0.frm + S0.cnt := fun s ks hs => ⟨ha.sec s (by rw [show S0.K s = S0.g.K s from rfl, hs]; simp), h.ok.rng s (by rw [show S0.K s = S0.g.K s from rfl, hs]; simp)⟩
  refine fo fun F => ?_
  repeat refine s1 ?_
  refine r_box (cs := rcells r) rfl rfl rfl rfl (fun t3 => ?_)
  repeat refine s1 ?_
  refine cl (smade_c p (S1o S0 pl fun _ => none) noδ Φ) ?_
  repeat refine s1 ?_
  refine r_makeMap (isInt .u32) rfl rfl (fun m => j_ent (show Ent (mp (isInt .u32) m [] :: _) (fmap m [] :: _) from Ent.refl _) ?_)
  repeat refine s1 ?_
  refine r_loadW (vs := rcells r) rfl (by simp [hrw.sum.1]) rfl rfl ?_
  repeat refine s1 ?_
  refine j_ent (ent_fndsNil _) ?_
  refine cx (gather_c p S0.pd pl m (S1o S0 pl fun _ => none) D S0.g rfl rfl (fun _ => rfl) ha.size hd hgd Φ hh r 1 t.kv U hsh hsr 1 (by omega) N [] ⟨List.nodup_nil, fun e he => (by cases he), fun e he => (by cases he)⟩ (by omega)) (fun l hq => ?_)
  obtain ⟨hl, _, hlr⟩ := hq
  have hlr : r.sec ∈ l.map Prod.fst := hlr
  repeat refine s2 ?_
  refine r_makeMap (isInt .u32) rfl rfl (fun mh => j_ent (show Ent (mp (isInt .u32) mh [] :: _) (mp (isInt .u32) mh (em kU νz []) :: _) from Ent.refl _) ?_)
  repeat refine s1 ?_
  refine r_rangeM rfl rfl rfl (fun it => ?_)
  repeat refine s3 ?_
  refine t_meet (σ := List (Nat × Unit)) (fun _ => [(7, .map (some mh)), (5, .map (some m)), (3, ptr t3), (0, ptr p)])
    (fun z => mp (isInt .u32) mh (em kU νz z) :: fmap m l :: fnds l :: store p (S1o S0 pl fun _ => none) :: disk S0.pd D :: hlog pl (N + U.length) :: pt t3 (.cells (rcells r).toArray T.api_Ref (0, 0)) :: F) (fun _ => True) ?_ (fun hm _ => ?_)
  · refine t_block ?_
    refine t_loop (σ := List Fd × List (Nat × Unit) × Option (Value × Value)) (fun _ => [(28, ptr it), (7, .map (some mh)), (5, .map (some m)), (3, ptr t3), (0, ptr p)])
      (fun z => mp (isInt .u32) mh (em kU νz z.2.1) :: mit (isInt .u32) it m (em kU vF l) (em kU vF z.1) z.2.2 :: fnds l :: store p (S1o S0 pl fun _ => none) :: disk S0.pd D :: hlog pl (N + U.length) :: pt t3 (.cells (rcells r).toArray T.api_Ref (0, 0)) :: F)
      (fun _ => True) (fun z => z.1.length) (l, [], none) trivial ⟨rfl, rfl, rfl, rfl, rfl, trivial⟩ (by first | exact Le.ent | (dsimp only; exact Le.ent) | (dsimp only [List.cons_append, List.nil_append]; exact Le.ent) | (dsimp only [List.cons_append, List.nil_append]; simp only [List.take_zero, List.map_nil, List.flatMap_nil, List.length_nil]; exact Le.ent)) ?_
    rintro ⟨td, hm, cur⟩ _
    dsimp only
    repeat refine s1 ?_
    refine r_nextM rfl rfl rfl (fun h0 => ?_) (fun l1 q l2 h1 => ?_)
    · repeat refine s1 ?_
      obtain rfl := em_nil h0
      refine j_ent Ent.mitEnd ?_
      exact j_meet hm trivial ⟨rfl, rfl, rfl, rfl, trivial⟩ (by first | exact Le.ent | (dsimp only; exact Le.ent) | (dsimp only [List.cons_append, List.nil_append]; exact Le.ent) | (dsimp only [List.cons_append, List.nil_append]; simp only [List.take_zero, List.map_nil, List.flatMap_nil, List.length_nil]; exact Le.ent))
    · obtain ⟨t1, q, t2, rfl, h2, rfl⟩ := em_split h1
      rw [h2]
      repeat refine s1 ?_
      refine r_entry rfl rfl rfl ?_
      repeat refine s1 ?_
      refine cl (sholders_c p (S1o S0 pl fun _ => none) noδ q.1 Φ) ?_
      rw [innK0]
      repeat refine s1 ?_
      refine r_mapUpd rfl rfl rfl ⟨_, rfl⟩ rfl ?_
      rw [show mset (em kU νz hm) (kU q.1) (i64 0) = em kU νz (aset hm q.1 ()) from mset_em kU_inj hm q.1 ()]
      repeat refine s1 ?_
      exact j_again (t1 ++ t2, aset hm q.1 (), some (kU q.1, vF q.2)) trivial (by simp) ⟨rfl, rfl, rfl, rfl, rfl, trivial⟩ (by first | exact Le.ent | (dsimp only; exact Le.ent) | (dsimp only [List.cons_append, List.nil_append]; exact Le.ent) | (dsimp only [List.cons_append, List.nil_append]; simp only [List.take_zero, List.map_nil, List.flatMap_nil, List.length_nil]; exact Le.ent))
  have hlen := hl.len
  have hlc : l.length ≤ S0.cnt := hlen
  repeat refine s1 ?_
  refine r_rangeM rfl rfl rfl (fun it2 => ?_)
  repeat refine s3 ?_
  refine t_meet (σ := Unit) (fun _ => [(5, .map (some m)), (3, ptr t3), (0, ptr p)])
    (fun _ => fmap m l :: fnds l :: storeD p (S1o S0 pl (kf l)) (δf l) :: disk S0.pd D :: hlog pl (N + U.length) :: pt t3 (.cells (rcells r).toArray T.api_Ref (0, 0)) :: F) (fun _ => True) ?_ (fun _ _ => ?_)
  · refine t_block ?_
    refine t_loop (σ := List Fd × List Fd × Option (Value × Value)) (fun _ => [(39, ptr it2), (7, .map (some mh)), (5, .map (some m)), (3, ptr t3), (0, ptr p)])
      (fun z => mp (isInt .u32) mh (em kU νz hm) :: mit (isInt .u32) it2 m (em kU vF l) (em kU vF z.1) z.2.2 :: fnds l :: storeD p (S1o S0 pl (kf z.2.1)) (δf z.2.1) :: disk S0.pd D :: hlog pl (N + U.length) :: pt t3 (.cells (rcells r).toArray T.api_Ref (0, 0)) :: F)
      (fun z => (z.2.1 ++ z.1).Perm l) (fun z => z.1.length) (l, [], none) (List.Perm.refl _) ⟨rfl, rfl, rfl, rfl, rfl, trivial⟩ (by dsimp only; rw [kf_nil, show δf [] = noδ from rfl]; exact Le.ent) ?_
    rintro ⟨td, dn, cur⟩ hp
    dsimp only at hp ⊢
    repeat refine s1 ?_
    refine r_nextM rfl rfl rfl (fun h0 => ?_) (fun l1 q l2 h1 => ?_)
    · repeat refine s1 ?_
      obtain rfl := em_nil h0
      rw [List.append_nil] at hp
      refine j_ent Ent.mitEnd ?_
      rw [kf_perm hl.nd hp, show δf dn = δf l by
        funext s
        have := inn_perm (hp.map fun e : Fd => (e.1, secs e.2.1)) s
        simp only [δf]
        rw [show inn (fk dn) s = inn (fk l) s from this]]
      exact j_meet () trivial ⟨rfl, rfl, rfl, trivial⟩ (by first | exact Le.ent | (dsimp only; exact Le.ent) | (dsimp only [List.cons_append, List.nil_append]; exact Le.ent) | (dsimp only [List.cons_append, List.nil_append]; simp only [List.take_zero, List.map_nil, List.flatMap_nil, List.length_nil]; exact Le.ent))
    · obtain ⟨t1, q, t2, rfl, h2, rfl⟩ := em_split h1
      rw [h2]
      have hp2 : ((dn ++ [q]) ++ (t1 ++ t2)).Perm l := by
        refine List.Perm.trans ?_ hp
        rw [List.append_assoc]
        exact List.Perm.append_left _ (List.perm_middle.symm : (q :: (t1 ++ t2)).Perm (t1 ++ q :: t2))
      have hqm : q ∈ l := hp2.mem_iff.1 (by simp)
      have hnd : ((dn ++ [q]).map Prod.fst).Nodup := by
        have := (hp2.map Prod.fst).nodup_iff.2 hl.nd
        rw [List.map_append] at this
        exact (List.nodup_append.1 this).1
      have hnd2 : (dn.map Prod.fst).Nodup ∧ q.1 ∉ dn.map Prod.fst := by
        rw [List.map_append, List.nodup_append] at hnd
        exact ⟨hnd.1, fun hx => hnd.2.2 q.1 hx q.1 (by simp) rfl⟩
      obtain ⟨q1, q2, q3, q4, q5⟩ := hl.at' q hqm
      have hb := inn_sub hl hp2 hc
      have hin : ∀ s, inn (fk (dn ++ [q])) s = inn (fk dn) s + (secs q.2.1).count s := fun s => by
        rw [show fk (dn ++ [q]) = fk dn ++ [(q.1, secs q.2.1)] by simp [fk], inn_app]; simp [inn]
      obtain ⟨qs, qn, qy⟩ := q
      dsimp only at *
      repeat refine s1 ?_
      refine r_entry rfl rfl rfl ?_
      repeat refine s1 ?_
      refine al (cs := nbx nd0 nr0) (fun t10 => ?_)
      repeat refine s1 ?_
      refine r_storeW (vs := nbx qn qy) rfl rfl (by rfl) (by rfl) (by simp [Value.oneCell']) rfl ?_
      repeat refine s1 ?_
      refine r_lookup1 rfl rfl ⟨_, rfl⟩ rfl rfl ?_
      rw [show (mget (em kU νz hm) (kU qs, vF (qn, qy)).fst).getD (Value.int IntKind.i64 0) = i64 0 from look_z hm qs]
      repeat refine s1 ?_
      refine jh [fnds l] (j_fndAt hqm ?_)
      dsimp only
      refine cl (skeep_c p (S1o S0 pl (kf dn)) (δf dn) (δf (dn ++ [(qs, qn, qy)])) qs qn qy 0 q2 (by
          show kf dn qs = none
          rcases hk : kf dn qs with _ | ks
          · rfl
          · obtain ⟨e, he, hx⟩ := List.mem_map.1 ((kf_rep hnd2.1).mem.2 hk)
            exact absurd (List.mem_map.2 ⟨e, he, (Prod.mk.inj hx).1⟩) hnd2.2) q4 q5 q3 (by
          have := hin qs
          have h9 := innK_rep (kf_rep hnd2.1) qs
          simp only [δf] at *
          show (0 : Int) = ((0 : Nat) : Int) + (innK (kf dn) qs : Int) + _ + _
          omega) (fun k _ => by
          have := hin k
          simp only [δf] at *
          omega) (fun k => by
          have := hb k
          simp only [δf]
          omega) Φ) ?_
      rw [show ({ S1o S0 pl (kf dn) with K := upd (S1o S0 pl (kf dn)).K qs (some (secs qn)) } : St) = S1o S0 pl (kf (dn ++ [(qs, qn, qy)])) by rw [kf_snoc hnd2.2 hnd2.1]]
      repeat refine s1 ?_
      exact j_again (t1 ++ t2, dn ++ [(qs, qn, qy)], some (kU qs, vF (qn, qy))) hp2 (by simp) ⟨rfl, rfl, rfl, rfl, rfl, trivial⟩ (by first | exact Le.ent | (dsimp only; exact Le.ent) | (dsimp only [List.cons_append, List.nil_append]; exact Le.ent) | (dsimp only [List.cons_append, List.nil_append]; simp only [List.take_zero, List.map_nil, List.flatMap_nil, List.length_nil]; exact Le.ent))
  repeat refine s1 ?_
  refine r_rangeM rfl rfl rfl (fun it3 => ?_)
  repeat refine s3 ?_
  refine t_meet (σ := Unit) (fun _ => [(3, ptr t3), (0, ptr p)])
    (fun _ => storeD p (S1o S0 pl (kf l)) noδ :: disk S0.pd D :: hlog pl (N + U.length) :: pt t3 (.cells (rcells r).toArray T.api_Ref (0, 0)) :: F) (fun _ => True) ?_ (fun _ _ => ?_)
  · refine t_block ?_
    refine t_loop (σ := List Fd × Option (Value × Value)) (fun _ => [(53, ptr it3), (3, ptr t3), (0, ptr p)])
      (fun z => mit (isInt .u32) it3 m (em kU vF l) (em kU vF z.1) z.2 :: fnds l :: storeD p (S1o S0 pl (kf l)) (δf z.1) :: disk S0.pd D :: hlog pl (N + U.length) :: pt t3 (.cells (rcells r).toArray T.api_Ref (0, 0)) :: F)
      (fun z => ∃ dn, (dn ++ z.1).Perm l) (fun z => z.1.length) (l, none) ⟨[], List.Perm.refl _⟩ ⟨rfl, rfl, rfl, trivial⟩ (by first | exact Le.ent | (dsimp only; exact Le.ent) | (dsimp only [List.cons_append, List.nil_append]; exact Le.ent) | (dsimp only [List.cons_append, List.nil_append]; simp only [List.take_zero, List.map_nil, List.flatMap_nil, List.length_nil]; exact Le.ent)) ?_
    rintro ⟨td, cur⟩ ⟨dn, hp⟩
    dsimp only at hp ⊢
    repeat refine s1 ?_
    refine r_nextM rfl rfl rfl (fun h0 => ?_) (fun l1 q l2 h1 => ?_)
    · repeat refine s1 ?_
      obtain rfl := em_nil h0
      refine j_ent Ent.mitEnd ?_
      rw [show δf [] = noδ from rfl]
      exact j_meet () trivial ⟨rfl, rfl, trivial⟩ (by first | exact Le.ent | (dsimp only; exact Le.ent) | (dsimp only [List.cons_append, List.nil_append]; exact Le.ent) | (dsimp only [List.cons_append, List.nil_append]; simp only [List.take_zero, List.map_nil, List.flatMap_nil, List.length_nil]; exact Le.ent))
    · obtain ⟨t1, q, t2, rfl, h2, rfl⟩ := em_split h1
      rw [h2]
      have hp2 : ((dn ++ [q]) ++ (t1 ++ t2)).Perm l := by
        refine List.Perm.trans ?_ hp
        rw [List.append_assoc]
        exact List.Perm.append_left _ (List.perm_middle.symm : (q :: (t1 ++ t2)).Perm (t1 ++ q :: t2))
      have hqm : q ∈ l := hp2.mem_iff.1 (by simp)
      obtain ⟨q1, q2, q3, q4, q5⟩ := hl.at' q hqm
      have hcl := hl.closed q hqm
      have hb := inn_sub hl hp2 hc
      have hin : ∀ s, inn (fk (t1 ++ q :: t2)) s = (secs q.2.1).count s + inn (fk (t1 ++ t2)) s := fun s => by
        simp only [fk, List.map_append, List.map_cons]; rw [inn_mid]
      have hin2 : ∀ s, inn (fk (dn ++ [q])) s = inn (fk dn) s + (secs q.2.1).count s := fun s => by
        rw [show fk (dn ++ [q]) = fk dn ++ [(q.1, secs q.2.1)] by simp [fk], inn_app]; simp [inn]
      obtain ⟨qs, n, ⟨ka0, kc0, va0, vc0, ra0, rc0⟩⟩ := q
      dsimp only at *
      repeat refine s1 ?_
      refine r_entry rfl rfl rfl ?_
      repeat refine s1 ?_
      refine al (cs := nbx nd0 nr0) (fun t12 => ?_)
      refine r_storeW (vs := nbx n ⟨ka0, kc0, va0, vc0, ra0, rc0⟩) rfl rfl (by rfl) (by rfl) (by simp [Value.oneCell']) rfl ?_
      refine jh [fnds l] (j_fndAt hqm ?_)
      dsimp only
      refine j_ent (Ent.unnode _) ?_
      refine jh [kidsA n ⟨ka0, kc0, va0, vc0, ra0, rc0⟩] (j_leni (fun _ _ hra => ?_))
      dsimp only at hra
      rw [show δf (t1 ++ (qs, n, ⟨ka0, kc0, va0, vc0, ra0, rc0⟩) :: t2) = fun s => δf (t1 ++ t2) s - (((secs n).drop 0).count s : Int) by
        funext s; have := hin s; simp only [δf, List.drop_zero]; omega]
      repeat refine s1 ?_
      refine t_loop (σ := Nat) (fun i => [(61, i64 i), (60, i64 n.kids.length), (59, .slice ra0 n.kids.length rc0), (53, ptr it3), (3, ptr t3), (0, ptr p)])
        (fun i => kidsA n ⟨ka0, kc0, va0, vc0, ra0, rc0⟩ :: storeD p (S1o S0 pl (kf l)) (fun s => δf (t1 ++ t2) s - (((secs n).drop i).count s : Int)) :: pt t12 (.cells (nbx n ⟨ka0, kc0, va0, vc0, ra0, rc0⟩).toArray T.node_Node (0, 0)) :: mit (isInt .u32) it3 m (em kU vF l) (em kU vF (t1 ++ t2)) (some (kU qs, vF (n, ⟨ka0, kc0, va0, vc0, ra0, rc0⟩))) :: fnds l :: disk S0.pd D :: hlog pl (N + U.length) :: pt t3 (.cells (rcells r).toArray T.api_Ref (0, 0)) :: F)
        (fun i => i ≤ n.kids.length) (fun i => n.kids.length - i) 0 (Nat.zero_le _) ⟨rfl, rfl, rfl, rfl, rfl, rfl, trivial⟩ (by first | exact Le.ent | (dsimp only; exact Le.ent) | (dsimp only [List.cons_append, List.nil_append]; exact Le.ent) | (dsimp only [List.cons_append, List.nil_append]; simp only [List.take_zero, List.map_nil, List.flatMap_nil, List.length_nil]; exact Le.ent)) ?_
      intro j hj
      repeat refine s1 ?_
      refine r_icmp rfl rfl rfl rfl ?_
      repeat refine s1 ?_
      refine t_condS rfl (fun hlt2 => ?_) (fun hge2 => ?_)
      · have hjl : j < n.kids.length := by omega
        obtain ⟨b, o, rfl⟩ := hra (by omega)
        have hq2 := q2.kids _ (List.getElem_mem hjl)
        have hsj : (secs n)[j]? = some n.kids[j].sec := by simp [List.getElem?_eq_getElem hjl]
        have hkn : kf l n.kids[j].sec ≠ none := (rep_keys (kf_rep hl.nd) _).1 (by
          rw [show (fk l).map Prod.fst = l.map Prod.fst by simp [fk, List.map_map, Function.comp_def]]
          exact hcl _ (List.mem_of_getElem? hsj))
        have hst := count_step hsj
        repeat refine s1 ?_
        refine ix rfl rfl hjl ?_
        refine r_loadIA (off := o) (n := n.kids.length) (cap := rc0) (E := T.api_Ref) (s := 33) (xs := n.kids.flatMap rcells) (vs := rcells n.kids[j]) rfl (j := j * 33) (by omega) (by simp [hq2.sum.1]) (kid_at q2 hjl) rfl rfl ?_
        refine al (fun t14 => ?_)
        refine r_storeW (vs := rcells n.kids[j]) rfl rfl (by simp [hq2.sum.1]) (by simp) (by simp [Value.oneCell']) rfl ?_
        refine j_head (storeD p (S1o S0 pl (kf l)) (fun s => δf (t1 ++ t2) s - (((secs n).drop j).count s : Int))) (j_store fun x2 hx2 => ?_)
        dsimp only [List.cons_append, List.nil_append]
        repeat refine s1 ?_
        obtain ⟨z, l1, l2, e1, e2, e3, hn⟩ := at_some (s := n.kids[j].sec) hx2 hkn
        obtain ⟨pr2, km2, ll⟩ := x2
        dsimp only at e1 e3 hx2 ⊢
        subst e3
        have hh := hx2.hold (e := (n.kids[j].sec, z)) (by simp)
        dsimp only at hh
        refine j_head (each (l1 ++ (n.kids[j].sec, z) :: l2) infA) (j_ent (Ent.eachMid l1 (n.kids[j].sec, z) l2 infA _) (j_all ?_))
        dsimp only [List.cons_append, List.nil_append]
        refine r_lookup1 rfl rfl ⟨_, rfl⟩ rfl rfl ?_
        rw [mget_em kU_inj, e1]
        repeat refine s1 ?_
        refine r_addI rfl rfl (by omega) rfl ?_
        repeat refine s1 ?_
        refine so rfl rfl ?_
        repeat refine s1 ?_
        have hq := hx2.bump (d := 1) (δ' := fun s => δf (t1 ++ t2) s - (((secs n).drop (j + 1)).count s : Int)) (E' := fun _ => 0) (by have := hst n.kids[j].sec; rw [if_pos rfl] at this; dsimp only; omega)
          (fun s h => by have := hst s; rw [if_neg (Ne.symm h)] at this; exact ⟨rfl, (by first | omega | (dsimp only; omega) | (dsimp only at *; omega))⟩) (Nat.zero_le _) (by
            have := List.count_le_length (l := (secs n).drop (j + 1)) (a := n.kids[j].sec)
            simp only [List.length_drop, List.length_map] at this
            have := hb n.kids[j].sec
            have := hin2 n.kids[j].sec
            simp only [δf]
            omega)
        refine js [pt z.p (.cells [.slice z.a z.kids.length z.c, .int .i64 (z.held + 1)].toArray T.shadow_info (0, 0)), inf2 z] (B := infA (n.kids[j].sec, { z with held := z.held + 1 })) (fun L => Ent.unall [inf1 { z with held := z.held + 1 }, inf2 { z with held := z.held + 1 }] L) ?_
        refine js [infA (n.kids[j].sec, { z with held := z.held + 1 }), each (l1 ++ l2) infA] (fun L => Ent.eachUnmid l1 _ l2 infA L) ?_
        have hem : em kU vI (l1 ++ (n.kids[j].sec, z) :: l2) = em kU vI (l1 ++ (n.kids[j].sec, { z with held := z.held + 1 }) :: l2) := by simp [em]
        rw [hem]
        refine js (storeB p (S1o S0 pl (kf l)) ⟨pr2, km2, l1 ++ (n.kids[j].sec, { z with held := z.held + 1 }) :: l2⟩) (fun L => Ent.store _ hq) ?_
        exact j_again (j + 1) (by first | omega | (dsimp only; omega) | (dsimp only at *; omega)) (by first | omega | (dsimp only; omega) | (dsimp only at *; omega)) ⟨rfl, rfl, rfl, rfl, rfl, rfl, trivial⟩ (by first | exact Le.ent | (dsimp only; exact Le.ent) | (dsimp only [List.cons_append, List.nil_append]; exact Le.ent) | (dsimp only [List.cons_append, List.nil_append]; simp only [List.take_zero, List.map_nil, List.flatMap_nil, List.length_nil]; exact Le.ent))
      · have hjl : j = n.kids.length := by omega
        subst hjl
        rw [show (fun s => δf (t1 ++ t2) s - (((secs n).drop n.kids.length).count s : Int)) = δf (t1 ++ t2) by funext s; rw [List.drop_of_length_le (by simp)]; simp]
        repeat refine s1 ?_
        exact j_again (t1 ++ t2, some (kU qs, vF (n, ⟨ka0, kc0, va0, vc0, ra0, rc0⟩))) ⟨dn ++ [(qs, n, ⟨ka0, kc0, va0, vc0, ra0, rc0⟩)], hp2⟩ (by simp) ⟨rfl, rfl, rfl, trivial⟩ (by first | exact Le.ent | (dsimp only; exact Le.ent) | (dsimp only [List.cons_append, List.nil_append]; exact Le.ent) | (dsimp only [List.cons_append, List.nil_append]; simp only [List.take_zero, List.map_nil, List.flatMap_nil, List.length_nil]; exact Le.ent))
  have hEs : ∀ s, S0.E s = if s = r.sec then 1 else 0 := fun s => by
    rw [h.E, hold_cons]
    simp only [hold, hd1, hr, Option.map_some, List.map_nil, List.sum_nil, Nat.add_zero, Option.some.injEq]
    by_cases e : s = r.sec
    · rw [if_pos e, if_pos e.symm]
    · rw [if_neg e, if_neg (Ne.symm e)]
  have hKf : kf l = S0.K := kf_all h.ok h.tight hl (fun s hs => by
    rw [hEs] at hs
    by_cases e : s = r.sec
    · rw [e]; exact hlr
    · rw [if_neg e] at hs; omega)
  rw [hKf]
  refine j_head (storeD p (S1o S0 pl S0.K) noδ) (j_store fun x hx => ?_)
  dsimp only [List.cons_append, List.nil_append]
  repeat refine s1 ?_
  obtain ⟨y, l1, l2, e1, e2, e3, hn⟩ := at_some (s := r.sec) hx (tok_root2 hsh)
  obtain ⟨pr, km, ll⟩ := x
  dsimp only at e1 e3 hx ⊢
  subst e3
  have hh := hx.hold (e := (r.sec, y)) (by simp)
  dsimp only at hh
  refine j_head (each (l1 ++ (r.sec, y) :: l2) infA) (j_ent (Ent.eachMid l1 (r.sec, y) l2 infA _) (j_all ?_))
  dsimp only [List.cons_append, List.nil_append]
  refine r_lookup1 rfl rfl ⟨_, rfl⟩ rfl rfl ?_
  rw [mget_em kU_inj, e1]
  repeat refine s1 ?_
  refine r_addI rfl rfl (by omega) rfl ?_
  repeat refine s1 ?_
  refine so rfl rfl ?_
  repeat refine s1 ?_
  have hq := hx.bump (d := 1) (δ' := noδ) (E' := S0.E) (by rw [hEs, if_pos rfl]; rfl) (fun s h => ⟨by rw [hEs, if_neg h], rfl⟩) (by rw [hEs, if_pos rfl]; omega) (by simp)
  refine js [pt y.p (.cells [.slice y.a y.kids.length y.c, .int .i64 (y.held + 1)].toArray T.shadow_info (0, 0)), inf2 y] (B := infA (r.sec, { y with held := y.held + 1 })) (fun L => Ent.unall [inf1 { y with held := y.held + 1 }, inf2 { y with held := y.held + 1 }] L) ?_
  refine js [infA (r.sec, { y with held := y.held + 1 }), each (l1 ++ l2) infA] (fun L => Ent.eachUnmid l1 _ l2 infA L) ?_
  have hem : em kU vI (l1 ++ (r.sec, y) :: l2) = em kU vI (l1 ++ (r.sec, { y with held := y.held + 1 }) :: l2) := by simp [em]
  rw [hem]
  refine js (storeB p ({ S0 with pl := pl } : St) ⟨pr, km, l1 ++ (r.sec, { y with held := y.held + 1 }) :: l2⟩) (fun L => Ent.store _ hq) ?_
  refine jh [hlog pl (N + U.length)] (j_ent (hlogUp (N' := N + t.kv.length + 3) (by omega) _) ?_)
  exact f1 ()
end Go.Proofs.YtcnpkmdooekmgaaGreatDoor
namespace Go.Proofs.YtcnpkmdooekmgaaGreatDoor
open Go Sl
section
variable {X : Cx} {e : Env} {L A : List Assn} {S : List Nat} {ops : Array Oper} {k : Nat} {l : List Oper} {R : Act → World → Prop} {d : Nat} {T : TypeId} {pos : String} {af : Array Edge}
/-- a pointer is itself. -/
theorem r_peqR {t u E : TypeId} {n : Nat} {x y : Operand} {p : Addr} [tu : TUnd X.P t (.pointer E)] [ts : TSize X.P E n] (hx : ev e x = some (.pointer (some p))) (hy : ev e y = some (.pointer (some p)))
    (h : J X ((d, .bool true) :: e) L (sw X.P (Holds X.Φ A) S ops R (k + 1) l)) (hd : Nat.blt d X.n = true := by rfl) : J X e L (sw X.P (Holds X.Φ A) S ops R k (⟨some d, .binOp .eql t x y u, T, pos, af, none⟩ :: l)) :=
  r_pure rfl (fun a mt w => by
    have h2 : (binOp .eql t (.pointer (some p)) (.pointer (some p))).run X.P w = .ok (.bool true) w := by
      refine run_eql_by (b := true) rfl (fun d => ?_)
      simp only [Op.equalIn, Sem.run_bind, tu.run, Result.andThen_ok, ts.run]
      split
      · simp [sameAddr]
      · simp
    have h3 : eqGuard .eql t x y (.pointer (some p)) (.pointer (some p)) = pure () := rfl
    simp only [execOp, mt.ev hx, mt.ev hy, Sem.run_bind, h3, Sem.run_pure, h2, Result.andThen_ok]) hd h
end
attribute [local irreducible] cw sw J Exit.then Exit.inBlock Exit.noGoto bodyPost swG swL permL
theorem smade_n (Φ : Base) : Sl.Fn Tryz.prog Φ F.shadow_Store_made [.pointer none] [] (fun _ : Unit => True) (fun _ => .bool false) (fun _ => []) := by
  refine fo fun F => ?_
  repeat refine s1 ?_
  exact f1 ()
theorem adopt_n (r : Rf) (Φ : Base) : Sl.Fn Tryz.prog Φ F.shadow_Store_Adopt [.pointer none, .agg (rcells r).toArray] [] (fun _ : Unit => True) (fun _ => i64 6) (fun _ => []) := by
  refine fo fun F => ?_
  repeat refine s1 ?_
  refine r_box (cs := rcells r) rfl rfl rfl rfl (fun t3 => ?_)
  repeat refine s1 ?_
  refine cl (smade_n Φ) ?_
  repeat refine s1 ?_
  exact f1 ()
theorem open_n (r : Rf) (hr : r.wt) (Φ : Base) : Sl.Fn Tryz.prog Φ F.mtree_Open [.pointer none, .agg (rcells r).toArray] [] (fun _ : Unit => True) (fun _ => .tuple #[.pointer none, i64 6]) (fun _ => []) := by
  refine fo fun F => ?_
  repeat refine s1 ?_
  refine r_box (cs := rcells r) rfl rfl rfl rfl (fun t3 => ?_)
  repeat refine s1 ?_
  refine r_loadW (vs := rcells r) rfl (by simp [hr.sum.1]) rfl rfl ?_
  refine cl (adopt_n r Φ) ?_
  repeat refine s2 ?_
  exact f2 ()
set_option maxHeartbeats 1000000 in
theorem nobody_c (key : Nat) (v : List Nat) (r : Rf) (_hk : key < 18446744073709551616) (hv : bytes 44 v) (hr : r.wt) (Φ : Base) (hT : Tab Φ) :
    Sl.Fn Tryz.prog Φ F.casematelaw15_MtreeNobody [w64 key, v44 v, .agg (rcells r).toArray] [] (fun _ : Unit => True) (fun _ => .bool true) (fun _ => []) := by
  refine fo fun F => ?_
  repeat refine s1 ?_
  refine r_box (cs := v.map u8) rfl rfl rfl rfl (fun t4 => ?_)
  repeat refine s1 ?_
  refine r_box (cs := rcells r) rfl rfl rfl rfl (fun t5 => ?_)
  repeat refine s1 ?_
  refine cx (begin_c 9 (by decide) (by decide) Φ) (fun z _ => ?_)
  obtain ⟨pd, ps, pl⟩ := z
  dsimp only
  repeat refine s1 ?_
  refine al (cs := .pointer none :: (rcells Rf0 ++ [.bool false])) (fun t11 => ?_)
  repeat refine s1 ?_
  refine cx (tnew_c ps Φ) (fun t12 _ => ?_)
  repeat refine s1 ?_
  have l0 := Lv.begin pd pl 9 t12
  refine cx (tfree_c ps (St0 pd pl 3 9) [] [] ⟨t12, none, []⟩ l0.ok Φ) (fun S hS => ?_)
  repeat refine s1 ?_
  refine r_buildA [.tmp 37, .tmp 11, .tmp 38] [.pointer none, ptr t11, ptr t12] rfl rfl (by simp [Value.oneCell']) (by rfl) rfl ?_
  refine al (cs := [.pointer none, .pointer none, .pointer none]) (fun t13 => ?_)
  refine r_storeW (vs := [.pointer none, ptr t11, ptr t12]) rfl rfl (by rfl) (by rfl) (by simp [Value.oneCell']) rfl ?_
  repeat refine s1 ?_
  refine t_loop (σ := Nat) (fun i => [(14, i64 i), (13, ptr t13), (12, ptr t12), (10, .pointer none), (8, ptr ps), (4, ptr t4), (5, ptr t5), (0, w64 key), (6, .bool false)])
    (fun _ => pt t13 (.cells [.pointer none, ptr t11, ptr t12].toArray T.a3_p_mtree_Tree (0, 0)) :: tnull t11 :: tnull t12 :: pt t4 (.cells (v.map u8).toArray T.a44_uint8 (0, 0)) :: pt t5 (.cells (rcells r).toArray T.api_Ref (0, 0)) :: store ps S :: F) (fun i => i ≤ 3) (fun i => 3 - i) 0 (Nat.zero_le _) ⟨rfl, rfl, rfl, rfl, rfl, rfl, rfl, rfl, rfl, trivial⟩ (by first | exact Le.ent | (dsimp only; exact Le.ent) | (dsimp only [List.cons_append, List.nil_append]; exact Le.ent) | (dsimp only [List.cons_append, List.nil_append]; simp only [List.take_zero, List.map_nil, List.flatMap_nil, List.length_nil]; exact Le.ent)) ?_
  intro i hi
  repeat refine s1 ?_
  refine r_iop rfl rfl rfl rfl ?_
  repeat refine s1 ?_
  refine t_condSB rfl (fun hq => ?_) (fun hq => ?_)
  · have hi3 : i < 3 := by have := of_decide_eq_true hq; omega
    have h3 : i = 0 ∨ i = 1 ∨ i = 2 := by omega
    rcases h3 with rfl | rfl | rfl
    · refine js [] (B := noneA none) (fun L => Ent.unall [] L) ?_
      repeat refine s1 ?_
      refine ixA (i := 0) rfl rfl rfl rfl ?_
      repeat refine s1 ?_
      refine cl (get_n none key Φ) ?_
      repeat refine s1 ?_
      refine al (cs := z44.map u8) (fun t15 => ?_)
      refine r_storeW (vs := z44.map u8) rfl rfl (by rfl) (by rfl) (by simp [Value.oneCell']) rfl ?_
      repeat refine s1 ?_
      refine ixA (i := 0) rfl rfl rfl rfl ?_
      repeat refine s1 ?_
      refine cl (del_n none key Φ) ?_
      repeat refine s1 ?_
      refine ixA (i := 0) rfl rfl rfl rfl ?_
      repeat refine s1 ?_
      refine cl (range_n none 0 key 3 Φ) ?_
      repeat refine s1 ?_
      refine ixA (i := 0) rfl rfl rfl rfl ?_
      repeat refine s1 ?_
      refine cl (root_n none Φ) ?_
      repeat refine s1 ?_
      refine al (cs := rcells Rf0) (fun t22 => ?_)
      refine r_storeW (vs := rcells Rf0) rfl rfl (by rfl) (by rfl) (by simp [Value.oneCell']) rfl ?_
      repeat refine s2 ?_
      refine ixA (i := 0) rfl rfl rfl rfl ?_
      repeat refine s2 ?_
      refine r_loadW (vs := v.map u8) rfl (by simpa using hv.1) rfl rfl ?_
      repeat refine s2 ?_
      refine cl (put_n none key v Φ) ?_
      repeat refine s2 ?_
      refine ixA (i := 0) rfl rfl rfl rfl ?_
      repeat refine s2 ?_
      refine cl (clone_n none Φ) ?_
      repeat refine s2 ?_
      refine ixA (i := 0) rfl rfl rfl rfl ?_
      repeat refine s2 ?_
      refine cl (free_n none Φ) ?_
      repeat refine s2 ?_
      refine ixA (i := 0) rfl rfl rfl rfl ?_
      repeat refine s2 ?_
      refine cl (become_n none (ptr t12) Φ) ?_
      repeat refine s2 ?_
      refine jh [noneA none] (j_all ?_)
      dsimp only [noneL, List.cons_append, List.nil_append]
      exact j_again 1 (by decide) (by decide) ⟨rfl, rfl, rfl, rfl, rfl, rfl, rfl, rfl, rfl, trivial⟩ (by first | exact Le.ent | (dsimp only; exact Le.ent) | (dsimp only [List.cons_append, List.nil_append]; exact Le.ent) | (dsimp only [List.cons_append, List.nil_append]; simp only [List.take_zero, List.map_nil, List.flatMap_nil, List.length_nil]; exact Le.ent))
    · refine js [tnull t11] (B := noneA (some t11)) (fun L => Ent.unall [tnull t11] L) ?_
      repeat refine s1 ?_
      refine ixA (i := 1) rfl rfl rfl rfl ?_
      repeat refine s1 ?_
      refine cl (get_n (some t11) key Φ) ?_
      repeat refine s1 ?_
      refine al (cs := z44.map u8) (fun t15 => ?_)
      refine r_storeW (vs := z44.map u8) rfl rfl (by rfl) (by rfl) (by simp [Value.oneCell']) rfl ?_
      repeat refine s1 ?_
      refine ixA (i := 1) rfl rfl rfl rfl ?_
      repeat refine s1 ?_
      refine cl (del_n (some t11) key Φ) ?_
      repeat refine s1 ?_
      refine ixA (i := 1) rfl rfl rfl rfl ?_
      repeat refine s1 ?_
      refine cl (range_n (some t11) 0 key 3 Φ) ?_
      repeat refine s1 ?_
      refine ixA (i := 1) rfl rfl rfl rfl ?_
      repeat refine s1 ?_
      refine cl (root_n (some t11) Φ) ?_
      repeat refine s1 ?_
      refine al (cs := rcells Rf0) (fun t22 => ?_)
      refine r_storeW (vs := rcells Rf0) rfl rfl (by rfl) (by rfl) (by simp [Value.oneCell']) rfl ?_
      repeat refine s2 ?_
      refine ixA (i := 1) rfl rfl rfl rfl ?_
      repeat refine s2 ?_
      refine r_loadW (vs := v.map u8) rfl (by simpa using hv.1) rfl rfl ?_
      repeat refine s2 ?_
      refine cl (put_n (some t11) key v Φ) ?_
      repeat refine s2 ?_
      refine ixA (i := 1) rfl rfl rfl rfl ?_
      repeat refine s2 ?_
      refine cl (clone_n (some t11) Φ) ?_
      repeat refine s2 ?_
      refine ixA (i := 1) rfl rfl rfl rfl ?_
      repeat refine s2 ?_
      refine cl (free_n (some t11) Φ) ?_
      repeat refine s2 ?_
      refine ixA (i := 1) rfl rfl rfl rfl ?_
      repeat refine s2 ?_
      refine cl (become_n (some t11) (ptr t12) Φ) ?_
      repeat refine s2 ?_
      refine jh [noneA (some t11)] (j_all ?_)
      dsimp only [noneL, List.cons_append, List.nil_append]
      exact j_again 2 (by decide) (by decide) ⟨rfl, rfl, rfl, rfl, rfl, rfl, rfl, rfl, rfl, trivial⟩ (by first | exact Le.ent | (dsimp only; exact Le.ent) | (dsimp only [List.cons_append, List.nil_append]; exact Le.ent) | (dsimp only [List.cons_append, List.nil_append]; simp only [List.take_zero, List.map_nil, List.flatMap_nil, List.length_nil]; exact Le.ent))
    · refine js [tnull t12] (B := noneA (some t12)) (fun L => Ent.unall [tnull t12] L) ?_
      repeat refine s1 ?_
      refine ixA (i := 2) rfl rfl rfl rfl ?_
      repeat refine s1 ?_
      refine cl (get_n (some t12) key Φ) ?_
      repeat refine s1 ?_
      refine al (cs := z44.map u8) (fun t15 => ?_)
      refine r_storeW (vs := z44.map u8) rfl rfl (by rfl) (by rfl) (by simp [Value.oneCell']) rfl ?_
      repeat refine s1 ?_
      refine ixA (i := 2) rfl rfl rfl rfl ?_
      repeat refine s1 ?_
      refine cl (del_n (some t12) key Φ) ?_
      repeat refine s1 ?_
      refine ixA (i := 2) rfl rfl rfl rfl ?_
      repeat refine s1 ?_
      refine cl (range_n (some t12) 0 key 3 Φ) ?_
      repeat refine s1 ?_
      refine ixA (i := 2) rfl rfl rfl rfl ?_
      repeat refine s1 ?_
      refine cl (root_n (some t12) Φ) ?_
      repeat refine s1 ?_
      refine al (cs := rcells Rf0) (fun t22 => ?_)
      refine r_storeW (vs := rcells Rf0) rfl rfl (by rfl) (by rfl) (by simp [Value.oneCell']) rfl ?_
      repeat refine s2 ?_
      refine ixA (i := 2) rfl rfl rfl rfl ?_
      repeat refine s2 ?_
      refine r_loadW (vs := v.map u8) rfl (by simpa using hv.1) rfl rfl ?_
      repeat refine s2 ?_
      refine cl (put_n (some t12) key v Φ) ?_
      repeat refine s2 ?_
      refine ixA (i := 2) rfl rfl rfl rfl ?_
      repeat refine s2 ?_
      refine cl (clone_n (some t12) Φ) ?_
      repeat refine s2 ?_
      refine ixA (i := 2) rfl rfl rfl rfl ?_
      repeat refine s2 ?_
      refine cl (free_n (some t12) Φ) ?_
      repeat refine s2 ?_
      refine ixA (i := 2) rfl rfl rfl rfl ?_
      repeat refine s2 ?_
      refine cl (become_n (some t12) (ptr t12) Φ) ?_
      repeat refine s2 ?_
      refine jh [noneA (some t12)] (j_all ?_)
      dsimp only [noneL, List.cons_append, List.nil_append]
      exact j_again 3 (by decide) (by decide) ⟨rfl, rfl, rfl, rfl, rfl, rfl, rfl, rfl, rfl, trivial⟩ (by first | exact Le.ent | (dsimp only; exact Le.ent) | (dsimp only [List.cons_append, List.nil_append]; exact Le.ent) | (dsimp only [List.cons_append, List.nil_append]; simp only [List.take_zero, List.map_nil, List.flatMap_nil, List.length_nil]; exact Le.ent))
  · repeat refine s1 ?_
    refine r_loadW (vs := rcells r) rfl (by simp [hr.sum.1]) rfl rfl ?_
    refine cl (open_n r hr Φ) ?_
    repeat refine s1 ?_
    refine cl (alive_c Φ hT) ?_
    repeat refine s2 ?_
    refine js [] (B := noneA none) (fun L => Ent.unall [] L) ?_
    refine cl (tstore_n none Φ) ?_
    repeat refine s2 ?_
    refine js [tnull t12] (B := noneA (some t12)) (fun L => Ent.unall [tnull t12] L) ?_
    refine cl (tstore_n (some t12) Φ) ?_
    repeat refine s2 ?_
    refine cx (tnew_c ps Φ) (fun t20 _ => ?_)
    repeat refine s2 ?_
    refine cl (tstore_c t20 ps none Φ) ?_
    repeat refine s2 ?_
    refine r_peqR rfl rfl ?_
    repeat refine s2 ?_
    exact f1 ()
end Go.Proofs.YtcnpkmdooekmgaaGreatDoor
namespace Go.Proofs.YtcnpkmdooekmgaaGreatDoor
open Go Sl
theorem Lv.any {pd pl n : Nat} {S : St} {D : Dk} {A B : List Tre} {t : Tre} {kv' : KV} {Y : Prop} {x : Nat × Option Rf × St × Dk} (h : Lv pd pl n S D (A ++ t :: B)) (q : TrQ S D A B t kv' Y x) :
    ∃ kv2, (kv2 = kv' ∨ kv2 = t.kv) ∧ Lv pd pl n x.2.2.1 x.2.2.2 (A ++ ⟨t.p, x.2.1, kv2⟩ :: B) := by
  have hu := q.dle.up h.plan
  by_cases h0 : x.1 = 0
  · exact ⟨kv', .inl rfl, q.ok h0, q.agr, q.cnt.trans h.cnt, q.dle.plan.trans h.plan, hu.trans h.up, q.pd.trans h.pd, q.pl.trans h.pl⟩
  · obtain ⟨e1, e2, _⟩ := q.er h0
    exact ⟨t.kv, .inr rfl, by rw [e1]; exact e2, q.agr, q.cnt.trans h.cnt, q.dle.plan.trans h.plan, hu.trans h.up, q.pd.trans h.pd, q.pl.trans h.pl⟩
theorem Lv.cloned {pd pl n : Nat} {S : St} {D : Dk} {ts : List Tre} {t : Tre} (h : Lv pd pl n S D ts) (ht : t ∈ ts) (x : Nat) : Lv pd pl n (S.turn none t.rt) D (⟨x, t.rt, t.kv⟩ :: ts) :=
  ⟨h.ok.clone (t := ⟨x, t.rt, t.kv⟩) (h.ok.each t ht), ⟨h.agr.sec, h.agr.size, h.agr.left⟩, h.cnt, h.plan, h.up, h.pd, h.pl⟩
theorem Lv.frq {pd pl n : Nat} {S S' : St} {D : Dk} {ts ts' : List Tre} (h : Lv pd pl n S D ts) (q : FrQ S ts' S') : Lv pd pl n S' D ts' :=
  ⟨q.ok, q.agr _ h.agr, q.cnt.trans h.cnt, h.plan, h.up, q.pd.trans h.pd, q.pl.trans h.pl⟩
theorem Lv.step {pd pl n : Nat} {S : St} {D : Dk} {A B : List Tre} {t : Tre} {kv' : KV} {Y : Prop} {x : Nat × Option Rf × St × Dk} (h : Lv pd pl n S D (A ++ t :: B)) (q : TrQ S D A B t kv' Y x) {m : Nat} (h1 : t.kv.length ≤ m) (h2 : kv'.length ≤ m) :
    ∃ kv2 : KV, Lv pd pl n x.2.2.1 x.2.2.2 (A ++ ⟨t.p, x.2.1, kv2⟩ :: B) ∧ kv2.length ≤ m ∧ x.2.2.2.waits.length ≤ D.waits.length + 70 := by
  obtain ⟨kv2, h8, h9⟩ := h.any q
  refine ⟨kv2, h9, ?_, q.dle.len⟩
  rcases h8 with rfl | rfl
  · exact h2
  · exact h1
section
variable {X : Cx} {e : Env} {L F : List Assn}
theorem f4 {fn : Func} {t u s r : Nat} {v w y z : Value} {α : Type} {q : α → Prop} {V : α → Value} {Post : α → List Assn} (x : α) [ft : Fits (Post x) F L] (hr : fn.results = #[.tmp t, .tmp u, .tmp s, .tmp r] := by rfl) (h : lk t e = some v := by rfl) (h' : lk u e = some w := by rfl) (h2 : lk s e = some y := by rfl) (h3 : lk r e = some z := by rfl) (hV : V x = .tuple #[v, w, y, z] := by rfl) (hq : q x := by trivial) (hds : X.ds = [] := by rfl) :
    J X e L (bodyPost X.P fn (PostR X.Φ q V Post F) .ret) := j_fin (rs := [.tmp t, .tmp u, .tmp s, .tmp r]) hr (.cons (rv_tmp h) (.cons (rv_tmp h') (.cons (rv_tmp h2) (.cons (rv_tmp h3) .nil)))) x hV hq hds
end
attribute [local irreducible] cw sw J Exit.then Exit.inBlock Exit.noGoto bodyPost swG swL permL
set_option maxHeartbeats 1000000 in
theorem played_c (n : Nat) (hn1 : 1 ≤ n) (hn2 : n ≤ 60000) (a : Option Addr) (c : Nat) (os : List Opn) (ho : ∀ o ∈ os, o.wt) (Φ : Base) (hT : Tab Φ) :
    Sl.Fn Tryz.prog Φ F.casematelaw15_played [i64 n, .slice a os.length c] [isl a os.length c T.casematelaw15_Op 5 (os.flatMap ocells)]
      (fun z : (Nat × Nat × Nat × Nat) × Option Rf × St × Dk × KV => Lv z.1.1 z.1.2.2.1 n z.2.2.1 z.2.2.2.1 [⟨z.1.2.2.2, z.2.1, z.2.2.2.2⟩] ∧ z.2.2.2.2.length ≤ 200 ∧ z.2.2.2.1.waits.length ≤ 14000 ∧ z.2.2.1.frm = 3)
      (fun z => .tuple #[ptr z.1.1, ptr z.1.2.1, ptr z.1.2.2.2, .bool true])
      (fun z => [tree z.1.2.2.2 z.1.2.1 z.2.1, store z.1.2.1 z.2.2.1, disk z.1.1 z.2.2.2.1, hlog z.1.2.2.1 200000]) := by
  refine fo fun F => ?_
  repeat refine s1 ?_
  refine cx (begin_c n hn1 hn2 Φ) (fun z _ => ?_)
  obtain ⟨pd, ps, pl⟩ := z
  dsimp only
  repeat refine s1 ?_
  refine cx (tnew_c ps Φ) (fun tp _ => ?_)
  repeat refine s1 ?_
  refine t_loop (σ := Nat × Option Rf × St × Dk × KV) (fun z => [(12, i64 z.1), (11, ptr tp), (1, .slice a os.length c), (8, ptr pd), (9, ptr ps)])
    (fun z => tree tp ps z.2.1 :: store ps z.2.2.1 :: disk pd z.2.2.2.1 :: hlog pl (1000 * z.1) :: isl a os.length c T.casematelaw15_Op 5 (os.flatMap ocells) :: F)
    (fun z => z.1 ≤ os.length ∧ z.1 ≤ 200 ∧ Lv pd pl n z.2.2.1 z.2.2.2.1 [⟨tp, z.2.1, z.2.2.2.2⟩] ∧ z.2.2.2.2.length ≤ z.1 ∧ z.2.2.2.1.waits.length ≤ 70 * z.1 ∧ z.2.2.1.frm = 3) (fun z => os.length - z.1)
    (0, none, St0 pd pl 3 n, Dk0 (n + 3), []) ⟨Nat.zero_le _, Nat.zero_le _, Lv.begin pd pl n tp, Nat.le_refl _, Nat.le_refl _, rfl⟩ ⟨rfl, rfl, rfl, rfl, rfl, trivial⟩ (by first | exact Le.ent | (dsimp only; exact Le.ent) | (dsimp only [List.cons_append, List.nil_append]; exact Le.ent) | (dsimp only [List.cons_append, List.nil_append]; simp only [List.take_zero, List.map_nil, List.flatMap_nil, List.length_nil]; exact Le.ent)) ?_
  rintro ⟨i, rt, S, D, kv⟩ ⟨h1, h2, h4, h5, h6, h7⟩
  dsimp only at h1 h2 h4 h5 h6 h7 ⊢
  refine jh [isl a os.length c T.casematelaw15_Op 5 (os.flatMap ocells)] (j_leni (fun _ _ hoa => ?_))
  repeat refine s1 ?_
  refine r_iop rfl rfl rfl rfl ?_
  by_cases hi : i < os.length ∧ i < 200
  · obtain ⟨hi, hi3⟩ := hi
    rw [decide_eq_true (show (i : Int) < (os.length : Int) by omega)]
    repeat refine s1 ?_
    refine r_iop rfl rfl rfl rfl ?_
    rw [decide_eq_true (show (i : Int) < 200 by omega)]
    obtain ⟨ob, oo, rfl⟩ := hoa (by omega)
    obtain ⟨o, hox⟩ : ∃ o, os[i]? = some o := ⟨_, List.getElem?_eq_getElem hi⟩
    have how := ho o (List.mem_of_getElem? hox)
    have hlv : ∀ (kv' : KV) (Y : Prop) (x : Nat × Option Rf × St × Dk), kv'.length ≤ kv.length + 1 → TrQ S D [] [] ⟨tp, rt, kv⟩ kv' Y x → ∃ kv2 : KV, Lv pd pl n x.2.2.1 x.2.2.2 [⟨tp, x.2.1, kv2⟩] ∧ kv2.length ≤ i + 1 ∧ x.2.2.2.waits.length ≤ 70 * (i + 1) ∧ x.2.2.1.frm = 3 := fun kv' Y x h q => by
      obtain ⟨kv2, h8, h9⟩ := Lv.any (A := []) (B := []) (t := ⟨tp, rt, kv⟩) h4 q
      have := q.dle.len
      refine ⟨kv2, h9, ?_, by omega, q.frm.trans h7⟩
      rcases h8 with rfl | rfl
      · omega
      · omega
    repeat refine s1 ?_
    refine ix rfl rfl hi ?_
    repeat refine s1 ?_
    refine r_loadI (off := oo) (n := os.length) (cap := c) (E := T.casematelaw15_Op) (s := 5) (xs := os.flatMap ocells) (v := .int .i64 o.kind) rfl (j := i * 5) (by omega) (ocells_at hox 0 _ rfl) rfl rfl ?_
    repeat refine s1 ?_
    refine r_icmp rfl rfl rfl rfl ?_
    repeat refine s1 ?_
    refine t_meet (σ := Unit) (fun _ => [(38, .bool (decide (o.kind = 0) || decide (o.kind = 2))), (37, .int .i64 o.kind), (12, i64 i), (11, ptr tp), (1, .slice (some ⟨ob, oo, none⟩) os.length c), (8, ptr pd), (9, ptr ps)])
      (fun _ => isl (some ⟨ob, oo, none⟩) os.length c T.casematelaw15_Op 5 (os.flatMap ocells) :: tree tp ps rt :: store ps S :: disk pd D :: hlog pl (1000 * i) :: F) (fun _ => True) ?_ (fun _ _ => ?_)
    · refine t_condSB rfl (fun hq => ?_) (fun hq => ?_)
      · rw [of_decide_eq_true hq]
        repeat refine s1 ?_
        exact j_meet () trivial ⟨rfl, rfl, rfl, rfl, rfl, rfl, rfl, trivial⟩ (by first | exact Le.ent | (dsimp only; exact Le.ent) | (dsimp only [List.cons_append, List.nil_append]; exact Le.ent) | (dsimp only [List.cons_append, List.nil_append]; simp only [List.take_zero, List.map_nil, List.flatMap_nil, List.length_nil]; exact Le.ent))
      · repeat refine s1 ?_
        refine r_icmp rfl rfl rfl rfl ?_
        repeat refine s1 ?_
        exact j_meet () trivial ⟨by rw [hq]; rfl, rfl, rfl, rfl, rfl, rfl, rfl, trivial⟩ (by first | exact Le.ent | (dsimp only; exact Le.ent) | (dsimp only [List.cons_append, List.nil_append]; exact Le.ent) | (dsimp only [List.cons_append, List.nil_append]; simp only [List.take_zero, List.map_nil, List.flatMap_nil, List.length_nil]; exact Le.ent))
    · repeat refine s1 ?_
      refine t_condSB rfl (fun hq => ?_) (fun hq => ?_)
      · refine jh [isl (some ⟨ob, oo, none⟩) os.length c T.casematelaw15_Op 5 (os.flatMap ocells)] ?_
        repeat refine s1 ?_
        refine t_draw [isl (some ⟨ob, oo, none⟩) os.length c T.casematelaw15_Op 5 (os.flatMap ocells)] [5, 10, 15] mixed (by decide +kernel) ?_
        repeat refine s1 ?_
        refine ix rfl rfl hi ?_
        repeat refine s1 ?_
        refine s_loadBy (v := w64 o.key) rfl (fun w hh => run_loadI (j := i * 5 + 1) hh (by omega) (ocells_at hox 1 _ rfl)) rfl rfl ?_
        repeat refine s1 ?_
        refine ix rfl rfl hi ?_
        repeat refine s1 ?_
        refine s_loadBy (v := u8 o.by_) rfl (fun w hh => run_loadI (j := i * 5 + 3) hh (by omega) (ocells_at hox 3 _ rfl)) rfl rfl ?_
        repeat refine s1 ?_
        refine ix rfl rfl hi ?_
        repeat refine s1 ?_
        refine s_loadBy (v := w64 o.key) rfl (fun w hh => run_loadI (j := i * 5 + 1) hh (by omega) (ocells_at hox 1 _ rfl)) rfl rfl ?_
        repeat refine s1 ?_
        refine cl (val_c o.by_ o.key Φ) ?_
        repeat refine s1 ?_
        refine cx (tput_c ps pd pl (1000 * i) o.key (valL o.by_ o.key) S D [] [] ⟨tp, rt, kv⟩ how.key (valL_bytes how.by_) h4.ok h4.agr (by omega) (by omega) (by show kv.length ≤ 1000000; omega) (by simp) h4.pd h4.pl Φ hT) (fun x hx => ?_)
        obtain ⟨kv2, g1, g2, g3⟩ := hlv _ _ x (ins_len kv).2 hx
        repeat refine s1 ?_
        refine jh [hlog pl (1000 * i + 200)] (j_ent (hlogUp (N' := 1000 * (i + 1)) (by omega) _) ?_)
        exact j_again (i + 1, x.2.1, x.2.2.1, x.2.2.2, kv2) ⟨by omega, by omega, g1, g2, g3⟩ (by dsimp only; omega) ⟨rfl, rfl, rfl, rfl, rfl, trivial⟩ (by first | exact Le.ent | (dsimp only; exact Le.ent) | (dsimp only [List.cons_append, List.nil_append]; exact Le.ent) | (dsimp only [List.cons_append, List.nil_append]; simp only [List.take_zero, List.map_nil, List.flatMap_nil, List.length_nil]; exact Le.ent))
      · repeat refine s1 ?_
        refine r_icmp rfl rfl rfl rfl ?_
        repeat refine s1 ?_
        refine t_condSB rfl (fun hq => ?_) (fun hq => ?_)
        · refine jh [isl (some ⟨ob, oo, none⟩) os.length c T.casematelaw15_Op 5 (os.flatMap ocells)] ?_
          repeat refine s1 ?_
          refine ix rfl rfl hi ?_
          repeat refine s1 ?_
          refine r_loadI (off := oo) (n := os.length) (cap := c) (E := T.casematelaw15_Op) (s := 5) (xs := os.flatMap ocells) (v := w64 o.key) rfl (j := i * 5 + 1) (by omega) (ocells_at hox 1 _ rfl) rfl rfl ?_
          repeat refine s1 ?_
          refine cx (tdel_c ps pd pl (1000 * i) o.key S D [] [] ⟨tp, rt, kv⟩ how.key h4.ok h4.agr (by omega) (by omega) (by show kv.length ≤ 1000000; omega) (by simp) h4.pd h4.pl Φ hT) (fun x hx => ?_)
          obtain ⟨kv2, g1, g2, g3⟩ := hlv _ _ x (Nat.le_trans del_le (Nat.le_succ _)) hx.1
          repeat refine s1 ?_
          refine jh [hlog pl (1000 * i + 200)] (j_ent (hlogUp (N' := 1000 * (i + 1)) (by omega) _) ?_)
          exact j_again (i + 1, x.2.1, x.2.2.1, x.2.2.2, kv2) ⟨by omega, by omega, g1, g2, g3⟩ (by dsimp only; omega) ⟨rfl, rfl, rfl, rfl, rfl, trivial⟩ (by first | exact Le.ent | (dsimp only; exact Le.ent) | (dsimp only [List.cons_append, List.nil_append]; exact Le.ent) | (dsimp only [List.cons_append, List.nil_append]; simp only [List.take_zero, List.map_nil, List.flatMap_nil, List.length_nil]; exact Le.ent))
        · repeat refine s1 ?_
          refine jh [hlog pl (1000 * i)] (j_ent (hlogUp (N' := 1000 * (i + 1)) (by omega) _) ?_)
          exact j_again (i + 1, rt, S, D, kv) ⟨by omega, by omega, h4, by dsimp only; omega, by dsimp only; omega, h7⟩ (by dsimp only; omega) ⟨rfl, rfl, rfl, rfl, rfl, trivial⟩ (by first | exact Le.ent | (dsimp only; exact Le.ent) | (dsimp only [List.cons_append, List.nil_append]; exact Le.ent) | (dsimp only [List.cons_append, List.nil_append]; simp only [List.take_zero, List.map_nil, List.flatMap_nil, List.length_nil]; exact Le.ent))
  · refine jh [hlog pl (1000 * i)] (j_ent (hlogUp (N' := 200000) (by omega) _) ?_)
    by_cases hi1 : i < os.length
    · rw [decide_eq_true (show (i : Int) < (os.length : Int) by omega)]
      repeat refine s1 ?_
      refine r_iop rfl rfl rfl rfl ?_
      rw [decide_eq_false (show ¬ (i : Int) < 200 by omega)]
      repeat refine s1 ?_
      exact f4 ((pd, ps, pl, tp), rt, S, D, kv) (hq := ⟨h4, by dsimp only; omega, by dsimp only; omega, h7⟩)
    · rw [decide_eq_false (show ¬ (i : Int) < (os.length : Int) by omega)]
      repeat refine s1 ?_
      exact f4 ((pd, ps, pl, tp), rt, S, D, kv) (hq := ⟨h4, by dsimp only; omega, by dsimp only; omega, h7⟩)
end Go.Proofs.YtcnpkmdooekmgaaGreatDoor
namespace Go.Proofs.YtcnpkmdooekmgaaGreatDoor
open Go Sl
attribute [local irreducible] cw sw J Exit.then Exit.inBlock Exit.noGoto bodyPost swG swL permL
set_option maxHeartbeats 2000000 in
theorem clones_c (a : Option Addr) (c : Nat) (os : List Opn) (ho : ∀ o ∈ os, o.wt) (a2 : Option Addr) (c2 : Nat) (ms : List Opn) (hm : ∀ o ∈ ms, o.wt) (a3 : Option Addr) (c3 : Nat) (ts : List Opn) (ht : ∀ o ∈ ts, o.wt) (Φ : Base) (hT : Tab Φ) :
    Sl.Fn Tryz.prog Φ F.casematelaw15_MtreeClones [.slice a os.length c, .slice a2 ms.length c2, .slice a3 ts.length c3]
      [isl a os.length c T.casematelaw15_Op 5 (os.flatMap ocells), isl a2 ms.length c2 T.casematelaw15_Op 5 (ms.flatMap ocells), isl a3 ts.length c3 T.casematelaw15_Op 5 (ts.flatMap ocells)] (fun _ : Unit => True) (fun _ => .bool true) (fun _ => []) := by
  refine fo fun F => ?_
  repeat refine s1 ?_
  refine cx (played_c 500 (by decide) (by decide) a c os ho Φ hT) (fun z hz => ?_)
  obtain ⟨⟨pd, ps, pl, tp⟩, rt, S, D, kv⟩ := z
  obtain ⟨l0, h5, h6, _⟩ := hz
  dsimp only at l0 h5 h6 ⊢
  repeat refine s1 ?_
  have ht0 := l0.ok.each _ (List.mem_singleton_self _)
  refine cx (all_c ps pd pl 200000 S D ⟨tp, rt, kv⟩ ht0 l0.ok.ok l0.agr (by omega) (by show kv.length ≤ 1000000; omega) l0.pd l0.pl Φ) (fun z hz => ?_)
  obtain ⟨lw, aw, cw⟩ := z
  have hkw : kvs lw = kv := hz (.inl l0.up)
  have hlw : lw.length ≤ 1000000 := by have := congrArg List.length hkw; simp [kvs] at this; omega
  have hbw : ∀ x ∈ lw, ∀ y ∈ x.v, y < 256 := kvs_bytes (by rw [hkw]; exact ht0.kvok)
  rw [decide_eq_true (show D.down = false ∨ Tre.rt ⟨tp, rt, kv⟩ = none from .inl l0.up)]
  dsimp only
  repeat refine s1 ?_
  have hrw : oWt rt := oWt_of ht0
  have hrk : ∀ r, rt = some r → S.K r.sec ≠ none := fun r hr => tok_root ht0 hr
  refine cx (tclone_c ps S ⟨tp, rt, kv⟩ hrw hrk (tre_low (A := []) (B := []) l0.ok (by simp)).1 Φ) (fun ta _ => ?_)
  have l1 := l0.cloned (t := ⟨tp, rt, kv⟩) (List.mem_singleton_self _) ta
  repeat refine s1 ?_
  refine cx (tclone_c ps (S.turn none rt) ⟨tp, rt, kv⟩ hrw hrk (tre_low (A := [⟨ta, rt, kv⟩]) (B := []) l1.ok (by simp)).1 Φ) (fun tb _ => ?_)
  have l2 := l1.cloned (t := ⟨tp, rt, kv⟩) (by simp) tb
  dsimp only at l2 ⊢
  generalize ((S.turn none rt).turn none rt) = S2 at l2 ⊢
  repeat refine s3 ?_
  refine jh [hlog pl (200000 + kv.length + 1)] (j_ent (hlogUp (N' := 201000 + 1000 * 0) (by omega) _) ?_)
  refine t_meet (σ := Nat × Option Rf × St × Dk × KV) (fun z => [(15, i64 z.1), (9, ptr tp), (1, .slice a2 ms.length c2), (13, ptr ta), (14, ptr tb), (2, .slice a3 ts.length c3), (8, ptr ps), (11, .slice aw lw.length cw)])
    (fun z => tree tp ps z.2.1 :: store ps z.2.2.1 :: disk pd z.2.2.2.1 :: hlog pl (201000 + 1000 * z.1) :: tree ta ps rt :: tree tb ps rt :: isl a2 ms.length c2 T.casematelaw15_Op 5 (ms.flatMap ocells) :: isl a3 ts.length c3 T.casematelaw15_Op 5 (ts.flatMap ocells) :: rowR aw lw.length cw lw :: rvals lw :: F)
    (fun z => z.1 ≤ ms.length ∧ z.1 ≤ 100 ∧ Lv pd pl 500 z.2.2.1 z.2.2.2.1 ([⟨tb, rt, kv⟩, ⟨ta, rt, kv⟩] ++ ⟨tp, z.2.1, z.2.2.2.2⟩ :: []) ∧ z.2.2.2.2.length ≤ 200 + z.1 ∧ z.2.2.2.1.waits.length ≤ 14000 + 140 * z.1) ?_ ?_
  · refine t_block ?_
    repeat refine s1 ?_
    refine t_loop (σ := Nat × Option Rf × St × Dk × KV) (fun z => [(15, i64 z.1), (9, ptr tp), (1, .slice a2 ms.length c2), (13, ptr ta), (14, ptr tb), (2, .slice a3 ts.length c3), (8, ptr ps), (11, .slice aw lw.length cw)])
      (fun z => tree tp ps z.2.1 :: store ps z.2.2.1 :: disk pd z.2.2.2.1 :: hlog pl (201000 + 1000 * z.1) :: tree ta ps rt :: tree tb ps rt :: isl a2 ms.length c2 T.casematelaw15_Op 5 (ms.flatMap ocells) :: isl a3 ts.length c3 T.casematelaw15_Op 5 (ts.flatMap ocells) :: rowR aw lw.length cw lw :: rvals lw :: F)
      (fun z => z.1 ≤ ms.length ∧ z.1 ≤ 100 ∧ Lv pd pl 500 z.2.2.1 z.2.2.2.1 ([⟨tb, rt, kv⟩, ⟨ta, rt, kv⟩] ++ ⟨tp, z.2.1, z.2.2.2.2⟩ :: []) ∧ z.2.2.2.2.length ≤ 200 + z.1 ∧ z.2.2.2.1.waits.length ≤ 14000 + 140 * z.1) (fun z => ms.length - z.1)
      (0, rt, S2, D, kv) ⟨Nat.zero_le _, Nat.zero_le _, l2, h5, h6⟩ ⟨rfl, rfl, rfl, rfl, rfl, rfl, rfl, rfl, trivial⟩ (by first | exact Le.ent | (dsimp only; exact Le.ent) | (dsimp only [List.cons_append, List.nil_append]; exact Le.ent) | (dsimp only [List.cons_append, List.nil_append]; simp only [List.take_zero, List.map_nil, List.flatMap_nil, List.length_nil]; exact Le.ent)) ?_
    rintro ⟨i, rt1, S1, D1, kv1⟩ ⟨h1, h2, h4, h5, h6⟩
    dsimp only at h1 h2 h4 h5 h6 ⊢
    refine jh [isl a2 ms.length c2 T.casematelaw15_Op 5 (ms.flatMap ocells)] (j_leni (fun _ _ hoa => ?_))
    repeat refine s1 ?_
    refine r_iop rfl rfl rfl rfl ?_
    rcases (show (i < ms.length ∧ i < 100) ∨ ¬ (i < ms.length ∧ i < 100) from Decidable.em _) with ⟨hi, hi3⟩ | hi
    · rw [decide_eq_true (show (i : Int) < (ms.length : Int) by omega)]
      repeat refine s1 ?_
      refine r_iop rfl rfl rfl rfl ?_
      rw [decide_eq_true (show (i : Int) < 100 by omega)]
      obtain ⟨ob, oo, rfl⟩ := hoa (by omega)
      obtain ⟨o, hox⟩ : ∃ o, ms[i]? = some o := ⟨_, List.getElem?_eq_getElem hi⟩
      have how := hm o (List.mem_of_getElem? hox)
      refine jh [isl (some ⟨ob, oo, none⟩) ms.length c2 T.casematelaw15_Op 5 (ms.flatMap ocells)] ?_
      repeat refine s1 ?_
      refine t_draw [isl (some ⟨ob, oo, none⟩) ms.length c2 T.casematelaw15_Op 5 (ms.flatMap ocells)] [5, 10] mixed (by decide +kernel) ?_
      repeat refine s1 ?_
      refine ix rfl rfl hi ?_
      repeat refine s1 ?_
      refine s_loadBy (v := w64 o.key) rfl (fun w hh => run_loadI (j := i * 5 + 1) hh (by omega) (ocells_at hox 1 _ rfl)) rfl rfl ?_
      repeat refine s1 ?_
      refine ix rfl rfl hi ?_
      repeat refine s1 ?_
      refine s_loadBy (v := u8 o.by_) rfl (fun w hh => run_loadI (j := i * 5 + 3) hh (by omega) (ocells_at hox 3 _ rfl)) rfl rfl ?_
      repeat refine s1 ?_
      refine cl (val_c o.by_ 1 Φ) ?_
      repeat refine s1 ?_
      refine cx (tput_c ps pd pl (201000 + 1000 * i) o.key (valL o.by_ 1) S1 D1 [⟨tb, rt, kv⟩, ⟨ta, rt, kv⟩] [] ⟨tp, rt1, kv1⟩ how.key (valL_bytes how.by_) h4.ok h4.agr (by omega) (by omega) (by dsimp only; omega) (by simp) h4.pd h4.pl Φ hT) (fun x hx => ?_)
      obtain ⟨kv2, g1, g2, g3⟩ := h4.step hx (m := kv1.length + 1) (Nat.le_succ _) (ins_len kv1).2
      obtain ⟨e2, rt2, S2, D2⟩ := x
      dsimp only at g1 g2 g3 ⊢
      repeat refine s1 ?_
      refine jh [isl (some ⟨ob, oo, none⟩) ms.length c2 T.casematelaw15_Op 5 (ms.flatMap ocells)] ?_
      repeat refine s1 ?_
      refine ix rfl rfl hi ?_
      repeat refine s1 ?_
      refine r_loadI (off := oo) (n := ms.length) (cap := c2) (E := T.casematelaw15_Op) (s := 5) (xs := ms.flatMap ocells) (v := w64 o.to) rfl (j := i * 5 + 2) (by omega) (ocells_at hox 2 _ rfl) rfl rfl ?_
      repeat refine s1 ?_
      refine cx (tdel_c ps pd pl (201000 + 1000 * i + 200) o.to S2 D2 [⟨tb, rt, kv⟩, ⟨ta, rt, kv⟩] [] ⟨tp, rt2, kv2⟩ how.to g1.ok g1.agr (by omega) (by omega) (by dsimp only; omega) (by simp) g1.pd g1.pl Φ hT) (fun x hx => ?_)
      obtain ⟨kv3, g4, g5, g6⟩ := g1.step hx.1 (m := kv1.length + 1) g2 (Nat.le_trans del_le g2)
      repeat refine s1 ?_
      refine jh [hlog pl (201000 + 1000 * i + 200 + 200)] (j_ent (hlogUp (N' := 201000 + 1000 * (i + 1)) (by omega) _) ?_)
      exact j_again (i + 1, x.2.1, x.2.2.1, x.2.2.2, kv3) ⟨by omega, by omega, g4, by dsimp only; omega, by dsimp only; omega⟩ (by dsimp only; omega) ⟨rfl, rfl, rfl, rfl, rfl, rfl, rfl, rfl, trivial⟩ (by first | exact Le.ent | (dsimp only; exact Le.ent) | (dsimp only [List.cons_append, List.nil_append]; exact Le.ent) | (dsimp only [List.cons_append, List.nil_append]; simp only [List.take_zero, List.map_nil, List.flatMap_nil, List.length_nil]; exact Le.ent))
    · by_cases hi1 : i < ms.length
      · rw [decide_eq_true (show (i : Int) < (ms.length : Int) by omega)]
        repeat refine s1 ?_
        refine r_iop rfl rfl rfl rfl ?_
        rw [decide_eq_false (show ¬ (i : Int) < 100 by omega)]
        repeat refine s1 ?_
        exact j_meet (i, rt1, S1, D1, kv1) ⟨h1, h2, h4, h5, h6⟩ ⟨rfl, rfl, rfl, rfl, rfl, rfl, rfl, rfl, trivial⟩ (by first | exact Le.ent | (dsimp only; exact Le.ent) | (dsimp only [List.cons_append, List.nil_append]; exact Le.ent) | (dsimp only [List.cons_append, List.nil_append]; simp only [List.take_zero, List.map_nil, List.flatMap_nil, List.length_nil]; exact Le.ent))
      · rw [decide_eq_false (show ¬ (i : Int) < (ms.length : Int) by omega)]
        repeat refine s1 ?_
        exact j_meet (i, rt1, S1, D1, kv1) ⟨h1, h2, h4, h5, h6⟩ ⟨rfl, rfl, rfl, rfl, rfl, rfl, rfl, rfl, trivial⟩ (by first | exact Le.ent | (dsimp only; exact Le.ent) | (dsimp only [List.cons_append, List.nil_append]; exact Le.ent) | (dsimp only [List.cons_append, List.nil_append]; simp only [List.take_zero, List.map_nil, List.flatMap_nil, List.length_nil]; exact Le.ent))
  rintro ⟨i9, rt9, S9, D9, kv9⟩ ⟨_, h29, h49, h59, h69⟩
  dsimp only at h29 h49 h59 h69 ⊢
  refine jh [hlog pl (201000 + 1000 * i9)] (j_ent (hlogUp (N' := 301000 + 1000 * 0) (by omega) _) ?_)
  repeat refine s3 ?_
  refine t_meet (σ := Nat × Option Rf × St × Dk × KV) (fun z => [(16, i64 z.1), (9, ptr tp), (13, ptr ta), (14, ptr tb), (2, .slice a3 ts.length c3), (8, ptr ps), (11, .slice aw lw.length cw)])
    (fun z => tree ta ps z.2.1 :: store ps z.2.2.1 :: disk pd z.2.2.2.1 :: hlog pl (301000 + 1000 * z.1) :: tree tp ps rt9 :: tree tb ps rt :: isl a3 ts.length c3 T.casematelaw15_Op 5 (ts.flatMap ocells) :: rowR aw lw.length cw lw :: rvals lw :: F)
    (fun z => z.1 ≤ ts.length ∧ z.1 ≤ 100 ∧ Lv pd pl 500 z.2.2.1 z.2.2.2.1 ([⟨tb, rt, kv⟩] ++ ⟨ta, z.2.1, z.2.2.2.2⟩ :: [⟨tp, rt9, kv9⟩]) ∧ z.2.2.2.2.length ≤ 200 + 2 * z.1 ∧ z.2.2.2.1.waits.length ≤ 28000 + 140 * z.1) ?_ ?_
  · refine t_block ?_
    repeat refine s1 ?_
    refine t_loop (σ := Nat × Option Rf × St × Dk × KV) (fun z => [(16, i64 z.1), (9, ptr tp), (13, ptr ta), (14, ptr tb), (2, .slice a3 ts.length c3), (8, ptr ps), (11, .slice aw lw.length cw)])
      (fun z => tree ta ps z.2.1 :: store ps z.2.2.1 :: disk pd z.2.2.2.1 :: hlog pl (301000 + 1000 * z.1) :: tree tp ps rt9 :: tree tb ps rt :: isl a3 ts.length c3 T.casematelaw15_Op 5 (ts.flatMap ocells) :: rowR aw lw.length cw lw :: rvals lw :: F)
      (fun z => z.1 ≤ ts.length ∧ z.1 ≤ 100 ∧ Lv pd pl 500 z.2.2.1 z.2.2.2.1 ([⟨tb, rt, kv⟩] ++ ⟨ta, z.2.1, z.2.2.2.2⟩ :: [⟨tp, rt9, kv9⟩]) ∧ z.2.2.2.2.length ≤ 200 + 2 * z.1 ∧ z.2.2.2.1.waits.length ≤ 28000 + 140 * z.1) (fun z => ts.length - z.1)
      (0, rt, S9, D9, kv) ⟨Nat.zero_le _, Nat.zero_le _, h49, (by dsimp only; omega), (by dsimp only; omega)⟩ ⟨rfl, rfl, rfl, rfl, rfl, rfl, rfl, trivial⟩ (by first | exact Le.ent | (dsimp only; exact Le.ent) | (dsimp only [List.cons_append, List.nil_append]; exact Le.ent) | (dsimp only [List.cons_append, List.nil_append]; simp only [List.take_zero, List.map_nil, List.flatMap_nil, List.length_nil]; exact Le.ent)) ?_
    rintro ⟨i, rt1, S1, D1, kv1⟩ ⟨h1, h2, h4, h5, h6⟩
    dsimp only at h1 h2 h4 h5 h6 ⊢
    refine jh [isl a3 ts.length c3 T.casematelaw15_Op 5 (ts.flatMap ocells)] (j_leni (fun _ _ hoa => ?_))
    repeat refine s1 ?_
    refine r_iop rfl rfl rfl rfl ?_
    rcases (show (i < ts.length ∧ i < 100) ∨ ¬ (i < ts.length ∧ i < 100) from Decidable.em _) with ⟨hi, hi3⟩ | hi
    · rw [decide_eq_true (show (i : Int) < (ts.length : Int) by omega)]
      repeat refine s1 ?_
      refine r_iop rfl rfl rfl rfl ?_
      rw [decide_eq_true (show (i : Int) < 100 by omega)]
      obtain ⟨ob, oo, rfl⟩ := hoa (by omega)
      obtain ⟨o, hox⟩ : ∃ o, ts[i]? = some o := ⟨_, List.getElem?_eq_getElem hi⟩
      have how := ht o (List.mem_of_getElem? hox)
      refine jh [isl (some ⟨ob, oo, none⟩) ts.length c3 T.casematelaw15_Op 5 (ts.flatMap ocells)] ?_
      repeat refine s1 ?_
      refine ix rfl rfl hi ?_
      repeat refine s1 ?_
      refine r_loadI (off := oo) (n := ts.length) (cap := c3) (E := T.casematelaw15_Op) (s := 5) (xs := ts.flatMap ocells) (v := w64 o.key) rfl (j := i * 5 + 1) (by omega) (ocells_at hox 1 _ rfl) rfl rfl ?_
      repeat refine s1 ?_
      refine cx (tdel_c ps pd pl (301000 + 1000 * i) o.key S1 D1 [⟨tb, rt, kv⟩] [⟨tp, rt9, kv9⟩] ⟨ta, rt1, kv1⟩ how.key h4.ok h4.agr (by omega) (by omega) (by dsimp only; omega) (by simp) h4.pd h4.pl Φ hT) (fun x hx => ?_)
      obtain ⟨kv2, g1, g2, g3⟩ := h4.step hx.1 (m := kv1.length + 1) (Nat.le_succ _) (Nat.le_trans del_le (Nat.le_succ _))
      obtain ⟨e2, rt2, S2, D2⟩ := x
      dsimp only at g1 g2 g3 ⊢
      repeat refine s1 ?_
      refine jh [isl (some ⟨ob, oo, none⟩) ts.length c3 T.casematelaw15_Op 5 (ts.flatMap ocells)] ?_
      repeat refine s1 ?_
      refine t_draw [isl (some ⟨ob, oo, none⟩) ts.length c3 T.casematelaw15_Op 5 (ts.flatMap ocells)] [5, 10] mixed (by decide +kernel) ?_
      repeat refine s1 ?_
      refine ix rfl rfl hi ?_
      repeat refine s1 ?_
      refine s_loadBy (v := w64 o.to) rfl (fun w hh => run_loadI (j := i * 5 + 2) hh (by omega) (ocells_at hox 2 _ rfl)) rfl rfl ?_
      repeat refine s1 ?_
      refine ix rfl rfl hi ?_
      repeat refine s1 ?_
      refine s_loadBy (v := u8 o.by_) rfl (fun w hh => run_loadI (j := i * 5 + 3) hh (by omega) (ocells_at hox 3 _ rfl)) rfl rfl ?_
      repeat refine s1 ?_
      refine cl (val_c o.by_ 2 Φ) ?_
      repeat refine s1 ?_
      refine cx (tput_c ps pd pl (301000 + 1000 * i + 200) o.to (valL o.by_ 2) S2 D2 [⟨tb, rt, kv⟩] [⟨tp, rt9, kv9⟩] ⟨ta, rt2, kv2⟩ how.to (valL_bytes how.by_) g1.ok g1.agr (by omega) (by omega) (by dsimp only; omega) (by simp) g1.pd g1.pl Φ hT) (fun x hx => ?_)
      obtain ⟨kv3, g4, g5, g6⟩ := g1.step hx (m := kv1.length + 2) (Nat.le_succ_of_le g2) (Nat.le_trans (ins_len kv2).2 (Nat.succ_le_succ g2))
      repeat refine s1 ?_
      refine jh [hlog pl (301000 + 1000 * i + 200 + 200)] (j_ent (hlogUp (N' := 301000 + 1000 * (i + 1)) (by omega) _) ?_)
      exact j_again (i + 1, x.2.1, x.2.2.1, x.2.2.2, kv3) ⟨by omega, by omega, g4, by dsimp only; omega, by dsimp only; omega⟩ (by dsimp only; omega) ⟨rfl, rfl, rfl, rfl, rfl, rfl, rfl, trivial⟩ (by first | exact Le.ent | (dsimp only; exact Le.ent) | (dsimp only [List.cons_append, List.nil_append]; exact Le.ent) | (dsimp only [List.cons_append, List.nil_append]; simp only [List.take_zero, List.map_nil, List.flatMap_nil, List.length_nil]; exact Le.ent))
    · by_cases hi1 : i < ts.length
      · rw [decide_eq_true (show (i : Int) < (ts.length : Int) by omega)]
        repeat refine s1 ?_
        refine r_iop rfl rfl rfl rfl ?_
        rw [decide_eq_false (show ¬ (i : Int) < 100 by omega)]
        repeat refine s1 ?_
        exact j_meet (i, rt1, S1, D1, kv1) ⟨h1, h2, h4, h5, h6⟩ ⟨rfl, rfl, rfl, rfl, rfl, rfl, rfl, trivial⟩ (by first | exact Le.ent | (dsimp only; exact Le.ent) | (dsimp only [List.cons_append, List.nil_append]; exact Le.ent) | (dsimp only [List.cons_append, List.nil_append]; simp only [List.take_zero, List.map_nil, List.flatMap_nil, List.length_nil]; exact Le.ent))
      · rw [decide_eq_false (show ¬ (i : Int) < (ts.length : Int) by omega)]
        repeat refine s1 ?_
        exact j_meet (i, rt1, S1, D1, kv1) ⟨h1, h2, h4, h5, h6⟩ ⟨rfl, rfl, rfl, rfl, rfl, rfl, rfl, trivial⟩ (by first | exact Le.ent | (dsimp only; exact Le.ent) | (dsimp only [List.cons_append, List.nil_append]; exact Le.ent) | (dsimp only [List.cons_append, List.nil_append]; simp only [List.take_zero, List.map_nil, List.flatMap_nil, List.length_nil]; exact Le.ent))
  rintro ⟨i8, rt8, S8, D8, kv8⟩ ⟨_, h28, h48, h58, h68⟩
  dsimp only at h28 h48 h58 h68 ⊢
  refine jh [hlog pl (301000 + 1000 * i8)] (j_ent (hlogUp (N' := 402000) (by omega) _) ?_)
  repeat refine s1 ?_
  have ht5 := h48.ok.each (⟨tp, rt9, kv9⟩ : Tre) (by simp)
  refine cx (all_c ps pd pl (402000) S8 D8 (⟨tp, rt9, kv9⟩ : Tre) ht5 h48.ok.ok h48.agr (by omega) (by dsimp only; omega) h48.pd h48.pl Φ) (fun z hz => ?_)
  obtain ⟨l5, a5, c5⟩ := z
  have hk5 : kvs l5 = kv9 := hz (.inl h48.up)
  have hb5 : ∀ x ∈ l5, ∀ y ∈ x.v, y < 256 := kvs_bytes (by rw [hk5]; exact ht5.kvok)
  have hl5 : l5.length ≤ 1000000 := by have := congrArg List.length hk5; simp [kvs] at this; omega
  rw [decide_eq_true (show (D8 : Dk).down = false ∨ Tre.rt (⟨tp, rt9, kv9⟩ : Tre) = none from .inl h48.up)]
  dsimp only
  repeat refine s1 ?_
  have ht6 := h48.ok.each (⟨tb, rt, kv⟩ : Tre) (by simp)
  refine cx (all_c ps pd pl (402000 + kv9.length + 1) S8 D8 (⟨tb, rt, kv⟩ : Tre) ht6 h48.ok.ok h48.agr (by omega) (by dsimp only; omega) h48.pd h48.pl Φ) (fun z hz => ?_)
  obtain ⟨l6, a6, c6⟩ := z
  have hk6 : kvs l6 = kv := hz (.inl h48.up)
  have hb6 : ∀ x ∈ l6, ∀ y ∈ x.v, y < 256 := kvs_bytes (by rw [hk6]; exact ht6.kvok)
  have hl6 : l6.length ≤ 1000000 := by have := congrArg List.length hk6; simp [kvs] at this; omega
  rw [decide_eq_true (show (D8 : Dk).down = false ∨ Tre.rt (⟨tb, rt, kv⟩ : Tre) = none from .inl h48.up)]
  dsimp only
  repeat refine s1 ?_
  refine cl (same_c a6 aw c6 cw l6 lw hl6 hb6 hbw Φ) ?_
  rw [hk6, hkw, decide_eq_true rfl]
  repeat refine s1 ?_
  refine cx (tbecome_c ps S8 [] [⟨ta, rt8, kv8⟩, ⟨tp, rt9, kv9⟩] ⟨tb, rt, kv⟩ ⟨tp, rt9, kv9⟩ h48.ok ht5 (by simp) Φ) (fun S7 h7 => ?_)
  have l7 := h48.frq h7
  repeat refine s1 ?_
  have ht7 := l7.ok.each (⟨tb, rt9, kv9⟩ : Tre) (by simp)
  refine cx (all_c ps pd pl (402000 + kv9.length + 1 + kv.length + 1) S7 D8 (⟨tb, rt9, kv9⟩ : Tre) ht7 l7.ok.ok l7.agr (by omega) (by dsimp only; omega) l7.pd l7.pl Φ) (fun z hz => ?_)
  obtain ⟨lx7, a7, c7⟩ := z
  have hk7 : kvs lx7 = kv9 := hz (.inl l7.up)
  have hb7 : ∀ x ∈ lx7, ∀ y ∈ x.v, y < 256 := kvs_bytes (by rw [hk7]; exact ht7.kvok)
  have hl7 : lx7.length ≤ 1000000 := by have := congrArg List.length hk7; simp [kvs] at this; omega
  rw [decide_eq_true (show (D8 : Dk).down = false ∨ Tre.rt (⟨tb, rt9, kv9⟩ : Tre) = none from .inl l7.up)]
  dsimp only
  repeat refine s1 ?_
  repeat refine s2 ?_
  refine cl (same_c a7 a5 c7 c5 lx7 l5 hl7 hb7 hb5 Φ) ?_
  rw [hk7, hk5, decide_eq_true rfl]
  repeat refine s1 ?_
  refine cl (alive_c Φ hT) ?_
  repeat refine s1 ?_
  refine cx (tfree_c ps S7 [⟨tb, rt9, kv9⟩, ⟨ta, rt8, kv8⟩] [] ⟨tp, rt9, kv9⟩ l7.ok Φ) (fun S6 h6 => ?_)
  repeat refine s2 ?_
  refine cx (tfree_c ps S6 [⟨tb, rt9, kv9⟩] [] ⟨ta, rt8, kv8⟩ h6.ok Φ) (fun S5 h5 => ?_)
  repeat refine s2 ?_
  refine cx (tfree_c ps S5 [] [] ⟨tb, rt9, kv9⟩ h5.ok Φ) (fun S4 h4 => ?_)
  repeat refine s2 ?_
  refine cl (sused_c ps S4 noδ Φ) ?_
  rw [show card S4.K = 0 by have := h4.ok.used; simp only [List.nil_append, List.map_nil, List.sum_nil] at this; omega]
  repeat refine s2 ?_
  exact f1 ()
end Go.Proofs.YtcnpkmdooekmgaaGreatDoor
namespace Go.Proofs.YtcnpkmdooekmgaaGreatDoor
open Go Sl
attribute [local irreducible] cw sw J Exit.then Exit.inBlock Exit.noGoto bodyPost swG swL permL
theorem gather_bad (p m N : Nat) (S : St) (D : Dk) (r : Rf) (n : Nd) (hr : r.wt) (h1 : S.frm ≤ r.sec) (h2 : r.sec < S.frm + S.cnt) (hm : n.right) (hw : n.wt) (hsec : D.sec r.sec = n.enc) (hsum : shaM n.enc ≠ r.sum) (hsz : S.frm + S.cnt ≤ D.size) (hd : D.down = false) (hK : ∀ s, S.K s = none) (hN : N ≤ 900000000) (Φ : Base) :
    Sl.Fn Tryz.prog Φ F.shadow_Store_gather [ptr p, .agg (rcells r).toArray, .map (some m), i64 1] [store p S, disk S.pd D, hlog S.pl N, fmap m []] (fun _ : Unit => True) (fun _ => i64 40) (fun _ => [store p S, disk S.pd D, hlog S.pl (N + 1)]) := by
  refine fo fun F => ?_
  repeat refine s1 ?_
  refine r_box (cs := rcells r) rfl rfl rfl rfl (fun t5 => ?_)
  repeat refine s2 ?_
  refine r_lookup2 rfl rfl ⟨_, rfl⟩ rfl rfl ?_
  rw [mget_em kU_inj]
  simp only [alook, Option.map_none, Option.getD_none, Option.isSome_none]
  repeat refine s1 ?_
  refine al (cs := nbx nd0 nr0) (fun t9 => ?_)
  refine r_storeW (vs := nbx nd0 nr0) rfl rfl (by rfl) (by rfl) (by simp [Value.oneCell']) rfl ?_
  repeat refine s1 ?_
  refine cl (shas_c p S noδ r.sec Φ) ?_
  rw [hK, Option.isSome_none]
  repeat refine s1 ?_
  refine r_loadW (vs := rcells r) rfl (by simp [hr.sum.1]) rfl rfl ?_
  refine cx (sload_s p N S D r n hr h1 h2 hm hw hsec hsz hd hN Φ) (fun y _ => ?_)
  rw [ldN, if_neg hsum, if_neg hsum]
  repeat refine s1 ?_
  refine al (cs := nbx nd0 nr0) (fun t11 => ?_)
  refine r_storeW (vs := nbx nd0 y) rfl rfl (by rfl) (by rfl) (by simp [Value.oneCell']) rfl ?_
  repeat refine s2 ?_
  exact f1 ()
theorem adopt_bad (p N : Nat) (S : St) (D : Dk) (r : Rf) (n : Nd) (hr : r.wt) (h1 : S.frm ≤ r.sec) (h2 : r.sec < S.frm + S.cnt) (hm : n.right) (hw : n.wt) (hsec : D.sec r.sec = n.enc) (hsum : shaM n.enc ≠ r.sum) (hsz : S.frm + S.cnt ≤ D.size) (hd : D.down = false) (hK : ∀ s, S.K s = none) (hN : N ≤ 900000000) (Φ : Base) :
    Sl.Fn Tryz.prog Φ F.shadow_Store_Adopt [ptr p, .agg (rcells r).toArray] [store p S, disk S.pd D, hlog S.pl N] (fun _ : Unit => True) (fun _ => i64 40) (fun _ => [store p S, disk S.pd D, hlog S.pl (N + 1)]) := by
  refine fo fun F => ?_
  repeat refine s1 ?_
  refine r_box (cs := rcells r) rfl rfl rfl rfl (fun t3 => ?_)
  repeat refine s1 ?_
  refine cl (smade_c p S noδ Φ) ?_
  repeat refine s1 ?_
  refine r_makeMap (isInt .u32) rfl rfl (fun m => j_ent (show Ent (mp (isInt .u32) m [] :: _) (fmap m [] :: _) from Ent.refl _) ?_)
  repeat refine s1 ?_
  refine r_loadW (vs := rcells r) rfl (by simp [hr.sum.1]) rfl rfl ?_
  repeat refine s1 ?_
  refine cl (gather_bad p m N S D r n hr h1 h2 hm hw hsec hsum hsz hd hK hN Φ) ?_
  repeat refine s2 ?_
  exact f1 ()
theorem topen_bad (p N : Nat) (S : St) (D : Dk) (r : Rf) (n : Nd) (hr : r.wt) (h1 : S.frm ≤ r.sec) (h2 : r.sec < S.frm + S.cnt) (hm : n.right) (hw : n.wt) (hsec : D.sec r.sec = n.enc) (hsum : shaM n.enc ≠ r.sum) (hsz : S.frm + S.cnt ≤ D.size) (hd : D.down = false) (hK : ∀ s, S.K s = none) (hN : N ≤ 900000000) (Φ : Base) :
    Sl.Fn Tryz.prog Φ F.mtree_Open [ptr p, .agg (rcells r).toArray] [store p S, disk S.pd D, hlog S.pl N] (fun _ : Unit => True) (fun _ => .tuple #[.pointer none, i64 40]) (fun _ => [store p S, disk S.pd D, hlog S.pl (N + 1)]) := by
  refine fo fun F => ?_
  repeat refine s1 ?_
  refine r_box (cs := rcells r) rfl rfl rfl rfl (fun t3 => ?_)
  repeat refine s1 ?_
  refine r_loadW (vs := rcells r) rfl (by simp [hr.sum.1]) rfl rfl ?_
  refine cl (adopt_bad p N S D r n hr h1 h2 hm hw hsec hsum hsz hd hK hN Φ) ?_
  repeat refine s2 ?_
  exact f2 ()
theorem topen_c (p pl N : Nat) (S0 : St) (D : Dk) (t : Tre) (r : Rf) (hr : t.rt = some r) (h : TsOk S0 [t]) (ha : Agr S0 D) (hd : D.down = false) (hc : S0.cnt ≤ 60000) (hkv : t.kv.length ≤ 1000000) (hN : N ≤ 700000000) (Φ : Base) :
    Sl.Fn Tryz.prog Φ F.mtree_Open [ptr p, .agg (rcells r).toArray] [store p (S1o S0 pl fun _ => none), disk S0.pd D, hlog pl N] (fun _ : Nat => True) (fun u => .tuple #[ptr u, i64 0])
      (fun u => [tree u p (some r), store p { S0 with pl := pl }, disk S0.pd D, hlog pl (N + t.kv.length + 3)]) := by
  have hrw : r.wt := by obtain ⟨_, _, _, _, hsh⟩ := (h.each t (by simp)).sh hr; exact hsh.1
  refine fo fun F => ?_
  repeat refine s1 ?_
  refine r_box (cs := rcells r) rfl rfl rfl rfl (fun t3 => ?_)
  repeat refine s1 ?_
  refine r_loadW (vs := rcells r) rfl (by simp [hrw.sum.1]) rfl rfl ?_
  refine cl (adopt_c p pl N S0 D t r hr h ha hd hc hkv hN Φ) ?_
  repeat refine s2 ?_
  refine r_loadW (vs := rcells r) rfl (by simp [hrw.sum.1]) rfl rfl ?_
  refine r_build (cells := tcells p (some r)) rfl (by simp [fillL, hrw.sum.1, Value.cells]) rfl ?_
  refine r_box (cs := tcells p (some r)) rfl rfl rfl rfl (fun u => ?_)
  repeat refine s1 ?_
  exact f2 u
end Go.Proofs.YtcnpkmdooekmgaaGreatDoor
namespace Go.Proofs.YtcnpkmdooekmgaaGreatDoor
open Go Sl
theorem xor_ne {a b : Nat} (h : b ≠ 0) : a ^^^ b ≠ a := fun e => h (by
  have : a ^^^ (a ^^^ b) = a ^^^ a := by rw [e]
  rwa [← Nat.xor_assoc, Nat.xor_self, Nat.zero_xor] at this)
theorem wrap_u8n {n : Nat} (h : n < 256) : IntKind.u8.wrap (n : Int) = (n : Int) := by
  simp [IntKind.wrap, IntKind.signed, IntKind.bits]; omega
theorem xor_u8n {a b : Nat} (ha : a < 256) (hb : b < 256) : Go.bits .xor .u8 (a : Int) (b : Int) = ((a ^^^ b : Nat) : Int) := by
  have hop : ∀ x y : BitVec 8, Go.bits .xor .u8 (x.toNat : Int) (y.toNat : Int) = ((x.toNat ^^^ y.toNat : Nat) : Int) := fun x y => by
    show IntKind.u8.wrap ((BitVec.ofInt 8 (x.toNat : Int) ^^^ BitVec.ofInt 8 (y.toNat : Int)).toNat : Int) = _
    simp only [BitVec.ofInt_natCast, BitVec.ofNat_toNat, BitVec.setWidth_eq]
    rw [wrap_u8n (x ^^^ y).isLt, BitVec.toNat_xor]
  have := hop (BitVec.ofNat 8 a) (BitVec.ofNat 8 b)
  simpa [Nat.mod_eq_of_lt ha, Nat.mod_eq_of_lt hb] using this
/-- a reference with a byte of its sum turned. -/
def Rf.bend (r : Rf) (k b : Nat) : Rf := ⟨r.sec, r.sum.set k ((r.sum[k]?.getD 0) ^^^ b)⟩
theorem Rf.bend_wt {r : Rf} (h : r.wt) {k b : Nat} (hb : b < 256) : (r.bend k b).wt := by
  refine ⟨h.sec, by simp [Rf.bend, h.sum.1], fun x hx => ?_⟩
  rcases List.mem_or_eq_of_mem_set hx with hx | rfl
  · exact h.sum.2 x hx
  · refine Nat.xor_lt_two_pow (n := 8) ?_ hb
    rcases hk : r.sum[k]? with _ | y
    · simp
    · simpa using h.sum.2 y (List.mem_of_getElem? hk)
theorem Rf.bend_ne {r : Rf} {k b : Nat} (hk : k < r.sum.length) (hb : b ≠ 0) : (r.bend k b).sum ≠ r.sum := fun e => by
  have : (r.bend k b).sum[k]? = r.sum[k]? := by rw [e]
  rw [Rf.bend, List.getElem?_set_self hk, List.getElem?_eq_getElem hk] at this
  simp only [Option.getD_some, Option.some.injEq] at this
  exact xor_ne hb this
theorem ent_pl {p : Nat} {S : St} {S' : St} (h : S' = S) (L : List Assn) : Ent (store p S :: L) (store p S' :: L) := by rw [h]; exact Ent.refl _
theorem none_of_card {K : Kp} (hf : ∃ l, Rep l K) (h : card K = 0) (s : Nat) : K s = none := by
  rcases hk : K s with _ | ks
  · rfl
  · have := card_pos hf (s := s) (by rw [hk]; simp); omega
attribute [local irreducible] cw sw J Exit.then Exit.inBlock Exit.noGoto bodyPost swG swL permL
set_option maxHeartbeats 2000000 in
theorem opens_c (a : Option Addr) (c : Nat) (os : List Opn) (ho : ∀ o ∈ os, o.wt) (turn : Nat) (htn : turn < 256) (Φ : Base) (hT : Tab Φ) :
    Sl.Fn Tryz.prog Φ F.casematelaw15_MtreeOpens [.slice a os.length c, u8 turn] [isl a os.length c T.casematelaw15_Op 5 (os.flatMap ocells)] (fun _ : Unit => True) (fun _ => .bool true) (fun _ => []) := by
  refine fo fun F => ?_
  repeat refine s1 ?_
  refine cx (played_c 400 (by decide) (by decide) a c os ho Φ hT) (fun z hz => ?_)
  obtain ⟨⟨pd, ps, pl, tp⟩, rt, S, D, kv⟩ := z
  obtain ⟨l0, h5, h6, hfr⟩ := hz
  dsimp only at l0 h5 h6 hfr ⊢
  repeat refine s1 ?_
  have ht1 := l0.ok.each (⟨tp, rt, kv⟩ : Tre) (by simp)
  refine cx (all_c ps pd pl (200000) S D (⟨tp, rt, kv⟩ : Tre) ht1 l0.ok.ok l0.agr (by omega) (by dsimp only; omega) l0.pd l0.pl Φ) (fun z hz => ?_)
  obtain ⟨l1, a1, c1⟩ := z
  have hk1 : kvs l1 = kv := hz (.inl l0.up)
  have hb1 : ∀ x ∈ l1, ∀ y ∈ x.v, y < 256 := kvs_bytes (by rw [hk1]; exact ht1.kvok)
  have hl1 : l1.length ≤ 1000000 := by have := congrArg List.length hk1; simp [kvs] at this; omega
  rw [decide_eq_true (show (D : Dk).down = false ∨ Tre.rt (⟨tp, rt, kv⟩ : Tre) = none from .inl l0.up)]
  dsimp only
  repeat refine s1 ?_
  have hrw : oWt rt := oWt_of ht1
  refine cl (root_c tp ps rt hrw Φ) ?_
  repeat refine s1 ?_
  refine al (cs := rcells Rf0) (fun t11 => ?_)
  refine r_storeW (vs := rcells (oR rt)) rfl rfl (by simp [hrw.sum.1]) (by rfl) (by simp [Value.oneCell']) rfl ?_
  repeat refine s1 ?_
  refine cx (hlognew_c Φ) (fun pl2 _ => ?_)
  have hsz : 3 + 400 ≤ D.size := by have := l0.agr.size; rw [hfr, l0.cnt] at this; exact this
  refine cx (snew_c pd pl2 3 400 D (by decide) hsz Φ) (fun pv _ => ?_)
  repeat refine s2 ?_
  refine jh [rowR a1 l1.length c1 l1] (j_leni (fun _ _ _ => ?_))
  repeat refine s2 ?_
  refine r_iop rfl rfl rfl rfl ?_
  have hhs : rt.isSome = decide ((l1.length : Int) > 0) := by
    have h7 := ht1.has
    have hkl : l1.length = kv.length := by have := congrArg List.length hk1; simpa [kvs] using this
    dsimp only at h7
    rcases hr : rt.isSome with _ | _
    · rw [hr] at h7
      have : kv = [] := Decidable.byContradiction fun h0 => by have := h7.2 h0; cases this
      rw [this] at hkl
      symm; apply decide_eq_false; simp at hkl; rw [hkl]; simp
    · have := h7.1 hr
      have h8 : 0 < kv.length := List.length_pos_iff.2 this
      symm; apply decide_eq_true; omega
  rw [hhs]
  repeat refine s1 ?_
  refine r_bne rfl rfl rfl ?_
  rw [show (!((decide ((l1.length : Int) > 0)) == (decide ((l1.length : Int) > 0)))) = false by simp, ← hhs]
  repeat refine s1 ?_
  obtain rfl := l0.pd
  rcases rt with _ | r
  · rw [Option.isSome_none, Bool.not_false]
    have hkv : kv = [] := ht1.nil rfl
    repeat refine s1 ?_
    refine cl (alive_c Φ hT) ?_
    repeat refine s1 ?_
    refine cl (sused_c ps S noδ Φ) ?_
    rw [show card S.K = 0 by have := l0.ok.used; rw [hkv] at this; simp only [List.map_cons, List.map_nil, List.sum_cons, List.sum_nil, List.length_nil] at this; omega]
    repeat refine s2 ?_
    exact f1 ()
  · rw [Option.isSome_some, Bool.not_true]
    obtain ⟨_, hne, hh, U, hsh⟩ := ht1.sh rfl
    have hrw : r.wt := hsh.1
    have hlU : U ≠ [] := by obtain ⟨_, _, _, _, _, _, _, _, _, rfl⟩ := hsh; simp
    repeat refine s1 ?_
    refine r_loadW (vs := rcells r) rfl (by simp [hrw.sum.1]) rfl rfl ?_
    refine jh [store pv (St0 S.pd pl2 3 400)] (j_ent (ent_sec (sec := S.sec) _) (j_ent (ent_pl (S' := S1o S pl2 fun _ => none) (by rw [← hfr, ← l0.cnt]) _) ?_))
    refine cx (topen_c pv pl2 0 S D ⟨tp, some r, kv⟩ r rfl l0.ok l0.agr l0.up (by rw [l0.cnt]; decide) (by dsimp only; omega) (by decide) Φ) (fun u _ => ?_)
    repeat refine s2 ?_
    have hT1 : TsOk { S with pl := pl2 } ([] ++ (⟨u, some r, kv⟩ : Tre) :: []) := ⟨l0.ok.E, l0.ok.ok, l0.ok.tight, fun x hx => by
      simp only [List.nil_append, List.mem_singleton] at hx
      subst hx
      exact l0.ok.each ⟨tp, some r, kv⟩ (by simp)⟩
    have ht2 := hT1.each ⟨u, some r, kv⟩ (by simp)
    refine cx (all_c pv S.pd pl2 (0 + kv.length + 3) { S with pl := pl2 } D ⟨u, some r, kv⟩ ht2 hT1.ok ⟨l0.agr.sec, l0.agr.size, l0.agr.left⟩ (by omega) (by dsimp only; omega) rfl rfl Φ) (fun z hz => ?_)
    obtain ⟨l2, a2, c2⟩ := z
    have hk2 : kvs l2 = kv := hz (.inl l0.up)
    have hb2 : ∀ x ∈ l2, ∀ y ∈ x.v, y < 256 := kvs_bytes (by rw [hk2]; exact ht1.kvok)
    have hl2 : l2.length ≤ 1000000 := by have := congrArg List.length hk2; simp [kvs] at this; omega
    rw [decide_eq_true (show (D : Dk).down = false ∨ Tre.rt ⟨u, some r, kv⟩ = none from .inl l0.up)]
    dsimp only
    repeat refine s2 ?_
    refine cl (same_c a2 a1 c2 c1 l2 l1 hl2 hb2 hb1 Φ) ?_
    rw [hk2, hk1, decide_eq_true rfl]
    repeat refine s2 ?_
    refine cl (sused_c pv { S with pl := pl2 } noδ Φ) ?_
    repeat refine s2 ?_
    refine cl (sused_c ps S noδ Φ) ?_
    dsimp only
    repeat refine s1 ?_
    refine r_icmp rfl rfl rfl rfl ?_
    rw [show (!decide ((card S.K : Int) = (card S.K : Int))) = false by simp]
    repeat refine s1 ?_
    refine cx (tfree_c pv { S with pl := pl2 } [] [] ⟨u, some r, kv⟩ hT1 Φ) (fun S3 h3 => ?_)
    have hc3 : card S3.K = 0 := by have := h3.ok.used; simp only [List.nil_append, List.map_nil, List.sum_nil] at this; omega
    repeat refine s1 ?_
    refine r_icmp rfl rfl rfl rfl ?_
    by_cases ht0 : turn = 0
    · rw [decide_eq_true (show (turn : Int) = 0 by omega)]
      repeat refine s1 ?_
      refine cl (alive_c Φ hT) ?_
      repeat refine s1 ?_
      refine cl (sused_c pv S3 noδ Φ) ?_
      rw [hc3]
      repeat refine s2 ?_
      exact f1 ()
    · rw [decide_eq_false (show ¬ (turn : Int) = 0 by omega)]
      repeat refine s1 ?_
      obtain ⟨pd3, pl3, frm3, cnt3, K3, E3, sec3⟩ := S3
      obtain ⟨e1, e2, e3, e4, e5, e6⟩ := h3
      dsimp only at e1 e2 e3 e4 hc3
      subst e1 e2 e3 e4
      have hk32 : turn % 32 < r.sum.length := by rw [hrw.sum.1]; omega
      have hbk : ∀ x : Nat, r.sum[turn % 32]? = some x → x < 256 := fun x hx => hrw.sum.2 x (List.mem_of_getElem? hx)
      rw [show IntKind.i64.wrap (turn : Int) = (turn : Int) from i64_nat (by omega)]
      repeat refine s1 ?_
      refine r_remN (m := turn) (n := 32) rfl rfl (by decide) rfl ?_
      repeat refine s1 ?_
      rw [show IntKind.i64.wrap (turn : Int) = (turn : Int) from i64_nat (by omega)]
      repeat refine s1 ?_
      refine r_remN (m := turn) (n := 32) rfl rfl (by decide) rfl ?_
      repeat refine s1 ?_
      refine r_idxA (i := ((turn % 32 : Nat) : Int)) rfl rfl (by omega) (by omega) rfl ?_
      rw [show 1 + (((turn % 32 : Nat) : Int)).toNat * 1 = turn % 32 + 1 by omega]
      repeat refine s1 ?_
      refine ld (v := u8 r.sum[turn % 32]) rfl (by simp [List.getElem?_eq_getElem hk32]) ?_
      repeat refine s1 ?_
      refine r_iop (v := u8 (r.sum[turn % 32] ^^^ turn)) rfl rfl (by
        show some (Value.int .u8 (Go.bits .xor .u8 (r.sum[turn % 32] : Int) (turn : Int))) = _
        rw [xor_u8n (hbk _ (List.getElem?_eq_getElem hk32)) htn]) rfl ?_
      repeat refine s1 ?_
      refine r_idxA (i := ((turn % 32 : Nat) : Int)) rfl rfl (by omega) (by omega) rfl ?_
      rw [show 1 + (((turn % 32 : Nat) : Int)).toNat * 1 = turn % 32 + 1 by omega]
      repeat refine s1 ?_
      refine so (hl := (⟨by rw [List.set_cons_succ, ← List.map_set]; simp [Rf.bend, List.getElem?_eq_getElem hk32]⟩ : LSet (rcells r) (turn % 32 + 1) (u8 (r.sum[turn % 32] ^^^ turn)) (rcells (r.bend (turn % 32) turn)))) rfl rfl ?_ (ho := by simp [hrw.sum.1]; omega)
      have hbw := Rf.bend_wt (k := turn % 32) (b := turn) hrw htn
      repeat refine s1 ?_
      refine r_loadW (vs := rcells (r.bend (turn % 32) turn)) rfl (by simp [hbw.sum.1]) rfl rfl ?_
      obtain ⟨_, m, V, hn, hmr, hlo, hsec, hsum, hK, _⟩ := hsh
      have hrg := l0.ok.ok.rng r.sec (by rw [show S.K r.sec = S.g.K r.sec from rfl, hK]; simp)
      refine cl (topen_bad pv (0 + kv.length + 3 + kv.length + 1) ⟨S.pd, pl3, S.frm, S.cnt, K3, E3, sec3⟩ D (r.bend (turn % 32) turn) m hbw hrg.1 hrg.2 hmr (nsh_wt hn) ((l0.agr.sec r.sec (by rw [show S.K r.sec = S.g.K r.sec from rfl, hK]; simp)).trans hsec) (by
        rw [← hsum]; exact fun e => Rf.bend_ne hk32 ht0 e.symm) l0.agr.size l0.up (none_of_card e6.ok.fin hc3) (by omega) Φ) ?_
      repeat refine s1 ?_
      refine cl (alive_c Φ hT) ?_
      repeat refine s2 ?_
      refine cl (sused_c pv ⟨S.pd, pl3, S.frm, S.cnt, K3, E3, sec3⟩ noδ Φ) ?_
      rw [hc3]
      repeat refine s2 ?_
      exact f1 ()
end Go.Proofs.YtcnpkmdooekmgaaGreatDoor
namespace Go.Proofs.YtcnpkmdooekmgaaGreatDoor
open Go Sl
attribute [local irreducible] cw sw J Exit.then Exit.inBlock Exit.noGoto bodyPost swG swL permL
set_option maxHeartbeats 2000000 in
theorem dcrash_c (p : Nat) (D : Dk) (hw : D.waits.length ≤ 1000000000) (a : Option Addr) (n cap : Nat) (ks : List Nat) (hk : ks.length = n) (hn : n ≤ 1000000) (Φ : Base) :
    Sl.Fn Tryz.prog Φ F.disk_Disk_Crash [ptr p, .slice a n cap] [disk p D, isl a n cap T.uint8 1 (ks.map u8)] (fun D' : Dk => D'.waits = [] ∧ D'.plan = false ∧ D'.down = false) (fun _ => i64 0) (fun D' => [disk p D']) := by
  refine fo fun F => ?_
  repeat refine s1 ?_
  refine cl (dsize_c p D Φ) (j_disk fun x hx => ?_)
  dsimp only [List.cons_append, List.nil_append]
  have hsz := hx.sz
  have hlw : x.lw.length ≤ 1000000000 := by have := congrArg List.length hx.w; simp at this; omega
  repeat refine s1 ?_
  refine r_icmp rfl rfl rfl rfl ?_
  rw [decide_eq_false (show ¬ (D.size : Int) = 0 by omega)]
  refine jh [vec x.wa x.lw.length x.wc T.disk_write 2 (wcells x.lw)] (fz (j_leni (fun _ _ hwa => ?_)))
  refine jh [isl a n cap T.uint8 1 (ks.map u8)] (j_leni (fun _ _ hka => ?_))
  repeat refine s3 ?_
  refine t_meet (σ := List (Nat × BS)) (fun _ => [(0, ptr p)])
    (fun ls => pt p (.cells (dcells D x).toArray T.disk_Disk (0, 0)) :: mp (isInt .u32) x.ns (emB ls) :: brows (ls.map Prod.snd ++ x.lw.map Prod.snd) :: F)
    (fun ls => (ls.map Prod.fst).Nodup) ?_ (fun ls hls => ?_)
  · refine t_block ?_
    refine jh [brows (x.ls.map Prod.snd ++ x.lv.map Prod.snd ++ x.lw.map Prod.snd)] (j_ent (Ent.browsSub (l' := x.ls.map Prod.snd ++ x.lw.map Prod.snd) (fun y hy => by
      rcases List.mem_append.1 hy with hy | hy <;> simp only [List.mem_append]
      · exact .inl (.inl hy)
      · exact .inr hy) _) ?_)
    refine t_loop (σ := Nat × List (Nat × BS)) (fun z => [(17, i64 z.1), (16, i64 x.lw.length), (15, .slice x.wa x.lw.length x.wc), (1, .slice a n cap), (0, ptr p)])
      (fun z => isl x.wa x.lw.length x.wc T.disk_write 2 (wcells x.lw) :: isl a n cap T.uint8 1 (ks.map u8) :: pt p (.cells (dcells D x).toArray T.disk_Disk (0, 0)) :: mp (isInt .u32) x.ns (emB z.2) :: brows (z.2.map Prod.snd ++ x.lw.map Prod.snd) :: F)
      (fun z => z.1 ≤ x.lw.length ∧ (z.2.map Prod.fst).Nodup) (fun z => x.lw.length - z.1) (0, x.ls) ⟨Nat.zero_le _, hx.s.nd⟩ ⟨rfl, rfl, rfl, rfl, rfl, trivial⟩ (by first | exact Le.ent | (dsimp only; exact Le.ent) | (dsimp only [List.cons_append, List.nil_append]; exact Le.ent) | (dsimp only [List.cons_append, List.nil_append]; simp only [List.take_zero, List.map_nil, List.flatMap_nil, List.length_nil]; exact Le.ent)) ?_
    rintro ⟨i, ls⟩ ⟨hi, hls⟩
    dsimp only at hi hls ⊢
    repeat refine s1 ?_
    refine r_icmp rfl rfl rfl rfl ?_
    repeat refine s1 ?_
    refine t_condS rfl (fun hlt => ?_) (fun hge => ?_)
    · have hil : i < x.lw.length := by omega
      obtain ⟨wb, wo, hwb⟩ := hwa (by omega)
      have hat : ∀ (j : Nat) (v : Value), [kU x.lw[i].1, vB x.lw[i].2][j]? = some v → (wcells x.lw)[i * 2 + j]? = some v := fun j v hv => by
        rw [flat_in (f := fun p : Nat × BS => [kU p.1, vB p.2]) (c := 2) (fun _ _ => rfl) (List.getElem?_eq_getElem hil) (by have := (List.getElem?_eq_some_iff.1 hv).1; simpa using this)]
        exact hv
      rw [hwb]
      repeat refine s1 ?_
      refine ix rfl rfl hil ?_
      refine r_loadIA (off := wo) (n := x.lw.length) (cap := x.wc) (E := T.disk_write) (s := 2) (xs := wcells x.lw) (vs := [kU x.lw[i].1, vB x.lw[i].2]) rfl (j := i * 2) (by omega) (by rfl) hat rfl rfl ?_
      refine al (fun t6 => ?_)
      repeat refine s1 ?_
      refine r_storeW (vs := [kU x.lw[i].1, vB x.lw[i].2]) rfl rfl (by rfl) (by rfl) (by simp [Value.oneCell']) rfl ?_
      repeat refine s1 ?_
      refine r_quoN (m := i) (n := 8) rfl rfl (by decide) (i64_nat (by omega)) rfl ?_
      repeat refine s1 ?_
      refine r_iop rfl rfl rfl rfl ?_
      by_cases hc : i / 8 < n
      · rw [decide_eq_true (show ((i / 8 : Nat) : Int) < (n : Int) by omega)]
        obtain ⟨kb, ko, rfl⟩ := hka (by omega)
        repeat refine s1 ?_
        refine r_quoN (m := i) (n := 8) rfl rfl (by decide) (i64_nat (by omega)) rfl ?_
        repeat refine s1 ?_
        refine ix rfl rfl hc ?_
        repeat refine s1 ?_
        refine r_loadI (off := ko) (n := n) (cap := cap) (E := T.uint8) (s := 1) (xs := ks.map u8) (v := u8 (ks[i / 8]'(by omega))) rfl (j := i / 8) (by omega) (by simp [List.getElem?_eq_getElem (show i / 8 < ks.length by omega)]) rfl rfl ?_
        repeat refine s1 ?_
        refine r_remN (m := i) (n := 8) rfl rfl (by decide) rfl ?_
        repeat refine s1 ?_
        refine r_shr rfl rfl (by omega) (by show ((i % 8 : Nat) : Int) ≤ 8; omega) rfl ?_
        repeat refine s1 ?_
        refine r_iop rfl rfl rfl rfl ?_
        repeat refine s1 ?_
        refine r_icmp rfl rfl rfl rfl ?_
        repeat refine s1 ?_
        refine t_condSB rfl (fun _ => ?_) (fun _ => ?_)
        · repeat refine s1 ?_
          refine r_mapUpd rfl rfl rfl ⟨_, rfl⟩ rfl ?_
          rw [mset_em kU_inj]
          repeat refine s1 ?_
          refine jh [brows (ls.map Prod.snd ++ x.lw.map Prod.snd)] (j_ent (Ent.browsSub (l' := (aset ls x.lw[i].1 x.lw[i].2).map Prod.snd ++ x.lw.map Prod.snd) (fun y hy => by
            rcases List.mem_append.1 hy with hy | hy <;> simp only [List.mem_append]
            · rcases aset_sub y hy with rfl | hy
              · exact .inr (List.mem_map.2 ⟨x.lw[i], List.getElem_mem hil, rfl⟩)
              · exact .inl hy
            · exact .inr hy) _) ?_)
          exact j_again (i + 1, aset ls x.lw[i].1 x.lw[i].2) ⟨by dsimp only; omega, (Rep.set (l := ls) (f := alook ls) ⟨hls, fun _ => rfl⟩ x.lw[i].1 x.lw[i].2).nd⟩ (by dsimp only; omega) ⟨rfl, rfl, rfl, rfl, rfl, trivial⟩ (by first | exact Le.ent | (dsimp only; exact Le.ent) | (dsimp only [List.cons_append, List.nil_append]; exact Le.ent) | (dsimp only [List.cons_append, List.nil_append]; simp only [List.take_zero, List.map_nil, List.flatMap_nil, List.length_nil]; exact Le.ent))
        · repeat refine s1 ?_
          exact j_again (i + 1, ls) ⟨by dsimp only; omega, hls⟩ (by dsimp only; omega) ⟨rfl, rfl, rfl, rfl, rfl, trivial⟩ (by first | exact Le.ent | (dsimp only; exact Le.ent) | (dsimp only [List.cons_append, List.nil_append]; exact Le.ent) | (dsimp only [List.cons_append, List.nil_append]; simp only [List.take_zero, List.map_nil, List.flatMap_nil, List.length_nil]; exact Le.ent))
      · rw [decide_eq_false (show ¬ ((i / 8 : Nat) : Int) < (n : Int) by omega)]
        repeat refine s1 ?_
        exact j_again (i + 1, ls) ⟨by dsimp only; omega, hls⟩ (by dsimp only; omega) ⟨rfl, rfl, rfl, rfl, rfl, trivial⟩ (by first | exact Le.ent | (dsimp only; exact Le.ent) | (dsimp only [List.cons_append, List.nil_append]; exact Le.ent) | (dsimp only [List.cons_append, List.nil_append]; simp only [List.take_zero, List.map_nil, List.flatMap_nil, List.length_nil]; exact Le.ent))
    · repeat refine s1 ?_
      exact j_meet ls hls ⟨rfl, trivial⟩ (by first | exact Le.ent | (dsimp only; exact Le.ent) | (dsimp only [List.cons_append, List.nil_append]; exact Le.ent) | (dsimp only [List.cons_append, List.nil_append]; simp only [List.take_zero, List.map_nil, List.flatMap_nil, List.length_nil]; exact Le.ent))
  repeat refine s1 ?_
  refine r_makeMap (isInt .u32) rfl rfl (fun m2 => j_ent (show Ent (mp (isInt .u32) m2 [] :: _) (mp (isInt .u32) m2 (emB []) :: _) from Ent.refl _) ?_)
  repeat refine s1 ?_
  refine so rfl rfl ?_ (by simp [D.reg.2.1])
  repeat refine s1 ?_
  refine r_rangeM (r := x.ns) rfl rfl rfl (fun it => ?_)
  repeat refine s3 ?_
  refine t_meet (σ := List (Nat × BS)) (fun _ => [(0, ptr p)])
    (fun lv => pt p (.cells (dcells D ⟨x.ns, m2, x.wa, x.wc, x.ls, x.lv, x.lw⟩).toArray T.disk_Disk (0, 0)) :: mp (isInt .u32) x.ns (emB ls) :: mp (isInt .u32) m2 (emB lv) :: brows (ls.map Prod.snd ++ x.lw.map Prod.snd) :: F)
    (fun lv => (lv.map Prod.fst).Nodup ∧ ∀ y ∈ lv.map Prod.snd, y ∈ ls.map Prod.snd) ?_ (fun lv hlv => ?_)
  · refine t_block ?_
    refine t_loop (σ := List (Nat × BS) × List (Nat × BS) × Option (Value × Value)) (fun _ => [(56, ptr it), (0, ptr p)])
      (fun z => pt p (.cells (dcells D ⟨x.ns, m2, x.wa, x.wc, x.ls, x.lv, x.lw⟩).toArray T.disk_Disk (0, 0)) :: mit (isInt .u32) it x.ns (emB ls) (emB z.1) z.2.2 :: mp (isInt .u32) m2 (emB z.2.1) :: brows (ls.map Prod.snd ++ x.lw.map Prod.snd) :: F)
      (fun z => (∀ e ∈ z.1, e ∈ ls) ∧ (z.2.1.map Prod.fst).Nodup ∧ ∀ y ∈ z.2.1.map Prod.snd, y ∈ ls.map Prod.snd) (fun z => z.1.length) (ls, [], none) ⟨fun _ h => h, List.nodup_nil, fun y hy => (by cases hy)⟩ ⟨rfl, rfl, trivial⟩ (by first | exact Le.ent | (dsimp only; exact Le.ent) | (dsimp only [List.cons_append, List.nil_append]; exact Le.ent) | (dsimp only [List.cons_append, List.nil_append]; simp only [List.take_zero, List.map_nil, List.flatMap_nil, List.length_nil]; exact Le.ent)) ?_
    rintro ⟨td, lv, cur⟩ ⟨g1, g2, g3⟩
    dsimp only at g1 g2 g3 ⊢
    repeat refine s1 ?_
    refine r_nextM rfl rfl rfl (fun h0 => ?_) (fun l1 q l2 h1 => ?_)
    · repeat refine s1 ?_
      obtain rfl := em_nil h0
      refine jh [mit (isInt .u32) it x.ns (emB ls) (emB []) cur] (j_ent Ent.mitEnd ?_)
      exact j_meet lv ⟨g2, g3⟩ ⟨rfl, trivial⟩ (by first | exact Le.ent | (dsimp only; exact Le.ent) | (dsimp only [List.cons_append, List.nil_append]; exact Le.ent) | (dsimp only [List.cons_append, List.nil_append]; simp only [List.take_zero, List.map_nil, List.flatMap_nil, List.length_nil]; exact Le.ent))
    · obtain ⟨t1, q, t2, rfl, h2, rfl⟩ := em_split h1
      rw [h2]
      repeat refine s1 ?_
      refine r_entry rfl rfl rfl ?_
      repeat refine s1 ?_
      refine r_mapUpd (r := m2) rfl rfl rfl ⟨_, rfl⟩ rfl ?_
      dsimp only
      rw [mset_em kU_inj]
      repeat refine s1 ?_
      refine j_again (t1 ++ t2, aset lv q.1 q.2, some (kU q.1, vB q.2)) ⟨fun e he => g1 e (by rcases List.mem_append.1 he with h | h <;> simp [h]), (Rep.set (l := lv) (f := alook lv) ⟨g2, fun _ => rfl⟩ q.1 q.2).nd, fun y hy => ?_⟩ (by simp) ⟨rfl, rfl, trivial⟩ (by first | exact Le.ent | (dsimp only; exact Le.ent) | (dsimp only [List.cons_append, List.nil_append]; exact Le.ent) | (dsimp only [List.cons_append, List.nil_append]; simp only [List.take_zero, List.map_nil, List.flatMap_nil, List.length_nil]; exact Le.ent))
      rcases aset_sub y hy with rfl | hy
      · exact List.mem_map.2 ⟨q, g1 q (by simp), rfl⟩
      · exact g3 y hy
  obtain ⟨hl1, hl2⟩ := hlv
  dsimp only
  repeat refine s1 ?_
  refine so rfl rfl ?_ (by simp [D.reg.2.1])
  repeat refine s1 ?_
  refine so rfl rfl ?_ (by simp [D.reg.2.1])
  repeat refine s1 ?_
  refine so rfl rfl ?_ (by simp [D.reg.2.1])
  repeat refine s1 ?_
  refine j_ent (Ent.vecNil (E := T.disk_write) (s := 2) _) ?_
  refine jh [brows (ls.map Prod.snd ++ x.lw.map Prod.snd)] (j_ent (Ent.browsSub (l' := ls.map Prod.snd ++ lv.map Prod.snd ++ []) (fun y hy => by
    simp only [List.append_nil, List.mem_append] at hy ⊢
    exact .inl (hy.elim id (hl2 y))) _) ?_)
  have hq : DQ ⟨D.size, fun k => (alook ls k).map BS.b, fun k => (alook lv k).map BS.b, [], D.reg, D.calls, false, D.left, false⟩ ⟨x.ns, m2, none, 0, ls, lv, []⟩ := ⟨⟨hls, fun _ => rfl⟩, ⟨hl1, fun _ => rfl⟩, rfl, hsz⟩
  refine js [pt p (.cells (i64 D.size :: .map (some x.ns) :: .map (some m2) :: .slice none 0 0 :: (D.reg.1.map u8 ++ [.int .i64 D.calls, .bool false, i64 D.left, .bool false])).toArray T.disk_Disk (0, 0)), mp (isInt .u32) x.ns (emB ls), mp (isInt .u32) m2 (emB lv), vec none 0 0 T.disk_write 2 [], brows (ls.map Prod.snd ++ lv.map Prod.snd ++ [])] (B := disk p ⟨D.size, fun k => (alook ls k).map BS.b, fun k => (alook lv k).map BS.b, [], D.reg, D.calls, false, D.left, false⟩) (fun L => Ent.disk _ hq) ?_
  exact f1 ⟨D.size, fun k => (alook ls k).map BS.b, fun k => (alook lv k).map BS.b, [], D.reg, D.calls, false, D.left, false⟩ (hq := ⟨rfl, rfl, rfl⟩)
end Go.Proofs.YtcnpkmdooekmgaaGreatDoor
namespace Go.Proofs.YtcnpkmdooekmgaaGreatDoor
open Go Sl
theorem and_u8n {a b : Nat} (ha : a < 256) (hb : b < 256) : Go.bits .and .u8 (a : Int) (b : Int) = ((a &&& b : Nat) : Int) := by
  have hw : ∀ n : Nat, n < 256 → IntKind.u8.wrap (n : Int) = (n : Int) := fun n h => by
    simp [IntKind.wrap, IntKind.signed, IntKind.bits]; omega
  have hop : ∀ x y : BitVec 8, Go.bits .and .u8 (x.toNat : Int) (y.toNat : Int) = ((x.toNat &&& y.toNat : Nat) : Int) := fun x y => by
    show IntKind.u8.wrap ((BitVec.ofInt 8 (x.toNat : Int) &&& BitVec.ofInt 8 (y.toNat : Int)).toNat : Int) = _
    simp only [BitVec.ofInt_natCast, BitVec.ofNat_toNat, BitVec.setWidth_eq]
    rw [hw _ (x &&& y).isLt, BitVec.toNat_and]
  have := hop (BitVec.ofNat 8 a) (BitVec.ofNat 8 b)
  simpa [Nat.mod_eq_of_lt ha, Nat.mod_eq_of_lt hb] using this
/-- a play on a disk that may fail. -/
structure Gv (pd pl : Nat) (S : St) (D : Dk) (t : Tre) : Prop where
  ok : TsOk S [t]
  agr : Agr S D
  pd : S.pd = pd
  pl : S.pl = pl
theorem Gv.done {pd pl : Nat} {S : St} {D : Dk} {t : Tre} {kv' : KV} {Y : Prop} {x : Nat × Option Rf × St × Dk} (h : Gv pd pl S D t) (q : TrQ S D [] [] t kv' Y x) (h0 : x.1 = 0) : Gv pd pl x.2.2.1 x.2.2.2 ⟨t.p, x.2.1, kv'⟩ :=
  ⟨q.ok h0, q.agr, q.pd.trans h.pd, q.pl.trans h.pl⟩
attribute [local irreducible] cw sw J Exit.then Exit.inBlock Exit.noGoto bodyPost swG swL permL
set_option maxHeartbeats 2000000 in
theorem gone_c (count : Nat) (hcn : count < 256) (a : Option Addr) (c : Nat) (os : List Opn) (ho : ∀ o ∈ os, o.wt) (fail : Int) (hfl : fail ≤ 9223372036854775807) (Φ : Base) (hT : Tab Φ) :
    Sl.Fn Tryz.prog Φ F.casematelaw15_MtreeGone [u8 count, .slice a os.length c, .int .i64 fail] [isl a os.length c T.casematelaw15_Op 5 (os.flatMap ocells)] (fun _ : Unit => True) (fun _ => .bool true) (fun _ => []) := by
  have hk63 : count &&& 63 ≤ 63 := Nat.and_le_right
  refine fo fun F => ?_
  repeat refine s1 ?_
  refine r_iop (v := u8 (count &&& 63)) rfl rfl (by
    show some (Value.int .u8 (Go.bits .and .u8 (count : Int) ((63 : Nat) : Int))) = _
    rw [and_u8n hcn (by decide)]) rfl ?_
  generalize count &&& 63 = k at hk63 ⊢
  repeat refine s1 ?_
  rw [show IntKind.i64.wrap (k : Int) = (k : Int) from i64_nat (by omega)]
  refine r_addN (m := 1) (n := k) rfl rfl (by omega) rfl ?_
  repeat refine s1 ?_
  refine cx (played_c (1 + k) (by omega) (by omega) a c os ho Φ hT) (fun z hz => ?_)
  obtain ⟨⟨pd, ps, pl, tp⟩, rt, S, D, kv⟩ := z
  obtain ⟨l0, h5, h6, _⟩ := hz
  dsimp only at l0 h5 h6 ⊢
  repeat refine s1 ?_
  refine r_icmp rfl rfl rfl rfl ?_
  repeat refine s1 ?_
  refine t_meet (σ := Dk) (fun _ => [(8, ptr pd), (9, ptr ps), (10, ptr tp), (1, .slice a os.length c)])
    (fun D => tree tp ps rt :: store ps S :: disk pd D :: hlog pl 200000 :: isl a os.length c T.casematelaw15_Op 5 (os.flatMap ocells) :: F)
    (fun D => Gv pd pl S D ⟨tp, rt, kv⟩ ∧ D.waits.length ≤ 14000) ?_ (fun D1 hD1 => ?_)
  · refine t_condSB rfl (fun hq => ?_) (fun hq => ?_)
    · obtain ⟨f, rfl⟩ : ∃ f : Nat, fail = (f : Int) := ⟨fail.toNat, by have := of_decide_eq_true hq; omega⟩
      repeat refine s1 ?_
      refine cl (dfail_c pd D f Φ) ?_
      repeat refine s1 ?_
      exact j_meet { D with plan := true, left := f } ⟨⟨l0.ok, ⟨l0.agr.sec, l0.agr.size, by show f ≤ _; omega⟩, l0.pd, l0.pl⟩, h6⟩ ⟨rfl, rfl, rfl, rfl, trivial⟩ (by first | exact Le.ent | (dsimp only; exact Le.ent) | (dsimp only [List.cons_append, List.nil_append]; exact Le.ent) | (dsimp only [List.cons_append, List.nil_append]; simp only [List.take_zero, List.map_nil, List.flatMap_nil, List.length_nil]; exact Le.ent))
    · repeat refine s1 ?_
      exact j_meet D ⟨⟨l0.ok, l0.agr, l0.pd, l0.pl⟩, h6⟩ ⟨rfl, rfl, rfl, rfl, trivial⟩ (by first | exact Le.ent | (dsimp only; exact Le.ent) | (dsimp only [List.cons_append, List.nil_append]; exact Le.ent) | (dsimp only [List.cons_append, List.nil_append]; simp only [List.take_zero, List.map_nil, List.flatMap_nil, List.length_nil]; exact Le.ent))
  obtain ⟨g0, h6⟩ := hD1
  repeat refine s3 ?_
  refine t_meet (σ := Option Rf × St × KV) (fun _ => [(9, ptr ps), (10, ptr tp)])
    (fun z => tree tp ps z.1 :: store ps z.2.1 :: F) (fun z => TsOk z.2.1 ([] ++ (⟨tp, z.1, z.2.2⟩ : Tre) :: [])) ?_ (fun z hz => ?_)
  · refine t_block ?_
    refine t_loop (σ := Nat × Option Rf × St × Dk × KV) (fun z => [(12, i64 z.1), (8, ptr pd), (9, ptr ps), (10, ptr tp), (1, .slice a os.length c)])
      (fun z => tree tp ps z.2.1 :: store ps z.2.2.1 :: disk pd z.2.2.2.1 :: hlog pl (200000 + 3000 * z.1) :: isl a os.length c T.casematelaw15_Op 5 (os.flatMap ocells) :: F)
      (fun z => z.1 ≤ os.length ∧ z.1 ≤ 60 ∧ Gv pd pl z.2.2.1 z.2.2.2.1 ⟨tp, z.2.1, z.2.2.2.2⟩ ∧ z.2.2.2.2.length ≤ 200 + z.1 ∧ z.2.2.2.1.waits.length ≤ 14000 + 70 * z.1) (fun z => os.length - z.1)
      (0, rt, S, D1, kv) ⟨Nat.zero_le _, Nat.zero_le _, g0, h5, h6⟩ ⟨rfl, rfl, rfl, rfl, rfl, trivial⟩ (by first | exact Le.ent | (dsimp only; exact Le.ent) | (dsimp only [List.cons_append, List.nil_append]; exact Le.ent) | (dsimp only [List.cons_append, List.nil_append]; simp only [List.take_zero, List.map_nil, List.flatMap_nil, List.length_nil]; exact Le.ent)) ?_
    clear g0 h5 h6 l0
    rintro ⟨i, rt, S, D, kv⟩ ⟨h1, h2, h4, h5, h6⟩
    dsimp only at h1 h2 h4 h5 h6 ⊢
    have hok : TsOk S ([] ++ (⟨tp, rt, kv⟩ : Tre) :: []) := h4.ok
    refine jh [isl a os.length c T.casematelaw15_Op 5 (os.flatMap ocells)] (j_leni (fun _ _ hoa => ?_))
    repeat refine s1 ?_
    refine r_iop rfl rfl rfl rfl ?_
    rcases (show (i < os.length ∧ i < 60) ∨ ¬ (i < os.length ∧ i < 60) from Decidable.em _) with ⟨hi, hi3⟩ | hi
    · rw [decide_eq_true (show (i : Int) < (os.length : Int) by omega)]
      repeat refine s1 ?_
      refine r_iop rfl rfl rfl rfl ?_
      rw [decide_eq_true (show (i : Int) < 60 by omega)]
      obtain ⟨ob, oo, rfl⟩ := hoa (by omega)
      obtain ⟨o, hox⟩ : ∃ o, os[i]? = some o := ⟨_, List.getElem?_eq_getElem hi⟩
      have how := ho o (List.mem_of_getElem? hox)
      repeat refine s1 ?_
      have ht1 := h4.ok.each (⟨tp, rt, kv⟩ : Tre) (by simp)
      refine cx (all_c ps pd pl (200000 + 3000 * i) S D (⟨tp, rt, kv⟩ : Tre) ht1 h4.ok.ok h4.agr (by omega) (by dsimp only; omega) h4.pd h4.pl Φ) (fun z hz => ?_)
      obtain ⟨l1, a1, c1⟩ := z
      by_cases hfine : D.down = false ∨ Tre.rt (⟨tp, rt, kv⟩ : Tre) = none
      · have hk1 : kvs l1 = kv := hz hfine
        have hb1 : ∀ x ∈ l1, ∀ y ∈ x.v, y < 256 := kvs_bytes (by rw [hk1]; exact ht1.kvok)
        have hl1 : l1.length ≤ 1000000 := by have := congrArg List.length hk1; simp [kvs] at this; omega
        rw [decide_eq_true hfine]
        dsimp only
        repeat refine s1 ?_
        refine cl (sused_c ps S noδ Φ) ?_
        repeat refine s1 ?_
        refine jh [isl (some ⟨ob, oo, none⟩) os.length c T.casematelaw15_Op 5 (os.flatMap ocells)] ?_
        refine t_draw [isl (some ⟨ob, oo, none⟩) os.length c T.casematelaw15_Op 5 (os.flatMap ocells)] [5, 10] mixed (by decide +kernel) ?_
        repeat refine s1 ?_
        refine ix rfl rfl hi ?_
        repeat refine s1 ?_
        refine s_loadBy (v := w64 o.to) rfl (fun w hh => run_loadI (j := i * 5 + 2) hh (by omega) (ocells_at hox 2 _ rfl)) rfl rfl ?_
        repeat refine s1 ?_
        refine ix rfl rfl hi ?_
        repeat refine s1 ?_
        refine s_loadBy (v := u8 o.by_) rfl (fun w hh => run_loadI (j := i * 5 + 3) hh (by omega) (ocells_at hox 3 _ rfl)) rfl rfl ?_
        repeat refine s1 ?_
        refine cl (val_c o.by_ 3 Φ) ?_
        repeat refine s1 ?_
        refine cx (tput_c ps pd pl (200000 + 3000 * i + kv.length + 1) o.to (valL o.by_ 3) S D [] [] ⟨tp, rt, kv⟩ how.to (valL_bytes how.by_) hok h4.agr (by omega) (by omega) (by dsimp only; omega) (by simp) h4.pd h4.pl Φ hT) (fun x hx => ?_)
        obtain ⟨e, rt2, S2, D2⟩ := x
        have hw2 := hx.dle.len
        dsimp only at hw2 ⊢
        by_cases he : e = 0
        · subst he
          repeat refine s2 ?_
          refine jh [hlog pl (200000 + 3000 * i + kv.length + 1 + 200)] (j_ent (hlogUp (N' := 200000 + 3000 * (i + 1)) (by omega) _) ?_)
          exact j_again (i + 1, rt2, S2, D2, ins o.to (valL o.by_ 3) kv) ⟨by omega, by omega, h4.done hx rfl, by have := (ins_len (k := o.to) (v := valL o.by_ 3) kv).2; dsimp only; omega, by dsimp only; omega⟩ (by dsimp only; omega) ⟨rfl, rfl, rfl, rfl, rfl, trivial⟩ (by first | exact Le.ent | (dsimp only; exact Le.ent) | (dsimp only [List.cons_append, List.nil_append]; exact Le.ent) | (dsimp only [List.cons_append, List.nil_append]; simp only [List.take_zero, List.map_nil, List.flatMap_nil, List.length_nil]; exact Le.ent))
        · obtain ⟨e1, e2, e3, e4⟩ := hx.er he
          dsimp only at e1 e2 e3 e4
          subst e1
          have hcase : e = 5 ∨ e = 30 := by
            rcases e4 with ⟨h, _⟩ | ⟨h, _⟩ | ⟨_, h⟩
            · exact .inl h
            · exact .inr h
            · exact h.elim
          clear e4
          rcases hcase with rfl | rfl
          · skip
            repeat refine s2 ?_
            refine cl (sused_c ps S2 noδ Φ) ?_
            rw [show card S2.K = card S.K by rw [e3]]
            repeat refine s1 ?_
            refine r_icmp rfl rfl rfl rfl ?_
            rw [show (!decide ((card S.K : Int) = (card S.K : Int))) = false by simp]
            repeat refine s1 ?_
            have ht2 := e2.each (⟨tp, rt2, kv⟩ : Tre) (by simp)
            refine cx (all_c ps pd pl (200000 + 3000 * i + kv.length + 1 + 200) S2 D2 (⟨tp, rt2, kv⟩ : Tre) ht2 e2.ok hx.agr (by omega) (by dsimp only; omega) (hx.pd.trans h4.pd) (hx.pl.trans h4.pl) Φ) (fun z hz2 => ?_)
            obtain ⟨l2, a2, c2⟩ := z
            have hfine2 : D2.down = false ∨ Tre.rt (⟨tp, rt2, kv⟩ : Tre) = none := hfine.imp (fun h => (hx.fell rfl).trans h) id
            have hk2 : kvs l2 = kv := hz2 hfine2
            have hb2 : ∀ x ∈ l2, ∀ y ∈ x.v, y < 256 := kvs_bytes (by rw [hk2]; exact ht1.kvok)
            have hl2 : l2.length ≤ 1000000 := by have := congrArg List.length hk2; simp [kvs] at this; omega
            rw [decide_eq_true hfine2]
            dsimp only
            repeat refine s2 ?_
            refine cl (same_c a2 a1 c2 c1 l2 l1 hl2 hb2 hb1 Φ) ?_
            rw [hk2, hk1, decide_eq_true rfl]
            repeat refine s2 ?_
            refine r_build1s (List.replicate 32 (.const (.int .u8 255))) ((List.replicate 32 255).map u8) rfl rfl (by simp [Value.oneCell']) (by simp) rfl rfl rfl (fun be => fz ?_)
            repeat refine s1 ?_
            refine cx (dcrash_c pd D2 (by omega) (some ⟨be, 0, none⟩) 32 32 (List.replicate 32 255) rfl (by decide) Φ) (fun D3 h3 => ?_)
            repeat refine s1 ?_
            refine cl (dwaits_c pd D3 Φ) ?_
            rw [h3.1]
            repeat refine s2 ?_
            exact j_meet (rt2, S2, kv) e2 ⟨rfl, rfl, trivial⟩ (by first | exact Le.ent | (dsimp only; exact Le.ent) | (dsimp only [List.cons_append, List.nil_append]; exact Le.ent) | (dsimp only [List.cons_append, List.nil_append]; simp only [List.take_zero, List.map_nil, List.flatMap_nil, List.length_nil]; exact Le.ent))
          · skip
            repeat refine s2 ?_
            refine cl (sused_c ps S2 noδ Φ) ?_
            rw [show card S2.K = card S.K by rw [e3]]
            repeat refine s1 ?_
            refine r_icmp rfl rfl rfl rfl ?_
            rw [show (!decide ((card S.K : Int) = (card S.K : Int))) = false by simp]
            repeat refine s1 ?_
            have ht2 := e2.each (⟨tp, rt2, kv⟩ : Tre) (by simp)
            refine cx (all_c ps pd pl (200000 + 3000 * i + kv.length + 1 + 200) S2 D2 (⟨tp, rt2, kv⟩ : Tre) ht2 e2.ok hx.agr (by omega) (by dsimp only; omega) (hx.pd.trans h4.pd) (hx.pl.trans h4.pl) Φ) (fun z hz2 => ?_)
            obtain ⟨l2, a2, c2⟩ := z
            generalize decide (D2.down = false ∨ Tre.rt (⟨tp, rt2, kv⟩ : Tre) = none) = gb
            dsimp only
            repeat refine s2 ?_
            refine r_build1s (List.replicate 32 (.const (.int .u8 255))) ((List.replicate 32 255).map u8) rfl rfl (by simp [Value.oneCell']) (by simp) rfl rfl rfl (fun be => fz ?_)
            repeat refine s1 ?_
            refine cx (dcrash_c pd D2 (by omega) (some ⟨be, 0, none⟩) 32 32 (List.replicate 32 255) rfl (by decide) Φ) (fun D3 h3 => ?_)
            repeat refine s1 ?_
            refine cl (dwaits_c pd D3 Φ) ?_
            rw [h3.1]
            repeat refine s2 ?_
            exact j_meet (rt2, S2, kv) e2 ⟨rfl, rfl, trivial⟩ (by first | exact Le.ent | (dsimp only; exact Le.ent) | (dsimp only [List.cons_append, List.nil_append]; exact Le.ent) | (dsimp only [List.cons_append, List.nil_append]; simp only [List.take_zero, List.map_nil, List.flatMap_nil, List.length_nil]; exact Le.ent))
      · rw [decide_eq_false hfine]
        dsimp only
        repeat refine s1 ?_
        refine cl (sused_c ps S noδ Φ) ?_
        repeat refine s1 ?_
        exact j_meet (rt, S, kv) hok ⟨rfl, rfl, trivial⟩ (by first | exact Le.ent | (dsimp only; exact Le.ent) | (dsimp only [List.cons_append, List.nil_append]; exact Le.ent) | (dsimp only [List.cons_append, List.nil_append]; simp only [List.take_zero, List.map_nil, List.flatMap_nil, List.length_nil]; exact Le.ent))
    · by_cases hi1 : i < os.length
      · rw [decide_eq_true (show (i : Int) < (os.length : Int) by omega)]
        repeat refine s1 ?_
        refine r_iop rfl rfl rfl rfl ?_
        rw [decide_eq_false (show ¬ (i : Int) < 60 by omega)]
        repeat refine s1 ?_
        exact j_meet (rt, S, kv) hok ⟨rfl, rfl, trivial⟩ (by first | exact Le.ent | (dsimp only; exact Le.ent) | (dsimp only [List.cons_append, List.nil_append]; exact Le.ent) | (dsimp only [List.cons_append, List.nil_append]; simp only [List.take_zero, List.map_nil, List.flatMap_nil, List.length_nil]; exact Le.ent))
      · rw [decide_eq_false (show ¬ (i : Int) < (os.length : Int) by omega)]
        repeat refine s1 ?_
        exact j_meet (rt, S, kv) hok ⟨rfl, rfl, trivial⟩ (by first | exact Le.ent | (dsimp only; exact Le.ent) | (dsimp only [List.cons_append, List.nil_append]; exact Le.ent) | (dsimp only [List.cons_append, List.nil_append]; simp only [List.take_zero, List.map_nil, List.flatMap_nil, List.length_nil]; exact Le.ent))
  obtain ⟨rt2, S2, kv2⟩ := z
  dsimp only at hz ⊢
  repeat refine s1 ?_
  refine cl (alive_c Φ hT) ?_
  repeat refine s2 ?_
  refine cx (tfree_c ps S2 [] [] ⟨tp, rt2, kv2⟩ hz Φ) (fun S3 h3 => ?_)
  repeat refine s2 ?_
  refine cl (sused_c ps S3 noδ Φ) ?_
  rw [show card S3.K = 0 by have := h3.ok.used; simp only [List.nil_append, List.map_nil, List.sum_nil] at this; omega]
  repeat refine s2 ?_
  exact f1 ()
end Go.Proofs.YtcnpkmdooekmgaaGreatDoor
