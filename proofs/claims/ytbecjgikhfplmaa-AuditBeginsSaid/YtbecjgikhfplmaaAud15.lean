/-
  The contracts of Hear and Judge. For each input.
-/
import Derived.Test.YtbecjgikhfplmaaAud14
namespace Go.Proofs.Ytbecjgikhfplmaa
open Go Sl
/-- an entry: where its request and its reply stand, and what they are. -/
abbrev En := (Option Addr × Nat × List Nat) × (Option Addr × Nat × List Nat)
abbrev En.rq (e : En) : List Nat := e.1.2.2
abbrev En.rp (e : En) : List Nat := e.2.2.2
abbrev ecells (e : En) : List Value := [.slice e.1.1 e.rq.length e.1.2.1, .slice e.2.1 e.rp.length e.2.2.1]
def ents (es : List En) : Assn :=
  im' (fun im => ∀ e ∈ es, (brow e.1.1 e.rq.length e.1.2.1 e.rq).sat im Hp.emp ∧ (brow e.2.1 e.rp.length e.2.2.1 e.rp).sat im Hp.emp)
    (fun hm h => fun e he => ⟨(brow _ _ _ _).mono hm (h e he).1, (brow _ _ _ _).mono hm (h e he).2⟩)
instance (es : List En) : Pers (ents es) := ⟨fun _ _ h => h⟩
theorem Ent.entsNil (L : List Assn) : Ent L (ents [] :: L) := fun _ h s => ⟨Hp.emp, h, Hp.emp_le _, Hp.le_refl _, Hp.emp_dis _, (fun e he => by cases he), s⟩
theorem Ent.entsSub {es es' : List En} (hs : ∀ e ∈ es', e ∈ es) (L : List Assn) : Ent (ents es :: L) (ents es' :: ents es :: L) := fun im h s => by
  obtain ⟨h1, h2, a, b, c, d, s'⟩ := s
  exact ⟨Hp.emp, h, Hp.emp_le _, Hp.le_refl _, Hp.emp_dis _, fun e he => d e (hs e he), ⟨h1, h2, a, b, c, d, s'⟩⟩
theorem Ent.entsApp {es es' : List En} (L : List Assn) : Ent (ents es :: ents es' :: L) (ents (es ++ es') :: L) := fun im h s => by
  obtain ⟨h1, h2, a, b, c, d, h3, h4, a', b', c', d', s'⟩ := s
  refine ⟨Hp.emp, h, Hp.emp_le _, Hp.le_refl _, Hp.emp_dis _, fun e he => (List.mem_append.1 he).elim (d e) (d' e), ?_⟩
  exact satL_mono (Hp.le_refl _) (Hp.le_trans b' b) s'
theorem Ent.entsCons {e : En} (L : List Assn) : Ent (brow e.1.1 e.rq.length e.1.2.1 e.rq :: brow e.2.1 e.rp.length e.2.2.1 e.rp :: L) (ents [e] :: L) := fun im h s => by
  obtain ⟨h1, h2, a, b, c, ⟨h5, h6, h7⟩, h3, h4, a', b', c', d', s'⟩ := s
  refine ⟨Hp.emp, h, Hp.emp_le _, Hp.le_refl _, Hp.emp_dis _, fun e' he => ?_, ?_⟩
  · rw [List.mem_singleton.1 he]
    exact ⟨⟨h5, h6, h7⟩, d'⟩
  · exact satL_mono (Hp.le_refl _) (Hp.le_trans b' b) s'
theorem j_entAt {X : Cx} {e : Env} {L L1 : List Assn} {G : Act → World → Prop} {es : List En} {x : En} [f : Find (ents es) L L1] (hx : x ∈ es)
    (h : J X e (brow x.1.1 x.rq.length x.1.2.1 x.rq :: brow x.2.1 x.rp.length x.2.2.1 x.rp :: L) G) : J X e L G := fun act w m hh => by
  refine h act w m (hh.ent (fun im hp sl => ?_))
  obtain ⟨g1, g2, ga, gb, gc, gd, gs⟩ := f.ent im hp sl
  exact ⟨Hp.emp, hp, Hp.emp_le _, Hp.le_refl _, Hp.emp_dis _, (gd x hx).1, Hp.emp, hp, Hp.emp_le _, Hp.le_refl _, Hp.emp_dis _, (gd x hx).2, sl⟩
attribute [local irreducible] cw sw J Exit.then Exit.inBlock Exit.noGoto bodyPost swG swL permL
noncomputable def hearM (B : Bk) (rq rp : List Nat) : Bk × Int :=
  ({ (verdictM { B with heard := B.heard + 1 } rq rp).1 with wrong := !decide ((verdictM { B with heard := B.heard + 1 } rq rp).2 = 0) }, (verdictM { B with heard := B.heard + 1 } rq rp).2)
theorem wf_hear {N L : Nat} {H : Int} {B : Bk} {rq rp : List Nat} (h : Wf N L H B) (hN : N ≤ 500000) (hx : ∀ x ∈ rq, x < 256) : Wf (N + 256) (L + 1) (H + 1) (hearM B rq rp).1 := by
  have h1 : Wf N L (H + 1) { B with heard := B.heard + 1 } := ⟨h.liv, h.few, h.txt, h.now, h.kept, by dsimp only; rw [h.hrd]⟩
  have h2 := wf_verdict (rp := rp) h1 hN hx
  exact ⟨h2.liv, h2.few, h2.txt, h2.now, h2.kept, h2.hrd⟩
set_option maxHeartbeats 1000000 in
theorem hear_c (p : Nat) (B : Bk) (en : En) {N L : Nat} {H : Int} (hw : Wf N L H B) (hN : N ≤ 500000) (hL : L ≤ 1000000) (hH : 0 ≤ H ∧ H ≤ 1000000) (hf : B.wrong = false)
    (h3 : en.rq.length ≤ 1000000) (h4 : en.rp.length ≤ 1000000) (hq : ∀ x ∈ en.rq, x < 256) (hp : ∀ x ∈ en.rp, x < 256) (Φ : Base) :
    Sl.Fn Try.prog Φ F.audit_Book_Hear [.pointer (some ⟨p, 0, none⟩), .agg (ecells en).toArray] [book p B, brow en.1.1 en.rq.length en.1.2.1 en.rq, brow en.2.1 en.rp.length en.2.2.1 en.rp] (fun _ : Unit => True)
      (fun _ => .tuple #[.int .i64 (hearM B en.rq en.rp).2, i64 0]) (fun _ => [book p (hearM B en.rq en.rp).1]) := by
  refine fn_of rfl rfl (fun F => ?_)
  dsimp only [argEnv, List.cons_append, List.nil_append, Nat.zero_add, Nat.reduceAdd]
  repeat refine s1 ?_
  refine r_box (cs := ecells en) rfl rfl rfl rfl (fun p3 => ?_)
  repeat refine s1 ?_
  refine r_call rfl (blt_some rfl) rfl (made_c p B Φ) ?_
  intro _ _; dsimp only [bnd, List.cons_append, List.nil_append]
  repeat refine s1 ?_
  refine j_head (book p B) ?_
  refine j_book (fun n k s ta tc hs => ?_)
  repeat refine s1 ?_
  refine t_condSB rfl (fun h => absurd h (by rw [hf]; decide)) (fun _ => ?_)
  have hh := hw.hrd
  repeat refine s1 ?_
  refine r_addI rfl rfl (by omega) rfl ?_
  repeat refine s1 ?_
  refine r_store1 rfl rfl (by simp [B.outer.2]) rfl rfl ?_
  repeat refine s1 ?_
  refine j_shut (p := p) { B with heard := B.heard + 1 } (n := n) (k := k) (s := s) (ta := ta) (tc := tc) (hs := hs) ?_
  have h1 : Wf N L (H + 1) { B with heard := B.heard + 1 } := ⟨hw.liv, hw.few, hw.txt, hw.now, hw.kept, by dsimp only; rw [hw.hrd]⟩
  refine r_call rfl (blt_some rfl) rfl (verdict_c p { B with heard := B.heard + 1 } en.1.1 en.rq.length en.1.2.1 en.rq en.2.1 en.rp.length en.2.2.1 en.rp rfl rfl h3 h4 hq hp
    (fun he hk => nblk_le hq he hk h1 hN) (Nat.le_trans (decQ_len hq) h3) (decR_bytes hp) (fun k x hx => (h1.now k x hx).1) ⟨h1.liv.1, by have := h1.liv.2; omega⟩ Φ) ?_
  intro _ _; dsimp only [bnd, List.cons_append, List.nil_append]
  have hM : hearM B en.rq en.rp = ({ (verdictM { B with heard := B.heard + 1 } en.rq en.rp).1 with wrong := !decide ((verdictM { B with heard := B.heard + 1 } en.rq en.rp).2 = 0) }, (verdictM { B with heard := B.heard + 1 } en.rq en.rp).2) := rfl
  rw [hM]
  generalize verdictM { B with heard := B.heard + 1 } en.rq en.rp = V
  obtain ⟨C, v⟩ := V
  dsimp only
  repeat refine s1 ?_
  refine j_head (book p C) ?_
  refine j_book (fun n k s ta tc hs => ?_)
  repeat refine s1 ?_
  refine r_icmp rfl rfl rfl rfl ?_
  repeat refine s1 ?_
  refine r_store1 rfl rfl (by simp [C.outer.2]) rfl rfl ?_
  repeat refine s1 ?_
  refine j_shut (p := p) { C with wrong := !decide (v = 0) } (n := n) (k := k) (s := s) (ta := ta) (tc := tc) (hs := hs) ?_
  refine j_fin rfl (.cons (rv_tmp rfl) (.cons (rv_tmp rfl) .nil)) () (by rfl) (by trivial)
theorem hearN_c (x : Value) (cs : List Value) (hx : x = .agg cs.toArray) (h2 : cs.length = 2) : Pure F.audit_Book_Hear [.pointer none, x] (.tuple #[i64 0, i64 6]) := by
  subst hx
  intro Φ
  refine fn_of rfl rfl (fun F => ?_)
  dsimp only [argEnv, List.cons_append, List.nil_append, Nat.zero_add, Nat.reduceAdd]
  repeat refine s1 ?_
  refine r_box (cs := cs) rfl rfl rfl rfl (fun p3 => ?_)
  repeat refine s1 ?_
  refine r_call rfl (blt_some rfl) rfl (madeN_c Φ) ?_
  intro _ _; dsimp only [bnd, List.cons_append, List.nil_append]
  repeat refine s1 ?_
  refine j_fin rfl (.cons (rv_tmp rfl) (.cons (rv_tmp rfl) .nil)) () (by rfl) (by trivial)
theorem hear0_c (p : Nat) (x : Value) (cs : List Value) (hx : x = .agg cs.toArray) (h2 : cs.length = 2) (Φ : Base) : Sl.Fn Try.prog Φ F.audit_Book_Hear [.pointer (some ⟨p, 0, none⟩), x] [blank p] (fun _ : Unit => True) (fun _ => .tuple #[i64 0, i64 6]) (fun _ => [blank p]) := by
  subst hx
  refine fn_of rfl rfl (fun F => ?_)
  dsimp only [argEnv, List.cons_append, List.nil_append, Nat.zero_add, Nat.reduceAdd]
  repeat refine s1 ?_
  refine r_box (cs := cs) rfl rfl rfl rfl (fun p3 => ?_)
  repeat refine s1 ?_
  refine r_call rfl (blt_some rfl) rfl (made0_c p Φ) ?_
  intro _ _; dsimp only [bnd, List.cons_append, List.nil_append]
  repeat refine s1 ?_
  refine j_fin rfl (.cons (rv_tmp rfl) (.cons (rv_tmp rfl) .nil)) () (by rfl) (by trivial)
noncomputable def judgeL : Bk → Nat → List (List Nat × List Nat) → Int × Int
  | _, i, [] => ((i : Int), 0)
  | B, i, x :: l => if (hearM B x.1 x.2).2 ≠ 0 then ((i : Int), (hearM B x.1 x.2).2) else judgeL (hearM B x.1 x.2).1 (i + 1) l
noncomputable def judgeM (t : Int) (l : List (List Nat × List Nat)) : Int × Int := if t < 1 ∨ 8 < t then (0, 1) else judgeL (Bk.new t) 0 l
abbrev texts (es : List En) : List (List Nat × List Nat) := es.map fun e => (e.rq, e.rp)
/-- entries whose texts are bytes, and not too many. -/
def EnOk (es : List En) : Prop := ∀ e ∈ es, e.rq.length ≤ 1000000 ∧ e.rp.length ≤ 1000000 ∧ (∀ x ∈ e.rq, x < 256) ∧ ∀ x ∈ e.rp, x < 256
theorem ecells_at : ∀ (es : List En) (i : Nat) (e : En), es[i]? = some e → ∀ j v, (ecells e)[j]? = some v → (es.flatMap ecells)[2 * i + j]? = some v
  | [], i, e, h => by simp at h
  | x :: es, 0, e, h => fun j v hj => by
    simp at h; subst h
    have : j < 2 := by have := (List.getElem?_eq_some_iff.1 hj).1; simpa using this
    rw [List.flatMap_cons, List.getElem?_append_left (by simpa using this)]
    simpa using hj
  | x :: es, i + 1, e, h => fun j v hj => by
    have h' : es[i]? = some e := by simpa using h
    rw [List.flatMap_cons, List.getElem?_append_right (by simp; omega)]
    have := ecells_at es i e h' j v hj
    rw [← this]; congr 1; simp; omega
set_option maxHeartbeats 1000000 in
theorem judge_c (t : Int) (la : Option Addr) (lc : Nat) (es : List En) (hl : es.length ≤ 100) (hk : EnOk es) (Φ : Base) :
    Sl.Fn Try.prog Φ F.audit_Judge [.int .i64 t, .slice la es.length lc] [isl la es.length lc T.audit_Entry 2 (es.flatMap ecells), ents es] (fun _ : Unit => True)
      (fun _ => .tuple #[.int .i64 (judgeM t (texts es)).1, .int .i64 (judgeM t (texts es)).2]) (fun _ => []) := by
  refine fn_of rfl rfl (fun F => ?_)
  dsimp only [argEnv, List.cons_append, List.nil_append, Nat.zero_add, Nat.reduceAdd]
  repeat refine s1 ?_
  refine r_call rfl (blt_some rfl) rfl (new_c t Φ) ?_
  intro p _
  dsimp only [bnd]
  by_cases ht : t < 1 ∨ 8 < t
  · have hM : judgeM t (texts es) = (0, 1) := if_pos ht
    rw [hM]
    simp only [ht, if_true]
    dsimp only [List.nil_append]
    repeat refine s2 ?_
    refine j_fin rfl (.cons (rv_tmp rfl) (.cons (rv_tmp rfl) .nil)) () (by rfl) (by trivial)
  have hM : judgeM t (texts es) = judgeL (Bk.new t) 0 (texts es) := if_neg ht
  rw [hM]
  simp only [ht, if_false]
  dsimp only [List.cons_append, List.nil_append]
  repeat refine s2 ?_
  refine j_head (isl la es.length lc T.audit_Entry 2 (es.flatMap ecells)) ?_
  refine j_leni (fun hfl hc ha => ?_)
  refine t_loop (σ := Nat × Bk) (fun y => [(21, i64 y.1), (20, i64 es.length), (19, .slice la es.length lc), (6, .pointer (some ⟨p, 0, none⟩)), (1, .slice la es.length lc)])
    (fun y => isl la es.length lc T.audit_Entry 2 (es.flatMap ecells) :: book p y.2 :: ents es :: F)
    (fun y => y.1 ≤ es.length ∧ Wf (256 * y.1) y.1 (y.1 : Int) y.2 ∧ y.2.wrong = false ∧ judgeL (Bk.new t) 0 (texts es) = judgeL y.2 y.1 (texts (es.drop y.1))) (fun y => es.length - y.1)
    (0, Bk.new t) ⟨Nat.zero_le _, Wf.new t, rfl, rfl⟩ ⟨rfl, rfl, rfl, rfl, rfl, trivial⟩ (by dsimp only; exact Le.ent) ?_
  rintro ⟨i, B⟩ ⟨hi, hw, hf, hj⟩
  dsimp only at hi hw hf hj ⊢
  repeat refine s1 ?_
  refine r_icmp rfl rfl rfl rfl ?_
  repeat refine s1 ?_
  refine t_condS rfl (fun h => ?_) (fun h => ?_)
  · have hlt : i < es.length := by omega
    obtain ⟨b, off, rfl⟩ := ha (by omega)
    have hd : es.drop i = es[i] :: es.drop (i + 1) := (List.drop_eq_getElem_cons hlt)
    have hat : es[i]? = some es[i] := List.getElem?_eq_getElem hlt
    have hmem : es[i] ∈ es := List.getElem_mem hlt
    rw [hd] at hj
    generalize es[i] = en at *
    obtain ⟨k1, k2, k3, k4⟩ := hk en hmem
    have hjs : judgeL (Bk.new t) 0 (texts es) = if (hearM B en.rq en.rp).2 ≠ 0 then ((i : Int), (hearM B en.rq en.rp).2) else judgeL (hearM B en.rq en.rp).1 (i + 1) (texts (es.drop (i + 1))) := hj
    have hw' := wf_hear (rp := en.rp) hw (by omega) k3
    repeat refine s1 ?_
    refine r_idx rfl rfl (by omega) (by omega) rfl ?_
    refine r_loadIA (vs := ecells en) (off := off) (n := es.length) (cap := lc) (E := T.audit_Entry) (s := 2) (xs := es.flatMap ecells) (j := 2 * i) rfl (by simp; omega) rfl (ecells_at es i en hat) rfl rfl ?_
    repeat refine s1 ?_
    refine r_alloc (cs := [.slice none 0 0, .slice none 0 0]) rfl rfl rfl (fun p9 => ?_)
    repeat refine s1 ?_
    refine r_storeW (vs := ecells en) rfl rfl (by rfl) (by rfl) (by simp [Value.oneCell']) rfl ?_
    repeat refine s1 ?_
    refine j_entAt (es := es) hmem ?_
    refine r_call rfl (blt_some rfl) rfl (hear_c p B en hw (by omega) (by omega) ⟨by omega, by omega⟩ hf k1 k2 k3 k4 Φ) ?_
    intro _ _; dsimp only [bnd, List.cons_append, List.nil_append]
    repeat refine s1 ?_
    refine r_icmp rfl rfl rfl rfl ?_
    repeat refine s1 ?_
    refine t_condSN rfl (fun hv => ?_) (fun hv => ?_)
    · rw [if_pos hv] at hjs
      rw [hjs]
      repeat refine s1 ?_
      refine j_fin rfl (.cons (rv_tmp rfl) (.cons (rv_tmp rfl) .nil)) () (by rfl) (by trivial)
    · rw [if_neg (by simpa using hv)] at hjs
      repeat refine s1 ?_
      refine j_again (i + 1, (hearM B en.rq en.rp).1) ⟨by omega, hw'.up (by omega) (Nat.le_refl _), (show (!decide ((hearM B en.rq en.rp).2 = 0)) = false by rw [hv]; rfl), hjs⟩ (by dsimp only; omega) ⟨rfl, rfl, rfl, rfl, rfl, trivial⟩ (by dsimp only; exact Le.ent)
  · have : i = es.length := by omega
    subst this
    rw [List.drop_length] at hj
    rw [hj]
    repeat refine s1 ?_
    refine j_fin rfl (.cons (rv_tmp rfl) (.cons (rv_tmp rfl) .nil)) () (by rfl) (by trivial)
end Go.Proofs.Ytbecjgikhfplmaa
