/-
  The contract of what hears an entry. For each input.
-/
import Derived.Test.YtbecjgikhfplmaaAud12
namespace Go.Proofs.Ytbecjgikhfplmaa
open Go Sl
attribute [local irreducible] cw sw J Exit.then Exit.inBlock Exit.noGoto bodyPost swG swL permL
def ofT (k : Int) : Bool := decide (k = 1 ∨ k = 14 ∨ k = 15 ∨ k = 16)
theorem ofT_c (k : Int) : Pure F.audit_ofTenant [.int .i64 k] (.bool (ofT k)) := by
  intro Φ
  refine fn_of rfl rfl (fun F => ?_)
  dsimp only [argEnv, List.cons_append, List.nil_append, Nat.zero_add, Nat.reduceAdd]
  repeat' (first | refine r_nil ?_ | (refine k_move ?_; refine r_move rfl rfl ?_) | (refine k_assign ?_; refine r_assign rfl rfl ?_) | (refine k_nck ?_; first | refine r_nck rfl rfl ?_ | refine r_nckf rfl rfl ?_) | (refine k_fld ?_; first | refine r_fld0 rfl rfl ?_ | refine r_fld rfl rfl ?_) | (refine k_load ?_; first | refine r_load1L rfl rfl rfl ?_ | refine s_load1L rfl rfl rfl ?_ | refine r_load1 rfl rfl rfl rfl ?_ | refine r_loadW rfl rfl rfl rfl ?_ | refine s_loadW rfl rfl rfl rfl ?_) | (refine k_ext ?_; first | refine r_extL rfl rfl ?_ | refine r_ext rfl rfl rfl ?_) | (refine k_len ?_; refine r_lenS rfl rfl ?_) | (refine k_un ?_; first | refine r_notT rfl (by with_reducible rfl) rfl ?_ | refine r_notF rfl (by with_reducible rfl) rfl ?_ | refine r_not rfl rfl ?_) | (refine k_sl0 ?_; refine r_sliceA rfl (by decide) rfl ?_) | (refine k_conv ?_; refine r_conv rfl rfl ?_) | (refine k_pick ?_; first | refine r_pickT rfl (by with_reducible rfl) rfl rfl ?_ | refine r_pickF rfl (by with_reducible rfl) rfl rfl ?_) | (refine k_inc ?_; refine r_inc rfl (by omega) rfl ?_) | (refine k_bin ?_; first | refine r_icmpT rfl rfl rfl rfl ?_ | refine r_icmpF rfl rfl rfl rfl ?_ | refine r_icmp rfl rfl rfl rfl ?_) | (refine k_eql ?_; first | refine r_peqS rfl rfl rfl ?_ | refine r_peqN rfl rfl rfl ?_ | refine r_meqS rfl rfl rfl ?_ | refine r_meqN rfl rfl rfl ?_ | refine r_peq rfl rfl rfl ?_) | (refine k_neq ?_; first | refine r_pneS rfl rfl rfl ?_ | refine r_pneN rfl rfl rfl ?_ | refine r_mneS rfl rfl rfl ?_ | refine r_mneN rfl rfl rfl ?_ | refine r_pne rfl rfl rfl ?_) | (refine g_mark ?_; first | refine gg_pass rfl rfl (by with_reducible rfl) ?_ | refine gg_skipT rfl rfl (by with_reducible rfl) (blt_any rfl) ?_ | refine gg_skipF rfl rfl (by with_reducible rfl) (blt_any rfl) ?_ | refine gg_skipU rfl rfl (by with_reducible rfl) (blt_any rfl) ?_ | refine gg_splitD rfl rfl (fun _ => ?_) (fun _ => ?_) | refine gg_splitN rfl rfl (fun _ => ?_) (fun _ => ?_) | refine gg_split rfl rfl (fun _ => ?_) (fun _ => ?_)) | refine t_seq ?_ | refine t_perm rfl ?_ | refine t_permE ?_ | refine j_then ?_ | refine t_region ?_ | refine t_draw [] [] mixed (by decide +kernel) ?_ | (refine k_cond ?_; first | refine t_condT rfl (by with_reducible rfl) ?_ | refine t_condF rfl (by with_reducible rfl) ?_ | refine t_condS rfl (fun _ => ?_) (fun _ => ?_) | refine t_condSN rfl (fun _ => ?_) (fun _ => ?_) | refine t_condSB rfl (fun _ => ?_) (fun _ => ?_)) | refine t_block ?_ | refine j_in ?_ | refine t_skip ?_ | refine t_ret ?_ | refine j_then_ret ?_ | refine j_in_ret ?_ | refine t_exit ?_ | refine j_then_exit ?_ | refine j_in_exit ?_ | refine j_in_other rfl ?_ | refine t_scope ?_ | refine t_label ?_ | refine j_ng ?_ | refine j_ng_ret ?_ | refine j_ng_exit ?_)
  all_goals (refine j_fin rfl (.cons (rv_tmp rfl) .nil) () (by simp [ofT, pack, *]) (by trivial))
/-- what a request's bytes say; the error beside it. -/
def decQ (b : List Nat) : Rq × List Nat × Int := match decM b with
  | none => (Rq.zero, [], 70)
  | some q => (q.1, q.2, 0)
theorem decodeQ_c (a : Option Addr) (n cap : Nat) (b : List Nat) (hn : b.length = n) (hb : n ≤ 1000000) (hx : ∀ x ∈ b, x < 256) (Φ : Base) :
    Sl.Fn Try.prog Φ F.req_Decode [.slice a n cap] [brow a n cap b] (fun _ : Option Addr × Nat => True)
      (fun r => .tuple #[.agg ((decQ b).1.cells (.slice r.1 (decQ b).2.1.length r.2)).toArray, .int .i64 (decQ b).2.2])
      (fun r => [brow r.1 (decQ b).2.1.length r.2 (decQ b).2.1]) :=
  (decode_c a n cap b hn hb hx Φ).conseq (fun _ => Ent.refl _) (fun r _ => by
    unfold decQ
    rcases decM b with _ | q
    · exact ⟨(none, 0), trivial, rfl, fun F => Ent.brow0 _⟩
    · exact ⟨r, trivial, rfl, fun F => Ent.refl _⟩)
/-- what a reply's bytes say; the error beside it. -/
def decR (b : List Nat) : Rp × Int := match repDec b with
  | none => (⟨0, 0, []⟩, 3)
  | some r => (⟨r.1, r.2.1, r.2.2⟩, 0)
theorem decodeR_c (a : Option Addr) (n cap : Nat) (b : List Nat) (hn : b.length = n) (hb : n ≤ 1000000) (hx : ∀ x ∈ b, x < 256) (Φ : Base) :
    Sl.Fn Try.prog Φ F.reply_Decode [.slice a n cap] [brow a n cap b] (fun _ : Option Addr × Nat => True)
      (fun r => .tuple #[.agg (rcells (decR b).1 r.1 r.2).toArray, .int .i64 (decR b).2])
      (fun r => [brow r.1 (decR b).1.d.length r.2 (decR b).1.d]) :=
  (repDecode_c a n cap b hn (by omega) hx Φ).conseq (fun _ => Ent.refl _) (fun r _ => by
    unfold decR
    rcases repDec b with _ | q
    · exact ⟨(none, 0), trivial, rfl, fun F => Ent.brow0 _⟩
    · exact ⟨(r, q.2.2.length), trivial, rfl, fun F => Ent.refl _⟩)
abbrev Bk.closed (B : Bk) (s : Int) : Bk := { B with ses := upd B.ses s none }
noncomputable def fitsM (B : Bk) (q : Rq) (ds : List Nat) (r : Rp) : Bk × Bool :=
  if ofT (q.num 0) = true then adminM B q r else match B.ses (q.num 1) with
    | none => (B, onlyM r [4])
    | some life => if q.num 0 = 2 then (B.closed (q.num 1), onlyM r [0]) else if B.inn = false ∨ life ≠ B.lives then (B, onlyM r [51]) else askedM B q ds r
def badM (B : Bk) (q : Rq) (e f : Int) : Prop := e ≠ 0 ∨ f ≠ 0 ∨ (ofT (q.num 0) = true ∧ q.num 2 ≠ B.ten) ∨ ((q.num 0 = 14 ∨ q.num 0 = 15) ∧ q.num 7 ≠ q.num 8)
instance (B : Bk) (q : Rq) (e f : Int) : Decidable (badM B q e f) := by unfold badM; infer_instance
noncomputable def verdictM (B : Bk) (rq rp : List Nat) : Bk × Int :=
  if badM B (decQ rq).1 (decQ rq).2.2 (decR rp).2 then (B, 1) else
    ((fitsM B (decQ rq).1 (decQ rq).2.1 (decR rp).1).1, if (fitsM B (decQ rq).1 (decQ rq).2.1 (decR rp).1).2 = true then 0 else 2)
set_option maxHeartbeats 2000000 in
theorem verdict_c (p : Nat) (B : Bk) (ra : Option Addr) (rn rc : Nat) (rq : List Nat) (pa : Option Addr) (pn pc : Nat) (rp : List Nat) (h1 : rq.length = rn) (h2 : rp.length = pn) (h3 : rn ≤ 1000000) (h4 : pn ≤ 1000000)
    (hq : ∀ x ∈ rq, x < 256) (hp : ∀ x ∈ rp, x < 256)
    (hok : (decQ rq).2.2 = 0 → (decQ rq).1.num 0 = 3 ∨ (decQ rq).1.num 0 = 4 ∨ (decQ rq).1.num 0 = 5 → BOk (decQ rq).1 (decQ rq).2.1 (nblk (decQ rq).1 (decQ rq).2.1) B) (hdl : (decQ rq).2.1.length ≤ 1000000)
    (hr : ∀ x ∈ (decR rp).1.d, x < 256) (hk8 : ∀ k x, B.now k = some x → 1 ≤ k ∧ k ≤ 8) (hlv : 0 ≤ B.lives ∧ B.lives ≤ 1000000) (Φ : Base) :
    Sl.Fn Try.prog Φ F.audit_Book_verdict [.pointer (some ⟨p, 0, none⟩), .agg #[.slice ra rn rc, .slice pa pn pc]] [book p B, brow ra rn rc rq, brow pa pn pc rp] (fun _ : Unit => True)
      (fun _ => .int .i64 (verdictM B rq rp).2) (fun _ => [book p (verdictM B rq rp).1]) := by
  refine fn_of rfl rfl (fun F => ?_)
  dsimp only [argEnv, List.cons_append, List.nil_append, Nat.zero_add, Nat.reduceAdd]
  repeat refine s1 ?_
  refine r_box (cs := [.slice ra rn rc, .slice pa pn pc]) rfl rfl rfl rfl (fun p3 => ?_)
  repeat refine s1 ?_
  refine r_call rfl (blt_some rfl) rfl (decodeQ_c ra rn rc rq h1 h3 hq Φ) ?_
  rintro ⟨qa, qc⟩ _
  dsimp only [bnd, List.cons_append, List.nil_append]
  repeat refine s1 ?_
  unfold verdictM
  generalize hQ : (decQ rq).2.2 = e1 at *
  generalize (decQ rq).2.1 = ds at *
  generalize (decQ rq).1 = q at *
  refine r_alloc (cs := Rq.zero.cells (.slice none 0 0)) rfl rfl rfl (fun p5 => ?_)
  refine r_storeW rfl rfl (Rq.len _ _) (by rfl) (Rq.ones _ _ rfl) rfl ?_
  repeat refine s1 ?_
  refine r_call rfl (blt_some rfl) rfl (decodeR_c pa pn pc rp h2 h4 hp Φ) ?_
  rintro ⟨da, dc⟩ _
  dsimp only [bnd, List.cons_append, List.nil_append]
  repeat refine s1 ?_
  generalize (decR rp).2 = e2 at *
  generalize (decR rp).1 = r at *
  refine r_alloc (cs := [i64 0, i64 0, .slice none 0 0]) rfl rfl rfl (fun p7 => ?_)
  refine r_storeW (vs := rcells r da dc) rfl rfl (by rfl) (by rfl) (by simp [Value.oneCell']) rfl ?_
  refine j_head (book p B) ?_
  refine j_book (fun n k s ta tc hs => ?_)
  refine r_assign rfl rfl ?_
  refine r_nil ?_
  refine j_then ?_
  refine t_seq ?_
  refine t_meet (σ := Unit) (fun _ => [(9, .bool (decide (ofT (q.num 0) = true ∧ q.num 2 ≠ B.ten))), (6, .int .i64 e1), (8, .int .i64 e2), (0, .pointer (some ⟨p, 0, none⟩)), (5, .pointer (some ⟨p5, 0, none⟩)), (7, .pointer (some ⟨p7, 0, none⟩))])
    (fun _ => pt p7 (.cells (rcells r da dc).toArray T.reply_Reply (0, 0)) :: pt p5 (.cells (q.cells (.slice qa ds.length qc)).toArray T.req_Request (0, 0)) :: pt p (.cells (bcells B n k s (.slice ta B.texts.length tc)).toArray T.audit_Book (0, 0)) :: side n B.now :: side k B.kept :: mapI s B.ses :: vec ta B.texts.length tc T.sl_uint8 1 hs :: rows hs B.texts :: brow qa ds.length qc ds :: brow da r.d.length dc r.d :: F) (fun _ => True) ?_ (fun _ _ => ?_)
  · repeat refine s1 ?_
    refine r_call rfl (blt_some rfl) rfl (ofT_c (q.num 0) Φ) ?_
    intro _ _; dsimp only [bnd, List.cons_append, List.nil_append]
    repeat refine s1 ?_
    rcases ho : ofT (q.num 0) with _ | _
    · repeat' (first | refine r_nil ?_ | (refine k_move ?_; refine r_move rfl rfl ?_) | (refine k_assign ?_; refine r_assign rfl rfl ?_) | (refine k_nck ?_; first | refine r_nck rfl rfl ?_ | refine r_nckf rfl rfl ?_) | (refine k_fld ?_; first | refine r_fld0 rfl rfl ?_ | refine r_fld rfl rfl ?_) | (refine k_load ?_; first | refine r_load1L rfl rfl rfl ?_ | refine s_load1L rfl rfl rfl ?_ | refine r_load1 rfl rfl rfl rfl ?_ | refine r_loadW rfl rfl rfl rfl ?_ | refine s_loadW rfl rfl rfl rfl ?_) | (refine k_ext ?_; first | refine r_extL rfl rfl ?_ | refine r_ext rfl rfl rfl ?_) | (refine k_len ?_; refine r_lenS rfl rfl ?_) | (refine k_un ?_; first | refine r_notT rfl (by with_reducible rfl) rfl ?_ | refine r_notF rfl (by with_reducible rfl) rfl ?_ | refine r_not rfl rfl ?_) | (refine k_sl0 ?_; refine r_sliceA rfl (by decide) rfl ?_) | (refine k_conv ?_; refine r_conv rfl rfl ?_) | (refine k_pick ?_; first | refine r_pickT rfl (by with_reducible rfl) rfl rfl ?_ | refine r_pickF rfl (by with_reducible rfl) rfl rfl ?_) | (refine k_inc ?_; refine r_inc rfl (by omega) rfl ?_) | (refine k_bin ?_; first | refine r_icmpT rfl rfl rfl rfl ?_ | refine r_icmpF rfl rfl rfl rfl ?_ | refine r_icmp rfl rfl rfl rfl ?_) | (refine k_eql ?_; first | refine r_peqS rfl rfl rfl ?_ | refine r_peqN rfl rfl rfl ?_ | refine r_meqS rfl rfl rfl ?_ | refine r_meqN rfl rfl rfl ?_ | refine r_peq rfl rfl rfl ?_) | (refine k_neq ?_; first | refine r_pneS rfl rfl rfl ?_ | refine r_pneN rfl rfl rfl ?_ | refine r_mneS rfl rfl rfl ?_ | refine r_mneN rfl rfl rfl ?_ | refine r_pne rfl rfl rfl ?_) | (refine g_mark ?_; first | refine gg_pass rfl rfl (by with_reducible rfl) ?_ | refine gg_skipT rfl rfl (by with_reducible rfl) (blt_any rfl) ?_ | refine gg_skipF rfl rfl (by with_reducible rfl) (blt_any rfl) ?_ | refine gg_skipU rfl rfl (by with_reducible rfl) (blt_any rfl) ?_ | refine gg_splitD rfl rfl (fun _ => ?_) (fun _ => ?_) | refine gg_splitN rfl rfl (fun _ => ?_) (fun _ => ?_) | refine gg_split rfl rfl (fun _ => ?_) (fun _ => ?_)) | refine t_seq ?_ | refine t_perm rfl ?_ | refine t_permE ?_ | refine j_then ?_ | refine t_region ?_ | refine t_draw [] [] mixed (by decide +kernel) ?_ | (refine k_cond ?_; first | refine t_condT rfl (by with_reducible rfl) ?_ | refine t_condF rfl (by with_reducible rfl) ?_ | refine t_condS rfl (fun _ => ?_) (fun _ => ?_) | refine t_condSN rfl (fun _ => ?_) (fun _ => ?_) | refine t_condSB rfl (fun _ => ?_) (fun _ => ?_)) | refine t_block ?_ | refine j_in ?_ | refine t_skip ?_ | refine t_ret ?_ | refine j_then_ret ?_ | refine j_in_ret ?_ | refine t_exit ?_ | refine j_then_exit ?_ | refine j_in_exit ?_ | refine j_in_other rfl ?_ | refine t_scope ?_ | refine t_label ?_ | refine j_ng ?_ | refine j_ng_ret ?_ | refine j_ng_exit ?_)
      refine j_meet () trivial ⟨?_, rfl, rfl, rfl, rfl, rfl, trivial⟩ Le.ent
      show some _ = some _
      simp [ho]
    · repeat' (first | refine r_nil ?_ | (refine k_move ?_; refine r_move rfl rfl ?_) | (refine k_assign ?_; refine r_assign rfl rfl ?_) | (refine k_nck ?_; first | refine r_nck rfl rfl ?_ | refine r_nckf rfl rfl ?_) | (refine k_fld ?_; first | refine r_fld0 rfl rfl ?_ | refine r_fld rfl rfl ?_) | (refine k_load ?_; first | refine r_load1L rfl rfl rfl ?_ | refine s_load1L rfl rfl rfl ?_ | refine r_load1 rfl rfl rfl rfl ?_ | refine r_loadW rfl rfl rfl rfl ?_ | refine s_loadW rfl rfl rfl rfl ?_) | (refine k_ext ?_; first | refine r_extL rfl rfl ?_ | refine r_ext rfl rfl rfl ?_) | (refine k_len ?_; refine r_lenS rfl rfl ?_) | (refine k_un ?_; first | refine r_notT rfl (by with_reducible rfl) rfl ?_ | refine r_notF rfl (by with_reducible rfl) rfl ?_ | refine r_not rfl rfl ?_) | (refine k_sl0 ?_; refine r_sliceA rfl (by decide) rfl ?_) | (refine k_conv ?_; refine r_conv rfl rfl ?_) | (refine k_pick ?_; first | refine r_pickT rfl (by with_reducible rfl) rfl rfl ?_ | refine r_pickF rfl (by with_reducible rfl) rfl rfl ?_) | (refine k_inc ?_; refine r_inc rfl (by omega) rfl ?_) | (refine k_bin ?_; first | refine r_icmpT rfl rfl rfl rfl ?_ | refine r_icmpF rfl rfl rfl rfl ?_ | refine r_icmp rfl rfl rfl rfl ?_) | (refine k_eql ?_; first | refine r_peqS rfl rfl rfl ?_ | refine r_peqN rfl rfl rfl ?_ | refine r_meqS rfl rfl rfl ?_ | refine r_meqN rfl rfl rfl ?_ | refine r_peq rfl rfl rfl ?_) | (refine k_neq ?_; first | refine r_pneS rfl rfl rfl ?_ | refine r_pneN rfl rfl rfl ?_ | refine r_mneS rfl rfl rfl ?_ | refine r_mneN rfl rfl rfl ?_ | refine r_pne rfl rfl rfl ?_) | (refine g_mark ?_; first | refine gg_pass rfl rfl (by with_reducible rfl) ?_ | refine gg_skipT rfl rfl (by with_reducible rfl) (blt_any rfl) ?_ | refine gg_skipF rfl rfl (by with_reducible rfl) (blt_any rfl) ?_ | refine gg_skipU rfl rfl (by with_reducible rfl) (blt_any rfl) ?_ | refine gg_splitD rfl rfl (fun _ => ?_) (fun _ => ?_) | refine gg_splitN rfl rfl (fun _ => ?_) (fun _ => ?_) | refine gg_split rfl rfl (fun _ => ?_) (fun _ => ?_)) | refine t_seq ?_ | refine t_perm rfl ?_ | refine t_permE ?_ | refine j_then ?_ | refine t_region ?_ | refine t_draw [] [] mixed (by decide +kernel) ?_ | (refine k_cond ?_; first | refine t_condT rfl (by with_reducible rfl) ?_ | refine t_condF rfl (by with_reducible rfl) ?_ | refine t_condS rfl (fun _ => ?_) (fun _ => ?_) | refine t_condSN rfl (fun _ => ?_) (fun _ => ?_) | refine t_condSB rfl (fun _ => ?_) (fun _ => ?_)) | refine t_block ?_ | refine j_in ?_ | refine t_skip ?_ | refine t_ret ?_ | refine j_then_ret ?_ | refine j_in_ret ?_ | refine t_exit ?_ | refine j_then_exit ?_ | refine j_in_exit ?_ | refine j_in_other rfl ?_ | refine t_scope ?_ | refine t_label ?_ | refine j_ng ?_ | refine j_ng_ret ?_ | refine j_ng_exit ?_)
      all_goals (refine j_meet () trivial ⟨?_, rfl, rfl, rfl, rfl, rfl, trivial⟩ Le.ent; show some _ = some _; simp [*])
  refine j_then ?_
  refine t_seq ?_
  refine t_meet (σ := Unit) (fun _ => [(9, .bool (decide (ofT (q.num 0) = true ∧ q.num 2 ≠ B.ten))), (10, .bool (decide ((q.num 0 = 14 ∨ q.num 0 = 15) ∧ q.num 7 ≠ q.num 8))), (6, .int .i64 e1), (8, .int .i64 e2), (0, .pointer (some ⟨p, 0, none⟩)), (5, .pointer (some ⟨p5, 0, none⟩)), (7, .pointer (some ⟨p7, 0, none⟩))])
    (fun _ => pt p7 (.cells (rcells r da dc).toArray T.reply_Reply (0, 0)) :: pt p5 (.cells (q.cells (.slice qa ds.length qc)).toArray T.req_Request (0, 0)) :: pt p (.cells (bcells B n k s (.slice ta B.texts.length tc)).toArray T.audit_Book (0, 0)) :: side n B.now :: side k B.kept :: mapI s B.ses :: vec ta B.texts.length tc T.sl_uint8 1 hs :: rows hs B.texts :: brow qa ds.length qc ds :: brow da r.d.length dc r.d :: F) (fun _ => True) ?_ (fun _ _ => ?_)
  · repeat' (first | refine r_nil ?_ | (refine k_move ?_; refine r_move rfl rfl ?_) | (refine k_assign ?_; refine r_assign rfl rfl ?_) | (refine k_nck ?_; first | refine r_nck rfl rfl ?_ | refine r_nckf rfl rfl ?_) | (refine k_fld ?_; first | refine r_fld0 rfl rfl ?_ | refine r_fld rfl rfl ?_) | (refine k_load ?_; first | refine r_load1L rfl rfl rfl ?_ | refine s_load1L rfl rfl rfl ?_ | refine r_load1 rfl rfl rfl rfl ?_ | refine r_loadW rfl rfl rfl rfl ?_ | refine s_loadW rfl rfl rfl rfl ?_) | (refine k_ext ?_; first | refine r_extL rfl rfl ?_ | refine r_ext rfl rfl rfl ?_) | (refine k_len ?_; refine r_lenS rfl rfl ?_) | (refine k_un ?_; first | refine r_notT rfl (by with_reducible rfl) rfl ?_ | refine r_notF rfl (by with_reducible rfl) rfl ?_ | refine r_not rfl rfl ?_) | (refine k_sl0 ?_; refine r_sliceA rfl (by decide) rfl ?_) | (refine k_conv ?_; refine r_conv rfl rfl ?_) | (refine k_pick ?_; first | refine r_pickT rfl (by with_reducible rfl) rfl rfl ?_ | refine r_pickF rfl (by with_reducible rfl) rfl rfl ?_) | (refine k_inc ?_; refine r_inc rfl (by omega) rfl ?_) | (refine k_bin ?_; first | refine r_icmpT rfl rfl rfl rfl ?_ | refine r_icmpF rfl rfl rfl rfl ?_ | refine r_icmp rfl rfl rfl rfl ?_) | (refine k_eql ?_; first | refine r_peqS rfl rfl rfl ?_ | refine r_peqN rfl rfl rfl ?_ | refine r_meqS rfl rfl rfl ?_ | refine r_meqN rfl rfl rfl ?_ | refine r_peq rfl rfl rfl ?_) | (refine k_neq ?_; first | refine r_pneS rfl rfl rfl ?_ | refine r_pneN rfl rfl rfl ?_ | refine r_mneS rfl rfl rfl ?_ | refine r_mneN rfl rfl rfl ?_ | refine r_pne rfl rfl rfl ?_) | (refine g_mark ?_; first | refine gg_pass rfl rfl (by with_reducible rfl) ?_ | refine gg_skipT rfl rfl (by with_reducible rfl) (blt_any rfl) ?_ | refine gg_skipF rfl rfl (by with_reducible rfl) (blt_any rfl) ?_ | refine gg_skipU rfl rfl (by with_reducible rfl) (blt_any rfl) ?_ | refine gg_splitD rfl rfl (fun _ => ?_) (fun _ => ?_) | refine gg_splitN rfl rfl (fun _ => ?_) (fun _ => ?_) | refine gg_split rfl rfl (fun _ => ?_) (fun _ => ?_)) | refine t_seq ?_ | refine t_perm rfl ?_ | refine t_permE ?_ | refine j_then ?_ | refine t_region ?_ | refine t_draw [] [] mixed (by decide +kernel) ?_ | (refine k_cond ?_; first | refine t_condT rfl (by with_reducible rfl) ?_ | refine t_condF rfl (by with_reducible rfl) ?_ | refine t_condS rfl (fun _ => ?_) (fun _ => ?_) | refine t_condSN rfl (fun _ => ?_) (fun _ => ?_) | refine t_condSB rfl (fun _ => ?_) (fun _ => ?_)) | refine t_block ?_ | refine j_in ?_ | refine t_skip ?_ | refine t_ret ?_ | refine j_then_ret ?_ | refine j_in_ret ?_ | refine t_exit ?_ | refine j_then_exit ?_ | refine j_in_exit ?_ | refine j_in_other rfl ?_ | refine t_scope ?_ | refine t_label ?_ | refine j_ng ?_ | refine j_ng_ret ?_ | refine j_ng_exit ?_)
    all_goals (refine j_meet () trivial ⟨rfl, ?_, rfl, rfl, rfl, rfl, rfl, trivial⟩ Le.ent; show some _ = some _; simp [*])
  refine j_then ?_
  refine t_seq ?_
  refine t_seq ?_
  refine t_meet (σ := Unit) (fun _ => [(64, .bool (decide (badM B q e1 e2))), (0, .pointer (some ⟨p, 0, none⟩)), (5, .pointer (some ⟨p5, 0, none⟩)), (7, .pointer (some ⟨p7, 0, none⟩))])
    (fun _ => pt p7 (.cells (rcells r da dc).toArray T.reply_Reply (0, 0)) :: pt p5 (.cells (q.cells (.slice qa ds.length qc)).toArray T.req_Request (0, 0)) :: pt p (.cells (bcells B n k s (.slice ta B.texts.length tc)).toArray T.audit_Book (0, 0)) :: side n B.now :: side k B.kept :: mapI s B.ses :: vec ta B.texts.length tc T.sl_uint8 1 hs :: rows hs B.texts :: brow qa ds.length qc ds :: brow da r.d.length dc r.d :: F) (fun _ => True) ?_ (fun _ _ => ?_)
  · repeat' (first | refine r_nil ?_ | (refine k_move ?_; refine r_move rfl rfl ?_) | (refine k_assign ?_; refine r_assign rfl rfl ?_) | (refine k_nck ?_; first | refine r_nck rfl rfl ?_ | refine r_nckf rfl rfl ?_) | (refine k_fld ?_; first | refine r_fld0 rfl rfl ?_ | refine r_fld rfl rfl ?_) | (refine k_load ?_; first | refine r_load1L rfl rfl rfl ?_ | refine s_load1L rfl rfl rfl ?_ | refine r_load1 rfl rfl rfl rfl ?_ | refine r_loadW rfl rfl rfl rfl ?_ | refine s_loadW rfl rfl rfl rfl ?_) | (refine k_ext ?_; first | refine r_extL rfl rfl ?_ | refine r_ext rfl rfl rfl ?_) | (refine k_len ?_; refine r_lenS rfl rfl ?_) | (refine k_un ?_; first | refine r_notT rfl (by with_reducible rfl) rfl ?_ | refine r_notF rfl (by with_reducible rfl) rfl ?_ | refine r_not rfl rfl ?_) | (refine k_sl0 ?_; refine r_sliceA rfl (by decide) rfl ?_) | (refine k_conv ?_; refine r_conv rfl rfl ?_) | (refine k_pick ?_; first | refine r_pickT rfl (by with_reducible rfl) rfl rfl ?_ | refine r_pickF rfl (by with_reducible rfl) rfl rfl ?_) | (refine k_inc ?_; refine r_inc rfl (by omega) rfl ?_) | (refine k_bin ?_; first | refine r_icmpT rfl rfl rfl rfl ?_ | refine r_icmpF rfl rfl rfl rfl ?_ | refine r_icmp rfl rfl rfl rfl ?_) | (refine k_eql ?_; first | refine r_peqS rfl rfl rfl ?_ | refine r_peqN rfl rfl rfl ?_ | refine r_meqS rfl rfl rfl ?_ | refine r_meqN rfl rfl rfl ?_ | refine r_peq rfl rfl rfl ?_) | (refine k_neq ?_; first | refine r_pneS rfl rfl rfl ?_ | refine r_pneN rfl rfl rfl ?_ | refine r_mneS rfl rfl rfl ?_ | refine r_mneN rfl rfl rfl ?_ | refine r_pne rfl rfl rfl ?_) | (refine g_mark ?_; first | refine gg_pass rfl rfl (by with_reducible rfl) ?_ | refine gg_skipT rfl rfl (by with_reducible rfl) (blt_any rfl) ?_ | refine gg_skipF rfl rfl (by with_reducible rfl) (blt_any rfl) ?_ | refine gg_skipU rfl rfl (by with_reducible rfl) (blt_any rfl) ?_ | refine gg_splitD rfl rfl (fun _ => ?_) (fun _ => ?_) | refine gg_splitN rfl rfl (fun _ => ?_) (fun _ => ?_) | refine gg_split rfl rfl (fun _ => ?_) (fun _ => ?_)) | refine t_seq ?_ | refine t_perm rfl ?_ | refine t_permE ?_ | refine j_then ?_ | refine t_region ?_ | refine t_draw [] [] mixed (by decide +kernel) ?_ | (refine k_cond ?_; first | refine t_condT rfl (by with_reducible rfl) ?_ | refine t_condF rfl (by with_reducible rfl) ?_ | refine t_condS rfl (fun _ => ?_) (fun _ => ?_) | refine t_condSN rfl (fun _ => ?_) (fun _ => ?_) | refine t_condSB rfl (fun _ => ?_) (fun _ => ?_)) | refine t_block ?_ | refine j_in ?_ | refine t_skip ?_ | refine t_ret ?_ | refine j_then_ret ?_ | refine j_in_ret ?_ | refine t_exit ?_ | refine j_then_exit ?_ | refine j_in_exit ?_ | refine j_in_other rfl ?_ | refine t_scope ?_ | refine t_label ?_ | refine j_ng ?_ | refine j_ng_ret ?_ | refine j_ng_exit ?_)
    all_goals (refine j_meet () trivial ⟨?_, rfl, rfl, rfl, trivial⟩ Le.ent; show some _ = some _; simp [badM, *])
  repeat refine s1 ?_
  refine t_condS rfl (fun hbad => ?_) (fun hbad => ?_)
  · rw [if_pos hbad]
    repeat refine s1 ?_
    refine j_shut (p := p) B (n := n) (k := k) (s := s) (ta := ta) (tc := tc) (hs := hs) ?_
    refine j_fin rfl (.cons (rv_tmp rfl) .nil) () (by rfl) (by trivial)
  rw [if_neg hbad]
  repeat refine s1 ?_
  refine j_head (mapI s B.ses) ?_
  refine j_mapF (fun u hu => ?_)
  refine r_lookup2 rfl rfl (isInt_mk _) rfl rfl ?_
  rw [mget_em kv_inj]
  have hses : B.ses (q.num 1) = alook u (q.num 1) := (hu.eq _).symm
  refine j_head (mp (isInt .i64) s (emI u)) ?_
  refine j_ent (Ent.mapF (κ := Value.int .i64) (ν := Value.int .i64) hu _) ?_
  refine r_move rfl rfl ?_
  refine r_extL rfl rfl ?_
  refine j_val (.int .i64 ((B.ses (q.num 1)).getD 0)) (by rw [hses]; cases alook u (q.num 1) <;> rfl) ?_
  refine r_extL rfl rfl ?_
  refine j_val (.bool (B.ses (q.num 1)).isSome) (by rw [hses]; cases alook u (q.num 1) <;> rfl) ?_
  refine r_assign rfl rfl ?_
  refine r_assign rfl rfl ?_
  refine r_nil ?_
  refine j_then ?_
  refine t_seq ?_
  refine t_meet (σ := Unit) (fun _ => [(11, .bool (fitsM B q ds r).2), (0, .pointer (some ⟨p, 0, none⟩)), (5, .pointer (some ⟨p5, 0, none⟩)), (7, .pointer (some ⟨p7, 0, none⟩))])
    (fun _ => book p (fitsM B q ds r).1 :: pt p7 (.cells (rcells r da dc).toArray T.reply_Reply (0, 0)) :: pt p5 (.cells (q.cells (.slice qa ds.length qc)).toArray T.req_Request (0, 0)) :: brow qa ds.length qc ds :: brow da r.d.length dc r.d :: F) (fun _ => True) ?_ (fun _ _ => ?_)
  · repeat refine s1 ?_
    refine r_call rfl (blt_some rfl) rfl (ofT_c (q.num 0) Φ) ?_
    intro _ _; dsimp only [bnd, List.cons_append, List.nil_append]
    repeat refine s1 ?_
    refine t_condSB rfl (fun ho => ?_) (fun ho => ?_)
    · have hM : fitsM B q ds r = adminM B q r := by rw [fitsM, if_pos ho]
      rw [hM]
      refine j_shut (p := p) B (n := n) (k := k) (s := s) (ta := ta) (tc := tc) (hs := hs) ?_
      repeat refine s1 ?_
      refine r_loadW rfl (q.len _) rfl rfl ?_
      repeat refine s1 ?_
      refine r_call rfl (blt_some rfl) rfl (admin_c p B q (.slice qa ds.length qc) rfl r da dc hlv Φ) ?_
      intro _ _; dsimp only [bnd, List.cons_append, List.nil_append]
      repeat refine s1 ?_
      exact j_meet () trivial ⟨by rfl, rfl, rfl, rfl, trivial⟩ Le.ent
    rcases hse : B.ses (q.num 1) with _ | life
    · have hM : fitsM B q ds r = (B, onlyM r [4]) := by rw [fitsM, if_neg (by rw [ho]; decide), hse]
      rw [hM]
      simp only [Option.getD_none, Option.isSome_none]
      refine j_shut (p := p) B (n := n) (k := k) (s := s) (ta := ta) (tc := tc) (hs := hs) ?_
      repeat refine s1 ?_
      refine r_build1s [.const (.int .i64 4)] ([4].map (Value.int .i64)) rfl rfl (by simp [Value.oneCell']) (by simp) rfl rfl rfl (fun be => ?_); (repeat refine s1 ?_); refine j_freezeV (some ⟨be, 0, none⟩) 1 1 T.api_Errno 1 ([4].map (Value.int .i64)) ?_; refine r_call rfl (blt_any rfl) rfl (only_c r da dc (some ⟨be, 0, none⟩) 1 1 [4] rfl (by decide) Φ) ?_; intro _ _; dsimp only [bnd, List.cons_append, List.nil_append]; (repeat refine s2 ?_)
      exact j_meet () trivial ⟨by rfl, rfl, rfl, rfl, trivial⟩ Le.ent
    simp only [Option.getD_some, Option.isSome_some]
    repeat refine s1 ?_
    refine r_icmp rfl rfl rfl rfl ?_
    repeat refine s1 ?_
    refine t_condS rfl (fun h2 => ?_) (fun h2 => ?_)
    · have hM : fitsM B q ds r = (B.closed (q.num 1), onlyM r [0]) := by rw [fitsM, if_neg (by rw [ho]; decide), hse]; dsimp only; rw [if_pos h2]
      rw [hM]
      refine j_head (mapI s B.ses) ?_
      refine j_mapF (fun u hu => ?_)
      repeat refine s1 ?_
      refine r_delete rfl rfl (isInt_mk _) rfl (blt_any rfl) ?_
      rw [mdel_em kv_inj]
      refine j_ent (Ent.mapF (κ := Value.int .i64) (ν := Value.int .i64) (hu.del (q.num 1)) _) ?_
      refine j_shut (p := p) (B.closed (q.num 1)) (n := n) (k := k) (s := s) (ta := ta) (tc := tc) (hs := hs) ?_
      repeat refine s1 ?_
      refine r_build1s [.const (.int .i64 0)] ([0].map (Value.int .i64)) rfl rfl (by simp [Value.oneCell']) (by simp) rfl rfl rfl (fun be => ?_); (repeat refine s1 ?_); refine j_freezeV (some ⟨be, 0, none⟩) 1 1 T.api_Errno 1 ([0].map (Value.int .i64)) ?_; refine r_call rfl (blt_any rfl) rfl (only_c r da dc (some ⟨be, 0, none⟩) 1 1 [0] rfl (by decide) Φ) ?_; intro _ _; dsimp only [bnd, List.cons_append, List.nil_append]; (repeat refine s2 ?_)
      exact j_meet () trivial ⟨by rfl, rfl, rfl, rfl, trivial⟩ Le.ent
    have h2' : ∀ x : Bk × Bool, fitsM B q ds r = x ↔ (if B.inn = false ∨ life ≠ B.lives then (B, onlyM r [51]) else askedM B q ds r) = x := fun x => by rw [fitsM, if_neg (by rw [ho]; decide), hse]; dsimp only; rw [if_neg h2]
    repeat' (first | refine r_nil ?_ | (refine k_move ?_; refine r_move rfl rfl ?_) | (refine k_assign ?_; refine r_assign rfl rfl ?_) | (refine k_nck ?_; first | refine r_nck rfl rfl ?_ | refine r_nckf rfl rfl ?_) | (refine k_fld ?_; first | refine r_fld0 rfl rfl ?_ | refine r_fld rfl rfl ?_) | (refine k_load ?_; first | refine r_load1L rfl rfl rfl ?_ | refine s_load1L rfl rfl rfl ?_ | refine r_load1 rfl rfl rfl rfl ?_ | refine r_loadW rfl rfl rfl rfl ?_ | refine s_loadW rfl rfl rfl rfl ?_) | (refine k_ext ?_; first | refine r_extL rfl rfl ?_ | refine r_ext rfl rfl rfl ?_) | (refine k_len ?_; refine r_lenS rfl rfl ?_) | (refine k_un ?_; first | refine r_notT rfl (by with_reducible rfl) rfl ?_ | refine r_notF rfl (by with_reducible rfl) rfl ?_ | refine r_not rfl rfl ?_) | (refine k_sl0 ?_; refine r_sliceA rfl (by decide) rfl ?_) | (refine k_conv ?_; refine r_conv rfl rfl ?_) | (refine k_pick ?_; first | refine r_pickT rfl (by with_reducible rfl) rfl rfl ?_ | refine r_pickF rfl (by with_reducible rfl) rfl rfl ?_) | (refine k_inc ?_; refine r_inc rfl (by omega) rfl ?_) | (refine k_bin ?_; first | refine r_icmpT rfl rfl rfl rfl ?_ | refine r_icmpF rfl rfl rfl rfl ?_ | refine r_icmp rfl rfl rfl rfl ?_) | (refine k_eql ?_; first | refine r_peqS rfl rfl rfl ?_ | refine r_peqN rfl rfl rfl ?_ | refine r_meqS rfl rfl rfl ?_ | refine r_meqN rfl rfl rfl ?_ | refine r_peq rfl rfl rfl ?_) | (refine k_neq ?_; first | refine r_pneS rfl rfl rfl ?_ | refine r_pneN rfl rfl rfl ?_ | refine r_mneS rfl rfl rfl ?_ | refine r_mneN rfl rfl rfl ?_ | refine r_pne rfl rfl rfl ?_) | (refine g_mark ?_; first | refine gg_pass rfl rfl (by with_reducible rfl) ?_ | refine gg_skipT rfl rfl (by with_reducible rfl) (blt_any rfl) ?_ | refine gg_skipF rfl rfl (by with_reducible rfl) (blt_any rfl) ?_ | refine gg_skipU rfl rfl (by with_reducible rfl) (blt_any rfl) ?_ | refine gg_splitD rfl rfl (fun _ => ?_) (fun _ => ?_) | refine gg_splitN rfl rfl (fun _ => ?_) (fun _ => ?_) | refine gg_split rfl rfl (fun _ => ?_) (fun _ => ?_)) | refine t_seq ?_ | refine t_perm rfl ?_ | refine t_permE ?_ | refine j_then ?_ | refine t_region ?_ | refine t_draw [] [] mixed (by decide +kernel) ?_ | (refine k_cond ?_; first | refine t_condT rfl (by with_reducible rfl) ?_ | refine t_condF rfl (by with_reducible rfl) ?_ | refine t_condS rfl (fun _ => ?_) (fun _ => ?_) | refine t_condSN rfl (fun _ => ?_) (fun _ => ?_) | refine t_condSB rfl (fun _ => ?_) (fun _ => ?_)) | refine t_block ?_ | refine j_in ?_ | refine t_skip ?_ | refine t_ret ?_ | refine j_then_ret ?_ | refine j_in_ret ?_ | refine t_exit ?_ | refine j_then_exit ?_ | refine j_in_exit ?_ | refine j_in_other rfl ?_ | refine t_scope ?_ | refine t_label ?_ | refine j_ng ?_ | refine j_ng_ret ?_ | refine j_ng_exit ?_)
    · have hM : fitsM B q ds r = (B, onlyM r [51]) := (h2' _).2 (if_pos (.inl (by simp_all)))
      rw [hM]
      refine j_shut (p := p) B (n := n) (k := k) (s := s) (ta := ta) (tc := tc) (hs := hs) ?_
      refine r_build1s [.const (.int .i64 51)] ([51].map (Value.int .i64)) rfl rfl (by simp [Value.oneCell']) (by simp) rfl rfl rfl (fun be => ?_); (repeat refine s1 ?_); refine j_freezeV (some ⟨be, 0, none⟩) 1 1 T.api_Errno 1 ([51].map (Value.int .i64)) ?_; refine r_call rfl (blt_any rfl) rfl (only_c r da dc (some ⟨be, 0, none⟩) 1 1 [51] rfl (by decide) Φ) ?_; intro _ _; dsimp only [bnd, List.cons_append, List.nil_append]; (repeat refine s2 ?_)
      exact j_meet () trivial ⟨by rfl, rfl, rfl, rfl, trivial⟩ Le.ent
    · have hM : fitsM B q ds r = (B, onlyM r [51]) := (h2' _).2 (if_pos (.inr (by simp_all)))
      rw [hM]
      refine j_shut (p := p) B (n := n) (k := k) (s := s) (ta := ta) (tc := tc) (hs := hs) ?_
      refine r_build1s [.const (.int .i64 51)] ([51].map (Value.int .i64)) rfl rfl (by simp [Value.oneCell']) (by simp) rfl rfl rfl (fun be => ?_); (repeat refine s1 ?_); refine j_freezeV (some ⟨be, 0, none⟩) 1 1 T.api_Errno 1 ([51].map (Value.int .i64)) ?_; refine r_call rfl (blt_any rfl) rfl (only_c r da dc (some ⟨be, 0, none⟩) 1 1 [51] rfl (by decide) Φ) ?_; intro _ _; dsimp only [bnd, List.cons_append, List.nil_append]; (repeat refine s2 ?_)
      exact j_meet () trivial ⟨by rfl, rfl, rfl, rfl, trivial⟩ Le.ent
    · have hM : fitsM B q ds r = askedM B q ds r := (h2' _).2 (if_neg (by rintro (h | h) <;> simp_all))
      rw [hM]
      have he : e1 = 0 := Classical.byContradiction fun h => hbad (.inl h)
      refine j_shut (p := p) B (n := n) (k := k) (s := s) (ta := ta) (tc := tc) (hs := hs) ?_
      refine r_loadW rfl (q.len _) rfl rfl ?_
      repeat refine s1 ?_
      refine r_call rfl (blt_some rfl) rfl (asked_c p B q qa qc ds r da dc (hok he) hdl hr hk8 Φ) ?_
      intro _ _; dsimp only [bnd, List.cons_append, List.nil_append]
      repeat refine s1 ?_
      exact j_meet () trivial ⟨by rfl, rfl, rfl, rfl, trivial⟩ Le.ent
  rcases hf : (fitsM B q ds r).2 with _ | _
  · rw [if_neg (by decide)]
    repeat refine s1 ?_
    refine j_fin rfl (.cons (rv_tmp rfl) .nil) () (by rfl) (by trivial)
  · rw [if_pos rfl]
    repeat refine s1 ?_
    refine j_fin rfl (.cons (rv_tmp rfl) .nil) () (by rfl) (by trivial)
end Go.Proofs.Ytbecjgikhfplmaa
