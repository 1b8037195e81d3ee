/-
  A book of an audit, as an assertion; the contracts of what makes one, tells of one, and counts. For each input.
-/
import Derived.Test.YtbecjgikhfplmaaAud
namespace Go.Proofs.Ytbecjgikhfplmaa
open Go Sl
attribute [local irreducible] cw sw J Exit.then Exit.inBlock Exit.noGoto bodyPost swG swL permL
structure Bk where
  ten : Int
  inn : Bool
  outer : Key32
  quota : Int
  now : Side
  kept : Side
  texts : List (List Nat)
  ses : Int → Option Int
  last : Int
  lives : Int
  heard : Int
  wrong : Bool
abbrev bcells (B : Bk) (n k s : Nat) (tx : Value) : List Value :=
  .int .i64 B.ten :: .bool B.inn :: (B.outer.1.map u8 ++ [.int .i64 B.quota, .map (some n), .map (some k), tx, .map (some s), .int .i64 B.last, .int .i64 B.lives, .int .i64 B.heard, .bool B.wrong])
/-- rows of bytes that nobody turns: by their headers. -/
def rows (hs : List Value) (ts : List (List Nat)) : Assn :=
  im' (fun im => hs.length = ts.length ∧ ∀ (i : Nat) (bs : List Nat), ts[i]? = some bs → ∃ a cap, hs[i]? = some (.slice a bs.length cap) ∧ (brow a bs.length cap bs).sat im Hp.emp)
    (fun hm ⟨h1, h2⟩ => ⟨h1, fun i bs hb => let ⟨a, cap, h3, h4⟩ := h2 i bs hb; ⟨a, cap, h3, (brow a bs.length cap bs).mono hm h4⟩⟩)
instance (hs : List Value) (ts : List (List Nat)) : Pers (rows hs ts) := ⟨fun _ _ h => h⟩
theorem Ent.rowsNil (L : List Assn) : Ent L (rows [] [] :: L) := fun _ h s => ⟨Hp.emp, h, Hp.emp_le _, Hp.le_refl _, Hp.emp_dis _, ⟨rfl, fun i bs hb => by simp at hb⟩, s⟩
abbrev bref := Nat × Nat × Nat × Option Addr × Nat × List Value
def bparts (p : Nat) (B : Bk) (x : bref) : List Assn :=
  [pt p (.cells (bcells B x.1 x.2.1 x.2.2.1 (.slice x.2.2.2.1 B.texts.length x.2.2.2.2.1)).toArray T.audit_Book (0, 0)), side x.1 B.now, side x.2.1 B.kept, mapI x.2.2.1 B.ses, vec x.2.2.2.1 B.texts.length x.2.2.2.2.1 T.sl_uint8 1 x.2.2.2.2.2, rows x.2.2.2.2.2 B.texts]
def book (p : Nat) (B : Bk) : Assn := ex fun x : bref => all (bparts p B x)
theorem j_book {X : Cx} {e : Env} {L : List Assn} {G : Act → World → Prop} {p : Nat} {B : Bk}
    (h : ∀ (n k s : Nat) (ta : Option Addr) (tc : Nat) (hs : List Value), J X e (pt p (.cells (bcells B n k s (.slice ta B.texts.length tc)).toArray T.audit_Book (0, 0)) :: side n B.now :: side k B.kept :: mapI s B.ses :: vec ta B.texts.length tc T.sl_uint8 1 hs :: rows hs B.texts :: L) G) : J X e (book p B :: L) G :=
  j_ex fun x => j_ent (Ent.all (bparts p B x) L) (h x.1 x.2.1 x.2.2.1 x.2.2.2.1 x.2.2.2.2.1 x.2.2.2.2.2)
theorem Ent.book {p : Nat} (B : Bk) {n k s : Nat} {ta : Option Addr} {tc : Nat} {hs : List Value} {L : List Assn} :
    Ent (pt p (.cells (bcells B n k s (.slice ta B.texts.length tc)).toArray T.audit_Book (0, 0)) :: Go.Proofs.Ytbecjgikhfplmaa.side n B.now :: Go.Proofs.Ytbecjgikhfplmaa.side k B.kept :: mapI s B.ses :: vec ta B.texts.length tc T.sl_uint8 1 hs :: rows hs B.texts :: L) (Go.Proofs.Ytbecjgikhfplmaa.book p B :: L) :=
  (Ent.unall (bparts p B (n, k, s, ta, tc, hs)) L).trans (Ent.mkEx (f := fun x : bref => all (bparts p B x)) (n, k, s, ta, tc, hs))
/-- a book out of its parts, wherever they stand. -/
theorem j_shut {X : Cx} {e : Env} {L R : List Assn} {G : Act → World → Prop} {p : Nat} (B : Bk) {n k s : Nat} {ta : Option Addr} {tc : Nat} {hs : List Value}
    [sp : Split [pt p (.cells (bcells B n k s (.slice ta B.texts.length tc)).toArray T.audit_Book (0, 0)), side n B.now, side k B.kept, mapI s B.ses, vec ta B.texts.length tc T.sl_uint8 1 hs, rows hs B.texts] L R]
    (h : J X e (book p B :: R) G) : J X e L G := j_ent (sp.ent.trans (Ent.book B)) h
theorem made_c (p : Nat) (B : Bk) (Φ : Base) : Sl.Fn Try.prog Φ F.audit_Book_made [.pointer (some ⟨p, 0, none⟩)] [book p B] (fun _ : Unit => True) (fun _ => .bool true) (fun _ => [book p B]) := by
  refine fn_of rfl rfl (fun F => ?_)
  dsimp only [argEnv, List.cons_append, List.nil_append, Nat.zero_add, Nat.reduceAdd]
  refine j_book (fun n k s ta tc hs => ?_)
  repeat refine s1 ?_
  refine j_shut (p := p) B (n := n) (k := k) (s := s) (ta := ta) (tc := tc) (hs := hs) ?_
  refine j_fin rfl (.cons (rv_tmp rfl) .nil) () (by rfl) (by trivial)
theorem madeN_c : Pure F.audit_Book_made [.pointer none] (.bool false) := by
  intro Φ
  refine fn_of rfl rfl (fun F => ?_)
  dsimp only [argEnv, List.cons_append, List.nil_append, Nat.zero_add, Nat.reduceAdd]
  repeat refine s1 ?_
  refine j_fin rfl (.cons (rv_tmp rfl) .nil) () (by rfl) (by trivial)
def zkey : Key32 := ⟨List.replicate 32 0, rfl⟩
/-- a book that no call made. -/
abbrev blankC : List Value := .int .i64 0 :: .bool false :: (zkey.1.map u8 ++ [.int .i64 0, .map none, .map none, .slice none 0 0, .map none, .int .i64 0, .int .i64 0, .int .i64 0, .bool false])
def blank (p : Nat) : Assn := pt p (.cells blankC.toArray T.audit_Book (0, 0))
theorem made0_c (p : Nat) (Φ : Base) : Sl.Fn Try.prog Φ F.audit_Book_made [.pointer (some ⟨p, 0, none⟩)] [blank p] (fun _ : Unit => True) (fun _ => .bool false) (fun _ => [blank p]) := by
  refine fn_of rfl rfl (fun F => ?_)
  dsimp only [argEnv, List.cons_append, List.nil_append, Nat.zero_add, Nat.reduceAdd]
  unfold blank
  repeat refine s1 ?_
  refine j_fin rfl (.cons (rv_tmp rfl) .nil) () (by rfl) (by trivial)
abbrev Bk.new (t : Int) : Bk := ⟨t, false, zkey, 0, fun _ => none, fun _ => none, [], fun _ => none, 0, 0, 0, false⟩
theorem new_c (t : Int) (Φ : Base) : Sl.Fn Try.prog Φ F.audit_New [.int .i64 t] [] (fun _ : Nat => True) (fun p => if t < 1 ∨ 8 < t then .tuple #[.pointer none, i64 51] else .tuple #[.pointer (some ⟨p, 0, none⟩), i64 0])
    (fun p => if t < 1 ∨ 8 < t then [] else [book p (Bk.new t)]) := by
  refine fn_of rfl rfl (fun F => ?_)
  dsimp only [argEnv, List.cons_append, List.nil_append, Nat.zero_add, Nat.reduceAdd]
  by_cases h : t < 1 ∨ 8 < t
  · simp only [h, if_true]
    repeat' (first | refine r_nil ?_ | (refine k_move ?_; refine r_move rfl rfl ?_) | (refine k_assign ?_; refine r_assign rfl rfl ?_) | (refine k_nck ?_; first | refine r_nck rfl rfl ?_ | refine r_nckf rfl rfl ?_) | (refine k_fld ?_; first | refine r_fld0 rfl rfl ?_ | refine r_fld rfl rfl ?_) | (refine k_load ?_; first | refine r_load1L rfl rfl rfl ?_ | refine s_load1L rfl rfl rfl ?_ | refine r_load1 rfl rfl rfl rfl ?_ | refine r_loadW rfl rfl rfl rfl ?_ | refine s_loadW rfl rfl rfl rfl ?_) | (refine k_ext ?_; first | refine r_extL rfl rfl ?_ | refine r_ext rfl rfl rfl ?_) | (refine k_len ?_; refine r_lenS rfl rfl ?_) | (refine k_un ?_; first | refine r_notT rfl (by with_reducible rfl) rfl ?_ | refine r_notF rfl (by with_reducible rfl) rfl ?_ | refine r_not rfl rfl ?_) | (refine k_sl0 ?_; refine r_sliceA rfl (by decide) rfl ?_) | (refine k_conv ?_; refine r_conv rfl rfl ?_) | (refine k_pick ?_; first | refine r_pickT rfl (by with_reducible rfl) rfl rfl ?_ | refine r_pickF rfl (by with_reducible rfl) rfl rfl ?_) | (refine k_inc ?_; refine r_inc rfl (by omega) rfl ?_) | (refine k_bin ?_; first | refine r_icmpT rfl rfl rfl rfl ?_ | refine r_icmpF rfl rfl rfl rfl ?_ | refine r_icmp rfl rfl rfl rfl ?_) | (refine k_eql ?_; first | refine r_peqS rfl rfl rfl ?_ | refine r_peqN rfl rfl rfl ?_ | refine r_meqS rfl rfl rfl ?_ | refine r_meqN rfl rfl rfl ?_ | refine r_peq rfl rfl rfl ?_) | (refine k_neq ?_; first | refine r_pneS rfl rfl rfl ?_ | refine r_pneN rfl rfl rfl ?_ | refine r_mneS rfl rfl rfl ?_ | refine r_mneN rfl rfl rfl ?_ | refine r_pne rfl rfl rfl ?_) | (refine g_mark ?_; first | refine gg_pass rfl rfl (by with_reducible rfl) ?_ | refine gg_skipT rfl rfl (by with_reducible rfl) (blt_any rfl) ?_ | refine gg_skipF rfl rfl (by with_reducible rfl) (blt_any rfl) ?_ | refine gg_skipU rfl rfl (by with_reducible rfl) (blt_any rfl) ?_ | refine gg_splitD rfl rfl (fun _ => ?_) (fun _ => ?_) | refine gg_splitN rfl rfl (fun _ => ?_) (fun _ => ?_) | refine gg_split rfl rfl (fun _ => ?_) (fun _ => ?_)) | refine t_seq ?_ | refine t_perm rfl ?_ | refine t_permE ?_ | refine j_then ?_ | refine t_region ?_ | refine t_draw [] [] mixed (by decide +kernel) ?_ | (refine k_cond ?_; first | refine t_condT rfl (by with_reducible rfl) ?_ | refine t_condF rfl (by with_reducible rfl) ?_ | refine t_condS rfl (fun _ => ?_) (fun _ => ?_) | refine t_condSN rfl (fun _ => ?_) (fun _ => ?_) | refine t_condSB rfl (fun _ => ?_) (fun _ => ?_)) | refine t_block ?_ | refine j_in ?_ | refine t_skip ?_ | refine t_ret ?_ | refine j_then_ret ?_ | refine j_in_ret ?_ | refine t_exit ?_ | refine j_then_exit ?_ | refine j_in_exit ?_ | refine j_in_other rfl ?_ | refine t_scope ?_ | refine t_label ?_ | refine j_ng ?_ | refine j_ng_ret ?_ | refine j_ng_exit ?_)
    · refine j_fin rfl (.cons (rv_tmp rfl) (.cons (rv_tmp rfl) .nil)) 0 (by rfl) (by trivial)
    · refine j_fin rfl (.cons (rv_tmp rfl) (.cons (rv_tmp rfl) .nil)) 0 (by rfl) (by trivial)
    · omega
  · simp only [h, if_false]
    repeat' (first | refine r_nil ?_ | (refine k_move ?_; refine r_move rfl rfl ?_) | (refine k_assign ?_; refine r_assign rfl rfl ?_) | (refine k_nck ?_; first | refine r_nck rfl rfl ?_ | refine r_nckf rfl rfl ?_) | (refine k_fld ?_; first | refine r_fld0 rfl rfl ?_ | refine r_fld rfl rfl ?_) | (refine k_load ?_; first | refine r_load1L rfl rfl rfl ?_ | refine s_load1L rfl rfl rfl ?_ | refine r_load1 rfl rfl rfl rfl ?_ | refine r_loadW rfl rfl rfl rfl ?_ | refine s_loadW rfl rfl rfl rfl ?_) | (refine k_ext ?_; first | refine r_extL rfl rfl ?_ | refine r_ext rfl rfl rfl ?_) | (refine k_len ?_; refine r_lenS rfl rfl ?_) | (refine k_un ?_; first | refine r_notT rfl (by with_reducible rfl) rfl ?_ | refine r_notF rfl (by with_reducible rfl) rfl ?_ | refine r_not rfl rfl ?_) | (refine k_sl0 ?_; refine r_sliceA rfl (by decide) rfl ?_) | (refine k_conv ?_; refine r_conv rfl rfl ?_) | (refine k_pick ?_; first | refine r_pickT rfl (by with_reducible rfl) rfl rfl ?_ | refine r_pickF rfl (by with_reducible rfl) rfl rfl ?_) | (refine k_inc ?_; refine r_inc rfl (by omega) rfl ?_) | (refine k_bin ?_; first | refine r_icmpT rfl rfl rfl rfl ?_ | refine r_icmpF rfl rfl rfl rfl ?_ | refine r_icmp rfl rfl rfl rfl ?_) | (refine k_eql ?_; first | refine r_peqS rfl rfl rfl ?_ | refine r_peqN rfl rfl rfl ?_ | refine r_meqS rfl rfl rfl ?_ | refine r_meqN rfl rfl rfl ?_ | refine r_peq rfl rfl rfl ?_) | (refine k_neq ?_; first | refine r_pneS rfl rfl rfl ?_ | refine r_pneN rfl rfl rfl ?_ | refine r_mneS rfl rfl rfl ?_ | refine r_mneN rfl rfl rfl ?_ | refine r_pne rfl rfl rfl ?_) | (refine g_mark ?_; first | refine gg_pass rfl rfl (by with_reducible rfl) ?_ | refine gg_skipT rfl rfl (by with_reducible rfl) (blt_any rfl) ?_ | refine gg_skipF rfl rfl (by with_reducible rfl) (blt_any rfl) ?_ | refine gg_skipU rfl rfl (by with_reducible rfl) (blt_any rfl) ?_ | refine gg_splitD rfl rfl (fun _ => ?_) (fun _ => ?_) | refine gg_splitN rfl rfl (fun _ => ?_) (fun _ => ?_) | refine gg_split rfl rfl (fun _ => ?_) (fun _ => ?_)) | refine t_seq ?_ | refine t_perm rfl ?_ | refine t_permE ?_ | refine j_then ?_ | refine t_region ?_ | refine t_draw [] [] mixed (by decide +kernel) ?_ | (refine k_cond ?_; first | refine t_condT rfl (by with_reducible rfl) ?_ | refine t_condF rfl (by with_reducible rfl) ?_ | refine t_condS rfl (fun _ => ?_) (fun _ => ?_) | refine t_condSN rfl (fun _ => ?_) (fun _ => ?_) | refine t_condSB rfl (fun _ => ?_) (fun _ => ?_)) | refine t_block ?_ | refine j_in ?_ | refine t_skip ?_ | refine t_ret ?_ | refine j_then_ret ?_ | refine j_in_ret ?_ | refine t_exit ?_ | refine j_then_exit ?_ | refine j_in_exit ?_ | refine j_in_other rfl ?_ | refine t_scope ?_ | refine t_label ?_ | refine j_ng ?_ | refine j_ng_ret ?_ | refine j_ng_exit ?_)
    · omega
    · omega
    refine r_makeMap (isInt .i64) rfl rfl (fun r1 => ?_)
    refine r_makeMap (isInt .i64) rfl rfl (fun r2 => ?_)
    refine r_makeMap (isInt .i64) rfl rfl (fun r3 => ?_)
    refine r_build (cells := bcells (Bk.new t) r1 r2 r3 (.slice none 0 0)) rfl (by rfl) rfl ?_
    refine r_box (cs := bcells (Bk.new t) r1 r2 r3 (.slice none 0 0)) rfl rfl rfl rfl (fun p => ?_)
    repeat refine s1 ?_
    refine j_ent (Ent.vecNil (E := T.sl_uint8) (s := 1) _) ?_
    refine j_ent (Ent.rowsNil _) ?_
    refine j_head (mp (isInt .i64) r1 []) ?_
    refine j_ent (Ent.sideNil r1 _) ?_
    refine j_head (mp (isInt .i64) r2 []) ?_
    refine j_ent (Ent.sideNil r2 _) ?_
    refine j_head (mp (isInt .i64) r3 []) ?_
    refine j_ent (Ent.mapF (κ := Value.int .i64) (ν := Value.int .i64) (l := []) Rep.nil _) ?_
    refine j_heads [pt p (.cells (bcells (Bk.new t) r1 r2 r3 (.slice none 0 0)).toArray T.audit_Book (0, 0)), side r1 (fun _ => none), side r2 (fun _ => none), mapI r3 (fun _ => none), vec none 0 0 T.sl_uint8 1 [], rows [] []] ?_
    dsimp only [List.cons_append, List.nil_append]
    refine j_ent (Ent.book (Bk.new t)) ?_
    refine j_fin rfl (.cons (rv_tmp rfl) (.cons (rv_tmp rfl) .nil)) p (by rfl) (by trivial)
theorem heard_c (p : Nat) (B : Bk) (Φ : Base) : Sl.Fn Try.prog Φ F.audit_Book_Heard [.pointer (some ⟨p, 0, none⟩)] [book p B] (fun _ : Unit => True) (fun _ => .int .i64 B.heard) (fun _ => [book p B]) := by
  refine fn_of rfl rfl (fun F => ?_)
  dsimp only [argEnv, List.cons_append, List.nil_append, Nat.zero_add, Nat.reduceAdd]
  refine j_book (fun n k s ta tc hs => ?_)
  repeat refine s1 ?_
  refine j_shut (p := p) B (n := n) (k := k) (s := s) (ta := ta) (tc := tc) (hs := hs) ?_
  refine j_fin rfl (.cons (rv_tmp rfl) .nil) () (by rfl) (by trivial)
theorem heardN_c : Pure F.audit_Book_Heard [.pointer none] (i64 0) := by
  intro Φ
  refine fn_of rfl rfl (fun F => ?_)
  dsimp only [argEnv, List.cons_append, List.nil_append, Nat.zero_add, Nat.reduceAdd]
  repeat refine s1 ?_
  refine j_fin rfl (.cons (rv_tmp rfl) .nil) () (by rfl) (by trivial)
theorem heard0_c (p : Nat) (Φ : Base) : Sl.Fn Try.prog Φ F.audit_Book_Heard [.pointer (some ⟨p, 0, none⟩)] [blank p] (fun _ : Unit => True) (fun _ => i64 0) (fun _ => [blank p]) := by
  refine fn_of rfl rfl (fun F => ?_)
  dsimp only [argEnv, List.cons_append, List.nil_append, Nat.zero_add, Nat.reduceAdd]
  unfold blank
  repeat refine s1 ?_
  refine j_fin rfl (.cons (rv_tmp rfl) .nil) () (by rfl) (by trivial)
abbrev erow (a : Option Addr) (n cap : Nat) (xs : List Int) : Assn := isl a n cap T.api_Errno 1 (xs.map (Value.int .i64))
/-- the first place of a number; -1: none. -/
def idxM (xs : List Int) (v : Int) : Int := if v ∈ xs then ((xs.findIdx (· == v) : Nat) : Int) else -1
theorem index_c (a : Option Addr) (n cap : Nat) (xs : List Int) (v : Int) (hn : xs.length = n) (hb : n < 9223372036854775807) (Φ : Base) :
    Sl.Fn Try.prog Φ F.slices_Index_api_Errno_api_Errno [.slice a n cap, .int .i64 v] [erow a n cap xs] (fun i : Int => 0 ≤ i ↔ v ∈ xs) (fun i => .int .i64 i) (fun _ => []) := by
  refine fn_of rfl rfl (fun F => ?_)
  dsimp only [argEnv, List.cons_append, List.nil_append, Nat.zero_add, Nat.reduceAdd]
  refine j_leni (fun hl hc ha => ?_)
  repeat refine s1 ?_
  refine t_loop (σ := Nat) (fun i => [(8, i64 i), (7, i64 n), (0, .slice a n cap), (1, .int .i64 v)]) (fun _ => erow a n cap xs :: F) (fun i => i ≤ n ∧ v ∉ xs.take i) (fun i => n - i)
    0 ⟨Nat.zero_le _, by simp⟩ ⟨rfl, rfl, rfl, rfl, trivial⟩ (Ent.refl _) ?_
  rintro i ⟨hi, hni⟩
  repeat refine s1 ?_
  refine r_icmp rfl rfl rfl rfl ?_
  repeat refine s1 ?_
  refine t_condS rfl (fun h => ?_) (fun h => ?_)
  · have hlt : i < n := by omega
    obtain ⟨b, off, rfl⟩ := ha (by omega)
    have hix : i < xs.length := by omega
    have hxi : (xs.map (Value.int .i64))[i]? = some (.int .i64 xs[i]) := by simp [hix]
    repeat refine s1 ?_
    refine r_idx rfl rfl (by omega) (by omega) rfl ?_
    refine r_loadI (off := off) (n := n) (cap := cap) (E := T.api_Errno) (s := 1) (xs := xs.map (Value.int .i64)) (j := i) rfl (by simp) hxi rfl rfl ?_
    refine r_icmp rfl rfl rfl rfl ?_
    repeat refine s1 ?_
    refine t_condS rfl (fun hq => ?_) (fun hq => ?_)
    · repeat refine s1 ?_
      refine j_fin rfl (.cons (rv_tmp rfl) .nil) (i : Int) (by rfl) ⟨fun _ => by rw [hq]; exact List.getElem_mem hix, fun _ => by omega⟩
    · repeat refine s1 ?_
      have hnx : v ∉ xs.take (i + 1) := by
        rw [List.take_add_one, List.getElem?_eq_getElem hix, List.mem_append, not_or]
        exact ⟨hni, by simpa using hq⟩
      exact j_again (i + 1) ⟨by omega, hnx⟩ (by omega) ⟨rfl, rfl, rfl, rfl, trivial⟩ (Ent.refl _)
  · have : i = n := by omega
    subst this
    rw [List.take_of_length_le (by omega)] at hni
    repeat refine s1 ?_
    refine j_fin rfl (.cons (rv_tmp rfl) .nil) (-1 : Int) (by rfl) ⟨fun h => by omega, fun h => absurd h hni⟩
theorem contains_c (a : Option Addr) (n cap : Nat) (xs : List Int) (v : Int) (hn : xs.length = n) (hb : n < 9223372036854775807) (Φ : Base) :
    Sl.Fn Try.prog Φ F.slices_Contains_api_Errno_api_Errno [.slice a n cap, .int .i64 v] [erow a n cap xs] (fun _ : Unit => True) (fun _ => .bool (decide (v ∈ xs))) (fun _ => []) := by
  refine fn_of rfl rfl (fun F => ?_)
  dsimp only [argEnv, List.cons_append, List.nil_append, Nat.zero_add, Nat.reduceAdd]
  repeat refine s1 ?_
  refine r_call rfl (blt_some rfl) rfl (index_c a n cap xs v hn hb Φ) ?_
  intro i hi
  dsimp only [bnd, List.cons_append, List.nil_append]
  repeat refine s1 ?_
  refine r_icmp rfl rfl rfl rfl ?_
  repeat refine s1 ?_
  refine j_fin rfl (.cons (rv_tmp rfl) .nil) () (by simp only [pack]; rw [decide_eq_decide.2 hi]) (by trivial)
/-- a reply. -/
structure Rp where
  e : Int
  n : Int
  d : List Nat
def onlyM (r : Rp) (l : List Int) : Bool := decide (r.n = 0 ∧ r.d.length = 0 ∧ r.e ∈ l)
theorem only_c (r : Rp) (da : Option Addr) (dc : Nat) (a : Option Addr) (n cap : Nat) (xs : List Int) (hn : xs.length = n) (hb : n < 9223372036854775807) (Φ : Base) :
    Sl.Fn Try.prog Φ F.audit_only [.agg #[.int .i64 r.e, .int .i64 r.n, .slice da r.d.length dc], .slice a n cap] [erow a n cap xs] (fun _ : Unit => True) (fun _ => .bool (onlyM r xs)) (fun _ => []) := by
  refine fn_of rfl rfl (fun F => ?_)
  dsimp only [argEnv, List.cons_append, List.nil_append, Nat.zero_add, Nat.reduceAdd]
  repeat refine s1 ?_
  refine r_box (cs := [.int .i64 r.e, .int .i64 r.n, .slice da r.d.length dc]) rfl rfl rfl rfl (fun p => ?_)
  repeat' (first | refine r_nil ?_ | (refine k_move ?_; refine r_move rfl rfl ?_) | (refine k_assign ?_; refine r_assign rfl rfl ?_) | (refine k_nck ?_; first | refine r_nck rfl rfl ?_ | refine r_nckf rfl rfl ?_) | (refine k_fld ?_; first | refine r_fld0 rfl rfl ?_ | refine r_fld rfl rfl ?_) | (refine k_load ?_; first | refine r_load1L rfl rfl rfl ?_ | refine s_load1L rfl rfl rfl ?_ | refine r_load1 rfl rfl rfl rfl ?_ | refine r_loadW rfl rfl rfl rfl ?_ | refine s_loadW rfl rfl rfl rfl ?_) | (refine k_ext ?_; first | refine r_extL rfl rfl ?_ | refine r_ext rfl rfl rfl ?_) | (refine k_len ?_; refine r_lenS rfl rfl ?_) | (refine k_un ?_; first | refine r_notT rfl (by with_reducible rfl) rfl ?_ | refine r_notF rfl (by with_reducible rfl) rfl ?_ | refine r_not rfl rfl ?_) | (refine k_sl0 ?_; refine r_sliceA rfl (by decide) rfl ?_) | (refine k_conv ?_; refine r_conv rfl rfl ?_) | (refine k_pick ?_; first | refine r_pickT rfl (by with_reducible rfl) rfl rfl ?_ | refine r_pickF rfl (by with_reducible rfl) rfl rfl ?_) | (refine k_inc ?_; refine r_inc rfl (by omega) rfl ?_) | (refine k_bin ?_; first | refine r_icmpT rfl rfl rfl rfl ?_ | refine r_icmpF rfl rfl rfl rfl ?_ | refine r_icmp rfl rfl rfl rfl ?_) | (refine k_eql ?_; first | refine r_peqS rfl rfl rfl ?_ | refine r_peqN rfl rfl rfl ?_ | refine r_meqS rfl rfl rfl ?_ | refine r_meqN rfl rfl rfl ?_ | refine r_peq rfl rfl rfl ?_) | (refine k_neq ?_; first | refine r_pneS rfl rfl rfl ?_ | refine r_pneN rfl rfl rfl ?_ | refine r_mneS rfl rfl rfl ?_ | refine r_mneN rfl rfl rfl ?_ | refine r_pne rfl rfl rfl ?_) | (refine g_mark ?_; first | refine gg_pass rfl rfl (by with_reducible rfl) ?_ | refine gg_skipT rfl rfl (by with_reducible rfl) (blt_any rfl) ?_ | refine gg_skipF rfl rfl (by with_reducible rfl) (blt_any rfl) ?_ | refine gg_skipU rfl rfl (by with_reducible rfl) (blt_any rfl) ?_ | refine gg_splitD rfl rfl (fun _ => ?_) (fun _ => ?_) | refine gg_splitN rfl rfl (fun _ => ?_) (fun _ => ?_) | refine gg_split rfl rfl (fun _ => ?_) (fun _ => ?_)) | refine t_seq ?_ | refine t_perm rfl ?_ | refine t_permE ?_ | refine j_then ?_ | refine t_region ?_ | refine t_draw [] [] mixed (by decide +kernel) ?_ | (refine k_cond ?_; first | refine t_condT rfl (by with_reducible rfl) ?_ | refine t_condF rfl (by with_reducible rfl) ?_ | refine t_condS rfl (fun _ => ?_) (fun _ => ?_) | refine t_condSN rfl (fun _ => ?_) (fun _ => ?_) | refine t_condSB rfl (fun _ => ?_) (fun _ => ?_)) | refine t_block ?_ | refine j_in ?_ | refine t_skip ?_ | refine t_ret ?_ | refine j_then_ret ?_ | refine j_in_ret ?_ | refine t_exit ?_ | refine j_then_exit ?_ | refine j_in_exit ?_ | refine j_in_other rfl ?_ | refine t_scope ?_ | refine t_label ?_ | refine j_ng ?_ | refine j_ng_ret ?_ | refine j_ng_exit ?_)
  · refine r_call rfl (blt_some rfl) rfl (contains_c a n cap xs r.e hn hb Φ) ?_
    intro _ _; dsimp only [bnd, List.cons_append, List.nil_append]
    repeat refine s1 ?_
    have h0 : r.d.length = 0 := by omega
    refine j_fin rfl (.cons (rv_tmp rfl) .nil) () (by simp only [pack, onlyM]; simp [*]) (by trivial)
  · have h0 : ¬ r.d.length = 0 := by omega
    refine j_fin rfl (.cons (rv_tmp rfl) .nil) () (by simp only [pack, onlyM]; rw [decide_eq_false (fun h => h0 h.2.1)]) (by trivial)
  · refine j_fin rfl (.cons (rv_tmp rfl) .nil) () (by simp only [pack, onlyM]; rw [decide_eq_false (fun h => absurd h.1 ‹_›)]) (by trivial)
end Go.Proofs.Ytbecjgikhfplmaa
