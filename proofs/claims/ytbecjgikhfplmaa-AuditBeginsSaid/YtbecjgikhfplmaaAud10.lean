/-
  The contract of what hears a request that names a tenant. For each input.
-/
import Derived.Test.YtbecjgikhfplmaaAud9
namespace Go.Proofs.Ytbecjgikhfplmaa
open Go Sl
attribute [local irreducible] cw sw J Exit.then Exit.inBlock Exit.noGoto bodyPost swG swL permL
abbrev Bk.added (B : Bk) (K : Key32) (c : Int) : Bk := { B with inn := true, outer := K, quota := c, now := fun _ => none, kept := fun _ => none, lives := B.lives + 1 }
abbrev Bk.shred (B : Bk) : Bk := { B with inn := false, now := fun _ => none, kept := fun _ => none }
abbrev Bk.limit (B : Bk) (c : Int) : Bk := { B with quota := c }
noncomputable def adminM (B : Bk) (q : Rq) (r : Rp) : Bk × Bool :=
  if q.num 0 = 14 then (if B.inn = true then (B, onlyM r [53]) else if r.e = 0 then (B.added (q.key32 0 (by decide)) (q.num 8), onlyM r [0, 1, 61]) else (B, onlyM r [0, 1, 61]))
  else if q.num 0 = 1 then openM B q r
  else if B.inn = false then (B, onlyM r [51])
  else if q.num 0 = 16 then (B.shred, onlyM r [0])
  else if r.e = 1 then (B, onlyM r [r.e])
  else if q.num 8 < chargeM B then (B, onlyM r [60])
  else if r.e = 0 then (B.limit (q.num 8), onlyM r [0, 61]) else (B, onlyM r [0, 61])
set_option maxHeartbeats 1000000 in
theorem admin_c (p : Nat) (B : Bk) (q : Rq) (d : Value) (hd : d.oneCell' = true) (r : Rp) (da : Option Addr) (dc : Nat) (hlv : 0 ≤ B.lives ∧ B.lives ≤ 1000000) (Φ : Base) :
    Sl.Fn Try.prog Φ F.audit_Book_admin [.pointer (some ⟨p, 0, none⟩), .agg (q.cells d).toArray, .agg (rcells r da dc).toArray] [book p B] (fun _ : Unit => True) (fun _ => .bool (adminM B q r).2) (fun _ => [book p (adminM B q r).1]) := by
  refine fn_of rfl rfl (fun F => ?_)
  dsimp only [argEnv, List.cons_append, List.nil_append, Nat.zero_add, Nat.reduceAdd]
  repeat refine s1 ?_
  refine r_box (cs := q.cells d) rfl rfl rfl rfl (fun pq => ?_)
  refine r_box (cs := rcells r da dc) rfl rfl rfl rfl (fun b3 => ?_)
  repeat refine s1 ?_
  refine r_icmp rfl rfl rfl rfl ?_
  repeat refine s1 ?_
  refine t_condS rfl (fun h14 => ?_) (fun h14 => ?_)
  · repeat refine s1 ?_
    refine j_head (book p B) ?_
    refine j_book (fun n k s ta tc hs => ?_)
    repeat refine s1 ?_
    refine t_condSB rfl (fun hin => ?_) (fun hin => ?_)
    · have hM : adminM B q r = (B, onlyM r [53]) := by rw [adminM, if_pos h14, if_pos hin]
      rw [hM]
      refine j_shut (p := p) B (n := n) (k := k) (s := s) (ta := ta) (tc := tc) (hs := hs) ?_
      repeat refine s1 ?_
      refine r_build1s [.const (.int .i64 53)] ([53].map (Value.int .i64)) rfl rfl (by simp [Value.oneCell']) (by simp) rfl rfl rfl (fun be => ?_); (repeat refine s1 ?_); refine j_freezeV (some ⟨be, 0, none⟩) 1 1 T.api_Errno 1 ([53].map (Value.int .i64)) ?_; refine r_call rfl (blt_any rfl) rfl (only_c r da dc (some ⟨be, 0, none⟩) 1 1 [53] rfl (by decide) Φ) ?_; intro _ _; dsimp only [bnd, List.cons_append, List.nil_append]; (repeat refine s2 ?_)
      refine j_fin rfl (.cons (rv_tmp rfl) .nil) () (by rfl) (by trivial)
    · repeat refine s1 ?_
      refine r_icmp rfl rfl rfl rfl ?_
      repeat refine s1 ?_
      refine t_condS rfl (fun h0 => ?_) (fun h0 => ?_)
      · have hM : adminM B q r = (B.added (q.key32 0 (by decide)) (q.num 8), onlyM r [0, 1, 61]) := by rw [adminM, if_pos h14, if_neg (by rw [hin]; decide), if_pos h0]
        rw [hM]
        repeat refine s1 ?_
        refine t_draw [pt pq (.cells (q.cells d).toArray T.req_Request (0, 0))] [4, 6] mixed (by decide +kernel) ?_
        repeat refine s1 ?_
        refine s_loadA (vs := (q.key 0).map u8) rfl (by simp [q.key_len]) (q.key_at _ (by decide)) rfl rfl ?_
        repeat refine s1 ?_
        refine r_store1 rfl rfl (by simp [B.outer.2]) rfl rfl ?_
        repeat refine s1 ?_
        refine r_storeA rfl rfl (by simp [q.key_len]) (by simp [B.outer.2]) (Key32.ones (q.key32 0 (by decide))) (b_setouter (K' := q.key32 0 (by decide))) rfl ?_
        repeat refine s1 ?_
        refine r_store1 rfl rfl (by simp [(q.key32 0 (by decide)).2]) rfl rfl ?_
        repeat refine s1 ?_
        refine r_makeMap (isInt .i64) rfl rfl (fun r1 => ?_)
        refine r_makeMap (isInt .i64) rfl rfl (fun r2 => ?_)
        refine j_head (mp (isInt .i64) r1 []) ?_
        refine j_ent (Ent.sideNil r1 _) ?_
        refine j_head (mp (isInt .i64) r2 []) ?_
        refine j_ent (Ent.sideNil r2 _) ?_
        repeat refine s1 ?_
        refine r_store1 rfl rfl (by simp [(q.key32 0 (by decide)).2]) rfl rfl ?_
        repeat refine s1 ?_
        refine r_store1 rfl rfl (by simp [(q.key32 0 (by decide)).2]) rfl rfl ?_
        repeat refine s1 ?_
        refine r_addI rfl rfl (by omega) rfl ?_
        repeat refine s1 ?_
        refine r_store1 rfl rfl (by simp [(q.key32 0 (by decide)).2]) rfl rfl ?_
        repeat refine s1 ?_
        refine j_shut (p := p) (B.added (q.key32 0 (by decide)) (q.num 8)) (n := r1) (k := r2) (s := s) (ta := ta) (tc := tc) (hs := hs) ?_
        refine r_build1s [.const (.int .i64 0), .const (.int .i64 1), .const (.int .i64 61)] ([0, 1, 61].map (Value.int .i64)) rfl rfl (by simp [Value.oneCell']) (by simp) rfl rfl rfl (fun be => ?_); (repeat refine s1 ?_); refine j_freezeV (some ⟨be, 0, none⟩) 3 3 T.api_Errno 1 ([0, 1, 61].map (Value.int .i64)) ?_; refine r_call rfl (blt_any rfl) rfl (only_c r da dc (some ⟨be, 0, none⟩) 3 3 [0, 1, 61] rfl (by decide) Φ) ?_; intro _ _; dsimp only [bnd, List.cons_append, List.nil_append]; (repeat refine s2 ?_)
        refine j_fin rfl (.cons (rv_tmp rfl) .nil) () (by rfl) (by trivial)
      · have hM : adminM B q r = (B, onlyM r [0, 1, 61]) := by rw [adminM, if_pos h14, if_neg (by rw [hin]; decide), if_neg h0]
        rw [hM]
        refine j_shut (p := p) B (n := n) (k := k) (s := s) (ta := ta) (tc := tc) (hs := hs) ?_
        repeat refine s1 ?_
        refine r_build1s [.const (.int .i64 0), .const (.int .i64 1), .const (.int .i64 61)] ([0, 1, 61].map (Value.int .i64)) rfl rfl (by simp [Value.oneCell']) (by simp) rfl rfl rfl (fun be => ?_); (repeat refine s1 ?_); refine j_freezeV (some ⟨be, 0, none⟩) 3 3 T.api_Errno 1 ([0, 1, 61].map (Value.int .i64)) ?_; refine r_call rfl (blt_any rfl) rfl (only_c r da dc (some ⟨be, 0, none⟩) 3 3 [0, 1, 61] rfl (by decide) Φ) ?_; intro _ _; dsimp only [bnd, List.cons_append, List.nil_append]; (repeat refine s2 ?_)
        refine j_fin rfl (.cons (rv_tmp rfl) .nil) () (by rfl) (by trivial)
  repeat refine s1 ?_
  refine r_icmp rfl rfl rfl rfl ?_
  repeat refine s1 ?_
  refine t_condS rfl (fun h1 => ?_) (fun h1 => ?_)
  · have hM : adminM B q r = openM B q r := by rw [adminM, if_neg h14, if_pos h1]
    rw [hM]
    repeat refine s1 ?_
    refine r_loadW rfl (q.len _) rfl rfl ?_
    repeat refine s1 ?_
    refine r_call rfl (blt_some rfl) rfl (open_c p B q d r da dc Φ) ?_
    intro _ _; dsimp only [bnd, List.cons_append, List.nil_append]
    repeat refine s1 ?_
    refine j_fin rfl (.cons (rv_tmp rfl) .nil) () (by rfl) (by trivial)
  repeat refine s1 ?_
  refine j_head (book p B) ?_
  refine j_book (fun n k s ta tc hs => ?_)
  repeat refine s1 ?_
  refine t_condSB rfl (fun hin => ?_) (fun hin => ?_)
  · have hin : B.inn = false := by simpa using hin
    have hM : adminM B q r = (B, onlyM r [51]) := by rw [adminM, if_neg h14, if_neg h1, if_pos hin]
    rw [hM]
    refine j_shut (p := p) B (n := n) (k := k) (s := s) (ta := ta) (tc := tc) (hs := hs) ?_
    repeat refine s1 ?_
    refine r_build1s [.const (.int .i64 51)] ([51].map (Value.int .i64)) rfl rfl (by simp [Value.oneCell']) (by simp) rfl rfl rfl (fun be => ?_); (repeat refine s1 ?_); refine j_freezeV (some ⟨be, 0, none⟩) 1 1 T.api_Errno 1 ([51].map (Value.int .i64)) ?_; refine r_call rfl (blt_any rfl) rfl (only_c r da dc (some ⟨be, 0, none⟩) 1 1 [51] rfl (by decide) Φ) ?_; intro _ _; dsimp only [bnd, List.cons_append, List.nil_append]; (repeat refine s2 ?_)
    refine j_fin rfl (.cons (rv_tmp rfl) .nil) () (by rfl) (by trivial)
  have hin : ¬ B.inn = false := by have : B.inn = true := by simpa using hin
                                   rw [this]; decide
  repeat refine s1 ?_
  refine r_icmp rfl rfl rfl rfl ?_
  repeat refine s1 ?_
  refine t_condS rfl (fun h16 => ?_) (fun h16 => ?_)
  · have hM : adminM B q r = (B.shred, onlyM r [0]) := by rw [adminM, if_neg h14, if_neg h1, if_neg hin, if_pos h16]
    rw [hM]
    repeat refine s1 ?_
    refine r_store1 rfl rfl (by simp [B.outer.2]) rfl rfl ?_
    repeat refine s1 ?_
    refine r_makeMap (isInt .i64) rfl rfl (fun r1 => ?_)
    refine r_makeMap (isInt .i64) rfl rfl (fun r2 => ?_)
    refine j_head (mp (isInt .i64) r1 []) ?_
    refine j_ent (Ent.sideNil r1 _) ?_
    refine j_head (mp (isInt .i64) r2 []) ?_
    refine j_ent (Ent.sideNil r2 _) ?_
    repeat refine s1 ?_
    refine r_store1 rfl rfl (by simp [B.outer.2]) rfl rfl ?_
    repeat refine s1 ?_
    refine r_store1 rfl rfl (by simp [B.outer.2]) rfl rfl ?_
    repeat refine s1 ?_
    refine j_shut (p := p) B.shred (n := r1) (k := r2) (s := s) (ta := ta) (tc := tc) (hs := hs) ?_
    refine r_build1s [.const (.int .i64 0)] ([0].map (Value.int .i64)) rfl rfl (by simp [Value.oneCell']) (by simp) rfl rfl rfl (fun be => ?_); (repeat refine s1 ?_); refine j_freezeV (some ⟨be, 0, none⟩) 1 1 T.api_Errno 1 ([0].map (Value.int .i64)) ?_; refine r_call rfl (blt_any rfl) rfl (only_c r da dc (some ⟨be, 0, none⟩) 1 1 [0] rfl (by decide) Φ) ?_; intro _ _; dsimp only [bnd, List.cons_append, List.nil_append]; (repeat refine s2 ?_)
    refine j_fin rfl (.cons (rv_tmp rfl) .nil) () (by rfl) (by trivial)
  refine j_shut (p := p) B (n := n) (k := k) (s := s) (ta := ta) (tc := tc) (hs := hs) ?_
  repeat refine s1 ?_
  refine r_icmp rfl rfl rfl rfl ?_
  repeat refine s1 ?_
  refine t_condS rfl (fun he1 => ?_) (fun he1 => ?_)
  · have hM : adminM B q r = (B, onlyM r [r.e]) := by rw [adminM, if_neg h14, if_neg h1, if_neg hin, if_neg h16, if_pos he1]
    rw [hM]
    repeat refine s1 ?_
    refine r_build1s [.tmp 88] ([r.e].map (Value.int .i64)) rfl rfl (by simp [Value.oneCell']) (by simp) rfl rfl rfl (fun be => ?_); (repeat refine s1 ?_); refine j_freezeV (some ⟨be, 0, none⟩) 1 1 T.api_Errno 1 ([r.e].map (Value.int .i64)) ?_; refine r_call rfl (blt_any rfl) rfl (only_c r da dc (some ⟨be, 0, none⟩) 1 1 [r.e] rfl (by decide) Φ) ?_; intro _ _; dsimp only [bnd, List.cons_append, List.nil_append]; (repeat refine s2 ?_)
    refine j_fin rfl (.cons (rv_tmp rfl) .nil) () (by rfl) (by trivial)
  repeat refine s1 ?_
  refine t_draw [pt pq (.cells (q.cells d).toArray T.req_Request (0, 0))] [3] mixed (by decide +kernel) ?_
  repeat refine s1 ?_
  refine r_call rfl (blt_some rfl) rfl (charge_c p B Φ) ?_
  intro _ _; dsimp only [bnd, List.cons_append, List.nil_append]
  repeat refine s1 ?_
  refine r_icmp rfl rfl rfl rfl ?_
  repeat refine s1 ?_
  refine t_condS rfl (fun hch => ?_) (fun hch => ?_)
  · have hM : adminM B q r = (B, onlyM r [60]) := by rw [adminM, if_neg h14, if_neg h1, if_neg hin, if_neg h16, if_neg he1, if_pos hch]
    rw [hM]
    repeat refine s1 ?_
    refine r_build1s [.const (.int .i64 60)] ([60].map (Value.int .i64)) rfl rfl (by simp [Value.oneCell']) (by simp) rfl rfl rfl (fun be => ?_); (repeat refine s1 ?_); refine j_freezeV (some ⟨be, 0, none⟩) 1 1 T.api_Errno 1 ([60].map (Value.int .i64)) ?_; refine r_call rfl (blt_any rfl) rfl (only_c r da dc (some ⟨be, 0, none⟩) 1 1 [60] rfl (by decide) Φ) ?_; intro _ _; dsimp only [bnd, List.cons_append, List.nil_append]; (repeat refine s2 ?_)
    refine j_fin rfl (.cons (rv_tmp rfl) .nil) () (by rfl) (by trivial)
  repeat refine s1 ?_
  refine r_icmp rfl rfl rfl rfl ?_
  repeat refine s1 ?_
  refine t_condS rfl (fun h0 => ?_) (fun h0 => ?_)
  · have hM : adminM B q r = (B.limit (q.num 8), onlyM r [0, 61]) := by rw [adminM, if_neg h14, if_neg h1, if_neg hin, if_neg h16, if_neg he1, if_neg hch, if_pos h0]
    rw [hM]
    repeat refine s1 ?_
    refine j_head (book p B) ?_
    refine j_book (fun n k s ta tc hs => ?_)
    refine r_store1 rfl rfl (by simp [B.outer.2]) rfl rfl ?_
    repeat refine s1 ?_
    refine j_shut (p := p) (B.limit (q.num 8)) (n := n) (k := k) (s := s) (ta := ta) (tc := tc) (hs := hs) ?_
    refine r_build1s [.const (.int .i64 0), .const (.int .i64 61)] ([0, 61].map (Value.int .i64)) rfl rfl (by simp [Value.oneCell']) (by simp) rfl rfl rfl (fun be => ?_); (repeat refine s1 ?_); refine j_freezeV (some ⟨be, 0, none⟩) 2 2 T.api_Errno 1 ([0, 61].map (Value.int .i64)) ?_; refine r_call rfl (blt_any rfl) rfl (only_c r da dc (some ⟨be, 0, none⟩) 2 2 [0, 61] rfl (by decide) Φ) ?_; intro _ _; dsimp only [bnd, List.cons_append, List.nil_append]; (repeat refine s2 ?_)
    refine j_fin rfl (.cons (rv_tmp rfl) .nil) () (by rfl) (by trivial)
  · have hM : adminM B q r = (B, onlyM r [0, 61]) := by rw [adminM, if_neg h14, if_neg h1, if_neg hin, if_neg h16, if_neg he1, if_neg hch, if_neg h0]
    rw [hM]
    repeat refine s1 ?_
    refine r_build1s [.const (.int .i64 0), .const (.int .i64 61)] ([0, 61].map (Value.int .i64)) rfl rfl (by simp [Value.oneCell']) (by simp) rfl rfl rfl (fun be => ?_); (repeat refine s1 ?_); refine j_freezeV (some ⟨be, 0, none⟩) 2 2 T.api_Errno 1 ([0, 61].map (Value.int .i64)) ?_; refine r_call rfl (blt_any rfl) rfl (only_c r da dc (some ⟨be, 0, none⟩) 2 2 [0, 61] rfl (by decide) Φ) ?_; intro _ _; dsimp only [bnd, List.cons_append, List.nil_append]; (repeat refine s2 ?_)
    refine j_fin rfl (.cons (rv_tmp rfl) .nil) () (by rfl) (by trivial)
end Go.Proofs.Ytbecjgikhfplmaa
