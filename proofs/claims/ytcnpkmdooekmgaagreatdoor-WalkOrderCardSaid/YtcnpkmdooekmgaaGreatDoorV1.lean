/-
  Part 1 of what a proof of this claim uses: rules, contracts and plain laws. No condition.
-/
import Derived.OrdersIn
import Derived.RangeFuncRecord
import Derived.WalkKit
namespace Go.Proofs.YtcnpkmdooekmgaaGreatDoor.Sl
inductive Cls where
  | light | read | write
  deriving DecidableEq

/-- the class of an operation: light: its value hangs on its operands alone; read: it leaves the world; write: the rest. -/
def clsOp : Op → Cls
  | .move _ | .assign _ | .pick .. | .binOp .. | .unOp .. | .fieldAddr .. | .field .. | .indexAddr .. | .index .. | .extract .. | .nilCheck _ | .slice .. | .build .. | .makeInterface .. | .makeFunc .. => .light
  | .load .. | .lookup .. => .read
  | .call { callee := .builtin .len, .. } => .read
  | _ => .write

/-- 'S': operations whose value is one in each world of the class C: light, too. -/
def cls (S : List Nat) (i : Nat) (o : Oper) : Cls := if S.contains i then .light else clsOp o.op

/-- the last operation of a region, behind all others: it may turn what the class C holds fixed. -/
def exm (S : List Nat) (i : Nat) : Bool := S.contains (i + 1000000)

/-- a frame's fence: any, within a round or not. -/
def fen : Option Nat → Fence
  | none => Fence.wide
  | some l => Fence.wide.inRound l
theorem fen_fn : ∀ (ro : Option Nat) (f : FuncId), (fen ro).fn f
  | none, _ => trivial
  | some _, _ => trivial
theorem fen_depth : ∀ (ro : Option Nat), (fen ro).depth = none
  | none => rfl
  | some _ => rfl
theorem fen_calls {P : Program} {f : FuncId} {args : Array Value} {w : World} {R : Ending → World → Prop} {n : Nat} : ∀ (ro : Option Nat), Calls P f args w R → CallsIn (fen ro) n P f args w R
  | none, h => callsIn_wide.2 h
  | some _, h => (callsIn_wide.2 h : CallsIn Fence.wide n P f args w R)
theorem fen_rounds {P : Program} {l : Nat} {f : FuncId} {tmps : Array Value} {x y : Code} {w : World} {R : Ending → World → Prop} : ∀ (ro : Option Nat), RoundIn Fence.wide 0 P l f tmps x y w R → RoundIn (fen ro) (0 - 1) P l f tmps x y w R
  | none, h => h
  | some _, h => h
/-- the strict outcome of one operation: no panic, nothing but a value. -/
def upS (P : Program) (K : Value → World → Prop) : Result Next → Prop
  | .ok (.value v) w => K v w
  | .ok .skip w => K undef w
  | .ok (.enter f args) w => Calls P f args w fun e w' => ∃ v, e = .returned v ∧ K v w'
  | .ok (.round l f tmps x y) w => RoundIn Fence.wide 0 P l f tmps x y w fun e w' => ∃ v, e = .returned v ∧ K v w'
  | _ => False

theorem upS_mono {P : Program} {K K' : Value → World → Prop} (h : ∀ v w, K v w → K' v w) {r : Result Next} (hr : upS P K r) : upS P K' r := by
  cases r with
  | ok n w =>
    cases n <;> simp only [upS] at hr ⊢
    case value v => exact h _ _ hr
    case skip => exact h _ _ hr
    case enter f args => exact hr.mono fun e w' ⟨v, he, hk⟩ => ⟨v, he, h _ _ hk⟩
    case round => exact hr.mono fun e w' ⟨v, he, hk⟩ => ⟨v, he, h _ _ hk⟩
  | halt x w => exact hr

/-- something comes of it. -/
theorem upS_some {P : Program} {K : Value → World → Prop} {r : Result Next} (hr : upS P K r) : ∃ v w, K v w := by
  cases r with
  | ok n w =>
    cases n <;> simp only [upS] at hr
    case value v => exact ⟨_, _, hr⟩
    case skip => exact ⟨_, _, hr⟩
    case enter f args =>
      obtain ⟨e, w', _, ⟨v, _, hk⟩, _⟩ := hr []
      exact ⟨v, w', hk⟩
    case round =>
      obtain ⟨e, w', ⟨v, _, hk⟩, _⟩ := hr.2 default [] (room_wide _)
      exact ⟨v, w', hk⟩
  | halt x w => exact hr.elim

section
variable (P : Program) (C : World → Prop) (S : List Nat) (ops : Array Oper)
def swOp (i : Nat) (o : Oper) (K : Act → World → Prop) (a : Act) (w : World) : Prop :=
  if Region.wanted o (yielded ops a.tmps) then
    match cls S i o with
    | .light => ∃ v, (∀ w', C w' → (execOp a.eval o).run P w' = .ok (.value v) w') ∧ K (a.put o.dst v) w
    | .read => ∃ v, (execOp a.eval o).run P w = .ok (.value v) w ∧ K (a.put o.dst v) w
    | .write => upS P (fun v w' => (exm S i = true ∨ C w') ∧ K (a.put o.dst v) w') ((execOp a.eval o).run P w)
  else K (a.put o.dst undef) w

/-- operations by their numbers. -/
def swL (Q : Act → World → Prop) : List (Nat × Oper) → Act → World → Prop
  | [], a, w => Q a w
  | (i, o) :: l, a, w => swOp P C S ops i o (swL Q l) a w

/-- operations from number k on. -/
def sw (Q : Act → World → Prop) : Nat → List Oper → Act → World → Prop
  | _, [], a, w => Q a w
  | k, o :: l, a, w => swOp P C S ops k o (sw Q (k + 1) l) a w

def num : Nat → List Oper → List (Nat × Oper)
  | _, [] => []
  | k, o :: l => (k, o) :: num (k + 1) l
end
section
variable {P : Program} {C : World → Prop} {S : List Nat} {ops : Array Oper}
theorem sw_num {Q : Act → World → Prop} : ∀ (l : List Oper) (k : Nat), sw P C S ops Q k l = swL P C S ops Q (num k l)
  | [], _ => rfl
  | o :: l, k => by funext a w; simp only [sw, num, swL, sw_num l (k + 1)]

theorem swOp_mono {i : Nat} {o : Oper} {K K' : Act → World → Prop} {a : Act} {w : World} (hC : C w) (h : ∀ a w, (exm S i = true ∨ C w) → K a w → K' a w)
    (hh : swOp P C S ops i o K a w) : swOp P C S ops i o K' a w := by
  unfold swOp at *
  split
  · rename_i hw
    rw [if_pos hw] at hh
    cases hc : cls S i o <;> simp only [hc] at hh ⊢
    · obtain ⟨v, h1, h2⟩ := hh; exact ⟨v, h1, h _ _ (.inr hC) h2⟩
    · obtain ⟨v, h1, h2⟩ := hh; exact ⟨v, h1, h _ _ (.inr hC) h2⟩
    · exact upS_mono (fun v w' hk => ⟨hk.1, h _ _ hk.1 hk.2⟩) hh
  · rename_i hw
    rw [if_neg hw] at hh
    exact h _ _ (.inr hC) hh

/-- from the strict outcome to the machine's. -/
theorem wp_of_upS {ro : Option Nat} {o : Oper} {a : Act} {K : Act → World → Prop} {Q : Exit → Act → World → Prop} {r : Result Next}
    (h : upS P (fun v w' => K (a.put o.dst v) w') r) : o.uponIn (fen ro) 0 P a K Q r := by
  cases r with
  | ok n w' =>
    cases n <;> simp only [upS] at h
    case value v => exact h
    case skip => exact h
    case enter f args =>
      rw [Oper.uponIn_enter]
      refine ⟨fun hd => (by rw [fen_depth] at hd; cases hd), (fen_calls ro h).mono fun e w'' ⟨v, he, hk⟩ => ?_⟩
      subst he; exact hk
    case round =>
      rw [Oper.uponIn_round]
      refine ⟨fun hd => (by rw [fen_depth] at hd; cases hd), (fen_rounds ro h).mono fun e w'' ⟨v, he, hk⟩ => ?_⟩
      subst he; exact hk
  | halt x w' => exact h.elim
theorem not_defer {o : Oper} {ρ : Operand → Value} {w : World} {K : Value → World → Prop} (h : upS P K ((execOp ρ o).run P w)) : ∀ c, o.op ≠ .defer c := fun c hc => by
  unfold execOp at h
  rw [hc] at h
  simp only [Sem.run_bind] at h
  cases hr : (resolve ρ c o.type).run P w with
  | ok d w' => rw [hr] at h; exact h
  | halt x w' => rw [hr] at h; exact h
theorem semAt_of {ro : Option Nat} {o : Oper} {ρ : Operand → Value} {w : World} {K : Value → World → Prop} (h : upS P K ((execOp ρ o).run P w)) : o.semAt (fen ro).round ρ = execOp ρ o :=
  Oper.semAt_eq _ _ _ (not_defer h)
theorem wpOp_of_swOp (ro : Option Nat) {i : Nat} {o : Oper} {K : Act → World → Prop} {Q : Exit → Act → World → Prop} {a : Act} {w : World} (hi : ops[i]? = some o)
    (hC : C w) (h : swOp P C S ops i o K a w) : wpOpIn (fen ro) 0 P ops Q i (fun a w => (exm S i = true ∨ C w) ∧ K a w) a w := by
  unfold swOp at h
  unfold wpOpIn
  simp only [hi]
  split
  · rename_i hw
    rw [if_pos hw] at h
    refine ⟨fun f _ => fen_fn ro f, ?_⟩
    have key : upS P (fun v w' => (exm S i = true ∨ C w') ∧ K (a.put o.dst v) w') ((execOp a.eval o).run P w) := by
      cases hc : cls S i o <;> simp only [hc] at h
      · obtain ⟨v, h1, h2⟩ := h; rw [h1 w hC]; exact ⟨.inr hC, h2⟩
      · obtain ⟨v, h1, h2⟩ := h; rw [h1]; exact ⟨.inr hC, h2⟩
      · exact h
    rw [semAt_of key]
    exact wp_of_upS key
  · rename_i hw
    rw [if_neg hw] at h
    exact ⟨fun f _ => fen_fn ro f, .inr hC, h⟩

/-- a region that does not draw. -/
theorem wpOps_of_sw (ro : Option Nat) {Q : Exit → Act → World → Prop} (hx : ∀ i, exm S i = false) : ∀ (l : List Oper) (k : Nat) (_ : ∀ j, l[j]? = ops[k + j]?) (a : Act) (w : World), C w →
    sw P C S ops (fun a w => Q .normal a w) k l a w → wpOpsIn (fen ro) 0 P ops Q (List.range' k l.length) a w
  | [], _, _, _, _, _, h => h
  | o :: l, k, hl, a, w, hC, h => by
    have h0 : ops[k]? = some o := by simpa using (hl 0).symm
    have hl' : ∀ j, l[j]? = ops[k + 1 + j]? := fun j => by have := hl (j + 1); simpa [Nat.add_assoc, Nat.add_comm 1 j] using this
    rw [List.length_cons, List.range'_succ, wpOpsIn_cons]
    exact wpOpIn_mono (fun a w ⟨hC', hk⟩ => wpOps_of_sw ro hx l (k + 1) hl' a w (hC'.resolve_left (by rw [hx]; simp)) hk) (wpOp_of_swOp ro h0 hC h)

theorem wp_region_sw (ro : Option Nat) {id : Nat} {Q : Exit → Act → World → Prop} {a : Act} {w : World} (hx : ∀ i, exm S i = false) (hC : C w)
    (h : sw P C S ops (fun a w => Q .normal a w) 0 ops.toList a w) : (Code.region id ops false).wpIn (fen ro) 0 P Q a w :=
  wpIn_region (by
    have := wpOps_of_sw (ops := ops) (Q := Q) ro hx ops.toList 0 (by simp) a w hC h
    rwa [Array.length_toList, ← List.range_eq_range'] at this)
end
end Go.Proofs.YtcnpkmdooekmgaaGreatDoor.Sl
namespace Go.Proofs.YtcnpkmdooekmgaaGreatDoor.Sl
section
variable {ro : Option Nat} {P : Program} {C : World → Prop} {S : List Nat} {ops : Array Oper}
/-- what a passive operation yields. -/
def Y (P : Program) (C : World → Prop) (S : List Nat) (ops : Array Oper) (i : Nat) (o : Oper) (a : Act) (w : World) (v : Value) : Prop :=
  (Region.wanted o (yielded ops a.tmps) = true ∧ match cls S i o with
    | .light => ∀ w', C w' → (execOp a.eval o).run P w' = .ok (.value v) w'
    | .read => (execOp a.eval o).run P w = .ok (.value v) w
    | .write => False) ∨
  (Region.wanted o (yielded ops a.tmps) = false ∧ v = undef)

theorem swOp_Y {i : Nat} {o : Oper} {K : Act → World → Prop} {a : Act} {w : World} (hn : cls S i o ≠ .write ∨ Region.wanted o (yielded ops a.tmps) = false) :
    swOp P C S ops i o K a w ↔ ∃ v, Y P C S ops i o a w v ∧ K (a.put o.dst v) w := by
  unfold swOp Y
  cases hw : Region.wanted o (yielded ops a.tmps)
  · simp
  · cases hc : cls S i o
    · simp
    · simp
    · simp [hc, hw] at hn

theorem Y_same {i : Nat} {o : Oper} {a a' : Act} {w : World} {v : Value} (he : execOp a'.eval o = execOp a.eval o)
    (hw : Region.wanted o (yielded ops a'.tmps) = Region.wanted o (yielded ops a.tmps)) (h : Y P C S ops i o a w v) : Y P C S ops i o a' w v := by
  unfold Y at *
  rw [he, hw]
  exact h

def compat : Cls → Cls → Bool
  | .light, _ | _, .light => true
  | .read, .read => true
  | _, _ => false

theorem swap {i j : Nat} {oi oj : Oper} (hap : oi.apart ops oj = true) (hsi : ∀ cs b, oi.op ≠ .select cs b) (hsj : ∀ cs b, oj.op ≠ .select cs b)
    (hcp : compat (cls S i oi) (cls S j oj) = true) (hxi : exm S i = false) (hxj : exm S j = false) {K : Act → World → Prop} {a : Act} {w : World}
    (h : swOp P C S ops i oi (swOp P C S ops j oj K) a w) : swOp P C S ops j oj (swOp P C S ops i oi K) a w := by
  obtain ⟨h1, h2, h3⟩ := Oper.apart_spec hap
  have ej : ∀ (a : Act) v, execOp (a.put oi.dst v).eval oj = execOp a.eval oj := fun a v => execOp_put oj hsj a oi.dst v h1
  have wj : ∀ (a : Act) v, Region.wanted oj (yielded ops (a.put oi.dst v).tmps) = Region.wanted oj (yielded ops a.tmps) := fun a v => wanted_put oj a oi.dst v h1
  have ei : ∀ (a : Act) v, execOp (a.put oj.dst v).eval oi = execOp a.eval oi := fun a v => execOp_put oi hsi a oj.dst v h3
  have wi : ∀ (a : Act) v, Region.wanted oi (yielded ops (a.put oj.dst v).tmps) = Region.wanted oi (yielded ops a.tmps) := fun a v => wanted_put oi a oj.dst v h3
  have pc : ∀ (a : Act) v u, (a.put oj.dst u).put oi.dst v = (a.put oi.dst v).put oj.dst u := fun a v u => (Act.put_comm a v u h2).symm
  by_cases pi : cls S i oi ≠ .write ∨ Region.wanted oi (yielded ops a.tmps) = false
  · rw [swOp_Y pi] at h
    obtain ⟨v, hy, h⟩ := h
    by_cases pj : cls S j oj ≠ .write ∨ Region.wanted oj (yielded ops a.tmps) = false
    · rw [swOp_Y (by rw [wj]; exact pj)] at h
      obtain ⟨u, hu, h⟩ := h
      rw [swOp_Y pj]
      refine ⟨u, Y_same (ej a v).symm (wj a v).symm hu, ?_⟩
      rw [swOp_Y (by rw [wi]; exact pi)]
      exact ⟨v, Y_same (ei a u) (wi a u) hy, by rw [pc]; exact h⟩
    · have hjw : cls S j oj = .write := by
        rcases hd : cls S j oj with _ | _ | _ <;> simp [hd] at pj ⊢
      have hjn : Region.wanted oj (yielded ops a.tmps) = true := by
        cases hd : Region.wanted oj (yielded ops a.tmps) <;> simp [hd] at pj ⊢
      unfold swOp at h ⊢
      rw [wj, hjn] at h
      rw [hjn]
      simp only [if_true, hjw] at h ⊢
      rw [ej] at h
      refine upS_mono (fun u w' ⟨hC', hk⟩ => ⟨hC', ?_⟩) h
      replace hC' := hC'.resolve_left (by rw [hxj]; simp)
      have hli : cls S i oi = .light ∨ Region.wanted oi (yielded ops a.tmps) = false := by
        rcases hd : cls S i oi with _ | _ | _
        · exact .inl rfl
        · rw [hjw, hd] at hcp; cases hcp
        · exact pi.imp (fun h => absurd hd h) id
      have hy' : Y P C S ops i oi a w' v := by
        unfold Y at hy ⊢
        rcases hy with ⟨hw, hy⟩ | hy
        · rcases hli with hli | hli
          · simp only [hli] at hy ⊢; exact .inl ⟨hw, hy⟩
          · rw [hli] at hw; cases hw
        · exact .inr hy
      exact (swOp_Y (by rw [wi]; exact pi)).2 ⟨v, Y_same (ei a u) (wi a u) hy', by rw [pc]; exact hk⟩
  · have hiw : cls S i oi = .write := by
      rcases hd : cls S i oi with _ | _ | _ <;> simp [hd] at pi ⊢
    have hin : Region.wanted oi (yielded ops a.tmps) = true := by
      cases hd : Region.wanted oi (yielded ops a.tmps) <;> simp [hd] at pi ⊢
    have hjl : cls S j oj = .light := by
      rcases hd : cls S j oj with _ | _ | _
      · rfl
      · rw [hiw, hd] at hcp; cases hcp
      · rw [hiw, hd] at hcp; cases hcp
    have pj : ∀ a' : Act, cls S j oj ≠ .write ∨ Region.wanted oj (yielded ops a'.tmps) = false := fun _ => .inl (by rw [hjl]; simp)
    unfold swOp at h
    simp only [hin, if_true, hiw] at h
    obtain ⟨v0, w0, hC0, hs0⟩ := upS_some h
    replace hC0 := hC0.resolve_left (by rw [hxi]; simp)
    have hs0' : swOp P C S ops j oj K (a.put oi.dst v0) w0 := hs0
    rw [swOp_Y (pj _)] at hs0'
    obtain ⟨u0, hu0, _⟩ := hs0'
    have hu1 := Y_same (ej a v0).symm (wj a v0).symm hu0
    have anyw : ∀ w1 w2, Y P C S ops j oj a w1 u0 → Y P C S ops j oj a w2 u0 := fun w1 w2 hy => by
      unfold Y at hy ⊢
      simp only [hjl] at hy ⊢
      exact hy
    rw [swOp_Y (pj a)]
    refine ⟨u0, anyw _ _ hu1, ?_⟩
    unfold swOp
    rw [wi, hin]
    simp only [if_true, hiw]
    rw [ei]
    refine upS_mono (fun v w' ⟨hC', hk⟩ => ⟨hC', ?_⟩) h
    replace hC' := hC'.resolve_left (by rw [hxi]; simp)
    have hk' : swOp P C S ops j oj K (a.put oi.dst v) w' := hk
    rw [swOp_Y (pj _)] at hk'
    obtain ⟨u, hu, hk'⟩ := hk'
    have hu2 := Y_same (ej a v).symm (wj a v).symm hu
    have hu3 := anyw w w' (anyw w0 w hu1)
    have : u = u0 := by
      unfold Y at hu2 hu3
      simp only [hjl] at hu2 hu3
      rcases hu2 with ⟨hw, hu2⟩ | ⟨hw, rfl⟩
      · rcases hu3 with ⟨_, hu3⟩ | ⟨hw', _⟩
        · have e1 := hu2 w' hC'
          rw [hu3 w' hC'] at e1
          simpa using e1.symm
        · rw [hw] at hw'; cases hw'
      · rcases hu3 with ⟨hw', _⟩ | ⟨_, e⟩
        · rw [hw] at hw'; cases hw'
        · exact e.symm
    subst this
    rw [pc]; exact hk'

theorem front {j : Nat} {oj : Oper} {Q : Act → World → Prop} {post : List (Nat × Oper)} (hsj : ∀ cs b, oj.op ≠ .select cs b) (hxj : exm S j = false) :
    ∀ (pre : List (Nat × Oper)), (∀ p ∈ pre, p.2.apart ops oj = true ∧ (∀ cs b, p.2.op ≠ .select cs b) ∧ compat (cls S p.1 p.2) (cls S j oj) = true ∧ exm S p.1 = false) →
    ∀ {a : Act} {w : World}, C w → swL P C S ops Q (pre ++ (j, oj) :: post) a w → swOp P C S ops j oj (swL P C S ops Q (pre ++ post)) a w
  | [], _, _, _, _, h => h
  | (i, oi) :: pre, hp, a, w, hC, h => by
    have h0 := hp (i, oi) (by simp)
    have h1 : swOp P C S ops i oi (swOp P C S ops j oj (swL P C S ops Q (pre ++ post))) a w :=
      swOp_mono hC (fun a w hC' hk => front hsj hxj pre (fun p hm => hp p (List.mem_cons_of_mem _ hm)) (hC'.resolve_left (by rw [h0.2.2.2]; simp)) hk) h
    exact swap h0.1 h0.2.1 hsj h0.2.2.1 h0.2.2.2 hxj h1

/- the static check -/
def orMask (acc : Array Nat) (s : Nat) (e : Edge) : Nat := if Region.binds .any e then s ||| 2 ^ e.on ||| acc.getD e.on 0 else s

theorem orMask_fold (acc : Array Nat) : ∀ (l : List Edge) (s i : Nat), (l.foldl (orMask acc) s).testBit i = true →
    s.testBit i = true ∨ ∃ e ∈ l, Region.binds .any e = true ∧ (i = e.on ∨ (acc.getD e.on 0).testBit i = true)
  | [], s, i, h => .inl h
  | e :: l, s, i, h => by
    rcases orMask_fold acc l (orMask acc s e) i h with h1 | ⟨e', he, hb, hd⟩
    · unfold orMask at h1
      split at h1
      · rename_i hb
        rw [Nat.testBit_or, Nat.testBit_or, Bool.or_eq_true, Bool.or_eq_true] at h1
        rcases h1 with (h1 | h1) | h1
        · exact .inl h1
        · rw [Nat.testBit_two_pow] at h1
          exact .inr ⟨e, by simp, hb, .inl (of_decide_eq_true h1).symm⟩
        · exact .inr ⟨e, by simp, hb, .inr h1⟩
      · exact .inl h1
    · exact .inr ⟨e', by simp [he], hb, hd⟩

theorem before_eq (ops : Array Oper) : Region.before ops = ops.toList.foldl (fun acc o => acc.push (o.after.toList.foldl (orMask acc) 0)) #[] := by
  unfold Region.before
  rw [← Array.foldl_toList]
  congr 1
  funext acc o
  rw [← Array.foldl_toList]
  rfl

theorem masks_spec (l : List Oper) : ∀ (g : Array Nat), g = l.foldl (fun acc o => acc.push (o.after.toList.foldl (orMask acc) 0)) #[] →
    g.size = l.length ∧ ∀ j o, l[j]? = some o → ∀ i, (g.getD j 0).testBit i = true →
      ∃ e ∈ o.after, Region.binds .any e = true ∧ (i = e.on ∨ (e.on < j ∧ (g.getD e.on 0).testBit i = true)) := by
  induction hn : l.length generalizing l with
  | zero =>
    intro g hg
    have : l = [] := List.length_eq_zero_iff.1 hn
    subst this
    subst hg
    exact ⟨rfl, fun j o h => by simp at h⟩
  | succ n ih =>
    intro g hg
    obtain ⟨l', o, rfl⟩ : ∃ l' o, l = l' ++ [o] := ⟨l.dropLast, l.getLast (by intro h; simp [h] at hn), (List.dropLast_concat_getLast _).symm⟩
    have hn' : l'.length = n := by simpa using hn
    rw [List.foldl_append] at hg
    generalize hg' : l'.foldl (fun acc o => acc.push (o.after.toList.foldl (orMask acc) 0)) #[] = g' at hg
    obtain ⟨hs, hsp⟩ := ih l' hn' g' hg'.symm
    simp only [List.foldl_cons, List.foldl_nil] at hg
    subst hg
    have keep : ∀ k, k < n → ((g'.push (o.after.toList.foldl (orMask g') 0)).getD k 0) = g'.getD k 0 := fun k hk => by
      simp only [Array.getD_eq_getD_getElem?]
      rw [Array.getElem?_push_lt (by omega)]
      simp [Array.getElem?_eq_getElem (show k < g'.size by omega)]
    refine ⟨by simp [hs], fun j o' hj i hi => ?_⟩
    by_cases hjn : j < n
    · rw [List.getElem?_append_left (by omega)] at hj
      rw [keep j hjn] at hi
      obtain ⟨e, he, hb, hd⟩ := hsp j o' hj i hi
      exact ⟨e, he, hb, hd.imp id fun ⟨h1, h2⟩ => ⟨h1, by rw [keep _ (by omega)]; exact h2⟩⟩
    · have hj' : j = n := by
        have := (List.getElem?_eq_some_iff.1 hj).1
        simp at this; omega
      subst hj'
      rw [List.getElem?_append_right (by omega)] at hj
      simp [hn'] at hj
      subst hj
      have e1 : (g'.push (o.after.toList.foldl (orMask g') 0)).getD j 0 = o.after.toList.foldl (orMask g') 0 := by
        simp only [Array.getD_eq_getD_getElem?]
        rw [← hs, Array.getElem?_push_size]
        rfl
      rw [e1] at hi
      rcases orMask_fold g' o.after.toList 0 i hi with h0 | ⟨e, he, hb, hd⟩
      · simp at h0
      · refine ⟨e, by simpa using he, hb, hd.imp id fun h2 => ?_⟩
        have hlt : e.on < j := by
          rcases Nat.lt_or_ge e.on j with h' | h'
          · exact h'
          · simp [Array.getElem?_eq_none (show g'.size ≤ e.on by omega)] at h2
        exact ⟨hlt, by rw [keep _ hlt]; exact h2⟩

def chk0 (S : List Nat) (ops : Array Oper) : Bool :=
  Region.noSelect ops &&
  ((List.range ops.size).all fun j => match ops[j]? with
    | some o => o.after.all fun e => !Region.binds .any e || decide (e.on < j)
    | none => true) &&
  let b := Region.before ops
  (List.range ops.size).all fun j => (List.range j).all fun i => (b.getD j 0).testBit i ||
    match ops[i]?, ops[j]? with
    | some oi, some oj => oi.apart ops oj && compat (cls S i oi) (cls S j oj)
    | _, _ => true
def exck (S : List Nat) (ops : Array Oper) : Bool :=
  let b := Region.before ops
  (List.range ops.size).all fun i => !exm S i || (Nat.beq (i + 1) ops.size && (List.range i).all fun k => (b.getD i 0).testBit k)
theorem exck_spec {S : List Nat} {ops : Array Oper} (h : exck S ops = true) {i : Nat} (hi : i < ops.size) (hx : exm S i = true) : i + 1 = ops.size ∧ ∀ k, k < i → ((Region.before ops).getD i 0).testBit k = true := by
  simp only [exck, List.all_eq_true, List.mem_range] at h
  have := h i hi
  rw [hx] at this
  simp only [Bool.not_true, Bool.false_or, Bool.and_eq_true, List.all_eq_true, List.mem_range] at this
  exact ⟨Nat.eq_of_beq_eq_true this.1, this.2⟩
def chk (S : List Nat) (ops : Array Oper) : Bool :=
  exck S ops && chk0 S ops

theorem chk_spec (h : chk S ops = true) {i j : Nat} {oi oj : Oper} (hij : i < j) (hi : ops[i]? = some oi) (hj : ops[j]? = some oj)
    (hb : ((Region.before ops).getD j 0).testBit i = false) : oi.apart ops oj = true ∧ compat (cls S i oi) (cls S j oj) = true := by
  simp only [chk, chk0, Bool.and_eq_true, List.all_eq_true, List.mem_range] at h
  replace h := And.intro h.2.1.1 h.2.2
  have hjl : j < ops.size := (Array.getElem?_eq_some_iff.1 hj).1
  have := h.2 j hjl i hij
  rw [hb, hi, hj] at this
  simpa using this

theorem chk_ex (h : chk S ops = true) : exck S ops = true := by
  simp only [chk, Bool.and_eq_true] at h
  exact h.1

theorem chk_edge (h : chk S ops = true) {j : Nat} {o : Oper} (hj : ops[j]? = some o) {e : Edge} (he : e ∈ o.after) (hb : Region.binds .any e = true) : e.on < j := by
  simp only [chk, chk0, Bool.and_eq_true, List.all_eq_true, List.mem_range] at h
  have h1 := h.2.1.2 j (Array.getElem?_eq_some_iff.1 hj).1
  rw [hj] at h1
  have h2 := Array.all_eq_true_iff_forall_mem.1 h1 e he
  simpa [hb] using h2

theorem chk_sel (h : chk S ops = true) : Region.noSelect ops = true := by
  simp only [chk, chk0, Bool.and_eq_true] at h
  exact h.2.1.1

/-- the operations that are not listed, in the order of the text. -/
structure Left (ops : Array Oper) (listed : Array Bool) (l : List (Nat × Oper)) : Prop where
  size : listed.size = ops.size
  mem : ∀ p, p ∈ l ↔ ops[p.1]? = some p.2 ∧ listed.getD p.1 true = false
  up : l.Pairwise fun p q => p.1 < q.1
  down : ∀ (j : Nat) (o : Oper), ops[j]? = some o → listed.getD j false = true → ∀ e ∈ o.after, Region.binds .any e = true → listed.getD e.on false = true

theorem closed {listed : Array Bool} (down : ∀ (j : Nat) (o : Oper), ops[j]? = some o → listed.getD j false = true → ∀ e ∈ o.after, Region.binds .any e = true → listed.getD e.on false = true) :
    ∀ n j, j < n → ∀ o, ops[j]? = some o → (∀ e ∈ o.after, Region.binds .any e = true → listed.getD e.on false = true) → ∀ i, ((Region.before ops).getD j 0).testBit i = true → listed.getD i false = true := by
  intro n
  induction n with
  | zero => intro j hj; omega
  | succ n ih =>
    intro j hj o ho hall i hi
    have hs := masks_spec ops.toList (Region.before ops) (before_eq ops)
    obtain ⟨e, he, hb, hd⟩ := hs.2 j o (by simpa using ho) i hi
    rcases hd with rfl | ⟨hlt, hd⟩
    · exact hall e he hb
    · have hl := hall e he hb
      have hjs : j < ops.size := (Array.getElem?_eq_some_iff.1 ho).1
      have hoe : ops[e.on]? = some ops[e.on] := Array.getElem?_eq_getElem (by omega)
      exact ih e.on (by omega) _ hoe (down e.on _ hoe hl) i hd

theorem false_of_true {listed : Array Bool} {i : Nat} (h : listed.getD i false = true) : listed.getD i true = true := by
  rcases Nat.lt_or_ge i listed.size with h' | h'
  · simp [h'] at h ⊢; exact h
  · simp [Array.getElem?_eq_none h'] at h

theorem wpAny_sw {Q : Exit → Act → World → Prop} (hchk : chk S ops = true) : ∀ (fuel : Nat) (listed : Array Bool) (l : List (Nat × Oper)) (a : Act) (w : World),
    l.length = fuel → Left ops listed l → (l ≠ [] → C w) → swL P C S ops (fun a w => Q .normal a w) l a w → wpAnyIn (fen ro) 0 P .any ops Q fuel listed a w := by
  intro fuel
  induction fuel with
  | zero =>
    intro listed l a w hlen hL hC h
    have : l = [] := List.length_eq_zero_iff.1 hlen
    subst this
    refine ⟨?_, h⟩
    rw [List.eq_nil_iff_forall_not_mem]
    intro j hj
    obtain ⟨h0, o, ho, _⟩ := mem_ready.1 hj
    have := (hL.mem (j, o)).2 ⟨ho, h0⟩
    simp at this
  | succ fuel ih =>
    intro listed l a w hlen hL hC h
    refine ⟨fun h0 => ?_, fun j hj => ?_⟩
    · -- nothing is ready: the first of l is: a contradiction
      exfalso
      match l, hlen, hL with
      | p :: l, _, hL =>
        have hp := (hL.mem p).1 (by simp)
        have : p.1 ∈ Region.ready .any ops listed := by
          rw [mem_ready]
          refine ⟨hp.2, p.2, hp.1, fun e he hb => ?_⟩
          -- e.on is less or it is listed
          have hlt := chk_edge hchk hp.1 he hb
          have hps : p.1 < ops.size := (Array.getElem?_eq_some_iff.1 hp.1).1
          have hel : e.on < listed.size := by rw [hL.size]; omega
          have hoe : ops[e.on]? = some ops[e.on] := Array.getElem?_eq_getElem (by omega)
          by_cases hlst : listed.getD e.on true = false
          · exfalso
            have hm := (hL.mem (e.on, ops[e.on])).2 ⟨hoe, hlst⟩
            rcases List.mem_cons.1 hm with h1 | h1
            · rw [← h1] at hlt; exact absurd hlt (Nat.lt_irrefl _)
            · have := (List.pairwise_cons.1 hL.up).1 _ h1
              simp at this; omega
          · simp [hel] at hlst ⊢; exact hlst
        rw [h0] at this; cases this
    · obtain ⟨hun, oj, hoj, hall⟩ := mem_ready.1 hj
      have hmem : (j, oj) ∈ l := (hL.mem (j, oj)).2 ⟨hoj, hun⟩
      obtain ⟨pre, post, rfl⟩ := List.append_of_mem hmem
      have hns := Region.noSelect_spec (ops := ops) (chk_sel hchk)
      have hpre : ∀ p ∈ pre, p.2.apart ops oj = true ∧ (∀ cs b, p.2.op ≠ .select cs b) ∧ compat (cls S p.1 p.2) (cls S j oj) = true ∧ exm S p.1 = false := fun p hp => by
        have hpm := (hL.mem p).1 (by simp [hp])
        have hlt : p.1 < j := by
          have := (List.pairwise_append.1 hL.up).2.2 p hp (j, oj) (by simp)
          exact this
        have hb : ((Region.before ops).getD j 0).testBit p.1 = false := by
          cases hb : ((Region.before ops).getD j 0).testBit p.1 with
          | false => rfl
          | true =>
            have := false_of_true (closed hL.down (j + 1) j (by omega) oj hoj hall p.1 hb)
            rw [hpm.2] at this; cases this
        obtain ⟨h1, h2⟩ := chk_spec hchk hlt hpm.1 hoj hb
        refine ⟨h1, fun cs b => hns p.1 p.2 cs b hpm.1, h2, ?_⟩
        cases hx : exm S p.1 with
        | false => rfl
        | true =>
          have hjs := (Array.getElem?_eq_some_iff.1 hoj).1
          have := (exck_spec (chk_ex hchk) (Array.getElem?_eq_some_iff.1 hpm.1).1 hx).1
          omega
      have hCw : C w := hC (by simp)
      have hprenil : exm S j = true → pre = [] := fun hx => by
        cases pre with
        | nil => rfl
        | cons p pre =>
          exfalso
          have hlt : p.1 < j := (List.pairwise_append.1 hL.up).2.2 p (by simp) (j, oj) (by simp)
          have hb := (exck_spec (chk_ex hchk) (Array.getElem?_eq_some_iff.1 hoj).1 hx).2 p.1 hlt
          have := false_of_true (closed hL.down (j + 1) j (by omega) oj hoj hall p.1 hb)
          have hpm := (hL.mem p).1 (by simp)
          rw [hpm.2] at this; cases this
      have hpostnil : exm S j = true → post = [] := fun hx => by
        cases post with
        | nil => rfl
        | cons p post =>
          exfalso
          have hlt : j < p.1 := (List.pairwise_cons.1 (List.pairwise_append.1 hL.up).2.1).1 p (by simp)
          have hpm := (hL.mem p).1 (by simp)
          have h1 := (exck_spec (chk_ex hchk) (Array.getElem?_eq_some_iff.1 hoj).1 hx).1
          have h2 := (Array.getElem?_eq_some_iff.1 hpm.1).1
          omega
      have hf : swOp P C S ops j oj (swL P C S ops (fun a w => Q .normal a w) (pre ++ post)) a w := by
        cases hx : exm S j with
        | false => exact front (fun cs b => hns j oj cs b hoj) hx pre hpre hCw h
        | true =>
          have := hprenil hx
          subst this
          exact h
      refine wpOpIn_mono (fun a' w' ⟨hC', hk⟩ => ih (listed.setIfInBounds j true) (pre ++ post) a' w' (by simp at hlen ⊢; omega) ?_ (fun hne => hC'.resolve_left fun hx => hne (by rw [hprenil hx, hpostnil hx]; rfl)) hk) (wpOp_of_swOp ro hoj hCw hf)
      have hjs : j < listed.size := by
        rcases Nat.lt_or_ge j listed.size with h' | h'
        · exact h'
        · simp [Array.getElem?_eq_none h'] at hun
      have hup := List.pairwise_append.1 hL.up
      have hup2 := List.pairwise_cons.1 hup.2.1
      refine ⟨by simp [hL.size], fun p => ?_, ?_, ?_⟩
      · constructor
        · intro hp
          have hp' : p ∈ pre ++ (j, oj) :: post := by
            rcases List.mem_append.1 hp with h1 | h1 <;> simp [h1]
          have hpm := (hL.mem p).1 hp'
          have hne : j ≠ p.1 := by
            rcases List.mem_append.1 hp with h1 | h1
            · have := hup.2.2 p h1 (j, oj) (by simp); exact fun e => by simp [e] at this
            · have := hup2.1 p h1; exact fun e => by simp [e] at this
          exact ⟨hpm.1, by rw [getD_set_ne true hne]; exact hpm.2⟩
        · rintro ⟨h1, h2⟩
          have hne : j ≠ p.1 := fun e => by subst e; simp [hjs] at h2
          rw [getD_set_ne true hne] at h2
          have := (hL.mem p).2 ⟨h1, h2⟩
          rcases List.mem_append.1 this with h3 | h3
          · simp [h3]
          · rcases List.mem_cons.1 h3 with h4 | h4
            · exact absurd (by rw [h4]) hne
            · simp [h4]
      · exact List.pairwise_append.2 ⟨hup.1, hup2.2, fun p hp q hq => hup.2.2 p hp q (by simp [hq])⟩
      · intro k o hk hlk e he hb
        by_cases hkj : j = k
        · subst hkj
          rw [hoj] at hk
          obtain rfl := Option.some.inj hk
          exact getD_set_true (hall e he hb)
        · rw [getD_set_ne false hkj] at hlk
          exact getD_set_true (hL.down k o hk hlk e he hb)

theorem num_mem : ∀ (l : List Oper) (k : Nat) (p : Nat × Oper), p ∈ num k l ↔ k ≤ p.1 ∧ l[p.1 - k]? = some p.2
  | [], k, p => by simp [num]
  | o :: l, k, p => by
    simp only [num, List.mem_cons, num_mem l (k + 1) p]
    constructor
    · rintro (rfl | ⟨h1, h2⟩)
      · simp
      · obtain ⟨m, hm⟩ : ∃ m, p.1 - k = m + 1 := ⟨p.1 - k - 1, by omega⟩
        rw [hm, List.getElem?_cons_succ]
        exact ⟨by omega, by rw [← h2]; congr 1; omega⟩
    · rintro ⟨h1, h2⟩
      by_cases h : p.1 = k
      · left
        rw [h, Nat.sub_self, List.getElem?_cons_zero] at h2
        obtain ⟨p1, p2⟩ := p
        simp at h h2 ⊢
        exact ⟨h, h2.symm⟩
      · right
        obtain ⟨m, hm⟩ : ∃ m, p.1 - k = m + 1 := ⟨p.1 - k - 1, by omega⟩
        rw [hm, List.getElem?_cons_succ] at h2
        exact ⟨by omega, by rw [← h2]; congr 1; omega⟩

theorem num_up : ∀ (l : List Oper) (k : Nat), (num k l).Pairwise fun p q => p.1 < q.1
  | [], _ => List.Pairwise.nil
  | o :: l, k => List.Pairwise.cons (fun p hp => by have := ((num_mem l (k + 1) p).1 hp).1; simp; omega) (num_up l (k + 1))

theorem num_length : ∀ (l : List Oper) (k : Nat), (num k l).length = l.length
  | [], _ => rfl
  | _ :: l, k => by simp [num, num_length l (k + 1)]

theorem wp_region_draw_sw {id : Nat} {Q : Exit → Act → World → Prop} {a : Act} {w : World} (hm : P.follows .mixedOrders = true) (hchk : chk S ops = true)
    (hC : C { w with drawn := w.drawn + 1 }) (h : sw P C S ops (fun a w => Q .normal a w) 0 ops.toList a { w with drawn := w.drawn + 1 }) : (Code.region id ops true).wpIn (fen ro) 0 P Q a w := by
  rw [sw_num] at h
  refine wpIn_region_any hm ?_
  have hlen : (num 0 ops.toList).length = ops.size := by rw [num_length]; simp
  refine wpAny_sw hchk ops.size _ (num 0 ops.toList) a _ hlen ⟨by simp, fun p => ?_, num_up _ _, fun j o ho hl => ?_⟩ (fun _ => hC) h
  · rw [num_mem]
    simp only [Nat.zero_le, Nat.sub_zero, true_and, Array.getElem?_toList]
    constructor
    · intro hp
      have hlt := (Array.getElem?_eq_some_iff.1 hp).1
      exact ⟨hp, by simp [hlt]⟩
    · exact fun hp => hp.1
  · have hlt := (Array.getElem?_eq_some_iff.1 ho).1
    simp [hlt] at hl
end
end Go.Proofs.YtcnpkmdooekmgaaGreatDoor.Sl
namespace Go.Proofs.YtcnpkmdooekmgaaGreatDoor.Sl
abbrev Hp := Nat → Option Obj
def Hp.le (h k : Hp) : Prop := ∀ b o, h b = some o → k b = some o
def Hp.dis (h k : Hp) : Prop := ∀ b, h b = none ∨ k b = none
def Hp.emp : Hp := fun _ => none
def Hp.set (h : Hp) (b : Nat) (o : Obj) : Hp := fun c => if c = b then some o else h c
theorem Hp.le_refl (h : Hp) : h.le h := fun _ _ e => e
theorem Hp.le_trans {h k l : Hp} (a : h.le k) (b : k.le l) : h.le l := fun _ _ e => b _ _ (a _ _ e)
theorem Hp.dis_le {h h' k k' : Hp} (a : h'.dis k') (b : h.le h') (c : k.le k') : h.dis k := fun x => by
  rcases a x with e | e
  · left
    cases hx : h x with
    | none => rfl
    | some o => rw [b _ _ hx] at e; cases e
  · right
    cases hx : k x with
    | none => rfl
    | some o => rw [c _ _ hx] at e; cases e
theorem Hp.emp_le (h : Hp) : Hp.emp.le h := fun _ _ e => by cases e
theorem Hp.emp_dis (h : Hp) : Hp.emp.dis h := fun _ => .inl rfl

/-- an assertion: of what never changes, and of what is owned. -/
structure Assn where
  sat : Hp → Hp → Prop
  mono : ∀ {im im' h : Hp}, im.le im' → sat im h → sat im' h

def satL (im : Hp) : List Assn → Hp → Prop
  | [], _ => True
  | A :: L, h => ∃ h1 h2 : Hp, h1.le h ∧ h2.le h ∧ h1.dis h2 ∧ A.sat im h1 ∧ satL im L h2

theorem satL_mono {im im' : Hp} (hm : im.le im') : ∀ {L : List Assn} {h h' : Hp}, h.le h' → satL im L h → satL im' L h'
  | [], _, _, _, _ => trivial
  | _ :: _, _, _, hl, ⟨h1, h2, a, b, c, d, e⟩ => ⟨h1, h2, Hp.le_trans a hl, Hp.le_trans b hl, c, Assn.mono _ hm d, satL_mono hm (Hp.le_refl _) e⟩

/-- an owned block. -/
def pt (b : Nat) (o : Obj) : Assn := ⟨fun _ h => h b = some o, fun _ h => h⟩
/-- a block that never changes. -/
def imm (b : Nat) (o : Obj) : Assn := ⟨fun im _ => im b = some o, fun hm h => hm _ _ h⟩
/-- a fact. -/
def pu (p : Prop) : Assn := ⟨fun _ _ => p, fun _ h => h⟩
/-- a fact of what never changes. -/
def im' (p : Hp → Prop) (hp : ∀ {a b : Hp}, a.le b → p a → p b) : Assn := ⟨fun im _ => p im, fun hm h => hp hm h⟩
def ex {α : Type} (f : α → Assn) : Assn := ⟨fun im h => ∃ x, (f x).sat im h, fun hm ⟨x, h⟩ => ⟨x, (f x).mono hm h⟩⟩
/-- several, as one. -/
def all (L : List Assn) : Assn := ⟨fun im h => satL im L h, fun hm h => satL_mono hm (Hp.le_refl _) h⟩
/-- one for each of a list. -/
def each {α : Type} (l : List α) (f : α → Assn) : Assn := all (l.map f)

/-- what is fixed beside memory. -/
structure Base where
  im : Hp
  os : Os
  out : Array (Nat × ByteArray)
  tape : Nat → Question → Nat

structure Rel (Φ : Base) (im h : Hp) (w : World) : Prop where
  base : Φ.im.le im
  imw : ∀ b o, im b = some o → w.heap[b]? = some o
  hw : ∀ b o, h b = some o → w.heap[b]? = some o
  dis : im.dis h
  os : w.os = Φ.os
  out : w.output = Φ.out
  tape : w.tape = Φ.tape

def Holds (Φ : Base) (L : List Assn) (w : World) : Prop := ∃ im h, Rel Φ im h w ∧ satL im L h

/-- an entailment between lists. -/
def Ent (L L' : List Assn) : Prop := ∀ im h, satL im L h → satL im L' h
theorem Ent.refl (L : List Assn) : Ent L L := fun _ _ h => h
theorem Ent.trans {A B C : List Assn} (x : Ent A B) (y : Ent B C) : Ent A C := fun _ _ h => y _ _ (x _ _ h)
theorem Holds.ent {Φ : Base} {L L' : List Assn} {w : World} (h : Holds Φ L w) (e : Ent L L') : Holds Φ L' w :=
  let ⟨im, hp, r, s⟩ := h; ⟨im, hp, r, e _ _ s⟩
theorem Ent.cons {L L' : List Assn} (A : Assn) (e : Ent L L') : Ent (A :: L) (A :: L') := fun _ _ ⟨h1, h2, a, b, c, d, s⟩ => ⟨h1, h2, a, b, c, d, e _ _ s⟩
theorem Ent.swap (A B : Assn) (L : List Assn) : Ent (A :: B :: L) (B :: A :: L) := fun _ h ⟨h1, h2, a, b, c, d, ⟨k1, k2, a', b', c', d', s⟩⟩ => by
  -- h1: A; k1: B; k2: L
  refine ⟨k1, fun x => if (h1 x).isSome then h1 x else k2 x, Hp.le_trans a' b, ?_, ?_, d', h1, k2, ?_, ?_, ?_, d, s⟩
  · intro x o e
    simp only [] at e
    split at e
    · exact a _ _ e
    · exact b _ _ (b' _ _ e)
  · intro x
    have hd : h1.dis k1 := Hp.dis_le c (Hp.le_refl _) a'
    rcases hd x with e | e
    · rcases c' x with e' | e'
      · exact .inl e'
      · exact .inr (by simp [e, e'])
    · exact .inl e
  · intro x o e; simp [e]
  · intro x o e
    have hd : h1.dis k2 := Hp.dis_le c (Hp.le_refl _) b'
    rcases hd x with e' | e'
    · simp [e', e]
    · rw [e] at e'; cases e'
  · exact Hp.dis_le c (Hp.le_refl _) b'
theorem Ent.drop (A : Assn) (L : List Assn) : Ent (A :: L) L := fun _ _ ⟨_, _, _, b, _, _, s⟩ => satL_mono (Hp.le_refl _) b s
theorem Ent.app {A B : List Assn} (C : List Assn) (e : Ent A B) : Ent (C ++ A) (C ++ B) := by
  induction C with
  | nil => exact e
  | cons X C ih => exact Ent.cons X ih

/-- it needs no memory of its own. -/
class Pers (A : Assn) : Prop where
  pers : ∀ im h, A.sat im h → A.sat im Hp.emp
theorem Ent.dup (A : Assn) [Pers A] (L : List Assn) : Ent (A :: L) (A :: A :: L) := fun _ h ⟨_, h2, _, b, _, d, s⟩ =>
  ⟨Hp.emp, h, Hp.emp_le _, Hp.le_refl _, Hp.emp_dis _, Pers.pers _ _ d, Hp.emp, h2, Hp.emp_le _, b, Hp.emp_dis _, Pers.pers _ _ d, s⟩

/-- A stands in L; R is what is left. -/
class Find (A : Assn) (L : List Assn) (R : outParam (List Assn)) : Prop where
  ent : Ent L (A :: R)
instance (priority := 1100) Find.pers (A : Assn) [Pers A] (L : List Assn) : Find A (A :: L) (A :: L) := ⟨Ent.dup A L⟩
instance (priority := 1050) Find.head (A : Assn) (L : List Assn) : Find A (A :: L) L := ⟨Ent.refl _⟩
instance (priority := 900) Find.tail (A B : Assn) (L R : List Assn) [f : Find A L R] : Find A (B :: L) (B :: R) := ⟨(Ent.cons B f.ent).trans (Ent.swap B A R)⟩

/-- the block b, owned, stands in L. -/
class FindPt (b : Nat) (L : List Assn) (o : outParam Obj) (R : outParam (List Assn)) : Prop where
  ent : Ent L (pt b o :: R)
instance (priority := 1050) FindPt.head (b : Nat) (o : Obj) (L : List Assn) : FindPt b (pt b o :: L) o L := ⟨Ent.refl _⟩
instance (priority := 900) FindPt.tail (b : Nat) (o : Obj) (B : Assn) (L R : List Assn) [f : FindPt b L o R] : FindPt b (B :: L) o (B :: R) := ⟨(Ent.cons B f.ent).trans (Ent.swap B _ R)⟩

class Split (A : List Assn) (L : List Assn) (R : outParam (List Assn)) : Prop where
  ent : Ent L (A ++ R)
instance Split.nil (L : List Assn) : Split [] L L := ⟨Ent.refl _⟩
instance Split.cons (X : Assn) (A L M R : List Assn) [f : Find X L M] [g : Split A M R] : Split (X :: A) L R := ⟨f.ent.trans (Ent.cons X g.ent)⟩

/-- the block b is owned; what becomes of the list where it is turned. -/
class Own (b : Nat) (L : List Assn) (o : outParam Obj) (f : outParam (Obj → List Assn)) : Prop where
  get : ∀ im h, satL im L h → h b = some o
  upd : ∀ im h o', satL im L h → satL im (f o') (h.set b o')
theorem Hp.set_same (h : Hp) (b : Nat) (o : Obj) : h.set b o b = some o := by simp [Hp.set]
theorem Hp.set_ne (h : Hp) {b c : Nat} (o : Obj) (hne : c ≠ b) : h.set b o c = h c := by simp [Hp.set, hne]
instance (priority := 1100) Own.head (b : Nat) (o : Obj) (L : List Assn) : Own b (pt b o :: L) o (fun o' => pt b o' :: L) where
  get := fun _ _ ⟨_, _, a, _, _, d, _⟩ => a _ _ d
  upd := fun _ h o' ⟨h1, h2, a, b', c, d, s⟩ => by
    refine ⟨h1.set b o', h2, ?_, ?_, ?_, Hp.set_same _ _ _, s⟩
    · intro x p e
      by_cases hx : x = b
      · subst hx; rw [Hp.set_same] at e ⊢; exact e
      · rw [Hp.set_ne _ _ hx] at e ⊢; exact a _ _ e
    · intro x p e
      have hx : x ≠ b := fun hx => by
        subst hx
        rcases c x with h' | h'
        · rw [show h1 x = some o from d] at h'; cases h'
        · rw [e] at h'; cases h'
      rw [Hp.set_ne _ _ hx]; exact b' _ _ e
    · intro x
      by_cases hx : x = b
      · subst hx
        rcases c x with h' | h'
        · rw [show h1 x = some o from d] at h'; cases h'
        · exact .inr h'
      · rw [Hp.set_ne _ _ hx]; exact c x
instance (priority := 900) Own.tail (b : Nat) (o : Obj) (A : Assn) (L : List Assn) (f : Obj → List Assn) [g : Own b L o f] : Own b (A :: L) o (fun o' => A :: f o') where
  get := fun _ _ ⟨_, _, _, b', _, _, s⟩ => b' _ _ (g.get _ _ s)
  upd := fun _ h o' ⟨h1, h2, a, b', c, d, s⟩ => by
    have hb := g.get _ _ s
    have hn : h1 b = none := (c b).resolve_right (by rw [hb]; simp)
    refine ⟨h1, h2.set b o', ?_, ?_, ?_, d, g.upd _ _ o' s⟩
    · intro x p e
      have hx : x ≠ b := fun hx => by subst hx; rw [hn] at e; cases e
      rw [Hp.set_ne _ _ hx]; exact a _ _ e
    · intro x p e
      by_cases hx : x = b
      · subst hx; rw [Hp.set_same] at e ⊢; exact e
      · rw [Hp.set_ne _ _ hx] at e ⊢; exact b' _ _ e
    · intro x
      by_cases hx : x = b
      · subst hx; exact .inl hn
      · rw [Hp.set_ne _ _ hx]; exact c x

/-- the block b can be read. -/
class Rd (b : Nat) (L : List Assn) (o : outParam Obj) : Prop where
  get : ∀ (im h w : Hp), (∀ b o, im b = some o → w b = some o) → (∀ b o, h b = some o → w b = some o) → satL im L h → w b = some o
instance (priority := 1100) Rd.pt (b : Nat) (o : Obj) (L : List Assn) : Rd b (pt b o :: L) o := ⟨fun _ _ _ _ hh ⟨_, _, a, _, _, d, _⟩ => hh _ _ (a _ _ d)⟩
instance (priority := 1090) Rd.imm (b : Nat) (o : Obj) (L : List Assn) : Rd b (imm b o :: L) o := ⟨fun _ _ _ hi _ ⟨_, _, _, _, _, d, _⟩ => hi _ _ d⟩
instance (priority := 900) Rd.tail (b : Nat) (o : Obj) (A : Assn) (L : List Assn) [g : Rd b L o] : Rd b (A :: L) o :=
  ⟨fun im _ w hi hh ⟨_, h2, _, b', _, _, s⟩ => g.get im h2 w hi (fun c p e => hh c p (b' _ _ e)) s⟩

theorem Holds.rd {Φ : Base} {L : List Assn} {w : World} {b : Nat} {o : Obj} [g : Rd b L o] (h : Holds Φ L w) : w.heap[b]? = some o := by
  obtain ⟨im, hp, r, s⟩ := h
  exact g.get im hp (fun b => w.heap[b]?) r.imw r.hw s

/-- a world whose block b was turned. -/
theorem Holds.upd {Φ : Base} {L : List Assn} {w w' : World} {b : Nat} {o o' : Obj} {f : Obj → List Assn} [g : Own b L o f] (h : Holds Φ L w)
    (hb : w'.heap[b]? = some o') (hne : ∀ c, c ≠ b → w'.heap[c]? = w.heap[c]?) (hos : w'.os = w.os) (hout : w'.output = w.output) (ht : w'.tape = w.tape) : Holds Φ (f o') w' := by
  obtain ⟨im, hp, r, s⟩ := h
  have hg := g.get _ _ s
  have hin : im b = none := (r.dis b).resolve_right (by rw [hg]; simp)
  refine ⟨im, hp.set b o', ⟨r.base, ?_, ?_, ?_, hos.trans r.os, hout.trans r.out, ht.trans r.tape⟩, g.upd _ _ o' s⟩
  · intro c p e
    have hc : c ≠ b := fun hc => by subst hc; rw [hin] at e; cases e
    rw [hne c hc]; exact r.imw _ _ e
  · intro c p e
    by_cases hc : c = b
    · subst hc; rw [Hp.set_same] at e; rw [hb]; exact e
    · rw [Hp.set_ne _ _ hc] at e; rw [hne c hc]; exact r.hw _ _ e
  · intro c
    by_cases hc : c = b
    · subst hc; exact .inl hin
    · rw [Hp.set_ne _ _ hc]; exact r.dis c

theorem Holds.alloc {Φ : Base} {L : List Assn} {w w' : World} (h : Holds Φ L w) (o : Obj)
    (hh : w'.heap = w.heap.push o) (hos : w'.os = w.os) (hout : w'.output = w.output) (ht : w'.tape = w.tape) : Holds Φ (pt w.heap.size o :: L) w' := by
  obtain ⟨im, hp, r, s⟩ := h
  have hi : im w.heap.size = none := by
    cases e : im w.heap.size with
    | none => rfl
    | some p => have := r.imw _ _ e; simp at this
  have hn : hp w.heap.size = none := by
    cases e : hp w.heap.size with
    | none => rfl
    | some p => have := r.hw _ _ e; simp at this
  have old : ∀ (c : Nat) p, w.heap[c]? = some p → w'.heap[c]? = some p := fun c p e => by
    rw [hh, Array.getElem?_push_lt (Array.getElem?_eq_some_iff.1 e).1]
    simpa [Array.getElem?_eq_getElem (Array.getElem?_eq_some_iff.1 e).1] using e
  refine ⟨im, hp.set w.heap.size o, ⟨r.base, fun c p e => old _ _ (r.imw _ _ e), ?_, ?_, hos.trans r.os, hout.trans r.out, ht.trans r.tape⟩,
    fun c => if c = w.heap.size then some o else none, hp, ?_, ?_, ?_, by simp [pt], s⟩
  · intro c p e
    by_cases hc : c = w.heap.size
    · subst hc; rw [Hp.set_same] at e; rw [hh, Array.getElem?_push_size]; exact e
    · rw [Hp.set_ne _ _ hc] at e; exact old _ _ (r.hw _ _ e)
  · intro c
    by_cases hc : c = w.heap.size
    · subst hc; exact .inl hi
    · rw [Hp.set_ne _ _ hc]; exact r.dis c
  · intro c p e
    simp only [] at e
    split at e
    · rename_i hc; subst hc; rw [Hp.set_same]; exact e
    · cases e
  · intro c p e
    have hc : c ≠ w.heap.size := fun hc => by subst hc; rw [hn] at e; cases e
    rw [Hp.set_ne _ _ hc]; exact e
  · intro c
    by_cases hc : c = w.heap.size
    · subst hc; exact .inr hn
    · exact .inl (by simp [hc])

theorem Holds.draws {Φ : Base} {L : List Assn} {w w' : World} (h : Holds Φ L w) (hh : w'.heap = w.heap) (hos : w'.os = w.os) (hout : w'.output = w.output) (ht : w'.tape = w.tape) : Holds Φ L w' := by
  obtain ⟨im, hp, r, s⟩ := h
  exact ⟨im, hp, ⟨r.base, by rw [hh]; exact r.imw, by rw [hh]; exact r.hw, r.dis, hos.trans r.os, hout.trans r.out, ht.trans r.tape⟩, s⟩

/-- an owned block is owned no more: nobody turns it from now on. -/
theorem Holds.freeze {Φ : Base} {L R : List Assn} {w : World} {b : Nat} {o : Obj} [f : FindPt b L o R] (h : Holds Φ L w) : Holds Φ (imm b o :: R) w := by
  obtain ⟨im, hp, r, s⟩ := h.ent f.ent
  obtain ⟨h1, h2, a, b', c, d, s⟩ := s
  have d : h1 b = some o := d
  have h2b : h2 b = none := (c b).resolve_left (by rw [d]; simp)
  have hpb := a _ _ d
  have hin : im b = none := (r.dis b).resolve_right (by rw [hpb]; simp)
  have hle : im.le (im.set b o) := fun x p e => by
    have hx : x ≠ b := fun hx => by subst hx; rw [hin] at e; cases e
    rw [Hp.set_ne _ _ hx]; exact e
  refine ⟨im.set b o, h2, ⟨Hp.le_trans r.base hle, ?_, fun x p e => r.hw _ _ (b' _ _ e), ?_, r.os, r.out, r.tape⟩, Hp.emp, h2, Hp.emp_le _, Hp.le_refl _, Hp.emp_dis _, Hp.set_same _ _ _, satL_mono hle (Hp.le_refl _) s⟩
  · intro x p e
    by_cases hx : x = b
    · subst hx; rw [Hp.set_same] at e; rw [← e]; exact r.hw _ _ hpb
    · rw [Hp.set_ne _ _ hx] at e; exact r.imw _ _ e
  · intro x
    by_cases hx : x = b
    · subst hx; exact .inr h2b
    · rw [Hp.set_ne _ _ hx]
      rcases r.dis x with e | e
      · exact .inl e
      · right
        cases hx2 : h2 x with
        | none => rfl
        | some p => rw [b' _ _ hx2] at e; cases e

/-- opening a head. -/
theorem Holds.ex {Φ : Base} {α : Type} {f : α → Assn} {L : List Assn} {w : World} (h : Holds Φ (ex f :: L) w) : ∃ x, Holds Φ (f x :: L) w := by
  obtain ⟨im, hp, r, h1, h2, a, b, c, ⟨x, d⟩, s⟩ := h
  exact ⟨x, im, hp, r, h1, h2, a, b, c, d, s⟩
theorem Holds.pu {Φ : Base} {p : Prop} {L : List Assn} {w : World} (h : Holds Φ (pu p :: L) w) : p ∧ Holds Φ L w := by
  have h' := h
  obtain ⟨im, hp, r, h1, h2, a, b, c, d, s⟩ := h
  exact ⟨d, h'.ent (Ent.drop _ _)⟩
theorem satL_app {im : Hp} {L : List Assn} : ∀ (A : List Assn) {h h1 h2 : Hp}, h1.le h → h2.le h → h1.dis h2 → satL im A h1 → satL im L h2 → satL im (A ++ L) h
  | [], _, _, _, _, b, _, _, s => satL_mono (Hp.le_refl _) b s
  | X :: A, h, h1, h2, a, b, c, ⟨k1, k2, a', b', c', d', s'⟩, s => by
    refine ⟨k1, fun x => if (k2 x).isSome then k2 x else h2 x, Hp.le_trans a' a, ?_, ?_, d', satL_app A ?_ ?_ (Hp.dis_le c b' (Hp.le_refl _)) s' s⟩
    · intro x o e
      simp only [] at e
      split at e
      · exact a _ _ (b' _ _ e)
      · exact b _ _ e
    · intro x
      rcases c' x with e | e
      · exact .inl e
      · rcases (Hp.dis_le c a' (Hp.le_refl _)) x with e' | e'
        · exact .inl e'
        · exact .inr (by simp [e, e'])
    · intro x o e; simp [e]
    · intro x o e
      rcases (Hp.dis_le c b' (Hp.le_refl _)) x with e' | e'
      · simp [e', e]
      · rw [e] at e'; cases e'
theorem Ent.all (A L : List Assn) : Ent (all A :: L) (A ++ L) := fun _ _ ⟨_, _, a, b, c, d, s⟩ => satL_app A a b c d s
theorem Ent.unall (A L : List Assn) : Ent (A ++ L) (Sl.all A :: L) := by
  intro im h s
  induction A generalizing h with
  | nil => exact ⟨Hp.emp, h, Hp.emp_le _, Hp.le_refl _, Hp.emp_dis _, trivial, s⟩
  | cons X A ih =>
    obtain ⟨h1, h2, a, b, c, d, s⟩ := s
    obtain ⟨k1, k2, a', b', c', d', s'⟩ := ih _ s
    refine ⟨fun x => if (h1 x).isSome then h1 x else k1 x, k2, ?_, Hp.le_trans b' b, ?_, ⟨h1, k1, ?_, ?_, Hp.dis_le c (Hp.le_refl _) a', d, d'⟩, s'⟩
    · intro x o e
      simp only [] at e
      split at e
      · exact a _ _ e
      · exact b _ _ (a' _ _ e)
    · intro x
      rcases c' x with e | e
      · rcases (Hp.dis_le c (Hp.le_refl _) b') x with e' | e'
        · exact .inl (by simp [e, e'])
        · exact .inr e'
      · exact .inr e
    · intro x o e; simp [e]
    · intro x o e
      rcases (Hp.dis_le c (Hp.le_refl _) a') x with e' | e'
      · simp [e', e]
      · rw [e] at e'; cases e'
theorem Ent.mkEx {α : Type} {f : α → Assn} {L : List Assn} (x : α) : Ent (f x :: L) (Sl.ex f :: L) := fun _ _ ⟨h1, h2, a, b, c, d, s⟩ => ⟨h1, h2, a, b, c, ⟨x, d⟩, s⟩
theorem Ent.mkPu {p : Prop} {L : List Assn} (hp : p) : Ent L (Sl.pu p :: L) := fun _ h s => ⟨Hp.emp, h, Hp.emp_le _, Hp.le_refl _, Hp.emp_dis _, hp, s⟩
end Go.Proofs.YtcnpkmdooekmgaaGreatDoor.Sl
namespace Go.Proofs.YtcnpkmdooekmgaaGreatDoor.Sl
abbrev Env := List (Nat × Value)
def lk (t : Nat) : Env → Option Value
  | [] => none
  | (k, v) :: e => match Nat.beq t k with
    | true => some v
    | false => lk t e
def ev (e : Env) : Operand → Option Value
  | .tmp t => lk t e
  | .const v => some v
  | .global g => some (.pointer (some ⟨g, 0, none⟩))
  | .func f => some (.func (.func f) #[] #[])
def evL (e : Env) : List Operand → Option (List Value)
  | [] => some []
  | x :: l => match ev e x, evL e l with
    | some v, some vs => some (v :: vs)
    | _, _ => none

structure Mt (ds : List Deferred) (n : Nat) (e : Env) (a : Act) : Prop where
  size : a.tmps.size = n
  defers : a.defers = ds
  val : ∀ t v, lk t e = some v → a.tmps[t]? = some v

theorem Mt.ev {ds : List Deferred} {n : Nat} {e : Env} {a : Act} (m : Mt ds n e a) {x : Operand} {v : Value} (h : ev e x = some v) : a.eval x = v := by
  cases x with
  | tmp t => simp only [Sl.ev] at h; simp [Act.eval, m.val t v h]
  | const u => simpa [Sl.ev, Act.eval] using h
  | global g => simpa [Sl.ev, Act.eval] using h
  | func f => simpa [Sl.ev, Act.eval] using h
theorem Mt.evL {ds : List Deferred} {n : Nat} {e : Env} {a : Act} (m : Mt ds n e a) : ∀ {l : List Operand} {vs : List Value}, evL e l = some vs → l.map a.eval = vs
  | [], vs, h => by simpa [Sl.evL] using h
  | x :: l, vs, h => by
    simp only [Sl.evL] at h
    split at h
    · rename_i v vs' h1 h2
      obtain rfl := Option.some.inj h
      simp [m.ev h1, m.evL h2]
    · cases h
theorem Mt.put {ds : List Deferred} {n : Nat} {e : Env} {a : Act} (m : Mt ds n e a) {d : Nat} {v : Value} (hd : Nat.blt d n = true) : Mt ds n ((d, v) :: e) (a.put (some d) v) := by
  have hd' : d < n := by simpa [Nat.blt_eq] using hd
  refine ⟨by simp [Act.put, m.size], by simp [Act.put, m.defers], fun t u h => ?_⟩
  simp only [lk] at h
  split at h
  · rename_i hb
    have : t = d := Nat.eq_of_beq_eq_true hb
    subst this
    obtain rfl := Option.some.inj h
    simp [Act.put, m.size, hd']
  · rename_i hb
    have hne : d ≠ t := fun e => by subst e; simp at hb
    simp only [Act.put]
    rw [Array.getElem?_setIfInBounds_ne hne]
    exact m.val t u h
/-- all of E stands in e. -/
def Sub : Env → Env → Prop
  | [], _ => True
  | (t, v) :: E, e => lk t e = some v ∧ Sub E e
theorem Sub.lk {e : Env} : ∀ {E : Env}, Sub E e → ∀ t v, Sl.lk t E = some v → Sl.lk t e = some v
  | [], _, t, v, h => by simp [Sl.lk] at h
  | (k, u) :: E, hs, t, v, h => by
    simp only [Sl.lk] at h
    split at h
    · rename_i hb
      have : t = k := Nat.eq_of_beq_eq_true hb
      subst this
      obtain rfl := Option.some.inj h
      exact hs.1
    · exact Sub.lk hs.2 t v h
/-- the environment of a call's arguments. -/
def argEnv : Nat → List Value → Env
  | _, [] => []
  | k, v :: l => (k, v) :: argEnv (k + 1) l
theorem argEnv_spec : ∀ (l : List Value) (k t : Nat) (v : Value), lk t (argEnv k l) = some v → k ≤ t ∧ l[t - k]? = some v
  | [], _, _, _, h => by simp [argEnv, lk] at h
  | u :: l, k, t, v, h => by
    simp only [argEnv, lk] at h
    split at h
    · rename_i hb
      have : t = k := Nat.eq_of_beq_eq_true hb
      subst this
      simpa using h
    · rename_i hb
      have hne : t ≠ k := fun e => by subst e; simp at hb
      obtain ⟨h1, h2⟩ := argEnv_spec l (k + 1) t v h
      obtain ⟨m, hm⟩ : ∃ m, t - k = m + 1 := ⟨t - k - 1, by omega⟩
      refine ⟨by omega, ?_⟩
      rw [hm, List.getElem?_cons_succ, ← h2]; congr 1; omega

structure Cx where
  P : Program
  Φ : Base
  n : Nat
  ds : List Deferred := []

/-- THE JUDGEMENT. -/
def J (X : Cx) (e : Env) (L : List Assn) (G : Act → World → Prop) : Prop := ∀ a w, Mt X.ds X.n e a → Holds X.Φ L w → G a w

section
variable {X : Cx} {e e' : Env} {L L' : List Assn} {G : Act → World → Prop} {Q Q' : Exit → Act → World → Prop}
theorem j_ent (he : Ent L L') (h : J X e L' G) : J X e L G := fun a w m hh => h a w m (hh.ent he)
theorem j_ex {α : Type} {f : α → Assn} (h : ∀ x, J X e (f x :: L) G) : J X e (ex f :: L) G := fun a w m hh => let ⟨x, hx⟩ := hh.ex; h x a w m hx
theorem j_pu {p : Prop} (h : p → J X e L G) : J X e (pu p :: L) G := fun a w m hh => h hh.pu.1 a w m hh.pu.2
theorem j_all {A : List Assn} (h : J X e (A ++ L) G) : J X e (all A :: L) G := j_ent (Ent.all A L) h
/-- brings an assertion to the head. -/
theorem j_head (A : Assn) {R : List Assn} [f : Find A L R] (h : J X e (A :: R) G) : J X e L G := j_ent f.ent h
/-- brings several to the head. -/
theorem j_heads (A : List Assn) {R : List Assn} [f : Split A L R] (h : J X e (A ++ R) G) : J X e L G := j_ent f.ent h
theorem j_freeze (b : Nat) {o : Obj} {R : List Assn} [f : FindPt b L o R] (h : J X e (imm b o :: R) G) : J X e L G := fun a w m hh => h a w m hh.freeze
/-- no range over a function, no label's scope. -/
def noR : Code → Bool
  | .rangeFunc .. => false
  | .scope _ => false
  | .seq x y => noR x && noR y
  | .cond _ x y => noR x && noR y
  | .block _ c => noR c
  | .loop c => noR c
  | _ => true
/-- what a piece of code reaches: in a frame, and in a loop's round too where nothing forbids it. -/
def cw (P : Program) (c : Code) (Q : Exit → Act → World → Prop) : Act → World → Prop := fun a w => ∀ ro : Option Nat, ro = none ∨ noR c = true → c.wpIn (fen ro) 0 P Q a w
theorem cw_wp {P : Program} {c : Code} {Q : Exit → Act → World → Prop} {a : Act} {w : World} (h : cw P c Q a w) : c.wp P Q a w := wpIn_wide.1 (h none (.inl rfl))
theorem cw_mono {P : Program} {c : Code} {Q Q' : Exit → Act → World → Prop} {a : Act} {w : World} (h : cw P c Q a w) (hq : ∀ x a w, Q x a w → Q' x a w) : cw P c Q' a w := fun ro hr => wpIn_mono (h ro hr) hq
theorem noR_both {ro : Option Nat} {x y : Bool} (h : ro = none ∨ (x && y) = true) : (ro = none ∨ x = true) ∧ (ro = none ∨ y = true) :=
  ⟨h.imp id fun h => ((Bool.and_eq_true _ _).mp h).1, h.imp id fun h => ((Bool.and_eq_true _ _).mp h).2⟩

/- control -/
theorem t_seq {x y : Code} (h : J X e L (cw X.P x (Exit.then (cw X.P y Q) Q))) : J X e L (cw X.P (Code.seq x y) Q) := fun a w m hh ro hr =>
  wpIn_seq (wpIn_mono (h a w m hh ro (noR_both hr).1) fun e a w hq => by cases e <;> first | exact hq ro (noR_both hr).2 | exact hq)
theorem t_skip (h : J X e L (Q .normal)) : J X e L (cw X.P (Code.skip) Q) := fun a w m hh _ _ => wpIn_skip (h a w m hh)
theorem t_label {l : Nat} (h : J X e L (Q .normal)) : J X e L (cw X.P (Code.label l) Q) := fun a w m hh _ _ => wpIn_label (h a w m hh)
theorem t_ret (h : J X e L (Q .ret)) : J X e L (cw X.P (Code.ret) Q) := fun a w m hh _ _ => wpIn_ret (h a w m hh)
theorem t_exit {id : Nat} (h : J X e L (Q (.exit id))) : J X e L (cw X.P (Code.exit id) Q) := fun a w m hh _ _ => wpIn_exit (h a w m hh)
theorem t_block {id : Nat} {c : Code} (h : J X e L (cw X.P c (Exit.inBlock id Q))) : J X e L (cw X.P (Code.block id c) Q) := fun a w m hh ro hr => wpIn_block (h a w m hh ro hr)
theorem j_then {K : Act → World → Prop} (h : J X e L K) : J X e L (Exit.then K Q .normal) := h
theorem j_then_ret {K : Act → World → Prop} (h : J X e L (Q .ret)) : J X e L (Exit.then K Q .ret) := h
theorem j_then_exit {K : Act → World → Prop} {id : Nat} (h : J X e L (Q (.exit id))) : J X e L (Exit.then K Q (.exit id)) := h
theorem j_in {id : Nat} (h : J X e L (Q .normal)) : J X e L (Exit.inBlock id Q .normal) := h
theorem j_in_ret {id : Nat} (h : J X e L (Q .ret)) : J X e L (Exit.inBlock id Q .ret) := h
theorem j_in_exit {id : Nat} (h : J X e L (Q .normal)) : J X e L (Exit.inBlock id Q (.exit id)) := fun a w m hh => by
  simp only [Exit.inBlock, if_true]; exact h a w m hh
theorem j_in_other {id id' : Nat} (hne : Nat.beq id' id = false) (h : J X e L (Q (.exit id'))) : J X e L (Exit.inBlock id Q (.exit id')) := fun a w m hh => by
  have : id' ≠ id := fun e => by subst e; simp at hne
  simp only [Exit.inBlock, this, if_false]; exact h a w m hh
theorem t_cond {c : Operand} {x y : Code} {b : Bool} (hc : ev e c = some (.bool b)) (ht : b = true → J X e L (cw X.P x Q)) (hf : b = false → J X e L (cw X.P y Q)) :
    J X e L (cw X.P (Code.cond c x y) Q) := fun a w m hh ro hr => wpIn_cond_split (m.ev hc) (fun h => ht h a w m hh ro (noR_both hr).1) (fun h => hf h a w m hh ro (noR_both hr).2)
theorem t_condT {c : Operand} {x y : Code} {v : Value} (hc : ev e c = some v) (hv : v = .bool true) (ht : J X e L (cw X.P x Q)) : J X e L (cw X.P (Code.cond c x y) Q) :=
  fun a w m hh ro hr => wpIn_cond_true (m.ev (by rw [hc, hv])) (ht a w m hh ro (noR_both hr).1)
theorem t_condF {c : Operand} {x y : Code} {v : Value} (hc : ev e c = some v) (hv : v = .bool false) (hf : J X e L (cw X.P y Q)) : J X e L (cw X.P (Code.cond c x y) Q) :=
  fun a w m hh ro hr => wpIn_cond_false (m.ev (by rw [hc, hv])) (hf a w m hh ro (noR_both hr).2)
theorem t_condD {c : Operand} {x y : Code} {p : Prop} [Decidable p] (hc : ev e c = some (.bool (decide p))) (ht : p → J X e L (cw X.P x Q)) (hf : ¬ p → J X e L (cw X.P y Q)) :
    J X e L (cw X.P (Code.cond c x y) Q) := t_cond hc (fun h => ht (of_decide_eq_true h)) (fun h => hf (of_decide_eq_false h))
theorem t_condN {c : Operand} {x y : Code} {p : Prop} [Decidable p] (hc : ev e c = some (.bool (!decide p))) (ht : ¬ p → J X e L (cw X.P x Q)) (hf : p → J X e L (cw X.P y Q)) :
    J X e L (cw X.P (Code.cond c x y) Q) := t_cond hc (fun h => ht (by simpa using h)) (fun h => hf (by simpa using h))

/-- where the ways of a piece of code meet. -/
def Meet (X : Cx) {σ : Type} (E : σ → Env) (M : σ → List Assn) (q : σ → Prop) (Q : Exit → Act → World → Prop) : Exit → Act → World → Prop
  | .normal, a, w => ∃ s, q s ∧ Mt X.ds X.n (E s) a ∧ Holds X.Φ (M s) w
  | x, a, w => Q x a w
theorem t_meet {σ : Type} {c : Code} (E : σ → Env) (M : σ → List Assn) (q : σ → Prop) (h : J X e L (cw X.P c (Meet X E M q Q))) (k : ∀ s, q s → J X (E s) (M s) (Q .normal)) :
    J X e L (cw X.P c Q) := fun a w m hh => cw_mono (h a w m hh) fun x a w hx => by
  cases x <;> first
    | exact hx
    | (obtain ⟨s, h0, h1, h2⟩ := hx; exact k s h0 a w h1 h2)
theorem j_meet {σ : Type} {E : σ → Env} {M : σ → List Assn} {q : σ → Prop} (s : σ) (hq : q s) (he : Sub (E s) e) (hm : Ent L (M s)) : J X e L (Meet X E M q Q .normal) := fun _ _ m hh =>
  ⟨s, hq, ⟨m.size, m.defers, fun t v ht => m.val t v (he.lk t v ht)⟩, hh.ent hm⟩
/-- a loop: what holds at each round's head, by a state that a measure lowers. -/
theorem wp_loop_by {P : Program} {c : Code} {Q : Exit → Act → World → Prop} {σ : Type} (I : σ → Act → World → Prop) (μ : σ → Nat) (ro : Option Nat)
    (round : ∀ s a w, I s a w → c.wpIn (fen ro) 0 P (Exit.then (fun a' w' => ∃ s', I s' a' w' ∧ μ s' < μ s) Q) a w) : ∀ s a w, I s a w → (Code.loop c).wpIn (fen ro) 0 P Q a w := by
  intro s a w h₀ b k cs hro hb hr
  have key : ∀ n s a w, μ s = n → I s a w →
      ∃ e a' w', Q e a' w' ∧ ArrivesIn (Machine.fenced P (fen ro)) P (lone (b.atR a (.code c :: .inLoop c :: k)) cs w) b k cs e a' w' := by
    intro n
    induction n using Nat.strongRecOn with
    | _ n ih =>
      intro s a w hn hI
      obtain ⟨e, a₁, w₁, hq, harr⟩ := round s a w hI b (.inLoop c :: k) cs hro hb hr
      cases e with
      | normal =>
        obtain ⟨s', hI₁, hlt⟩ := hq
        obtain ⟨e₂, a₂, w₂, hq₂, harr₂⟩ := ih (μ s') (hn ▸ hlt) s' a₁ w₁ rfl hI₁
        exact ⟨e₂, a₂, w₂, hq₂, .of_steps (StepsIn.trans harr (.one (fenced_calm hb hr rfl) stepR_inLoop)) harr₂⟩
      | exit id => exact ⟨_, a₁, w₁, hq, .pass (x := .inLoop c) rfl (fun _ _ => .inl (by simp)) harr⟩
      | goto l => exact ⟨_, a₁, w₁, hq, .pass (x := .inLoop c) rfl (fun _ _ => .inl (by simp)) harr⟩
      | ret => exact ⟨_, a₁, w₁, hq, .pass (x := .inLoop c) rfl (fun _ _ => .inl (by simp)) harr⟩
      | panic ch => exact ⟨_, a₁, w₁, hq, .pass (x := .inLoop c) rfl (fun _ _ => .inl (by simp)) harr⟩
      | outgrown => exact ⟨_, a₁, w₁, hq, .pass (x := .inLoop c) rfl (fun _ _ => .inl (by simp)) harr⟩
  obtain ⟨e, a', w', hq, harr⟩ := key _ s a w rfl h₀
  exact ⟨e, a', w', hq, .of_steps (.one (fenced_calm hb hr rfl) stepR_loop) harr⟩

/-- what a loop's round must reach. -/
def Again (X : Cx) {σ : Type} (E : σ → Env) (M : σ → List Assn) (I : σ → Prop) (μ : σ → Nat) (s : σ) (a : Act) (w : World) : Prop :=
  ∃ s', (I s' ∧ Mt X.ds X.n (E s') a ∧ Holds X.Φ (M s') w) ∧ μ s' < μ s

theorem t_loop {σ : Type} {c : Code} (E : σ → Env) (M : σ → List Assn) (I : σ → Prop) (μ : σ → Nat) (s : σ) (hs : I s)
    (he : Sub (E s) e) (hm : Ent L (M s))
    (round : ∀ s, I s → J X (E s) (M s) (cw X.P c (Exit.then (Again X E M I μ s) Q))) : J X e L (cw X.P (Code.loop c) Q) := fun a w m hh ro hr =>
  wp_loop_by (fun s a w => I s ∧ Mt X.ds X.n (E s) a ∧ Holds X.Φ (M s) w) μ ro (fun s a w ⟨h1, h2, h3⟩ => round s h1 a w h2 h3 ro hr) s a w
    ⟨hs, ⟨m.size, m.defers, fun t v ht => m.val t v (he.lk t v ht)⟩, hh.ent hm⟩
theorem j_again {σ : Type} {E : σ → Env} {M : σ → List Assn} {I : σ → Prop} {μ : σ → Nat} {s : σ} (s' : σ) (hs : I s') (hlt : μ s' < μ s)
    (he : Sub (E s') e) (hm : Ent L (M s')) : J X e L (Again X E M I μ s) := fun _ _ m hh =>
  ⟨s', ⟨hs, ⟨m.size, m.defers, fun t v ht => m.val t v (he.lk t v ht)⟩, hh.ent hm⟩, hlt⟩

/-- an entailment that the search finds. -/
class Le (A L : List Assn) : Prop where
  ent : Ent L A
instance (priority := 1200) Le.refl (A : List Assn) : Le A A := ⟨Ent.refl _⟩
instance (priority := 1100) Le.nil (L : List Assn) : Le [] L := ⟨fun _ _ _ => trivial⟩
instance (priority := 1000) Le.cons (Z : Assn) (A L M : List Assn) [f : Find Z L M] [g : Le A M] : Le (Z :: A) L := ⟨f.ent.trans (Ent.cons Z g.ent)⟩
instance (priority := 900) Le.drop (Z : Assn) (A L : List Assn) [g : Le A L] : Le A (Z :: L) := ⟨(Ent.drop Z L).trans g.ent⟩

/- regions -/
class Stay (A L : List Assn) : Prop where
  ent : Ent L A
instance Stay.nil (L : List Assn) : Stay [] L := ⟨fun _ _ _ => trivial⟩
instance Stay.cons (Z : Assn) (A L M : List Assn) [f : Find Z L M] [g : Stay A M] : Stay (Z :: A) L := ⟨f.ent.trans (Ent.cons Z g.ent)⟩

variable {A : List Assn} {S : List Nat} {ops : Array Oper} {k : Nat} {l : List Oper} {R : Act → World → Prop}
theorem t_region {id : Nat} (h : J X e L (sw X.P (Holds X.Φ []) [] l.toArray (Q .normal) 0 l)) : J X e L (cw X.P (Code.region id l.toArray false) Q) := fun a w m hh ro _ =>
  wp_region_sw (C := Holds X.Φ []) (S := []) ro (fun _ => rfl) (hh.ent (Stay.nil L).ent) (h a w m hh)
theorem t_draw (A : List Assn) (S : List Nat) {id : Nat} (hm : X.P.follows .mixedOrders = true) (hchk : chk S l.toArray = true) [st : Stay A L]
    (h : J X e L (sw X.P (Holds X.Φ A) S l.toArray (Q .normal) 0 l)) : J X e L (cw X.P (Code.region id l.toArray true) Q) := fun a w m hh _ro _ =>
  have hh' : Holds X.Φ L { w with drawn := w.drawn + 1 } := hh.draws rfl rfl rfl rfl
  wp_region_draw_sw (C := Holds X.Φ A) (S := S) hm hchk (hh'.ent st.ent) (h a _ m hh')
theorem r_nil (h : J X e L R) : J X e L (sw X.P (Holds X.Φ A) S ops R k []) := h

/-- a light operation. -/
theorem r_light {o : Oper} {d : Nat} {v : Value} (hg : o.guard = none) (hc : cls S k o = .light) (hd : o.dst = some d) (hdn : Nat.blt d X.n = true)
    (hrun : ∀ a, Mt X.ds X.n e a → ∀ w, (execOp a.eval o).run X.P w = .ok (.value v) w) (h : J X ((d, v) :: e) L (sw X.P (Holds X.Φ A) S ops R (k + 1) l)) :
    J X e L (sw X.P (Holds X.Φ A) S ops R k (o :: l)) := fun a w m hh => by
  simp only [sw, swOp, Region.wanted, hg, if_true, hc]
  refine ⟨v, fun w' _ => hrun a m w', ?_⟩
  rw [hd]
  exact h _ w (m.put hdn) hh
/-- a reading one. -/
theorem r_read {o : Oper} {d : Nat} {v : Value} (hg : o.guard = none) (hc : cls S k o = .read) (hd : o.dst = some d) (hdn : Nat.blt d X.n = true)
    (hrun : ∀ a w, Mt X.ds X.n e a → Holds X.Φ L w → (execOp a.eval o).run X.P w = .ok (.value v) w) (h : J X ((d, v) :: e) L (sw X.P (Holds X.Φ A) S ops R (k + 1) l)) :
    J X e L (sw X.P (Holds X.Φ A) S ops R k (o :: l)) := fun a w m hh => by
  simp only [sw, swOp, Region.wanted, hg, if_true, hc]
  refine ⟨v, hrun a w m hh, ?_⟩
  rw [hd]
  exact h _ w (m.put hdn) hh
/-- a reading one that reads the same all along the region. -/
theorem r_stable {o : Oper} {d : Nat} {v : Value} (hg : o.guard = none) (hc : S.contains k = true) (hd : o.dst = some d) (hdn : Nat.blt d X.n = true)
    (hrun : ∀ a w, Mt X.ds X.n e a → Holds X.Φ A w → (execOp a.eval o).run X.P w = .ok (.value v) w) (h : J X ((d, v) :: e) L (sw X.P (Holds X.Φ A) S ops R (k + 1) l)) :
    J X e L (sw X.P (Holds X.Φ A) S ops R k (o :: l)) := fun a w m hh => by
  simp only [sw, swOp, Region.wanted, hg, if_true, cls, hc]
  refine ⟨v, fun w' hw' => hrun a w' m hw', ?_⟩
  rw [hd]
  exact h _ w (m.put hdn) hh
def bnd (d : Option Nat) (v : Value) (e : Env) : Env := match d with
  | some d => (d, v) :: e
  | none => e
theorem Mt.bnd {ds : List Deferred} {n : Nat} {e : Env} {a : Act} (m : Mt ds n e a) {d : Option Nat} {v : Value} (hd : ∀ k, d = some k → Nat.blt k n = true) : Mt ds n (bnd d v e) (a.put d v) := by
  cases d with
  | none => exact m
  | some k => exact m.put (hd k rfl)
/-- a writing one. -/
theorem r_write {o : Oper} {α : Type} {q : α → Prop} {V : α → Value} {M : α → List Assn} (hg : o.guard = none) (hc : cls S k o = .write) (hdn : ∀ j, o.dst = some j → Nat.blt j X.n = true)
    (st : ∀ x, Stay A (M x))
    (hrun : ∀ a w, Mt X.ds X.n e a → Holds X.Φ L w → upS X.P (fun v w' => ∃ x, q x ∧ v = V x ∧ Holds X.Φ (M x) w') ((execOp a.eval o).run X.P w))
    (h : ∀ x, q x → J X (bnd o.dst (V x) e) (M x) (sw X.P (Holds X.Φ A) S ops R (k + 1) l)) :
    J X e L (sw X.P (Holds X.Φ A) S ops R k (o :: l)) := fun a w m hh => by
  simp only [sw, swOp, Region.wanted, hg, if_true, hc]
  refine upS_mono (fun v w' ⟨x, hq, hv, hw'⟩ => ⟨.inr (hw'.ent (st x).ent), ?_⟩) (hrun a w m hh)
  subst hv
  exact h x hq _ w' (m.bnd hdn) hw'
/-- a writing one that is the last of all. -/
theorem r_writeX {o : Oper} {α : Type} {q : α → Prop} {V : α → Value} {M : α → List Assn} (hg : o.guard = none) (hc : cls S k o = .write) (hdn : ∀ j, o.dst = some j → Nat.blt j X.n = true) (hx : exm S k = true)
    (hrun : ∀ a w, Mt X.ds X.n e a → Holds X.Φ L w → upS X.P (fun v w' => ∃ x, q x ∧ v = V x ∧ Holds X.Φ (M x) w') ((execOp a.eval o).run X.P w))
    (h : ∀ x, q x → J X (bnd o.dst (V x) e) (M x) (sw X.P (Holds X.Φ A) S ops R (k + 1) l)) :
    J X e L (sw X.P (Holds X.Φ A) S ops R k (o :: l)) := fun a w m hh => by
  simp only [sw, swOp, Region.wanted, hg, if_true, hc]
  refine upS_mono (fun v w' ⟨x, hq, hv, hw'⟩ => ⟨.inl hx, ?_⟩) (hrun a w m hh)
  subst hv
  exact h x hq _ w' (m.bnd hdn) hw'

def gslot (ops : Array Oper) (j : Nat) : Option Nat := (ops[j]?).bind (·.dst)
theorem g_pass {dst : Option Nat} {op : Op} {T : TypeId} {pos : String} {af : Array Edge} {j t : Nat} {b : Bool} {v : Value} (hs : gslot ops j = some t) (hv : lk t e = some v) (hb : v = .bool b)
    (h : J X e L (sw X.P (Holds X.Φ A) S ops R k (⟨dst, op, T, pos, af, none⟩ :: l))) : J X e L (sw X.P (Holds X.Φ A) S ops R k (⟨dst, op, T, pos, af, some (j, b)⟩ :: l)) := fun a w m hh => by
  subst hb
  have h1 := h a w m hh
  have hy : yielded ops a.tmps j = some b := by
    unfold gslot at hs
    simp only [yielded, hs, Option.bind_some, m.val t _ hv]
  have e1 : Region.wanted (⟨dst, op, T, pos, af, some (j, b)⟩ : Oper) (yielded ops a.tmps) = true := by simp [Region.wanted, hy]
  have e2 : Region.wanted (⟨dst, op, T, pos, af, none⟩ : Oper) (yielded ops a.tmps) = true := rfl
  simp only [sw, swOp, e1, e2, if_true] at h1 ⊢
  exact h1
theorem g_skip {dst : Option Nat} {op : Op} {T : TypeId} {pos : String} {af : Array Edge} {j t : Nat} {b : Bool} {v : Value} (hs : gslot ops j = some t) (hv : lk t e = some v)
    (hb : v = .bool (!b) ∨ v = undef) (hdn : ∀ j, dst = some j → Nat.blt j X.n = true)
    (h : J X (bnd dst undef e) L (sw X.P (Holds X.Φ A) S ops R (k + 1) l)) : J X e L (sw X.P (Holds X.Φ A) S ops R k (⟨dst, op, T, pos, af, some (j, b)⟩ :: l)) := fun a w m hh => by
  have hy : (yielded ops a.tmps j == some b) = false := by
    unfold gslot at hs
    simp only [yielded, hs, Option.bind_some, m.val t _ hv]
    rcases hb with rfl | rfl
    · cases b <;> rfl
    · rfl
  have e1 : Region.wanted (⟨dst, op, T, pos, af, some (j, b)⟩ : Oper) (yielded ops a.tmps) = false := by simp only [Region.wanted, hy]
  simp only [sw, swOp, e1]
  exact h _ w (m.bnd hdn) hh
theorem g_skipB {dst : Option Nat} {op : Op} {T : TypeId} {pos : String} {af : Array Edge} {j t : Nat} {b c : Bool} {v : Value} (hs : gslot ops j = some t) (hv : lk t e = some v)
    (hb : v = .bool c) (hc : (!b) = c) (hdn : ∀ j, dst = some j → Nat.blt j X.n = true)
    (h : J X (bnd dst undef e) L (sw X.P (Holds X.Φ A) S ops R (k + 1) l)) : J X e L (sw X.P (Holds X.Φ A) S ops R k (⟨dst, op, T, pos, af, some (j, b)⟩ :: l)) :=
  g_skip hs hv (.inl (by rw [hb, hc])) hdn h
/-- a test that guards what follows: both ways. -/
theorem g_split {o : Oper} {j t : Nat} {b c : Bool} (_hgd : o.guard = some (j, c)) (_hs : gslot ops j = some t) (hv : lk t e = some (.bool b))
    (ht : b = true → J X ((t, .bool true) :: e) L (sw X.P (Holds X.Φ A) S ops R k (o :: l))) (hf : b = false → J X ((t, .bool false) :: e) L (sw X.P (Holds X.Φ A) S ops R k (o :: l))) :
    J X e L (sw X.P (Holds X.Φ A) S ops R k (o :: l)) := fun a w m hh => by
  have key : ∀ b', b = b' → Mt X.ds X.n ((t, .bool b') :: e) a := fun b' hb => ⟨m.size, m.defers, fun u v hu => by
    simp only [lk] at hu
    split at hu
    · rename_i hb2
      have : u = t := Nat.eq_of_beq_eq_true hb2
      subst this; subst hb
      rw [← hu]; exact m.val _ _ hv
    · exact m.val _ _ hu⟩
  cases b with
  | true => exact ht rfl a w (key _ rfl) hh
  | false => exact hf rfl a w (key _ rfl) hh
end
/- calls -/
/-- what a contract says behind the call. -/
def PostR (Φ : Base) {α : Type} (q : α → Prop) (V : α → Value) (Post : α → List Assn) (F : List Assn) (e : Ending) (w' : World) : Prop := ∃ x, q x ∧ e = .returned (V x) ∧ Holds Φ (Post x ++ F) w'
/-- THE CONTRACT of a function. -/
def Fn (P : Program) (Φ : Base) (f : FuncId) (args : List Value) (Pre : List Assn) {α : Type} (q : α → Prop) (V : α → Value) (Post : α → List Assn) : Prop :=
  ∀ F w, Holds Φ (Pre ++ F) w → Calls P f args.toArray w (PostR Φ q V Post F)

class TFn (P : Program) (f : FuncId) : Prop where
  run : ∀ args w, (callFunc f args).run P w = .ok (.enter f args) w

section
variable {X : Cx} {e : Env} {L F : List Assn} {A : List Assn} {S : List Nat} {ops : Array Oper} {k : Nat} {l : List Oper} {R : Act → World → Prop}
theorem run_call {P : Program} {f : FuncId} [t : TFn P f] {ρ : Operand → Value} (hf : ρ (.func f) = .func (.func f) #[] #[]) {dst : Option Nat} {as : List Operand} {ts : Array TypeId} {T : TypeId} {pos : String} {af : Array Edge} {g : Option (Nat × Bool)} {vs : List Value}
    (hvs : as.map ρ = vs) (w : World) : (execOp ρ ⟨dst, .call { callee := .value (.func f), args := as.toArray, argTypes := ts }, T, pos, af, g⟩).run P w = .ok (.enter f vs.toArray) w := by
  have h1 : as.toArray.map ρ = vs.toArray := by rw [← hvs]; simp
  simp only [execOp, resolve, hf, h1]
  simp [Deferred.ofValue, invoke, t.run, go_sem]
theorem calls_up {P : Program} {o : Oper} {ρ : Operand → Value} {w : World} {f : FuncId} {vs : List Value} {α : Type} {q : α → Prop} {V : α → Value} {Φ : Base} {M : α → List Assn}
    (hr : (execOp ρ o).run P w = .ok (.enter f vs.toArray) w) (hc : Calls P f vs.toArray w fun e w' => ∃ x, q x ∧ e = .returned (V x) ∧ Holds Φ (M x) w') :
    upS P (fun v w' => ∃ x, q x ∧ v = V x ∧ Holds Φ (M x) w') ((execOp ρ o).run P w) := by
  rw [hr]
  exact hc.mono fun e w' ⟨x, hq, he, hh⟩ => ⟨V x, he, x, hq, rfl, hh⟩

/-- a call by its contract. -/
theorem r_call {dst : Option Nat} {f : FuncId} {as : List Operand} {ts : Array TypeId} {T : TypeId} {pos : String} {af : Array Edge} {vs : List Value} {Pre : List Assn}
    {α : Type} {q : α → Prop} {V : α → Value} {Post : α → List Assn} [TFn X.P f] (hs : S.contains k = false) (hdn : ∀ j, dst = some j → Nat.blt j X.n = true)
    (hvs : evL e as = some vs) (hc : Fn X.P X.Φ f vs Pre q V Post) [sp : Split Pre L F] [st : ∀ x, Stay A (Post x ++ F)]
    (h : ∀ x, q x → J X (bnd dst (V x) e) (Post x ++ F) (sw X.P (Holds X.Φ A) S ops R (k + 1) l)) :
    J X e L (sw X.P (Holds X.Φ A) S ops R k (⟨dst, .call { callee := .value (.func f), args := as.toArray, argTypes := ts }, T, pos, af, none⟩ :: l)) :=
  r_write rfl (by simp only [cls, hs]; rfl) hdn st (fun a w m hh => calls_up (run_call rfl (m.evL hvs) w) (hc F w (hh.ent sp.ent))) h

/-- a call of a function value. -/
theorem run_callv {P : Program} {f : FuncId} [t : TFn P f] {ρ : Operand → Value} {x : Operand} {cap : List Value} (hf : ρ x = .func (.func f) #[] cap.toArray) {dst : Option Nat} {as : List Operand} {ts : Array TypeId} {T : TypeId} {pos : String} {af : Array Edge} {g : Option (Nat × Bool)} {vs : List Value}
    (hvs : as.map ρ = vs) (w : World) : (execOp ρ ⟨dst, .call { callee := .value x, args := as.toArray, argTypes := ts }, T, pos, af, g⟩).run P w = .ok (.enter f (vs ++ cap).toArray) w := by
  have h1 : as.toArray.map ρ = vs.toArray := by rw [← hvs]; simp
  simp only [execOp, resolve, hf, h1]
  simp [Deferred.ofValue, invoke, t.run, go_sem]
theorem r_callv {dst : Option Nat} {f : FuncId} {x : Operand} {cap : List Value} {as : List Operand} {ts : Array TypeId} {T : TypeId} {pos : String} {af : Array Edge} {vs : List Value} {Pre : List Assn}
    {α : Type} {q : α → Prop} {V : α → Value} {Post : α → List Assn} [TFn X.P f] (hs : S.contains k = false) (hdn : ∀ j, dst = some j → Nat.blt j X.n = true)
    (hx : ev e x = some (.func (.func f) #[] cap.toArray))
    (hvs : evL e as = some vs) (hc : Fn X.P X.Φ f (vs ++ cap) Pre q V Post) [sp : Split Pre L F] [st : ∀ x, Stay A (Post x ++ F)]
    (h : ∀ x, q x → J X (bnd dst (V x) e) (Post x ++ F) (sw X.P (Holds X.Φ A) S ops R (k + 1) l)) :
    J X e L (sw X.P (Holds X.Φ A) S ops R k (⟨dst, .call { callee := .value x, args := as.toArray, argTypes := ts }, T, pos, af, none⟩ :: l)) :=
  r_write rfl (by simp only [cls, hs]; rfl) hdn st (fun a w m hh => calls_up (run_callv (m.ev hx) (m.evL hvs) w) (hc F w (hh.ent sp.ent))) h
end
/- a function's end -/
class TAgg (P : Program) (t : TypeId) (b : outParam Bool) : Prop where
  run : ∀ w, (isAgg t).run P w = .ok b w
class TSize (P : Program) (t : TypeId) (n : outParam Nat) : Prop where
  run : ∀ w, (sizeOf t).run P w = .ok n w

/-- a result's value. -/
def rv (tmps : Array Value) : ResultVar → Sem Value
  | .tmp t => pure (tmps.getD t undef)
  | .cell a t => do loadVar t (← asAddr (tmps.getD a undef))
theorem results_rv (fn : Func) (tmps : Array Value) : results fn tmps = (do let vs ← fn.results.mapM (rv tmps); pure (if h : vs.size = 1 then vs[0] else .tuple vs)) := by
  unfold results
  congr 2
def pack : List Value → Value
  | [v] => v
  | vs => .tuple vs.toArray
def RvOK (X : Cx) (e : Env) (L : List Assn) (r : ResultVar) (v : Value) : Prop := ∀ a w, Mt X.ds X.n e a → Holds X.Φ L w → (rv a.tmps r).run X.P w = .ok v w
inductive RvsOK (X : Cx) (e : Env) (L : List Assn) : List ResultVar → List Value → Prop
  | nil : RvsOK X e L [] []
  | cons {r : ResultVar} {v : Value} {rs : List ResultVar} {vs : List Value} : RvOK X e L r v → RvsOK X e L rs vs → RvsOK X e L (r :: rs) (v :: vs)
theorem rv_tmp {X : Cx} {e : Env} {L : List Assn} {t : Nat} {v : Value} (h : lk t e = some v) : RvOK X e L (.tmp t) v := fun a w m _ => by
  simp [rv, m.val t v h, go_sem]
theorem cell_of_heap {w : World} {b off : Nat} {cs : Array Value} {T : TypeId} {fr : Nat × Nat} {v : Value} (h : w.heap[b]? = some (.cells cs T fr)) (hv : cs[off]? = some v) : w.cell? ⟨b, off, none⟩ = some v := by
  simp [World.cell?, h, hv]
theorem add_at (b off j : Nat) : (⟨b, off, none⟩ : Addr).add j = ⟨b, off + j, none⟩ := by unfold Addr.add; split <;> simp_all
theorem run_loadAgg {P : Program} {w : World} {t : TypeId} {b off : Nat} {cs : Array Value} {T : TypeId} {fr : Nat × Nat} {n : Nat} [ta : TAgg P t true] [ts : TSize P t n] (h : w.heap[b]? = some (.cells cs T fr))
    {l : List Value} (hl : l.length = n) (hseg : ∀ j v, l[j]? = some v → cs[off + j]? = some v) : (loadVar t ⟨b, off, none⟩).run P w = .ok (.agg l.toArray) w := by
  have h1 := run_loadCells_list (P := P) w ⟨b, off, none⟩ l (fun j v hj => by rw [add_at]; exact cell_of_heap h (hseg j v hj))
  rw [hl] at h1
  simp only [loadVar, Sem.run_bind, ta.run, ts.run, Result.andThen_ok, if_true, h1]
  rfl
theorem run_loadOne {P : Program} {w : World} {t : TypeId} {a : Addr} [ta : TAgg P t false] {v : Value} (h : w.cell? a = some v) : (loadVar t a).run P w = .ok v w := by
  simp [loadVar, Sem.run_bind, ta.run, h, go_sem]
theorem rv_agg {X : Cx} {e : Env} {L : List Assn} {t : Nat} {T U : TypeId} {b : Nat} {l : List Value} {fr : Nat × Nat} {n : Nat} (h : lk t e = some (.pointer (some ⟨b, 0, none⟩))) [TAgg X.P T true] [TSize X.P T n]
    [g : Rd b L (.cells l.toArray U fr)] (hn : l.length = n) : RvOK X e L (.cell t T) (.agg l.toArray) := fun a w m hh => by
  have h1 := run_loadAgg (P := X.P) (t := T) (off := 0) (l := l) (hh.rd : w.heap[b]? = some (.cells l.toArray U fr)) hn (fun j v hj => by simpa using hj)
  have h2 : a.tmps.getD t undef = .pointer (some ⟨b, 0, none⟩) := by simp [m.val t _ h]
  simp only [rv, h2, asAddr, pure_bind]
  exact h1
theorem results_ok {X : Cx} {e : Env} {L : List Assn} {fn : Func} {rs : List ResultVar} {vs : List Value} (hr : fn.results = rs.toArray) (h : RvsOK X e L rs vs) {a : Act} {w : World} (m : Mt X.ds X.n e a) (hh : Holds X.Φ L w) :
    (results fn a.tmps).run X.P w = .ok (pack vs) w := by
  have key : ∀ {rs : List ResultVar} {vs : List Value}, RvsOK X e L rs vs → (rs.mapM (rv a.tmps)).run X.P w = .ok vs w := by
    intro rs vs h
    induction h with
    | nil => simp [go_sem]
    | cons h1 _ ih => rw [List.mapM_cons]; simp only [Sem.run_bind, h1 a w m hh, ih, Result.andThen_ok]; simp [go_sem]
  rw [results_rv, hr, List.mapM_toArray]
  simp only [Sem.run_bind, Sem.run_map, key h, Result.andThen_ok]
  rcases vs with _ | ⟨v, _ | ⟨u, vs⟩⟩ <;> simp [pack, go_sem]

/-- what stands behind G, F is. -/
class Tail (F L : List Assn) : Prop where
  ent : Ent L F
instance (priority := 1100) Tail.here (F : List Assn) : Tail F F := ⟨Ent.refl _⟩
instance (priority := 900) Tail.next (Z : Assn) (F L : List Assn) [t : Tail F L] : Tail F (Z :: L) := ⟨(Ent.drop Z L).trans t.ent⟩
class Fits (G F L : List Assn) : Prop where
  ent : Ent L (G ++ F)
instance Fits.nil (F L : List Assn) [t : Tail F L] : Fits [] F L := ⟨t.ent⟩
instance Fits.cons (Z : Assn) (G F L M : List Assn) [f : Find Z L M] [g : Fits G F M] : Fits (Z :: G) F L := ⟨f.ent.trans (Ent.cons Z g.ent)⟩

theorem j_end {X : Cx} {e : Env} {L F : List Assn} {fn : Func} {rs : List ResultVar} {vs : List Value} {α : Type} {q : α → Prop} {V : α → Value} {Post : α → List Assn} (hr : fn.results = rs.toArray) (h : RvsOK X e L rs vs)
    (x : α) (hV : V x = pack vs) (hq : q x) (hE : Ent L (Post x ++ F)) (hds : X.ds = [] := by rfl) :
    J X e L (bodyPost X.P fn (PostR X.Φ q V Post F) .ret) := fun a w m hh =>
  ⟨m.defers.trans hds, pack vs, results_ok hr h m hh, x, hq, by rw [hV], hh.ent hE⟩
theorem j_end' {X : Cx} {e : Env} {L F : List Assn} {fn : Func} {rs : List ResultVar} {vs : List Value} {α : Type} {q : α → Prop} {V : α → Value} {Post : α → List Assn} (hr : fn.results = rs.toArray) (h : RvsOK X e L rs vs)
    (x : α) (hV : V x = pack vs) (hq : q x) (hE : Ent L (Post x ++ F)) (hds : X.ds = [] := by rfl) :
    J X e L (bodyPost X.P fn (PostR X.Φ q V Post F) .normal) := fun a w m hh =>
  ⟨m.defers.trans hds, pack vs, results_ok hr h m hh, x, hq, by rw [hV], hh.ent hE⟩

theorem j_fin {X : Cx} {e : Env} {L F : List Assn} {fn : Func} {rs : List ResultVar} {vs : List Value} {α : Type} {q : α → Prop} {V : α → Value} {Post : α → List Assn} (hr : fn.results = rs.toArray) (h : RvsOK X e L rs vs)
    (x : α) (hV : V x = pack vs) (hq : q x) [ft : Fits (Post x) F L] (hds : X.ds = [] := by rfl) :
    J X e L (bodyPost X.P fn (PostR X.Φ q V Post F) .ret) := j_end hr h x hV hq ft.ent hds
theorem j_fin' {X : Cx} {e : Env} {L F : List Assn} {fn : Func} {rs : List ResultVar} {vs : List Value} {α : Type} {q : α → Prop} {V : α → Value} {Post : α → List Assn} (hr : fn.results = rs.toArray) (h : RvsOK X e L rs vs)
    (x : α) (hV : V x = pack vs) (hq : q x) [ft : Fits (Post x) F L] (hds : X.ds = [] := by rfl) :
    J X e L (bodyPost X.P fn (PostR X.Φ q V Post F) .normal) := j_end' hr h x hV hq ft.ent hds
class TBody (P : Program) (f : FuncId) (fn : outParam Func) (n : outParam Nat) : Prop where
  hf : P.funcs[f]? = some fn
  hn : fn.ntmps = n
/-- a function by its body. -/
theorem fn_of {P : Program} {Φ : Base} {f : FuncId} {fn : Func} {c : Code} {n : Nat} {args : List Value} {Pre : List Assn} {α : Type} {q : α → Prop} {V : α → Value} {Post : α → List Assn}
    [tb : TBody P f fn n] (hb : fn.body = some c) (hl : Nat.ble args.length n = true)
    (h : ∀ F, J ⟨P, Φ, n, []⟩ (argEnv 0 args) (Pre ++ F) (cw P c (bodyPost P fn (PostR Φ q V Post F)))) : Fn P Φ f args Pre q V Post := fun F w hh =>
  calls_of_wp tb.hf hb <| cw_wp (h F _ w ⟨by have := Nat.le_of_ble_eq_true hl; rw [← tb.hn] at this ⊢; simp; omega, rfl, fun t v ht => by
    obtain ⟨_, h2⟩ := argEnv_spec args 0 t v ht
    have hlt := (List.getElem?_eq_some_iff.1 h2).1
    simp only [Nat.sub_zero] at h2 hlt
    rw [Array.getElem?_append_left (by simpa using hlt)]
    simpa using h2⟩ hh)
theorem Fn.conseq {P : Program} {Φ : Base} {f : FuncId} {args : List Value} {Pre Pre' : List Assn} {α : Type} {q : α → Prop} {V : α → Value} {Post : α → List Assn} {β : Type} {q' : β → Prop} {V' : β → Value} {Post' : β → List Assn}
    (h : Fn P Φ f args Pre q V Post) (hp : ∀ F, Ent (Pre' ++ F) (Pre ++ F)) (hq : ∀ x, q x → ∃ y, q' y ∧ V' y = V x ∧ ∀ F, Ent (Post x ++ F) (Post' y ++ F)) : Fn P Φ f args Pre' q' V' Post' := fun F w hh =>
  (h F w (hh.ent (hp F))).mono fun _ w' ⟨x, hx, he, hw⟩ => let ⟨y, hy, hv, hE⟩ := hq x hx; ⟨y, hy, by rw [hv]; exact he, hw.ent (hE F)⟩
end Go.Proofs.YtcnpkmdooekmgaaGreatDoor.Sl
namespace Go.Proofs.YtcnpkmdooekmgaaGreatDoor.Sl
class TUnd (P : Program) (t : TypeId) (d : outParam TypeDesc) : Prop where
  eq : P.underlying t = some d
  run : ∀ w, (underlying t).run P w = .ok d w
class TZero (P : Program) (t : TypeId) (z : outParam Value) : Prop where
  run : ∀ w, (zeroValue t).run P w = .ok z w
/-- an element's type: its cells, its bytes, its zero. -/
class TElem (P : Program) (t : TypeId) (s bytes : outParam Nat) (z : outParam Value) : Prop where
  ex : ∃ i, P.info? t = some i ∧ i.size = s ∧ i.bytes = bytes ∧ i.zero = some z
/-- a struct's field: its place, and that it takes a cell at least. -/
class TFld (P : Program) (t : TypeId) (f : Nat) (off : outParam Nat) : Prop where
  run : ∀ (a : Addr) w, (Instr.fieldAt t (.pointer (some a)) f).run P w = .ok (.pointer (some (a.add off))) w
theorem fld_mk {P : Program} {t : TypeId} {fs : Array Field} {f off : Nat} {fd : Field} {n : Nat} (hu : ∀ w, (underlying t).run P w = .ok (.struct fs) w) (hf : fs[f]? = some fd)
    (hs : ∀ w, (sizeOf fd.type).run P w = .ok (n + 1) w) (ho : fd.offset = off) (a : Addr) (w : World) : (Instr.fieldAt t (.pointer (some a)) f).run P w = .ok (.pointer (some (a.add off))) w := by
  subst ho
  simp [Instr.fieldAt, hu, hf, Instr.sureAddr, fieldPlace, hs, go_sem]

section
variable {X : Cx} {e : Env} {L F : List Assn} {A : List Assn} {S : List Nat} {ops : Array Oper} {k : Nat} {l : List Oper} {R : Act → World → Prop}
variable {d : Nat} {T : TypeId} {pos : String} {af : Array Edge}
theorem cls_light {op : Op} {o : Oper} (ho : o.op = op) (h : clsOp op = .light) : cls S k o = .light := by
  unfold cls; split
  · rfl
  · rw [ho]; exact h

theorem r_move {x : Operand} {v : Value} (hx : ev e x = some v) (hd : Nat.blt d X.n = true) (h : J X ((d, v) :: e) L (sw X.P (Holds X.Φ A) S ops R (k + 1) l)) :
    J X e L (sw X.P (Holds X.Φ A) S ops R k (⟨some d, .move x, T, pos, af, none⟩ :: l)) :=
  r_light rfl (cls_light rfl rfl) rfl hd (fun a m w => by simp only [execOp, m.ev hx]; rfl) h
theorem r_assign {x : Operand} {v : Value} (hx : ev e x = some v) (hd : Nat.blt d X.n = true) (h : J X ((d, v) :: e) L (sw X.P (Holds X.Φ A) S ops R (k + 1) l)) :
    J X e L (sw X.P (Holds X.Φ A) S ops R k (⟨some d, .assign x, T, pos, af, none⟩ :: l)) :=
  r_light rfl (cls_light rfl rfl) rfl hd (fun a m w => by simp only [execOp, m.ev hx]; rfl) h
theorem r_pickT {c x y : Operand} {u v : Value} (hc : ev e c = some u) (hu : u = .bool true) (hx : ev e x = some v) (hd : Nat.blt d X.n = true) (h : J X ((d, v) :: e) L (sw X.P (Holds X.Φ A) S ops R (k + 1) l)) :
    J X e L (sw X.P (Holds X.Φ A) S ops R k (⟨some d, .pick c x y, T, pos, af, none⟩ :: l)) :=
  r_light rfl (cls_light rfl rfl) rfl hd (fun a m w => by subst hu; simp only [execOp, m.ev hc, m.ev hx, asBool]; rfl) h
theorem r_pickF {c x y : Operand} {u v : Value} (hc : ev e c = some u) (hu : u = .bool false) (hx : ev e y = some v) (hd : Nat.blt d X.n = true) (h : J X ((d, v) :: e) L (sw X.P (Holds X.Φ A) S ops R (k + 1) l)) :
    J X e L (sw X.P (Holds X.Φ A) S ops R k (⟨some d, .pick c x y, T, pos, af, none⟩ :: l)) :=
  r_light rfl (cls_light rfl rfl) rfl hd (fun a m w => by subst hu; simp only [execOp, m.ev hc, m.ev hx, asBool]; rfl) h
theorem r_nck {x : Operand} {a : Addr} (hx : ev e x = some (.pointer (some a))) (hd : Nat.blt d X.n = true) (h : J X ((d, .pointer (some a)) :: e) L (sw X.P (Holds X.Φ A) S ops R (k + 1) l)) :
    J X e L (sw X.P (Holds X.Φ A) S ops R k (⟨some d, .nilCheck x, T, pos, af, none⟩ :: l)) :=
  r_light rfl (cls_light rfl rfl) rfl hd (fun a m w => by simp only [execOp, m.ev hx]; rfl) h
theorem r_nckf {x : Operand} {f : FuncId} {cap : Array Value} (hx : ev e x = some (.func (.func f) #[] cap)) (hd : Nat.blt d X.n = true) (h : J X ((d, .func (.func f) #[] cap) :: e) L (sw X.P (Holds X.Φ A) S ops R (k + 1) l)) :
    J X e L (sw X.P (Holds X.Φ A) S ops R k (⟨some d, .nilCheck x, T, pos, af, none⟩ :: l)) :=
  r_light rfl (cls_light rfl rfl) rfl hd (fun a m w => by simp only [execOp, m.ev hx]; rfl) h
theorem r_fld {t : TypeId} {x : Operand} {f off : Nat} {b o : Nat} [g : TFld X.P t f off] (hx : ev e x = some (.pointer (some ⟨b, o, none⟩))) (hd : Nat.blt d X.n = true)
    (h : J X ((d, .pointer (some ⟨b, o + off, none⟩)) :: e) L (sw X.P (Holds X.Φ A) S ops R (k + 1) l)) :
    J X e L (sw X.P (Holds X.Φ A) S ops R k (⟨some d, .fieldAddr t x f, T, pos, af, none⟩ :: l)) :=
  r_light rfl (cls_light rfl rfl) rfl hd (fun a m w => by
    have h1 := g.run ⟨b, o, none⟩ w
    have h2 : (⟨b, o, none⟩ : Addr).add off = ⟨b, o + off, none⟩ := by unfold Addr.add; split <;> simp_all
    rw [h2] at h1
    simp only [execOp, m.ev hx, Sem.run_bind, h1, Result.andThen_ok]; rfl) h
/-- the first cell of a block. -/
theorem r_fld0 {t : TypeId} {x : Operand} {f off : Nat} {b : Nat} [g : TFld X.P t f off] (hx : ev e x = some (.pointer (some ⟨b, 0, none⟩))) (hd : Nat.blt d X.n = true)
    (h : J X ((d, .pointer (some ⟨b, off, none⟩)) :: e) L (sw X.P (Holds X.Φ A) S ops R (k + 1) l)) :
    J X e L (sw X.P (Holds X.Φ A) S ops R k (⟨some d, .fieldAddr t x f, T, pos, af, none⟩ :: l)) :=
  r_fld hx hd (by rw [Nat.zero_add]; exact h)
theorem r_ext {x : Operand} {i : Nat} {vs : Array Value} {v : Value} (hx : ev e x = some (.tuple vs)) (hv : vs[i]? = some v) (hd : Nat.blt d X.n = true)
    (h : J X ((d, v) :: e) L (sw X.P (Holds X.Φ A) S ops R (k + 1) l)) :
    J X e L (sw X.P (Holds X.Φ A) S ops R k (⟨some d, .extract x i, T, pos, af, none⟩ :: l)) :=
  r_light rfl (cls_light rfl rfl) rfl hd (fun a m w => by simp only [execOp, m.ev hx, Instr.extract, hv]; rfl) h

/- whole numbers -/
def iop (op : BinOp) (k : IntKind) (x y : Int) : Option Value := match op with
  | .add => some (.int k (k.wrap (x + y)))
  | .sub => some (.int k (k.wrap (x - y)))
  | .mul => some (.int k (k.wrap (x * y)))
  | .eql => some (.bool (decide (x = y)))
  | .neq => some (.bool (!decide (x = y)))
  | .lss => some (.bool (decide (x < y)))
  | .leq => some (.bool (decide (x ≤ y)))
  | .gtr => some (.bool (decide (y < x)))
  | .geq => some (.bool (decide (y ≤ x)))
  | .and => some (.int k (bits .and k x y))
  | .or => some (.int k (bits .or k x y))
  | .xor => some (.int k (bits .xor k x y))
  | .andNot => some (.int k (bits .andNot k x y))
  | _ => none
theorem run_iop {P : Program} {op : BinOp} {k : IntKind} {x y : Int} {v : Value} (h : iop op k x y = some v) (t : TypeId) (w : World) :
    (binOp op t (.int k x) (.int k y)).run P w = .ok v w := by
  cases op <;> simp only [iop, Option.some.injEq, reduceCtorEq] at h <;> subst h <;> simp [binOp, Op.intArith, Op.intBits, Op.intCmp, bits, go_sem]
  all_goals (first | rfl | (simp [bne]; done) | skip)
theorem r_iop {op : BinOp} {t u : TypeId} {x y : Operand} {ki : IntKind} {m n : Int} {v : Value} (hx : ev e x = some (.int ki m)) (hy : ev e y = some (.int ki n)) (hv : iop op ki m n = some v)
    (hd : Nat.blt d X.n = true) (h : J X ((d, v) :: e) L (sw X.P (Holds X.Φ A) S ops R (k + 1) l)) :
    J X e L (sw X.P (Holds X.Φ A) S ops R k (⟨some d, .binOp op t x y u, T, pos, af, none⟩ :: l)) :=
  r_light rfl (cls_light rfl rfl) rfl hd (fun a mt w => by
    have h1 := run_iop (P := X.P) hv t w
    simp only [execOp, mt.ev hx, mt.ev hy, Sem.run_bind, eqGuard_at_int, Sem.run_pure, h1, Result.andThen_ok]) h
theorem r_not {x : Operand} {b : Bool} (hx : ev e x = some (.bool b)) (hd : Nat.blt d X.n = true) (h : J X ((d, .bool (!b)) :: e) L (sw X.P (Holds X.Φ A) S ops R (k + 1) l)) :
    J X e L (sw X.P (Holds X.Φ A) S ops R k (⟨some d, .unOp .not T x, T, pos, af, none⟩ :: l)) :=
  r_light rfl (cls_light rfl rfl) rfl hd (fun a m w => by simp only [execOp, m.ev hx]; rfl) h

/- memory -/
/-- a reading of one cell. -/
theorem r_load1 {t : TypeId} {x : Operand} {b off : Nat} {cs : Array Value} {U : TypeId} {fr : Nat × Nat} {v : Value} [ta : TAgg X.P t false] (hx : ev e x = some (.pointer (some ⟨b, off, none⟩)))
    [g : Rd b L (.cells cs U fr)] (hv : cs[off]? = some v) (hd : Nat.blt d X.n = true) (hs : S.contains k = false) (h : J X ((d, v) :: e) L (sw X.P (Holds X.Φ A) S ops R (k + 1) l)) :
    J X e L (sw X.P (Holds X.Φ A) S ops R k (⟨some d, .load t x, T, pos, af, none⟩ :: l)) :=
  r_read rfl (by unfold cls; rw [hs]; rfl) rfl hd (fun a w m hh => by
    have h1 := run_loadOne (P := X.P) (t := t) (a := ⟨b, off, none⟩) (cell_of_heap (hh.rd : w.heap[b]? = some (.cells cs U fr)) hv)
    simp only [execOp, m.ev hx, Instr.loadAt, Instr.sureAddr, pure_bind, Sem.run_bind, h1, Result.andThen_ok, Sem.run_pure]) h

/-- the newest value, spelled otherwise. -/
theorem j_val {G : Act → World → Prop} (v' : Value) {v : Value} (h : v = v') (g : J X ((d, v') :: e) L G) : J X ((d, v) :: e) L G := by rw [h]; exact g
/- whole numbers, where the outcome is known -/
theorem r_addI {t u : TypeId} {x y : Operand} {m n : Int} (hx : ev e x = some (.int .i64 m)) (hy : ev e y = some (.int .i64 n)) (hr : -9223372036854775808 ≤ m + n ∧ m + n ≤ 9223372036854775807)
    (hd : Nat.blt d X.n = true) (h : J X ((d, .int .i64 (m + n)) :: e) L (sw X.P (Holds X.Φ A) S ops R (k + 1) l)) :
    J X e L (sw X.P (Holds X.Φ A) S ops R k (⟨some d, .binOp .add t x y u, T, pos, af, none⟩ :: l)) :=
  r_iop hx hy (by simp only [iop]; rw [IntWalk.i64_in _ hr]) hd h
theorem r_subI {t u : TypeId} {x y : Operand} {m n : Int} (hx : ev e x = some (.int .i64 m)) (hy : ev e y = some (.int .i64 n)) (hr : -9223372036854775808 ≤ m - n ∧ m - n ≤ 9223372036854775807)
    (hd : Nat.blt d X.n = true) (h : J X ((d, .int .i64 (m - n)) :: e) L (sw X.P (Holds X.Φ A) S ops R (k + 1) l)) :
    J X e L (sw X.P (Holds X.Φ A) S ops R k (⟨some d, .binOp .sub t x y u, T, pos, af, none⟩ :: l)) :=
  r_iop hx hy (by simp only [iop]; rw [IntWalk.i64_in _ hr]) hd h
theorem r_inc {t u : TypeId} {x : Operand} {m : Nat} (hx : ev e x = some (.int .i64 (m : Int))) (hr : m < 9223372036854775807)
    (hd : Nat.blt d X.n = true) (h : J X ((d, .int .i64 ((m + 1 : Nat) : Int)) :: e) L (sw X.P (Holds X.Φ A) S ops R (k + 1) l)) :
    J X e L (sw X.P (Holds X.Φ A) S ops R k (⟨some d, .binOp .add t x (.const (.int .i64 1)) u, T, pos, af, none⟩ :: l)) :=
  r_addI hx rfl (by omega) hd (by simpa using h)
theorem r_cmpT {op : BinOp} {t u : TypeId} {x y : Operand} {ki : IntKind} {m n : Int} {b : Bool} (hx : ev e x = some (.int ki m)) (hy : ev e y = some (.int ki n)) (hv : iop op ki m n = some (.bool b)) (hb : b = true)
    (hd : Nat.blt d X.n = true) (h : J X ((d, .bool true) :: e) L (sw X.P (Holds X.Φ A) S ops R (k + 1) l)) :
    J X e L (sw X.P (Holds X.Φ A) S ops R k (⟨some d, .binOp op t x y u, T, pos, af, none⟩ :: l)) := r_iop hx hy (by rw [hv, hb]) hd h
theorem r_cmpF {op : BinOp} {t u : TypeId} {x y : Operand} {ki : IntKind} {m n : Int} {b : Bool} (hx : ev e x = some (.int ki m)) (hy : ev e y = some (.int ki n)) (hv : iop op ki m n = some (.bool b)) (hb : b = false)
    (hd : Nat.blt d X.n = true) (h : J X ((d, .bool false) :: e) L (sw X.P (Holds X.Φ A) S ops R (k + 1) l)) :
    J X e L (sw X.P (Holds X.Φ A) S ops R k (⟨some d, .binOp op t x y u, T, pos, af, none⟩ :: l)) := r_iop hx hy (by rw [hv, hb]) hd h
end
end Go.Proofs.YtcnpkmdooekmgaaGreatDoor.Sl
namespace Go.Proofs.YtcnpkmdooekmgaaGreatDoor.Sl
/-- a list with one place turned, written out. -/
class LSet (l : List Value) (i : Nat) (v : Value) (l' : outParam (List Value)) : Prop where
  eq : l.set i v = l'
instance (priority := 1100) LSet.z (a : Value) (l : List Value) (v : Value) : LSet (a :: l) 0 v (v :: l) := ⟨rfl⟩
instance (priority := 1100) LSet.s (a : Value) (l : List Value) (i : Nat) (v : Value) (l' : List Value) [h : LSet l i v l'] : LSet (a :: l) (i + 1) v (a :: l') := ⟨by rw [List.set_cons_succ, h.eq]⟩
instance (priority := 100) LSet.any (l : List Value) (i : Nat) (v : Value) : LSet l i v (l.set i v) := ⟨rfl⟩

section
variable {P : Program}
theorem run_newRow (E : TypeId) (cs : Array Value) (w : World) : (newRow E cs).run P w = .ok ⟨w.heap.size, 0, none⟩ { w with heap := w.heap.push (.cells cs E) } := rfl
theorem run_newObj (o : Obj) (w : World) : (newObj o).run P w = .ok w.heap.size { w with heap := w.heap.push o } := rfl
theorem run_store1 {w : World} {b off : Nat} {cs : Array Value} {U : TypeId} {v : Value} (h : w.heap[b]? = some (.cells cs U (0, 0))) (ho : off < cs.size) (hv : v.oneCell' = true) :
    (store ⟨b, off, none⟩ v).run P w = .ok () (w.setCell ⟨b, off, none⟩ v) := by
  have h1 : w.cell? ⟨b, off, none⟩ = some cs[off] := cell_of_heap h (by simp [ho])
  have h2 : w.frozen? ⟨b, off, none⟩ = false := by simp [World.frozen?, h]
  cases v <;> first
    | (simp [Value.oneCell'] at hv; done)
    | simp [store, Sem.run, h1, h2]
theorem setCell_at {w : World} {b off : Nat} {cs : Array Value} {U : TypeId} {fr : Nat × Nat} {v : Value} (h : w.heap[b]? = some (.cells cs U fr)) :
    (w.setCell ⟨b, off, none⟩ v).heap[b]? = some (.cells (cs.setIfInBounds off v) U fr) := by
  simp [World.setCell, Array.getElem?_modify, h]
theorem setCell_ne {w : World} {b c off : Nat} {v : Value} (hne : c ≠ b) : (w.setCell ⟨b, off, none⟩ v).heap[c]? = w.heap[c]? := by
  simp [World.setCell, Array.getElem?_modify, Ne.symm hne]
theorem run_storeVar1 {w : World} {t : TypeId} {b off : Nat} {cs : Array Value} {U : TypeId} {v : Value} [ts : TSize P t 1] (h : w.heap[b]? = some (.cells cs U (0, 0))) (ho : off < cs.size) (hv : v.oneCell' = true) :
    (storeVar t ⟨b, off, none⟩ v).run P w = .ok () (w.setCell ⟨b, off, none⟩ v) := by
  have hc : v.cells = #[v] := by cases v <;> first | rfl | (simp [Value.oneCell'] at hv; done)
  have h1 := run_store1 (P := P) h ho hv
  have h2 : (⟨b, off, none⟩ : Addr).add 0 = ⟨b, off, none⟩ := rfl
  simp only [storeVar, Sem.run_bind, ts.run, Result.andThen_ok, hc]
  simp only [List.size_toArray, List.length_cons, List.length_nil, Nat.zero_add, ne_eq, not_true_eq_false, if_false, storeCells, h2, Sem.run_bind, h1, Result.andThen_ok]
  rfl
theorem run_storeVarA {w : World} {t : TypeId} {b off n : Nat} {cs : Array Value} {U : TypeId} {vs : List Value} [ts : TSize P t n] (h : w.heap[b]? = some (.cells cs U (0, 0))) (hn : vs.length = n) (ho : off + n ≤ cs.size) (hv : ∀ v ∈ vs, v.oneCell' = true) :
    (storeVar t ⟨b, off, none⟩ (.agg vs.toArray)).run P w = .ok () (w.setRow b (cs.toList.take off ++ vs ++ cs.toList.drop (off + n)).toArray) := by
  have h1 := run_storeCells_at P b off U vs 0 cs w h (by omega) hv
  subst hn
  simp only [storeVar, Sem.run_bind, ts.run, Result.andThen_ok, Value.cells, List.size_toArray, ne_eq, not_true_eq_false, if_false]
  simpa using h1
end
section
variable {X : Cx} {e : Env} {L F : List Assn} {A : List Assn} {S : List Nat} {ops : Array Oper} {k : Nat} {l : List Oper} {R : Act → World → Prop}
variable {d : Nat} {T : TypeId} {pos : String} {af : Array Edge}
theorem blt_some {d n : Nat} (hd : Nat.blt d n = true) : ∀ j, some d = some j → Nat.blt j n = true := fun j h => by cases h; exact hd
theorem blt_none {n : Nat} : ∀ j, (none : Option Nat) = some j → Nat.blt j n = true := fun j h => by cases h
theorem cls_write {op : Op} {o : Oper} (ho : o.op = op) (hs : S.contains k = false) (h : clsOp op = .write) : cls S k o = .write := by
  unfold cls; rw [hs, ho]; exact h
theorem cls_read {op : Op} {o : Oper} (ho : o.op = op) (hs : S.contains k = false) (h : clsOp op = .read) : cls S k o = .read := by
  unfold cls; rw [hs, ho]; exact h

/-- new memory. -/
theorem r_new {op : Op} {o : Obj} {V : Nat → Value} (hs : S.contains k = false) (hc : clsOp op = .write) (hd : Nat.blt d X.n = true) [st : ∀ b, Stay A (pt b o :: L)]
    (hrun : ∀ a w, Mt X.ds X.n e a → (execOp a.eval (⟨some d, op, T, pos, af, none⟩ : Oper)).run X.P w = .ok (.value (V w.heap.size)) { w with heap := w.heap.push o })
    (h : ∀ b, J X ((d, V b) :: e) (pt b o :: L) (sw X.P (Holds X.Φ A) S ops R (k + 1) l)) : J X e L (sw X.P (Holds X.Φ A) S ops R k (⟨some d, op, T, pos, af, none⟩ :: l)) :=
  r_write (α := Nat) (q := fun _ => True) (V := V) (M := fun b => pt b o :: L) rfl (cls_write rfl hs hc) (blt_some hd) st
    (fun a w m hh => by rw [hrun a w m]; exact ⟨w.heap.size, trivial, rfl, hh.alloc o rfl rfl rfl rfl⟩) (fun b _ => h b)
theorem r_alloc {t : TypeId} {z : Value} {cs : List Value} [tz : TZero X.P t z] (hz : z.cells = cs.toArray) (hs : S.contains k = false) (hd : Nat.blt d X.n = true) [st : ∀ b, Stay A (pt b (.cells cs.toArray t (0, 0)) :: L)]
    (h : ∀ b, J X ((d, .pointer (some ⟨b, 0, none⟩)) :: e) (pt b (.cells cs.toArray t (0, 0)) :: L) (sw X.P (Holds X.Φ A) S ops R (k + 1) l)) :
    J X e L (sw X.P (Holds X.Φ A) S ops R k (⟨some d, .alloc t, T, pos, af, none⟩ :: l)) :=
  r_new hs rfl hd (fun a w m => by
    simp only [execOp, Instr.alloc, Sem.run_bind, tz.run, Result.andThen_ok, newVar, hz, run_newRow, Sem.run_pure]) h
theorem r_box {t : TypeId} {x : Operand} {v : Value} {cs : List Value} (hx : ev e x = some v) (hz : v.cells = cs.toArray) (hs : S.contains k = false) (hd : Nat.blt d X.n = true) [st : ∀ b, Stay A (pt b (.cells cs.toArray t (0, 0)) :: L)]
    (h : ∀ b, J X ((d, .pointer (some ⟨b, 0, none⟩)) :: e) (pt b (.cells cs.toArray t (0, 0)) :: L) (sw X.P (Holds X.Φ A) S ops R (k + 1) l)) :
    J X e L (sw X.P (Holds X.Φ A) S ops R k (⟨some d, .box t x, T, pos, af, none⟩ :: l)) :=
  r_new hs rfl hd (fun a w m => by
    simp only [execOp, m.ev hx, Instr.box, newVar, hz, Sem.run_bind, run_newRow, Result.andThen_ok, Sem.run_pure]) h
theorem r_map {t : TypeId} (hs : S.contains k = false) (hd : Nat.blt d X.n = true) [st : ∀ b, Stay A (pt b (.map #[] 0) :: L)]
    (h : ∀ b, J X ((d, .map (some b)) :: e) (pt b (.map #[] 0) :: L) (sw X.P (Holds X.Φ A) S ops R (k + 1) l)) :
    J X e L (sw X.P (Holds X.Φ A) S ops R k (⟨some d, .makeMap t none, T, pos, af, none⟩ :: l)) :=
  r_new hs rfl hd (fun a w m => by
    simp only [execOp, Option.map_none, Instr.makeMap, Sem.run_bind, run_newObj, Result.andThen_ok, Sem.run_pure]) h

/-- an owned block is turned. -/
theorem r_upd {op : Op} {b : Nat} {o o' : Obj} {f : Obj → List Assn} {dst : Option Nat} {v : Value} [g : Own b L o f] (hs : S.contains k = false) (hc : clsOp op = .write) (hd : ∀ j, dst = some j → Nat.blt j X.n = true) (st : Stay A (f o'))
    (hrun : ∀ a w, Mt X.ds X.n e a → w.heap[b]? = some o → ∃ w', upS X.P (fun u w'' => u = v ∧ w'' = w') ((execOp a.eval (⟨dst, op, T, pos, af, none⟩ : Oper)).run X.P w) ∧ w'.heap[b]? = some o' ∧ (∀ c, c ≠ b → w'.heap[c]? = w.heap[c]?) ∧ w'.os = w.os ∧ w'.output = w.output ∧ w'.tape = w.tape)
    (h : J X (bnd dst v e) (f o') (sw X.P (Holds X.Φ A) S ops R (k + 1) l)) : J X e L (sw X.P (Holds X.Φ A) S ops R k (⟨dst, op, T, pos, af, none⟩ :: l)) :=
  r_write (α := Unit) (q := fun _ => True) (V := fun _ => v) (M := fun _ => f o') rfl (cls_write rfl hs hc) hd (fun _ => st)
    (fun a w m hh => by
      have hb : w.heap[b]? = some o := by obtain ⟨im, hp, r, s⟩ := hh; exact r.hw _ _ (g.get _ _ s)
      obtain ⟨w', h1, h2, h3, h4, h5, h6⟩ := hrun a w m hb
      exact upS_mono (fun u w'' ⟨h7, h8⟩ => by subst h7; subst h8; exact ⟨(), trivial, rfl, hh.upd h2 h3 h4 h5 h6⟩) h1) (fun _ _ => h)
theorem r_updX {op : Op} {b : Nat} {o o' : Obj} {f : Obj → List Assn} {dst : Option Nat} {v : Value} [g : Own b L o f] (hs : S.contains k = false) (hc : clsOp op = .write) (hd : ∀ j, dst = some j → Nat.blt j X.n = true) (hxm : exm S k = true)
    (hrun : ∀ a w, Mt X.ds X.n e a → w.heap[b]? = some o → ∃ w', upS X.P (fun u w'' => u = v ∧ w'' = w') ((execOp a.eval (⟨dst, op, T, pos, af, none⟩ : Oper)).run X.P w) ∧ w'.heap[b]? = some o' ∧ (∀ c, c ≠ b → w'.heap[c]? = w.heap[c]?) ∧ w'.os = w.os ∧ w'.output = w.output ∧ w'.tape = w.tape)
    (h : J X (bnd dst v e) (f o') (sw X.P (Holds X.Φ A) S ops R (k + 1) l)) : J X e L (sw X.P (Holds X.Φ A) S ops R k (⟨dst, op, T, pos, af, none⟩ :: l)) :=
  r_writeX (α := Unit) (q := fun _ => True) (V := fun _ => v) (M := fun _ => f o') rfl (cls_write rfl hs hc) hd hxm
    (fun a w m hh => by
      have hb : w.heap[b]? = some o := by obtain ⟨im, hp, r, s⟩ := hh; exact r.hw _ _ (g.get _ _ s)
      obtain ⟨w', h1, h2, h3, h4, h5, h6⟩ := hrun a w m hb
      exact upS_mono (fun u w'' ⟨h7, h8⟩ => by subst h7; subst h8; exact ⟨(), trivial, rfl, hh.upd h2 h3 h4 h5 h6⟩) h1) (fun _ _ => h)
theorem r_store1 {t : TypeId} {x y : Operand} {b off : Nat} {cs cs' : List Value} {U : TypeId} {v : Value} {f : Obj → List Assn} [ts : TSize X.P t 1] (hx : ev e x = some (.pointer (some ⟨b, off, none⟩))) (hy : ev e y = some v)
    [g : Own b L (.cells cs.toArray U (0, 0)) f] (ho : off < cs.length) (hv : v.oneCell' = true) [hl : LSet cs off v cs'] (hs : S.contains k = false) [st : Stay A (f (.cells cs'.toArray U (0, 0)))]
    (h : J X e (f (.cells cs'.toArray U (0, 0))) (sw X.P (Holds X.Φ A) S ops R (k + 1) l)) : J X e L (sw X.P (Holds X.Φ A) S ops R k (⟨none, .store t x y, T, pos, af, none⟩ :: l)) :=
  r_upd (g := g) (o' := .cells cs'.toArray U (0, 0)) (v := undef) hs rfl blt_none st (fun a w m hb => by
    refine ⟨w.setCell ⟨b, off, none⟩ v, ?_, ?_, fun c hc => setCell_ne hc, rfl, rfl, rfl⟩
    · have h1 := run_storeVar1 (P := X.P) (t := t) hb (by simpa using ho) hv
      simp only [execOp, m.ev hx, m.ev hy, Instr.storeAt, Instr.sureAddr, pure_bind, Sem.run_bind, h1, Result.andThen_ok, Sem.run_pure, upS, and_self]
    · rw [setCell_at hb, ← hl.eq]
      simp) h
theorem r_store1X {t : TypeId} {x y : Operand} {b off : Nat} {cs cs' : List Value} {U : TypeId} {v : Value} {f : Obj → List Assn} [ts : TSize X.P t 1] (hx : ev e x = some (.pointer (some ⟨b, off, none⟩))) (hy : ev e y = some v)
    [g : Own b L (.cells cs.toArray U (0, 0)) f] (ho : off < cs.length) (hv : v.oneCell' = true) [hl : LSet cs off v cs'] (hs : S.contains k = false) (hxm : exm S k = true)
    (h : J X e (f (.cells cs'.toArray U (0, 0))) (sw X.P (Holds X.Φ A) S ops R (k + 1) l)) : J X e L (sw X.P (Holds X.Φ A) S ops R k (⟨none, .store t x y, T, pos, af, none⟩ :: l)) :=
  r_updX (g := g) (o' := .cells cs'.toArray U (0, 0)) (v := undef) hs rfl blt_none hxm (fun a w m hb => by
    refine ⟨w.setCell ⟨b, off, none⟩ v, ?_, ?_, fun c hc => setCell_ne hc, rfl, rfl, rfl⟩
    · have h1 := run_storeVar1 (P := X.P) (t := t) hb (by simpa using ho) hv
      simp only [execOp, m.ev hx, m.ev hy, Instr.storeAt, Instr.sureAddr, pure_bind, Sem.run_bind, h1, Result.andThen_ok, Sem.run_pure, upS, and_self]
    · rw [setCell_at hb, ← hl.eq]
      simp) h
theorem r_storeA {t : TypeId} {x y : Operand} {b off n : Nat} {cs cs' vs : List Value} {U : TypeId} {f : Obj → List Assn} [ts : TSize X.P t n] (hx : ev e x = some (.pointer (some ⟨b, off, none⟩))) (hy : ev e y = some (.agg vs.toArray))
    [g : Own b L (.cells cs.toArray U (0, 0)) f] (hn : vs.length = n) (ho : off + n ≤ cs.length) (hv : ∀ v ∈ vs, v.oneCell' = true) (hl : cs.take off ++ vs ++ cs.drop (off + n) = cs') (hs : S.contains k = false) [st : Stay A (f (.cells cs'.toArray U (0, 0)))]
    (h : J X e (f (.cells cs'.toArray U (0, 0))) (sw X.P (Holds X.Φ A) S ops R (k + 1) l)) : J X e L (sw X.P (Holds X.Φ A) S ops R k (⟨none, .store t x y, T, pos, af, none⟩ :: l)) :=
  r_upd (g := g) (o' := .cells cs'.toArray U (0, 0)) (v := undef) hs rfl blt_none st (fun a w m hb => by
    refine ⟨w.setRow b cs'.toArray, ?_, ?_, fun c hc => ?_, rfl, rfl, rfl⟩
    · have h1 := run_storeVarA (P := X.P) (t := t) (off := off) hb hn (by simpa using ho) hv
      have h2 : (cs.toArray.toList.take off ++ vs ++ cs.toArray.toList.drop (off + n)) = cs' := by simpa using hl
      rw [h2] at h1
      simp only [execOp, m.ev hx, m.ev hy, Instr.storeAt, Instr.sureAddr, pure_bind, Sem.run_bind, h1, Result.andThen_ok, Sem.run_pure, upS, and_self]
    · simp [World.setRow, Array.getElem?_modify, hb]
    · simp [World.setRow, Array.getElem?_modify, Ne.symm hc]) h
/-- the whole of a block. -/
theorem r_storeW {t : TypeId} {x y : Operand} {b n : Nat} {cs vs : List Value} {U : TypeId} {f : Obj → List Assn} [ts : TSize X.P t n] (hx : ev e x = some (.pointer (some ⟨b, 0, none⟩))) (hy : ev e y = some (.agg vs.toArray))
    [g : Own b L (.cells cs.toArray U (0, 0)) f] (hn : vs.length = n) (ho : cs.length = n) (hv : ∀ v ∈ vs, v.oneCell' = true) (hs : S.contains k = false) [st : Stay A (f (.cells vs.toArray U (0, 0)))]
    (h : J X e (f (.cells vs.toArray U (0, 0))) (sw X.P (Holds X.Φ A) S ops R (k + 1) l)) : J X e L (sw X.P (Holds X.Φ A) S ops R k (⟨none, .store t x y, T, pos, af, none⟩ :: l)) :=
  r_storeA hx hy hn (by omega) hv (by simp [ho]) hs h
/-- a reading of several cells. -/
theorem r_loadA {t : TypeId} {x : Operand} {b off n : Nat} {cs : Array Value} {vs : List Value} {U : TypeId} {fr : Nat × Nat} [ta : TAgg X.P t true] [ts : TSize X.P t n] (hx : ev e x = some (.pointer (some ⟨b, off, none⟩)))
    [g : Rd b L (.cells cs U fr)] (hn : vs.length = n) (hv : ∀ j v, vs[j]? = some v → cs[off + j]? = some v) (hd : Nat.blt d X.n = true) (hs : S.contains k = false) (h : J X ((d, .agg vs.toArray) :: e) L (sw X.P (Holds X.Φ A) S ops R (k + 1) l)) :
    J X e L (sw X.P (Holds X.Φ A) S ops R k (⟨some d, .load t x, T, pos, af, none⟩ :: l)) :=
  r_read rfl (cls_read rfl hs rfl) rfl hd (fun a w m hh => by
    have h1 := run_loadAgg (P := X.P) (t := t) (off := off) (hh.rd : w.heap[b]? = some (.cells cs U fr)) hn hv
    simp only [execOp, m.ev hx, Instr.loadAt, Instr.sureAddr, pure_bind, Sem.run_bind, h1, Result.andThen_ok, Sem.run_pure]) h
theorem r_loadW {t : TypeId} {x : Operand} {b n : Nat} {vs : List Value} {U : TypeId} {fr : Nat × Nat} [ta : TAgg X.P t true] [ts : TSize X.P t n] (hx : ev e x = some (.pointer (some ⟨b, 0, none⟩)))
    [g : Rd b L (.cells vs.toArray U fr)] (hn : vs.length = n) (hd : Nat.blt d X.n = true) (hs : S.contains k = false) (h : J X ((d, .agg vs.toArray) :: e) L (sw X.P (Holds X.Φ A) S ops R (k + 1) l)) :
    J X e L (sw X.P (Holds X.Φ A) S ops R k (⟨some d, .load t x, T, pos, af, none⟩ :: l)) :=
  r_loadA hx hn (fun j v hj => by simpa using hj) hd hs h
/-- readings that are the same all along a region. -/
theorem s_load1 {t : TypeId} {x : Operand} {b off : Nat} {cs : Array Value} {U : TypeId} {fr : Nat × Nat} {v : Value} [ta : TAgg X.P t false] (hx : ev e x = some (.pointer (some ⟨b, off, none⟩)))
    [g : Rd b A (.cells cs U fr)] (hv : cs[off]? = some v) (hd : Nat.blt d X.n = true) (hs : S.contains k = true) (h : J X ((d, v) :: e) L (sw X.P (Holds X.Φ A) S ops R (k + 1) l)) :
    J X e L (sw X.P (Holds X.Φ A) S ops R k (⟨some d, .load t x, T, pos, af, none⟩ :: l)) :=
  r_stable rfl hs rfl hd (fun a w m hh => by
    have h1 := run_loadOne (P := X.P) (t := t) (a := ⟨b, off, none⟩) (cell_of_heap (hh.rd : w.heap[b]? = some (.cells cs U fr)) hv)
    simp only [execOp, m.ev hx, Instr.loadAt, Instr.sureAddr, pure_bind, Sem.run_bind, h1, Result.andThen_ok, Sem.run_pure]) h
theorem s_loadA {t : TypeId} {x : Operand} {b off n : Nat} {cs : Array Value} {vs : List Value} {U : TypeId} {fr : Nat × Nat} [ta : TAgg X.P t true] [ts : TSize X.P t n] (hx : ev e x = some (.pointer (some ⟨b, off, none⟩)))
    [g : Rd b A (.cells cs U fr)] (hn : vs.length = n) (hv : ∀ j v, vs[j]? = some v → cs[off + j]? = some v) (hd : Nat.blt d X.n = true) (hs : S.contains k = true) (h : J X ((d, .agg vs.toArray) :: e) L (sw X.P (Holds X.Φ A) S ops R (k + 1) l)) :
    J X e L (sw X.P (Holds X.Φ A) S ops R k (⟨some d, .load t x, T, pos, af, none⟩ :: l)) :=
  r_stable rfl hs rfl hd (fun a w m hh => by
    have h1 := run_loadAgg (P := X.P) (t := t) (off := off) (hh.rd : w.heap[b]? = some (.cells cs U fr)) hn hv
    simp only [execOp, m.ev hx, Instr.loadAt, Instr.sureAddr, pure_bind, Sem.run_bind, h1, Result.andThen_ok, Sem.run_pure]) h

/- places in rows -/
theorem run_idx {P : Program} {t E : TypeId} {s : Nat} {ki : IntKind} {i : Int} {b off n cap : Nat} [tu : TUnd P t (.slice E)] [ts : TSize P E s] (h0 : 0 ≤ i) (h1 : i < n) (w : World) :
    (Instr.indexAt t (.slice (some ⟨b, off, none⟩) n cap) (.int ki i)).run P w = .ok (.pointer (some ⟨b, off + i.toNat * s, none⟩)) w := by
  simp only [Instr.indexAt, asIntOf, pure_bind, Sem.run_bind, tu.run, Result.andThen_ok]
  have h2 : (0 ≤ i ∧ i < (n : Int)) := ⟨h0, h1⟩
  simp only [h2, and_self, if_true, Sem.run_bind, ts.run, Result.andThen_ok, add_at, Sem.run_pure]
theorem r_idx {t E : TypeId} {x y : Operand} {s : Nat} {ki : IntKind} {i : Int} {b off n cap : Nat} [tu : TUnd X.P t (.slice E)] [ts : TSize X.P E s] (hx : ev e x = some (.slice (some ⟨b, off, none⟩) n cap)) (hy : ev e y = some (.int ki i))
    (h0 : 0 ≤ i) (h1 : i < n) (hd : Nat.blt d X.n = true) (h : J X ((d, .pointer (some ⟨b, off + i.toNat * s, none⟩)) :: e) L (sw X.P (Holds X.Φ A) S ops R (k + 1) l)) :
    J X e L (sw X.P (Holds X.Φ A) S ops R k (⟨some d, .indexAddr t x y, T, pos, af, none⟩ :: l)) :=
  r_light rfl (cls_light rfl rfl) rfl hd (fun a m w => by
    have h2 := run_idx (P := X.P) (t := t) (E := E) (s := s) (ki := ki) (b := b) (off := off) (cap := cap) h0 h1 w
    simp only [execOp, m.ev hx, m.ev hy, Sem.run_bind, h2, Result.andThen_ok, Sem.run_pure]) h
theorem run_idxA {P : Program} {t E : TypeId} {s : Nat} {ki : IntKind} {i : Int} {b off n : Nat} [tu : TUnd P t (.array n E)] [ts : TSize P E s] (h0 : 0 ≤ i) (h1 : i < n) (w : World) :
    (Instr.indexAt t (.pointer (some ⟨b, off, none⟩)) (.int ki i)).run P w = .ok (.pointer (some ⟨b, off + i.toNat * s, none⟩)) w := by
  simp only [Instr.indexAt, asIntOf, pure_bind, Sem.run_bind, tu.run, Result.andThen_ok, Instr.sureAddr]
  have h2 : (0 ≤ i ∧ i < (n : Int)) := ⟨h0, h1⟩
  simp only [h2, and_self, if_true, Sem.run_bind, ts.run, Result.andThen_ok, add_at, Sem.run_pure]
theorem r_idxA {t E : TypeId} {x y : Operand} {s : Nat} {ki : IntKind} {i : Int} {b off n : Nat} [tu : TUnd X.P t (.array n E)] [ts : TSize X.P E s] (hx : ev e x = some (.pointer (some ⟨b, off, none⟩))) (hy : ev e y = some (.int ki i))
    (h0 : 0 ≤ i) (h1 : i < n) (hd : Nat.blt d X.n = true) (h : J X ((d, .pointer (some ⟨b, off + i.toNat * s, none⟩)) :: e) L (sw X.P (Holds X.Φ A) S ops R (k + 1) l)) :
    J X e L (sw X.P (Holds X.Φ A) S ops R k (⟨some d, .indexAddr t x y, T, pos, af, none⟩ :: l)) :=
  r_light rfl (cls_light rfl rfl) rfl hd (fun a m w => by
    have h2 := run_idxA (P := X.P) (t := t) (E := E) (s := s) (ki := ki) (b := b) (off := off) h0 h1 w
    simp only [execOp, m.ev hx, m.ev hy, Sem.run_bind, h2, Result.andThen_ok, Sem.run_pure]) h
theorem r_lenS {t E : TypeId} {x : Operand} {base : Option Addr} {n cap : Nat} [tu : TUnd X.P t (.slice E)] (hx : ev e x = some (.slice base n cap)) (hd : Nat.blt d X.n = true) (h : J X ((d, .int .i64 n) :: e) L (sw X.P (Holds X.Φ A) S ops R (k + 1) l)) :
    J X e L (sw X.P (Holds X.Φ A) S ops R k (⟨some d, .call { callee := .builtin .len, args := #[x], argTypes := #[t] }, T, pos, af, none⟩ :: l)) := by
  have hrun : ∀ a, Mt X.ds X.n e a → ∀ w, (execOp a.eval (⟨some d, .call { callee := .builtin .len, args := #[x], argTypes := #[t] }, T, pos, af, none⟩ : Oper)).run X.P w = .ok (.value (.int .i64 n)) w := fun a m w => by
    simp only [execOp, resolve, invoke, builtin, m.ev hx, List.map_toArray, List.map_cons, List.map_nil, pure_bind, Builtin.len_, List.getElem?_toArray, List.getElem?_cons_zero, Sem.run_bind, tu.run, Result.andThen_ok, Sem.run_pure, goInt]
  by_cases hs : S.contains k = true
  · exact r_stable rfl hs rfl hd (fun a w m _ => hrun a m w) h
  · exact r_read rfl (cls_read rfl (by simpa using hs) rfl) rfl hd (fun a w m _ => hrun a m w) h
end
end Go.Proofs.YtcnpkmdooekmgaaGreatDoor.Sl
namespace Go.Proofs.YtcnpkmdooekmgaaGreatDoor.Sl
/-- a row's cells, read off a world. -/
def Reads (w : World) (a : Option Addr) (n s : Nat) (xs : List Value) : Prop :=
  xs.length = n * s ∧ (xs = [] ∨ ∃ ad, a = some ad ∧ ∀ j v, xs[j]? = some v → w.cell? (ad.add j) = some v)
theorem Reads.drew {w w' : World} (hh : w'.heap = w.heap) {a : Option Addr} {n s : Nat} {xs : List Value} (h : Reads w a n s xs) : Reads w' a n s xs := by
  refine ⟨h.1, h.2.imp id fun ⟨ad, e, hc⟩ => ⟨ad, e, fun j v hj => ?_⟩⟩
  have := hc j v hj
  simpa [World.cell?, hh] using this

section
variable {P : Program}
theorem run_first {w : World} {a : Option Addr} {n s len cap : Nat} {xs : List Value} (h : Reads w a n s xs) : (Builtin.firstCells s n (.slice a len cap)).run P w = .ok xs.toArray w := by
  obtain ⟨hl, hx⟩ := h
  cases a with
  | none =>
    have : xs = [] := hx.resolve_right (fun ⟨ad, e, _⟩ => by cases e)
    subst this; rfl
  | some ad =>
    simp only [Builtin.firstCells]
    rw [← hl]
    rcases hx with rfl | ⟨ad', e, hc⟩
    · rfl
    · cases e; exact run_loadCells_list w ad xs hc

theorem run_append_more {w : World} {t ty E : TypeId} {s by_ : Nat} {z : Value} [tu : TUnd P t (.slice E)] [te : TElem P E s by_ z]
    {a a2 : Option Addr} {n cap m cap2 : Nat} {xs ys : List Value} (hx : Reads w a n s xs) (hy : Reads w a2 m s ys) (hs : 0 < s) (hn : a = none → n = 0 ∧ cap = 0) (hc : n ≤ cap) (hg : cap < n + m) (hb : (n + m) * by_ ≤ 140737488355328) (h63 : n + m ≤ 9223372036854775807) :
    ∃ nc zs, n + m ≤ nc ∧ zs.length = (nc - (n + m)) * z.cells.size ∧ (Builtin.append_ #[t, t] ty #[.slice a n cap, .slice a2 m cap2]).run P w =
      .ok (.slice (some ⟨w.heap.size, 0, none⟩) (n + m) nc) (w.drew.alloc (.cells (xs ++ ys ++ zs).toArray E)) := by
  obtain ⟨i, hi, his, hib, hz⟩ := te.ex
  have hm : 0 < m := by omega
  have hyn : ys ≠ [] := fun h => by have h1 := Nat.mul_pos hm hs; have := hy.1; rw [h, List.length_nil] at this; omega
  obtain ⟨a2', rfl, hyc⟩ := hy.2.resolve_left hyn
  refine ⟨grownCap w (n + m) cap E, (Builtin.zeroCells z.cells (grownCap w (n + m) cap E - (n + m))).toList, ?_, by simp [Builtin.zeroCells], ?_⟩
  · unfold grownCap Question.cut; exact Nat.le_add_right _ _
  cases a with
  | none =>
    obtain ⟨rfl, rfl⟩ := hn rfl
    have hx0 : xs = [] := List.eq_nil_of_length_eq_zero (by simpa using hx.1)
    subst hx0
    have hr := run_append_nil (P := P) w t ty E i z tu.eq hi hz a2' m cap2 ys (by rw [his]; exact hy.1) hyc hm (by omega) (by rw [hib]; simp at hb; omega)
    simp only [Nat.zero_add]
    rw [hr]
    congr 2
    congr 1
    apply Array.ext'
    simp
  | some ad =>
    have hxc : ∀ j v, xs[j]? = some v → w.cell? (ad.add j) = some v := fun j v hj => by
      rcases hx.2 with h | ⟨ad', e, h⟩
      · rw [h] at hj; simp at hj
      · cases e; exact h j v hj
    have hr := run_append_grow (P := P) w t ty E i z tu.eq hi hz ad n cap xs (by rw [his]; exact hx.1) hxc a2' m cap2 ys (by rw [his]; exact hy.1) hyc hg (by omega) (by rw [hib]; exact growslice_fits hg hb)
    rw [hr]
    congr 2
    congr 1
    apply Array.ext'
    simp
theorem run_append_fitting {w : World} {t ty E : TypeId} {s by_ : Nat} {z : Value} [tu : TUnd P t (.slice E)] [te : TElem P E s by_ z]
    {g off : Nat} {a2 : Option Addr} {n cap m cap2 : Nat} {cs ys : List Value} (hg : w.heap[g]? = some (.cells cs.toArray E (0, 0))) (hy : Reads w a2 m s ys) (h1 : ∀ u ∈ ys, u.oneCell' = true)
    (hroom : n + m ≤ cap) (hfit : off + n * s + ys.length ≤ cs.length) :
    (Builtin.append_ #[t, t] ty #[.slice (some ⟨g, off, none⟩) n cap, .slice a2 m cap2]).run P w =
      .ok (.slice (some ⟨g, off, none⟩) (n + m) cap) (w.setRow g (cs.take (off + n * s) ++ ys ++ cs.drop (off + n * s + ys.length)).toArray) := by
  obtain ⟨i, hi, his, hib, hz⟩ := te.ex
  have hf := run_first (P := P) (len := m) (cap := cap2) hy
  have hst := run_storeCells_at P g (off + n * s) E ys 0 cs.toArray w hg (by simpa using hfit) h1
  simp only [Nat.add_zero] at hst
  simp [Builtin.append_, run_underlying tu.eq, sizeOf, typeInfo, hi, his, Builtin.lenOf, hroom, hf, add_at, hst]
theorem run_append_none {w : World} {t ty E : TypeId} {s by_ : Nat} {z : Value} [tu : TUnd P t (.slice E)] [te : TElem P E s by_ z] {a2 : Option Addr} {cap2 : Nat} :
    (Builtin.append_ #[t, t] ty #[.slice none 0 0, .slice a2 0 cap2]).run P w = .ok (.slice none 0 0) w := by
  obtain ⟨i, hi, his, hib, hz⟩ := te.ex
  have hf := run_first (P := P) (w := w) (a := a2) (n := 0) (s := s) (len := 0) (cap := cap2) (xs := []) ⟨by simp, .inl rfl⟩
  simp [Builtin.append_, run_underlying tu.eq, sizeOf, typeInfo, hi, his, Builtin.lenOf, hf]
end
/-- a row of one's own: it may grow. -/
def vec (a : Option Addr) (n cap : Nat) (E : TypeId) (s : Nat) (xs : List Value) : Assn :=
  ⟨fun _ h => xs.length = n * s ∧ n ≤ cap ∧ ((a = none ∧ n = 0 ∧ cap = 0) ∨ ∃ (b off : Nat) (pre post : List Value), a = some ⟨b, off, none⟩ ∧ pre.length = off ∧ post.length = (cap - n) * s ∧ h b = some (.cells (pre ++ xs ++ post).toArray E (0, 0))), fun _ h => h⟩
/-- a row that never changes. -/
def isl (a : Option Addr) (n cap : Nat) (_E : TypeId) (s : Nat) (xs : List Value) : Assn :=
  ⟨fun im _ => xs.length = n * s ∧ n ≤ cap ∧ (n = 0 ∨ ∃ b off cs U fr, a = some ⟨b, off, none⟩ ∧ im b = some (.cells cs U fr) ∧ ∀ j x, xs[j]? = some x → cs[off + j]? = some x), fun hm ⟨h1, h2, h3⟩ =>
    ⟨h1, h2, h3.imp id fun ⟨b, off, cs, U, fr, e, h, hx⟩ => ⟨b, off, cs, U, fr, e, hm _ _ h, hx⟩⟩⟩
instance (a : Option Addr) (n cap : Nat) (E : TypeId) (s : Nat) (xs : List Value) : Pers (isl a n cap E s xs) := ⟨fun _ _ h => h⟩

/-- what can be read of a row. -/
class RdS (a : Option Addr) (n s : Nat) (xs : outParam (List Value)) (L : List Assn) : Prop where
  get : ∀ im h (w : World), (∀ b o, im b = some o → w.heap[b]? = some o) → (∀ b o, h b = some o → w.heap[b]? = some o) → satL im L h → Reads w a n s xs
theorem reads_of {w : World} {b off n s : Nat} {cs : Array Value} {U : TypeId} {fr : Nat × Nat} {xs : List Value} (hl : xs.length = n * s) (h : w.heap[b]? = some (.cells cs U fr)) (hx : ∀ j x, xs[j]? = some x → cs[off + j]? = some x) :
    Reads w (some ⟨b, off, none⟩) n s xs := ⟨hl, .inr ⟨_, rfl, fun j v hj => by rw [add_at]; exact cell_of_heap h (hx j v hj)⟩⟩
theorem get_mid {pre xs post : List Value} {off j : Nat} {x : Value} (hp : pre.length = off) (hj : xs[j]? = some x) : (pre ++ xs ++ post).toArray[off + j]? = some x := by
  have hlt := (List.getElem?_eq_some_iff.1 hj).1
  simp only [List.getElem?_toArray, List.append_assoc]
  rw [List.getElem?_append_right (by omega), List.getElem?_append_left (by omega), ← hj]
  congr 1; omega
instance (priority := 1100) RdS.vec (a : Option Addr) (n cap : Nat) (E : TypeId) (s : Nat) (xs : List Value) (L : List Assn) : RdS a n s xs (Sl.vec a n cap E s xs :: L) where
  get := fun im h w hi hh ⟨h1, h2, a', _, _, ⟨hl, hc, hd⟩, _⟩ => by
    rcases hd with ⟨rfl, rfl, rfl⟩ | ⟨b, off, pre, post, rfl, hp, hq, hb⟩
    · exact ⟨hl, .inl (List.eq_nil_of_length_eq_zero (by simpa using hl))⟩
    · exact reads_of hl (hh _ _ (a' _ _ hb)) fun j x hj => get_mid hp hj
instance (priority := 1100) RdS.isl (a : Option Addr) (n cap : Nat) (E : TypeId) (s : Nat) (xs : List Value) (L : List Assn) : RdS a n s xs (Sl.isl a n cap E s xs :: L) where
  get := fun im h w hi hh ⟨h1, h2, a', _, _, ⟨hl, hc, hd⟩, _⟩ => by
    rcases hd with rfl | ⟨b, off, cs, U, fr, rfl, hb, hx⟩
    · exact ⟨hl, .inl (List.eq_nil_of_length_eq_zero (by simpa using hl))⟩
    · exact reads_of hl (hi _ _ hb) hx
instance (priority := 900) RdS.tail (a : Option Addr) (n s : Nat) (xs : List Value) (A : Assn) (L : List Assn) [g : RdS a n s xs L] : RdS a n s xs (A :: L) where
  get := fun im _ w hi hh ⟨_, h2, _, b', _, _, hs⟩ => g.get im h2 w hi (fun c p e => hh c p (b' _ _ e)) hs
theorem Holds.rds {Φ : Base} {L : List Assn} {w : World} {a : Option Addr} {n s : Nat} {xs : List Value} [g : RdS a n s xs L] (h : Holds Φ L w) : Reads w a n s xs := by
  obtain ⟨im, hp, r, st⟩ := h
  exact g.get im hp w r.imw r.hw st

section
variable {X : Cx} {e : Env} {L L1 F : List Assn} {A : List Assn} {S : List Nat} {ops : Array Oper} {k : Nat} {l : List Oper} {R : Act → World → Prop} {G : Act → World → Prop}
variable {d : Nat} {T : TypeId} {pos : String} {af : Array Edge}
/-- APPEND to a row of one's own, from what can be read. -/
theorem r_appendK {t E : TypeId} {x y : Operand} {s by_ : Nat} {z : Value} {a a2 : Option Addr} {n cap m cap2 : Nat} {xs ys : List Value} [tu : TUnd X.P t (.slice E)] [te : TElem X.P E s by_ z]
    (hx : ev e x = some (.slice a n cap)) (hy : ev e y = some (.slice a2 m cap2)) [f : Find (vec a n cap E s xs) L L1] [g : RdS a2 m s ys L1]
    (hs : 0 < s) (hzc : z.cells.size = s) (h1 : ∀ u ∈ ys, u.oneCell' = true) (hb : (n + m) * by_ ≤ 140737488355328) (h63 : n + m ≤ 9223372036854775807) (hS : S.contains k = false) (hd : Nat.blt d X.n = true)
    [st : ∀ q : Option Addr × Nat, Stay A (vec q.1 (n + m) q.2 E s (xs ++ ys) :: L1)]
    (h : J X ((d, .slice a (n + m) cap) :: e) (vec a (n + m) cap E s (xs ++ ys) :: L1) (sw X.P (Holds X.Φ A) S ops R (k + 1) l))
    (h' : ∀ a' cap', (a' = none → n + m = 0) → J X ((d, .slice a' (n + m) cap') :: e) (vec a' (n + m) cap' E s (xs ++ ys) :: vec a n cap E s xs :: L1) (sw X.P (Holds X.Φ A) S ops R (k + 1) l)) :
    J X e L (sw X.P (Holds X.Φ A) S ops R k (⟨some d, .call { callee := .builtin .append, args := #[x, y], argTypes := #[t, t] }, T, pos, af, none⟩ :: l)) :=
  r_write (α := Option (Option Addr × Nat)) (q := fun p => ∀ q, p = some q → q.1 = none → n + m = 0) (V := fun p => match p with | none => .slice a (n + m) cap | some q => .slice q.1 (n + m) q.2) (M := fun p => match p with | none => vec a (n + m) cap E s (xs ++ ys) :: L1 | some q => vec q.1 (n + m) q.2 E s (xs ++ ys) :: vec a n cap E s xs :: L1) rfl (cls_write rfl hS rfl) (blt_some hd)
    (fun p => match p with | none => st (a, cap) | some q => ⟨(Ent.cons _ (Ent.drop _ _)).trans (st q).ent⟩)
    (fun act w mt hh => by
      have hh1 := hh.ent f.ent
      have hop : ∀ r, (Builtin.append_ #[t, t] T #[.slice a n cap, .slice a2 m cap2]).run X.P w = r → (execOp act.eval (⟨some d, .call { callee := .builtin .append, args := #[x, y], argTypes := #[t, t] }, T, pos, af, none⟩ : Oper)).run X.P w = r.andThen fun v w' => .ok (.value v) w' := fun r hr => by
        simp only [execOp, resolve, invoke, builtin, Sem.run_bind, Sem.run_pure, Result.andThen_ok, List.map_toArray, List.map_cons, List.map_nil, mt.ev hx, mt.ev hy, hr]
      have hy2 : Reads w a2 m s ys := by
        obtain ⟨im, hp, r, h1', h2', a', b', c', d', st'⟩ := hh1
        exact g.get im h2' w r.imw (fun c p e => r.hw _ _ (b' _ _ e)) st'
      obtain ⟨im, hp, r, p1, p2, pa, pb, pc, ⟨hl, hnc, hd'⟩, pst⟩ := hh1
      have hlen : (xs ++ ys).length = (n + m) * s := by rw [List.length_append, hl, hy2.1, Nat.add_mul]
      by_cases hroom : n + m ≤ cap
      · rcases hd' with ⟨rfl, rfl, rfl⟩ | ⟨b, off, pre, post, rfl, hpre, hpost, hbk⟩
        · have hm0 : m = 0 := by omega
          subst hm0
          have hy0 : ys = [] := List.eq_nil_of_length_eq_zero (by simpa using hy2.1)
          subst hy0
          rw [hop _ run_append_none]
          refine ⟨none, (fun q hq => by cases hq), rfl, im, hp, r, p1, p2, pa, pb, pc, ⟨by simpa using hl, by omega, .inl ⟨rfl, rfl, rfl⟩⟩, pst⟩
        · have hw := r.hw _ _ (pa _ _ hbk)
          have hpl : post.length = (cap - n) * s := hpost
          have hcap : (cap - n) * s = (cap - (n + m)) * s + m * s := by rw [← Nat.add_mul]; congr 1; omega
          have hfit : off + n * s + ys.length ≤ (pre ++ xs ++ post).length := by simp only [List.length_append, hpre, hl, hpl, hy2.1]; omega
          have hr := run_append_fitting (P := X.P) (t := t) (ty := T) (n := n) (cap := cap) (cap2 := cap2) (m := m) hw hy2 h1 hroom hfit
          have hcs : (pre ++ xs ++ post).take (off + n * s) ++ ys ++ (pre ++ xs ++ post).drop (off + n * s + ys.length) = pre ++ (xs ++ ys) ++ post.drop (m * s) := by
            have e1 : (pre ++ xs).length = off + n * s := by simp [hpre, hl]
            rw [List.take_left' e1, ← e1, List.drop_append, hy2.1]
            simp only [Nat.add_sub_cancel_left, List.append_assoc]
            rw [List.drop_eq_nil_of_le (by omega)]
            simp
          rw [hcs] at hr
          rw [hop _ hr]
          have hin : im b = none := (r.dis b).resolve_right (by rw [pa _ _ hbk]; simp)
          have h2b : p2 b = none := (pc b).resolve_left (by rw [hbk]; simp)
          refine ⟨none, (fun q hq => by cases hq), rfl, im, hp.set b (.cells (pre ++ (xs ++ ys) ++ post.drop (m * s)).toArray E (0, 0)), ⟨r.base, ?_, ?_, ?_, r.os, r.out, r.tape⟩, p1.set b _, p2, ?_, ?_, ?_,
            ⟨hlen, hroom, .inr ⟨b, off, pre, post.drop (m * s), rfl, hpre, ?_, Hp.set_same _ _ _⟩⟩, pst⟩
          · intro c p e
            have hc : c ≠ b := fun hc => by subst hc; rw [hin] at e; cases e
            have := r.imw _ _ e
            simpa [World.setRow, Array.getElem?_modify, Ne.symm hc] using this
          · intro c p e
            by_cases hc : c = b
            · subst hc; rw [Hp.set_same] at e; rw [← e]; simp [World.setRow, Array.getElem?_modify, hw]
            · rw [Hp.set_ne _ _ hc] at e
              have := r.hw _ _ e
              simpa [World.setRow, Array.getElem?_modify, Ne.symm hc] using this
          · intro c
            by_cases hc : c = b
            · subst hc; exact .inl hin
            · rw [Hp.set_ne _ _ hc]; exact r.dis c
          · intro c p e
            by_cases hc : c = b
            · subst hc; rw [Hp.set_same] at e ⊢; exact e
            · rw [Hp.set_ne _ _ hc] at e ⊢; exact pa _ _ e
          · intro c p e
            have hc : c ≠ b := fun hc => by subst hc; rw [h2b] at e; cases e
            rw [Hp.set_ne _ _ hc]; exact pb _ _ e
          · intro c
            by_cases hc : c = b
            · subst hc; exact .inr h2b
            · rw [Hp.set_ne _ _ hc]; exact pc c
          · show (post.drop (m * s)).length = (cap - (n + m)) * s
            rw [List.length_drop, hpl]; omega
      · have hx2 : Reads w a n s xs := by
          rcases hd' with ⟨rfl, rfl, rfl⟩ | ⟨b, off, pre, post, rfl, hp', hq, hbk⟩
          · exact ⟨hl, .inl (List.eq_nil_of_length_eq_zero (by simpa using hl))⟩
          · exact reads_of hl (r.hw _ _ (pa _ _ hbk)) fun j x hj => get_mid hp' hj
        have hnone : a = none → n = 0 ∧ cap = 0 := fun ha => by
          rcases hd' with ⟨_, h1, h2⟩ | ⟨b, off, pre, post, rfl, _⟩
          · exact ⟨h1, h2⟩
          · cases ha
        obtain ⟨nc, zs, hnc', hzl, hr⟩ := run_append_more (P := X.P) (t := t) (ty := T) (cap2 := cap2) hx2 hy2 hs hnone hnc (by omega) hb h63
        rw [hop _ hr]
        have hbase : Holds X.Φ (vec a n cap E s xs :: L1) w := ⟨im, hp, r, p1, p2, pa, pb, pc, ⟨hl, hnc, hd'⟩, pst⟩
        have hal : Holds X.Φ (pt w.heap.size (.cells (xs ++ ys ++ zs).toArray E (0, 0)) :: vec a n cap E s xs :: L1) (w.drew.alloc (.cells (xs ++ ys ++ zs).toArray E)) := hbase.alloc _ rfl rfl rfl rfl
        refine ⟨some (some ⟨w.heap.size, 0, none⟩, nc), (fun q hq h => by cases hq; cases h), rfl, ?_⟩
        obtain ⟨im, hp, r, p1, p2, pa, pb, pc, hpt, pst⟩ := hal
        exact ⟨im, hp, r, p1, p2, pa, pb, pc, ⟨hlen, hnc', .inr ⟨w.heap.size, 0, [], zs, rfl, rfl, by rw [hzl, hzc], hpt⟩⟩, pst⟩)
    (fun p hp => match p with | none => h | some q => h' q.1 q.2 (hp q rfl))
theorem r_append {t E : TypeId} {x y : Operand} {s by_ : Nat} {z : Value} {a a2 : Option Addr} {n cap m cap2 : Nat} {xs ys : List Value} [tu : TUnd X.P t (.slice E)] [te : TElem X.P E s by_ z]
    (hx : ev e x = some (.slice a n cap)) (hy : ev e y = some (.slice a2 m cap2)) [f : Find (vec a n cap E s xs) L L1] [g : RdS a2 m s ys L1]
    (hs : 0 < s) (hzc : z.cells.size = s) (h1 : ∀ u ∈ ys, u.oneCell' = true) (hb : (n + m) * by_ ≤ 140737488355328) (h63 : n + m ≤ 9223372036854775807) (hS : S.contains k = false) (hd : Nat.blt d X.n = true)
    [st : ∀ q : Option Addr × Nat, Stay A (vec q.1 (n + m) q.2 E s (xs ++ ys) :: L1)]
    (h : ∀ a' cap', (a' = none → n + m = 0) → J X ((d, .slice a' (n + m) cap') :: e) (vec a' (n + m) cap' E s (xs ++ ys) :: L1) (sw X.P (Holds X.Φ A) S ops R (k + 1) l)) :
    J X e L (sw X.P (Holds X.Φ A) S ops R k (⟨some d, .call { callee := .builtin .append, args := #[x, y], argTypes := #[t, t] }, T, pos, af, none⟩ :: l)) :=
  r_appendK hx hy hs hzc h1 hb h63 hS hd (fun act w mt hh => by
    have hn : a = none → n + m = 0 := fun ha => by
      obtain ⟨im, hp, r, p1, p2, pa, pb, pc, ⟨hl, hc, hd'⟩, pst⟩ := hh
      rcases hd' with ⟨_, h1, _⟩ | ⟨b, off, pre, post, h1, _⟩
      · exact h1
      · rw [ha] at h1; cases h1
    exact h a cap hn act w mt hh) (fun a' cap' hn => j_ent (Ent.cons _ (Ent.drop _ _)) (h a' cap' hn))

/- a row of one's own: opened, shut, frozen -/
theorem j_vec {a : Option Addr} {n cap : Nat} {E : TypeId} {s : Nat} {xs : List Value} (hn : 0 < n ∨ a ≠ none)
    (h : ∀ (b off : Nat) (pre post : List Value), a = some ⟨b, off, none⟩ → pre.length = off → post.length = (cap - n) * s → xs.length = n * s → n ≤ cap → J X e (pt b (.cells (pre ++ xs ++ post).toArray E (0, 0)) :: L) G) : J X e (vec a n cap E s xs :: L) G := fun act w m ⟨im, hp, r, h1, h2, pa, pb, pc, ⟨hl, hc, hd⟩, st⟩ => by
  rcases hd with ⟨rfl, rfl, rfl⟩ | ⟨b, off, pre, post, rfl, h3, h4, h5⟩
  · rcases hn with hn | hn
    · exact absurd hn (Nat.lt_irrefl _)
    · exact absurd rfl hn
  · exact h b off pre post rfl h3 h4 hl hc act w m ⟨im, hp, r, h1, h2, pa, pb, pc, h5, st⟩
theorem Ent.vec {b off n cap : Nat} {E : TypeId} {s : Nat} {pre xs post : List Value} (hl : xs.length = n * s) (hc : n ≤ cap) (h1 : pre.length = off) (h2 : post.length = (cap - n) * s) (L : List Assn) :
    Ent (pt b (.cells (pre ++ xs ++ post).toArray E (0, 0)) :: L) (Sl.vec (some ⟨b, off, none⟩) n cap E s xs :: L) := fun _ _ ⟨p1, p2, pa, pb, pc, pd, st⟩ =>
  ⟨p1, p2, pa, pb, pc, ⟨hl, hc, .inr ⟨b, off, pre, post, rfl, h1, h2, pd⟩⟩, st⟩
/-- a whole block. -/
theorem Ent.vec0 {b n : Nat} {E : TypeId} {s : Nat} {xs : List Value} (hl : xs.length = n * s) (L : List Assn) :
    Ent (pt b (.cells xs.toArray E (0, 0)) :: L) (Sl.vec (some ⟨b, 0, none⟩) n n E s xs :: L) := by
  have := Ent.vec (b := b) (off := 0) (cap := n) (E := E) (pre := []) (post := []) hl (Nat.le_refl n) rfl (by simp) L
  simpa using this
theorem Ent.vecNil {E : TypeId} {s : Nat} (L : List Assn) : Ent L (Sl.vec none 0 0 E s [] :: L) := fun _ h st => ⟨Hp.emp, h, Hp.emp_le _, Hp.le_refl _, Hp.emp_dis _, ⟨by simp, Nat.le_refl _, .inl ⟨rfl, rfl, rfl⟩⟩, st⟩
theorem Ent.islNil {E : TypeId} {s cap : Nat} {a : Option Addr} (L : List Assn) : Ent L (Sl.isl a 0 cap E s [] :: L) := fun _ h st => ⟨Hp.emp, h, Hp.emp_le _, Hp.le_refl _, Hp.emp_dis _, ⟨by simp, Nat.zero_le _, .inl rfl⟩, st⟩
theorem j_len {a : Option Addr} {n cap : Nat} {E : TypeId} {s : Nat} {xs : List Value} (h : xs.length = n * s → n ≤ cap → (a = none → n = 0 ∧ cap = 0) → J X e (vec a n cap E s xs :: L) G) : J X e (vec a n cap E s xs :: L) G := fun act w m hh => by
  have hh' := hh
  obtain ⟨im, hp, r, h1, h2, pa, pb, pc, ⟨hl, hc, hd⟩, st⟩ := hh
  refine h hl hc (fun ha => ?_) act w m hh'
  rcases hd with ⟨_, h1, h2⟩ | ⟨b, off, pre, post, rfl, _⟩
  · exact ⟨h1, h2⟩
  · cases ha
theorem j_leni {a : Option Addr} {n cap : Nat} {E : TypeId} {s : Nat} {xs : List Value} (h : xs.length = n * s → n ≤ cap → (0 < n → ∃ b off, a = some ⟨b, off, none⟩) → J X e (isl a n cap E s xs :: L) G) : J X e (isl a n cap E s xs :: L) G := fun act w m hh => by
  have hh' := hh
  obtain ⟨im, hp, r, h1, h2, pa, pb, pc, ⟨hl, hc, hd⟩, st⟩ := hh
  refine h hl hc (fun hn => ?_) act w m hh'
  rcases hd with rfl | ⟨b, off, cs, U, fr, ha, _⟩
  · exact absurd hn (Nat.lt_irrefl _)
  · exact ⟨b, off, ha⟩
/-- from now on nobody turns it. -/
theorem j_freezeV (a : Option Addr) (n cap : Nat) (E : TypeId) (s : Nat) (xs : List Value) {M : List Assn} [f : Find (vec a n cap E s xs) L M] (h : J X e (isl a n cap E s xs :: M) G) : J X e L G := fun act w m hh => by
  have hh1 := hh.ent f.ent
  by_cases hn : n = 0
  · subst hn
    obtain ⟨im, hp, r, h1, h2, pa, pb, pc, ⟨hl, hc, hd⟩, st⟩ := hh1
    exact h act w m ⟨im, hp, r, h1, h2, pa, pb, pc, ⟨hl, hc, .inl rfl⟩, st⟩
  · have key : J X e (vec a n cap E s xs :: M) G := j_vec (.inl (by omega)) fun b off pre post ha h1 h2 hl hc => by
      subst ha
      refine j_freeze b ?_
      refine j_ent ?_ h
      intro im hp ⟨p1, p2, pa, pb, pc, pd, st⟩
      exact ⟨p1, p2, pa, pb, pc, ⟨hl, hc, .inr ⟨b, off, _, E, (0, 0), rfl, pd, fun j x hj => get_mid h1 hj⟩⟩, st⟩
    exact key act w m hh1
/-- a piece of a row that never changes. -/
theorem Ent.piece {a : Option Addr} {n cap lo hi mx : Nat} {E : TypeId} {s : Nat} {xs : List Value} {a' : Option Addr} (h1 : lo ≤ hi) (h2 : hi ≤ n) (h3 : hi ≤ mx)
    (ha : a' = (if mx = lo then a else a.map (·.add (lo * s)))) (L : List Assn) : Ent (Sl.isl a n cap E s xs :: L) (Sl.isl a' (hi - lo) (mx - lo) E s ((xs.drop (lo * s)).take ((hi - lo) * s)) :: Sl.isl a n cap E s xs :: L) := fun im h ⟨p1, p2, pa, pb, pc, ⟨hl, hc, hd⟩, st⟩ => by
  have hle : lo * s + (hi - lo) * s ≤ n * s := by rw [← Nat.add_mul]; exact Nat.mul_le_mul_right _ (by omega)
  refine ⟨Hp.emp, h, Hp.emp_le _, Hp.le_refl _, Hp.emp_dis _, ⟨by simp [hl]; omega, by omega, ?_⟩, p1, p2, pa, pb, pc, ⟨hl, hc, hd⟩, st⟩
  by_cases hn : hi - lo = 0
  · exact .inl hn
  · right
    rcases hd with rfl | ⟨b, off, cs, U, fr, rfl, hb, hx⟩
    · omega
    · have : mx ≠ lo := by omega
      simp only [this, if_false, Option.map_some, add_at] at ha
      refine ⟨b, off + lo * s, cs, U, fr, ha, hb, fun j x hj => ?_⟩
      rw [Nat.add_assoc]
      refine hx _ _ ?_
      rw [List.getElem?_take] at hj
      split at hj
      · rwa [List.getElem?_drop] at hj
      · cases hj

theorem run_loadI {w : World} {Φ : Base} {b off o n cap : Nat} {E : TypeId} {s : Nat} {xs : List Value} {v : Value} {j : Nat} (h : Holds Φ (isl (some ⟨b, off, none⟩) n cap E s xs :: L) w) (ho : o = off + j) (hj : xs[j]? = some v) : w.cell? ⟨b, o, none⟩ = some v := by
  subst ho
  obtain ⟨hl, hx⟩ := (h.rds : Reads w (some ⟨b, off, none⟩) n s xs)
  rcases hx with rfl | ⟨ad, e, hc⟩
  · simp at hj
  · cases e
    have := hc j v hj
    rwa [add_at] at this
theorem r_loadI {t : TypeId} {x : Operand} {b off o n cap : Nat} {E : TypeId} {s : Nat} {xs : List Value} {v : Value} {j : Nat} [ta : TAgg X.P t false] (hx : ev e x = some (.pointer (some ⟨b, o, none⟩)))
    [f : Find (isl (some ⟨b, off, none⟩) n cap E s xs) L L1] (ho : o = off + j) (hj : xs[j]? = some v) (hd : Nat.blt d X.n = true) (hs : S.contains k = false) (h : J X ((d, v) :: e) L (sw X.P (Holds X.Φ A) S ops R (k + 1) l)) :
    J X e L (sw X.P (Holds X.Φ A) S ops R k (⟨some d, .load t x, T, pos, af, none⟩ :: l)) :=
  r_read rfl (cls_read rfl hs rfl) rfl hd (fun a w m hh => by
    have h1 := run_loadOne (P := X.P) (t := t) (a := ⟨b, o, none⟩) (run_loadI (hh.ent f.ent) ho hj)
    simp only [execOp, m.ev hx, Instr.loadAt, Instr.sureAddr, pure_bind, Sem.run_bind, h1, Result.andThen_ok, Sem.run_pure]) h
theorem run_loadAggC {P : Program} {w : World} {t : TypeId} {b o n : Nat} [ta : TAgg P t true] [ts : TSize P t n] {vs : List Value} (hn : vs.length = n) (hc : ∀ j v, vs[j]? = some v → w.cell? ⟨b, o + j, none⟩ = some v) : (loadVar t ⟨b, o, none⟩).run P w = .ok (.agg vs.toArray) w := by
  have h1 := run_loadCells_list (P := P) w ⟨b, o, none⟩ vs (fun j v hj => by rw [add_at]; exact hc j v hj)
  rw [hn] at h1
  simp only [loadVar, Sem.run_bind, ta.run, ts.run, Result.andThen_ok, if_true, h1]
  rfl
theorem r_loadIA {t : TypeId} {x : Operand} {b off o n cap q : Nat} {E : TypeId} {s : Nat} {xs vs : List Value} {j : Nat} [ta : TAgg X.P t true] [ts : TSize X.P t q] (hx : ev e x = some (.pointer (some ⟨b, o, none⟩)))
    [f : Find (isl (some ⟨b, off, none⟩) n cap E s xs) L L1] (ho : o = off + j) (hn : vs.length = q) (hj : ∀ i v, vs[i]? = some v → xs[j + i]? = some v) (hd : Nat.blt d X.n = true) (hs : S.contains k = false) (h : J X ((d, .agg vs.toArray) :: e) L (sw X.P (Holds X.Φ A) S ops R (k + 1) l)) :
    J X e L (sw X.P (Holds X.Φ A) S ops R k (⟨some d, .load t x, T, pos, af, none⟩ :: l)) :=
  r_read rfl (cls_read rfl hs rfl) rfl hd (fun a w m hh => by
    have h1 := run_loadAggC (P := X.P) (t := t) (b := b) (o := o) hn fun i v hi => run_loadI (hh.ent f.ent) (show o + i = off + (j + i) by omega) (hj i v hi)
    simp only [execOp, m.ev hx, Instr.loadAt, Instr.sureAddr, pure_bind, Sem.run_bind, h1, Result.andThen_ok, Sem.run_pure]) h
/-- a reading out of a row of one's own. -/
theorem r_loadV {t : TypeId} {x : Operand} {b off o n cap : Nat} {E : TypeId} {s : Nat} {xs : List Value} {v : Value} {j : Nat} [ta : TAgg X.P t false] (hx : ev e x = some (.pointer (some ⟨b, o, none⟩)))
    [f : Find (vec (some ⟨b, off, none⟩) n cap E s xs) L L1] (ho : o = off + j) (hj : xs[j]? = some v) (hd : Nat.blt d X.n = true) (hs : S.contains k = false) (h : J X ((d, v) :: e) L (sw X.P (Holds X.Φ A) S ops R (k + 1) l)) :
    J X e L (sw X.P (Holds X.Φ A) S ops R k (⟨some d, .load t x, T, pos, af, none⟩ :: l)) :=
  r_read rfl (cls_read rfl hs rfl) rfl hd (fun a w m hh => by
    have hc : w.cell? ⟨b, o, none⟩ = some v := by
      subst ho
      obtain ⟨hl, hx⟩ := ((hh.ent f.ent).rds : Reads w (some ⟨b, off, none⟩) n s xs)
      rcases hx with rfl | ⟨ad, e, hc⟩
      · simp at hj
      · cases e
        have := hc j v hj
        rwa [add_at] at this
    have h1 := run_loadOne (P := X.P) (t := t) (a := ⟨b, o, none⟩) hc
    simp only [execOp, m.ev hx, Instr.loadAt, Instr.sureAddr, pure_bind, Sem.run_bind, h1, Result.andThen_ok, Sem.run_pure]) h

/-- a row's literal. -/
theorem r_buildS {t E : TypeId} {len : Nat} {parts : Array (Nat × Operand)} {s : Nat} {cells : List Value} [_tu : TUnd X.P t (.slice E)] (hs : S.contains k = false) (hd : Nat.blt d X.n = true) (hl : cells.length = len * s)
    (hrun : ∀ a w, Mt X.ds X.n e a → (Instr.buildSlice t len (parts.map fun (i, x) => (i, a.eval x))).run X.P w = .ok (.slice (some ⟨w.heap.size, 0, none⟩) len len) { w with heap := w.heap.push (.cells cells.toArray E) }) [st : ∀ b, Stay A (pt b (.cells cells.toArray E (0, 0)) :: L)]
    (h : ∀ b, J X ((d, .slice (some ⟨b, 0, none⟩) len len) :: e) (vec (some ⟨b, 0, none⟩) len len E s cells :: L) (sw X.P (Holds X.Φ A) S ops R (k + 1) l)) :
    J X e L (sw X.P (Holds X.Φ A) S ops R k (⟨some d, .buildSlice t len parts, T, pos, af, none⟩ :: l)) :=
  r_new (V := fun b => .slice (some ⟨b, 0, none⟩) len len) hs rfl hd (fun a w m => by
    simp only [execOp, Sem.run_bind, hrun a w m, Result.andThen_ok, Sem.run_pure]) (fun b => j_ent (Ent.vec0 hl L) (h b))
end
end Go.Proofs.YtcnpkmdooekmgaaGreatDoor.Sl
namespace Go.Proofs.YtcnpkmdooekmgaaGreatDoor.Sl
open Go.RowKit (Below)
theorem run_eql_by {P : Program} {t : TypeId} {x y : Value} {b : Bool} {w : World} (hbin : binOp .eql t x y = (do pure (.bool (← Op.equal t x y)))) (h : ∀ d, (Op.equalIn (d + 1) t x y).run P w = .ok b w) :
    (binOp .eql t x y).run P w = .ok (.bool b) w := by
  have h1 : (Op.equal t x y).run P w = .ok b w := h 9999
  rw [hbin]
  simp only [Sem.run_bind, h1, Result.andThen_ok, Sem.run_pure]
theorem run_neq_by {P : Program} {t : TypeId} {x y : Value} {b : Bool} {w : World} (hbin : binOp .neq t x y = (do pure (.bool (!(← Op.equal t x y))))) (h : ∀ d, (Op.equalIn (d + 1) t x y).run P w = .ok b w) :
    (binOp .neq t x y).run P w = .ok (.bool (!b)) w := by
  have h1 : (Op.equal t x y).run P w = .ok b w := h 9999
  rw [hbin]
  simp only [Sem.run_bind, h1, Result.andThen_ok, Sem.run_pure]
section
variable {X : Cx} {e : Env} {L L1 F : List Assn} {A : List Assn} {S : List Nat} {ops : Array Oper} {k : Nat} {l : List Oper} {R : Act → World → Prop} {G : Act → World → Prop}
variable {d : Nat} {T : TypeId} {pos : String} {af : Array Edge}
/-- whatever is light. -/
theorem r_pure {op : Op} {v : Value} (hc : clsOp op = .light) (hrun : ∀ a, Mt X.ds X.n e a → ∀ w, (execOp a.eval (⟨some d, op, T, pos, af, none⟩ : Oper)).run X.P w = .ok (.value v) w) (hd : Nat.blt d X.n = true)
    (h : J X ((d, v) :: e) L (sw X.P (Holds X.Φ A) S ops R (k + 1) l)) : J X e L (sw X.P (Holds X.Φ A) S ops R k (⟨some d, op, T, pos, af, none⟩ :: l)) :=
  r_light rfl (cls_light rfl hc) rfl hd hrun h
/-- whatever is light, and counts as a writing one. -/
theorem r_pureW {op : Op} {v : Value} (hc : clsOp op = .write) (hrun : ∀ a, Mt X.ds X.n e a → ∀ w, (execOp a.eval (⟨some d, op, T, pos, af, none⟩ : Oper)).run X.P w = .ok (.value v) w) (hd : Nat.blt d X.n = true) [st : Stay A L]
    (h : J X ((d, v) :: e) L (sw X.P (Holds X.Φ A) S ops R (k + 1) l)) : J X e L (sw X.P (Holds X.Φ A) S ops R k (⟨some d, op, T, pos, af, none⟩ :: l)) := by
  by_cases hs : S.contains k = true
  · exact r_stable rfl hs rfl hd (fun a w m _ => hrun a m w) h
  · exact r_write (α := Unit) (q := fun _ => True) (V := fun _ => v) (M := fun _ => L) rfl (cls_write rfl (by simpa using hs) hc) (blt_some hd) (fun _ => st)
      (fun a w m hh => by rw [hrun a m w]; exact ⟨(), trivial, rfl, hh⟩) (fun _ _ => h)

theorem r_conv {t u : TypeId} {x : Operand} {ts : TypeDesc} {ki kj : IntKind} {n : Int} [tu : TUnd X.P t ts] [tv : TUnd X.P u (.int kj)] (hx : ev e x = some (.int ki n)) (hd : Nat.blt d X.n = true) [st : Stay A L]
    (h : J X ((d, .int kj (kj.wrap n)) :: e) L (sw X.P (Holds X.Φ A) S ops R (k + 1) l)) : J X e L (sw X.P (Holds X.Φ A) S ops R k (⟨some d, .convert t u x, T, pos, af, none⟩ :: l)) :=
  r_pureW rfl (fun a m w => by
    have h1 : (convert t u (.int ki n)).run X.P w = .ok (.int kj (kj.wrap n)) w := by
      simp only [convert, Sem.run_bind, tu.run, tv.run, Result.andThen_ok]
      cases ts <;> rfl
    simp only [execOp, m.ev hx, Sem.run_bind, h1, Result.andThen_ok, Sem.run_pure]) hd h

theorem r_shr {t u : TypeId} {x y : Operand} {ki kj : IntKind} {m n : Int} (hx : ev e x = some (.int ki m)) (hy : ev e y = some (.int kj n)) (h0 : 0 ≤ n) (h1 : n ≤ ki.bits) (hd : Nat.blt d X.n = true)
    (h : J X ((d, .int ki (m / 2 ^ n.toNat)) :: e) L (sw X.P (Holds X.Φ A) S ops R (k + 1) l)) : J X e L (sw X.P (Holds X.Φ A) S ops R k (⟨some d, .binOp .shr t x y u, T, pos, af, none⟩ :: l)) :=
  r_pure rfl (fun a mt w => by
    have h2 : (binOp .shr t (.int ki m) (.int kj n)).run X.P w = .ok (.int ki (m / 2 ^ n.toNat)) w := by
      simp only [binOp, shift_shr ki kj m n h0 h1, Sem.run_pure]
    simp only [execOp, mt.ev hx, mt.ev hy, Sem.run_bind, eqGuard_at_int, Sem.run_pure, h2, Result.andThen_ok]) hd h
theorem r_shl {t u : TypeId} {x y : Operand} {ki kj : IntKind} {m n : Int} (hx : ev e x = some (.int ki m)) (hy : ev e y = some (.int kj n)) (h0 : 0 ≤ n) (hd : Nat.blt d X.n = true)
    (h : J X ((d, .int ki (ki.wrap (m * 2 ^ min n.toNat ki.bits))) :: e) L (sw X.P (Holds X.Φ A) S ops R (k + 1) l)) : J X e L (sw X.P (Holds X.Φ A) S ops R k (⟨some d, .binOp .shl t x y u, T, pos, af, none⟩ :: l)) :=
  r_pure rfl (fun a mt w => by
    have h2 : (binOp .shl t (.int ki m) (.int kj n)).run X.P w = .ok (.int ki (ki.wrap (m * 2 ^ min n.toNat ki.bits))) w := by
      have h3 : ¬ n < 0 := by omega
      simp only [binOp, Op.shift, h3, if_false, Sem.run_pure]
    simp only [execOp, mt.ev hx, mt.ev hy, Sem.run_bind, eqGuard_at_int, Sem.run_pure, h2, Result.andThen_ok]) hd h
theorem r_quo {t u : TypeId} {x y : Operand} {ki : IntKind} {m n : Int} (hx : ev e x = some (.int ki m)) (hy : ev e y = some (.int ki n)) (h0 : n ≠ 0) (hd : Nat.blt d X.n = true)
    (h : J X ((d, .int ki (ki.wrap (m.tdiv n))) :: e) L (sw X.P (Holds X.Φ A) S ops R (k + 1) l)) : J X e L (sw X.P (Holds X.Φ A) S ops R k (⟨some d, .binOp .quo t x y u, T, pos, af, none⟩ :: l)) :=
  r_pure rfl (fun a mt w => by
    have h2 : (binOp .quo t (.int ki m) (.int ki n)).run X.P w = .ok (.int ki (ki.wrap (m.tdiv n))) w := by
      simp [binOp, Op.intDiv, h0, go_sem]
    simp only [execOp, mt.ev hx, mt.ev hy, Sem.run_bind, eqGuard_at_int, Sem.run_pure, h2, Result.andThen_ok]) hd h
theorem r_rem {t u : TypeId} {x y : Operand} {ki : IntKind} {m n : Int} (hx : ev e x = some (.int ki m)) (hy : ev e y = some (.int ki n)) (h0 : n ≠ 0) (hd : Nat.blt d X.n = true)
    (h : J X ((d, .int ki (m.tmod n)) :: e) L (sw X.P (Holds X.Φ A) S ops R (k + 1) l)) : J X e L (sw X.P (Holds X.Φ A) S ops R k (⟨some d, .binOp .rem t x y u, T, pos, af, none⟩ :: l)) :=
  r_pure rfl (fun a mt w => by
    have h2 : (binOp .rem t (.int ki m) (.int ki n)).run X.P w = .ok (.int ki (m.tmod n)) w := by
      simp [binOp, Op.intDiv, h0, go_sem]
    simp only [execOp, mt.ev hx, mt.ev hy, Sem.run_bind, eqGuard_at_int, Sem.run_pure, h2, Result.andThen_ok]) hd h
/-- a pointer against nil. -/
theorem r_peq {t u E : TypeId} {x y : Operand} {p : Option Addr} [tu : TUnd X.P t (.pointer E)] (hx : ev e x = some (.pointer p)) (hy : ev e y = some (.pointer none)) (hd : Nat.blt d X.n = true)
    (h : J X ((d, .bool p.isNone) :: e) L (sw X.P (Holds X.Φ A) S ops R (k + 1) l)) : J X e L (sw X.P (Holds X.Φ A) S ops R k (⟨some d, .binOp .eql t x y u, T, pos, af, none⟩ :: l)) :=
  r_pure rfl (fun a mt w => by
    have h2 : (binOp .eql t (.pointer p) (.pointer none)).run X.P w = .ok (.bool p.isNone) w := by
      refine run_eql_by rfl (fun d => ?_)
      simp only [Op.equalIn, Sem.run_bind, tu.run, Result.andThen_ok]
      cases p <;> rfl
    have h3 : eqGuard .eql t x y (.pointer p) (.pointer none) = pure () := rfl
    simp only [execOp, mt.ev hx, mt.ev hy, Sem.run_bind, h3, Sem.run_pure, h2, Result.andThen_ok]) hd h
theorem r_pne {t u E : TypeId} {x y : Operand} {p : Option Addr} [tu : TUnd X.P t (.pointer E)] (hx : ev e x = some (.pointer p)) (hy : ev e y = some (.pointer none)) (hd : Nat.blt d X.n = true)
    (h : J X ((d, .bool p.isSome) :: e) L (sw X.P (Holds X.Φ A) S ops R (k + 1) l)) : J X e L (sw X.P (Holds X.Φ A) S ops R k (⟨some d, .binOp .neq t x y u, T, pos, af, none⟩ :: l)) :=
  r_pure rfl (fun a mt w => by
    have h2 : (binOp .neq t (.pointer p) (.pointer none)).run X.P w = .ok (.bool p.isSome) w := by
      have h4 : p.isSome = !p.isNone := by cases p <;> rfl
      rw [h4]
      refine run_neq_by rfl (fun d => ?_)
      simp only [Op.equalIn, Sem.run_bind, tu.run, Result.andThen_ok]
      cases p <;> rfl
    have h3 : eqGuard .neq t x y (.pointer p) (.pointer none) = pure () := rfl
    simp only [execOp, mt.ev hx, mt.ev hy, Sem.run_bind, h3, Sem.run_pure, h2, Result.andThen_ok]) hd h
theorem r_mne {t u K E : TypeId} {x y : Operand} {p : Option Nat} [tu : TUnd X.P t (.map K E)] (hx : ev e x = some (.map p)) (hy : ev e y = some (.map none)) (hd : Nat.blt d X.n = true)
    (h : J X ((d, .bool p.isSome) :: e) L (sw X.P (Holds X.Φ A) S ops R (k + 1) l)) : J X e L (sw X.P (Holds X.Φ A) S ops R k (⟨some d, .binOp .neq t x y u, T, pos, af, none⟩ :: l)) :=
  r_pure rfl (fun a mt w => by
    have h2 : (binOp .neq t (.map p) (.map none)).run X.P w = .ok (.bool p.isSome) w := by
      have h4 : p.isSome = !p.isNone := by cases p <;> rfl
      rw [h4]
      refine run_neq_by rfl (fun d => ?_)
      simp only [Op.equalIn, Sem.run_bind, tu.run, Result.andThen_ok]
      cases p <;> rfl
    have h3 : eqGuard .neq t x y (.map p) (.map none) = pure () := rfl
    simp only [execOp, mt.ev hx, mt.ev hy, Sem.run_bind, h3, Sem.run_pure, h2, Result.andThen_ok]) hd h
theorem r_sne {t u E : TypeId} {x y : Operand} {p : Option Addr} {n c n' c' : Nat} [tu : TUnd X.P t (.slice E)] (hx : ev e x = some (.slice p n c)) (hy : ev e y = some (.slice none n' c')) (hd : Nat.blt d X.n = true)
    (h : J X ((d, .bool p.isSome) :: e) L (sw X.P (Holds X.Φ A) S ops R (k + 1) l)) : J X e L (sw X.P (Holds X.Φ A) S ops R k (⟨some d, .binOp .neq t x y u, T, pos, af, none⟩ :: l)) :=
  r_pure rfl (fun a mt w => by
    have h2 : (binOp .neq t (.slice p n c) (.slice none n' c')).run X.P w = .ok (.bool p.isSome) w := by
      have h4 : p.isSome = !p.isNone := by cases p <;> rfl
      rw [h4]
      refine run_neq_by rfl (fun d => ?_)
      simp only [Op.equalIn, Sem.run_bind, tu.run, Result.andThen_ok]
      cases p <;> rfl
    have h3 : eqGuard .neq t x y (.slice p n c) (.slice none n' c') = pure () := rfl
    simp only [execOp, mt.ev hx, mt.ev hy, Sem.run_bind, h3, Sem.run_pure, h2, Result.andThen_ok]) hd h
theorem r_beq {t u : TypeId} {x y : Operand} {b c : Bool} [tu : TUnd X.P t .bool] (hx : ev e x = some (.bool b)) (hy : ev e y = some (.bool c)) (hd : Nat.blt d X.n = true)
    (h : J X ((d, .bool (b == c)) :: e) L (sw X.P (Holds X.Φ A) S ops R (k + 1) l)) : J X e L (sw X.P (Holds X.Φ A) S ops R k (⟨some d, .binOp .eql t x y u, T, pos, af, none⟩ :: l)) :=
  r_pure rfl (fun a mt w => by
    have h2 : (binOp .eql t (.bool b) (.bool c)).run X.P w = .ok (.bool (b == c)) w := by
      refine run_eql_by rfl (fun d => ?_)
      simp only [Op.equalIn, Sem.run_bind, tu.run, Result.andThen_ok]
      rfl
    have h3 : eqGuard .eql t x y (.bool b) (.bool c) = pure () := rfl
    simp only [execOp, mt.ev hx, mt.ev hy, Sem.run_bind, h3, Sem.run_pure, h2, Result.andThen_ok]) hd h
theorem r_bne {t u : TypeId} {x y : Operand} {b c : Bool} [tu : TUnd X.P t .bool] (hx : ev e x = some (.bool b)) (hy : ev e y = some (.bool c)) (hd : Nat.blt d X.n = true)
    (h : J X ((d, .bool (!(b == c))) :: e) L (sw X.P (Holds X.Φ A) S ops R (k + 1) l)) : J X e L (sw X.P (Holds X.Φ A) S ops R k (⟨some d, .binOp .neq t x y u, T, pos, af, none⟩ :: l)) :=
  r_pure rfl (fun a mt w => by
    have h2 : (binOp .neq t (.bool b) (.bool c)).run X.P w = .ok (.bool (!(b == c))) w := by
      refine run_neq_by rfl (fun d => ?_)
      simp only [Op.equalIn, Sem.run_bind, tu.run, Result.andThen_ok]
      rfl
    have h3 : eqGuard .neq t x y (.bool b) (.bool c) = pure () := rfl
    simp only [execOp, mt.ev hx, mt.ev hy, Sem.run_bind, h3, Sem.run_pure, h2, Result.andThen_ok]) hd h
theorem r_neg {x : Operand} {ki : IntKind} {n : Int} (hx : ev e x = some (.int ki n)) (hd : Nat.blt d X.n = true) (h : J X ((d, .int ki (ki.wrap (0 - n))) :: e) L (sw X.P (Holds X.Φ A) S ops R (k + 1) l)) :
    J X e L (sw X.P (Holds X.Φ A) S ops R k (⟨some d, .unOp .neg T x, T, pos, af, none⟩ :: l)) :=
  r_pure rfl (fun a m w => by simp only [execOp, m.ev hx]; rfl) hd h
theorem r_cpl {x : Operand} {t : TypeId} {ki : IntKind} {n : Int} (hx : ev e x = some (.int ki n)) (hd : Nat.blt d X.n = true) (h : J X ((d, .int ki (bits .xor ki (if ki.signed then -1 else ki.max) n)) :: e) L (sw X.P (Holds X.Φ A) S ops R (k + 1) l)) :
    J X e L (sw X.P (Holds X.Φ A) S ops R k (⟨some d, .unOp .xor t x, T, pos, af, none⟩ :: l)) :=
  r_pure rfl (fun a m w => by simp only [execOp, m.ev hx]; rfl) hd h

/-- a piece of a row, all three bounds. -/
theorem run_piece {P : Program} {t E : TypeId} {s : Nat} [tu : TUnd P t (.slice E)] [ts : TSize P E s] {a : Option Addr} {n cap lo hi mx : Nat} {vl vh vm : Option Value}
    (hl : (vl = none ∧ lo = 0) ∨ ∃ ki, vl = some (.int ki (lo : Int))) (hh : (vh = none ∧ hi = n ∧ vm = none) ∨ ∃ ki, vh = some (.int ki (hi : Int))) (hm : (vm = none ∧ mx = cap) ∨ ∃ ki, vm = some (.int ki (mx : Int)))
    (h1 : lo ≤ hi) (h2 : hi ≤ mx) (h3 : mx ≤ cap) (w : World) :
    (Instr.sliceAt t (.slice a n cap) vl vh vm).run P w = .ok (.slice (if mx = lo then a else a.map (·.add (lo * s))) (hi - lo) (mx - lo)) w := by
  have hb : ∀ (ki : IntKind) (x y : Nat) c, x ≤ y → (Instr.sliceBound (.int ki (x : Int)) y c).run P w = .ok x w := fun ki x y c hxy => by
    have h4 : (0 : Int) ≤ x ∧ (x : Int) ≤ y := ⟨by omega, by omega⟩
    simp only [Instr.sliceBound, asIntOf, pure_bind, h4, and_self, if_true, Sem.run_pure, Int.toNat_natCast]
  have hbs : (Instr.sliceBounds true n cap vl vh vm).run P w = .ok (lo, hi, mx) w := by
    unfold Instr.sliceBounds
    rcases hm with ⟨rfl, rfl⟩ | ⟨km, rfl⟩ <;> rcases hh with ⟨rfl, rfl, hv⟩ | ⟨kh, rfl⟩ <;> rcases hl with ⟨rfl, rfl⟩ | ⟨kl, rfl⟩ <;> first
      | (cases hv; done)
      | simp [Sem.run_bind, hb, h1, h2, h3, Result.andThen_ok, Sem.run_pure]
  have h5 : (Instr.slice t (.slice a n cap) vl vh vm).run P w = .ok (.slice (if mx = lo then a else a.map (·.add (lo * s))) (hi - lo) (mx - lo)) w := by
    simp only [Instr.slice, Sem.run_bind, tu.run, Result.andThen_ok, hbs, ts.run, Sem.run_pure]
  simp only [Instr.sliceAt, Sem.run_bind, tu.run, Result.andThen_ok, h5]
/-- x[lo:hi], x[lo:], x[:hi] .. of a row. -/
theorem r_piece {t E : TypeId} {x : Operand} {ol oh om : Option Operand} {s : Nat} [tu : TUnd X.P t (.slice E)] [ts : TSize X.P E s] {a : Option Addr} {n cap : Nat} (lo hi mx : Nat) (hx : ev e x = some (.slice a n cap))
    (hl : (ol = none ∧ lo = 0) ∨ ∃ ki, ol.bind (ev e) = some (.int ki (lo : Int))) (hh : (oh = none ∧ hi = n ∧ om = none) ∨ ∃ ki, oh.bind (ev e) = some (.int ki (hi : Int))) (hm : (om = none ∧ mx = cap) ∨ ∃ ki, om.bind (ev e) = some (.int ki (mx : Int)))
    (h1 : lo ≤ hi) (h2 : hi ≤ mx) (h3 : mx ≤ cap) (hd : Nat.blt d X.n = true) (h : J X ((d, .slice (if mx = lo then a else a.map (·.add (lo * s))) (hi - lo) (mx - lo)) :: e) L (sw X.P (Holds X.Φ A) S ops R (k + 1) l)) :
    J X e L (sw X.P (Holds X.Φ A) S ops R k (⟨some d, .slice t x ol oh om, T, pos, af, none⟩ :: l)) :=
  r_pure rfl (fun act m w => by
    have key : ∀ {o : Option Operand} {v : Value}, o.bind (ev e) = some v → o.map act.eval = some v := fun {o v} ho => by
      cases o with
      | none => cases ho
      | some y => simp only [Option.bind_some] at ho; simp [m.ev ho]
    have h4 := run_piece (P := X.P) (t := t) (E := E) (s := s) (a := a) (n := n) (cap := cap) (lo := lo) (hi := hi) (mx := mx) (vl := ol.map act.eval) (vh := oh.map act.eval) (vm := om.map act.eval)
      (hl.imp (fun ⟨h, h'⟩ => ⟨by rw [h]; rfl, h'⟩) (fun ⟨ki, h⟩ => ⟨ki, key h⟩)) (hh.imp (fun ⟨h, h', h''⟩ => ⟨by rw [h]; rfl, h', by rw [h'']; rfl⟩) (fun ⟨ki, h⟩ => ⟨ki, key h⟩)) (hm.imp (fun ⟨h, h'⟩ => ⟨by rw [h]; rfl, h'⟩) (fun ⟨ki, h⟩ => ⟨ki, key h⟩)) h1 h2 h3 w
    simp only [execOp, m.ev hx, Sem.run_bind, h4, Result.andThen_ok, Sem.run_pure]) hd h
end
/- from a contract to the guide's own words -/
def Base.of (w : World) : Base := ⟨fun b => w.heap[b]?, w.os, w.output, w.tape⟩
theorem Holds.start (w : World) : Holds (Base.of w) [] w :=
  ⟨fun b => w.heap[b]?, Hp.emp, ⟨Hp.le_refl _, fun _ _ h => h, (fun _ _ h => by cases h), fun _ => .inr rfl, rfl, rfl, rfl⟩, trivial⟩
theorem Holds.below {w w' : World} {L : List Assn} (h : Holds (Base.of w) L w') : Below w.heap.size w w' := by
  obtain ⟨im, hp, r, _⟩ := h
  have old : ∀ i, i < w.heap.size → w'.heap[i]? = w.heap[i]? := fun i hi => by
    have h1 : w.heap[i]? = some w.heap[i] := by simp [hi]
    rw [h1]
    exact r.imw _ _ (r.base _ _ h1)
  refine ⟨r.os, r.tape, r.out, ?_, old⟩
  by_cases h0 : w.heap.size = 0
  · omega
  · have h1 := old (w.heap.size - 1) (by omega)
    have h2 : w.heap[w.heap.size - 1]? ≠ none := by simp; omega
    rw [← h1] at h2
    have h3 : w.heap.size - 1 < w'.heap.size := by
      rcases Nat.lt_or_ge (w.heap.size - 1) w'.heap.size with h | h
      · exact h
      · exact absurd (Array.getElem?_eq_none h) h2
    omega
theorem Fn.calls {P : Program} {w : World} {f : FuncId} {args : List Value} {α : Type} {q : α → Prop} {V : α → Value} {Post : α → List Assn} (h : Fn P (Base.of w) f args [] q V Post) :
    Calls P f args.toArray w fun e w' => ∃ x, q x ∧ e = .returned (V x) ∧ Below w.heap.size w w' :=
  (h [] w (Holds.start w)).mono fun _ _ ⟨x, hq, he, hh⟩ => ⟨x, hq, he, hh.below⟩
end Go.Proofs.YtcnpkmdooekmgaaGreatDoor.Sl
namespace Go.Proofs.YtcnpkmdooekmgaaGreatDoor.Sl
open Go.RowKit (Below)
theorem i64_nat {n : Nat} (h : n ≤ 9223372036854775807) : IntKind.i64.wrap (n : Int) = (n : Int) := IntWalk.i64_in _ (by omega)
theorem fill_one : ∀ (vs : List Value) (place : Nat → Option (Nat × Nat)) (k : Nat) (cells : Array Value), (∀ v ∈ vs, v.oneCell' = true) → (∀ i, place i = some (i * 1, 1)) → cells.size = k + vs.length →
    ∃ cs, Instr.fill place cells ((vs.zipIdx k).map fun p => (p.2, p.1)) = some cs ∧ cs.size = cells.size ∧ (∀ j, j < k → cs[j]? = cells[j]?) ∧ ∀ j, j < vs.length → cs[k + j]? = vs[j]?
  | [], _, _, cells, _, _, _ => ⟨cells, rfl, rfl, fun _ _ => rfl, fun j hj => absurd hj (Nat.not_lt_zero j)⟩
  | v :: vs, place, k, cells, h1, hp, hs => by
    have hc : v.cells = #[v] := by have := h1 v (by simp); cases v <;> first | rfl | (simp [Value.oneCell'] at this; done)
    simp only [List.length_cons] at hs
    obtain ⟨cs, e, es, el, ev⟩ := fill_one vs place (k + 1) (cells.setIfInBounds k v) (fun u hu => h1 u (by simp [hu])) hp (by rw [Array.size_setIfInBounds]; omega)
    refine ⟨cs, ?_, by simpa using es, fun j hj => ?_, fun j hj => ?_⟩
    · simp only [List.zipIdx_cons, List.map_cons, Instr.fill, hp, hc]
      rw [if_neg (by simp; omega)]
      simpa using e
    · rw [el j (by omega), Array.getElem?_setIfInBounds_ne (by omega)]
    · cases j with
      | zero =>
        have hk : k < cells.size := by omega
        rw [Nat.add_zero, el k (by omega)]; simp [hk]
      | succ j =>
        have := ev j (by simpa using hj)
        rw [show k + (j + 1) = k + 1 + j from by omega, this]; simp
theorem run_buildOnes {P : Program} {t E : TypeId} {by_ : Nat} {z : Value} [tu : TUnd P t (.slice E)] [te : TElem P E 1 by_ z] (vs : List Value) (h1 : ∀ v ∈ vs, v.oneCell' = true) (hn : vs.length ≤ 16777216) (w : World) :
    (Instr.buildSlice t vs.length (vs.zipIdx.map fun p => (p.2, p.1)).toArray).run P w = .ok (.slice (some ⟨w.heap.size, 0, none⟩) vs.length vs.length) { w with heap := w.heap.push (.cells vs.toArray E) } := by
  obtain ⟨i, hi, hs, hb, hz⟩ := te.ex
  have key : ∀ zero : Array Value, Instr.fill (fun i => some (i * 1, 1)) ((Array.range (vs.length * 1)).map (zero[· % zero.size]!)) (vs.zipIdx.map fun p => (p.2, p.1)) = some vs.toArray := fun zero => by
    obtain ⟨cs, e, es, _, ev⟩ := fill_one vs (fun i => some (i * 1, 1)) 0 ((Array.range (vs.length * 1)).map (zero[· % zero.size]!)) h1 (fun _ => rfl) (by simp)
    rw [e]
    congr 1
    apply Array.ext'
    apply List.ext_getElem?
    intro j
    by_cases hj : j < vs.length
    · have := ev j hj
      simpa using this
    · have h2 : cs.size = vs.length := by simpa using es
      rw [List.getElem?_eq_none (by simp; omega), List.getElem?_eq_none (by simp; omega)]
  have hsz : ∀ w, (sizeOf E).run P w = .ok 1 w := fun w => by simp [sizeOf, typeInfo, hi, hs, go_sem]
  have hzv : ∀ w, (zeroValue E).run P w = .ok z w := fun w => by simp [zeroValue, typeInfo, hi, hz, go_sem]
  simp only [Instr.buildSlice, Sem.run_bind, tu.run, Result.andThen_ok, hsz]
  rw [if_neg (by omega)]
  by_cases h0 : vs.length * 1 = 0
  · simp only [h0, if_true, Sem.run_bind, Sem.run_pure, Result.andThen_ok]
    have := key #[]
    rw [h0] at this
    simp only [Sem.run_pure, Sem.run_bind, this]
    rfl
  · simp only [h0, if_false, Sem.run_bind, Sem.run_pure, Result.andThen_ok, hzv, key]
    rfl
section
variable {X : Cx} {e : Env} {L L1 F : List Assn} {A : List Assn} {S : List Nat} {ops : Array Oper} {k : Nat} {l : List Oper} {R : Act → World → Prop} {G : Act → World → Prop}
variable {d : Nat} {T : TypeId} {pos : String} {af : Array Edge}
theorem r_addN {t u : TypeId} {x y : Operand} {m n : Nat} (hx : ev e x = some (.int .i64 (m : Int))) (hy : ev e y = some (.int .i64 (n : Int))) (hr : m + n ≤ 9223372036854775807)
    (hd : Nat.blt d X.n = true) (h : J X ((d, .int .i64 ((m + n : Nat) : Int)) :: e) L (sw X.P (Holds X.Φ A) S ops R (k + 1) l)) :
    J X e L (sw X.P (Holds X.Φ A) S ops R k (⟨some d, .binOp .add t x y u, T, pos, af, none⟩ :: l)) :=
  r_iop hx hy (by simp only [iop]; rw [show (m : Int) + (n : Int) = ((m + n : Nat) : Int) from rfl, i64_nat hr]) hd h
theorem r_subN {t u : TypeId} {x y : Operand} {m n : Nat} (hx : ev e x = some (.int .i64 (m : Int))) (hy : ev e y = some (.int .i64 (n : Int))) (hn : n ≤ m) (hr : m ≤ 9223372036854775807)
    (hd : Nat.blt d X.n = true) (h : J X ((d, .int .i64 ((m - n : Nat) : Int)) :: e) L (sw X.P (Holds X.Φ A) S ops R (k + 1) l)) :
    J X e L (sw X.P (Holds X.Φ A) S ops R k (⟨some d, .binOp .sub t x y u, T, pos, af, none⟩ :: l)) :=
  r_iop hx hy (by simp only [iop]; rw [show (m : Int) - (n : Int) = ((m - n : Nat) : Int) from by omega, i64_nat (by omega)]) hd h
theorem r_mulN {t u : TypeId} {x y : Operand} {m n : Nat} (hx : ev e x = some (.int .i64 (m : Int))) (hy : ev e y = some (.int .i64 (n : Int))) (hr : m * n ≤ 9223372036854775807)
    (hd : Nat.blt d X.n = true) (h : J X ((d, .int .i64 ((m * n : Nat) : Int)) :: e) L (sw X.P (Holds X.Φ A) S ops R (k + 1) l)) :
    J X e L (sw X.P (Holds X.Φ A) S ops R k (⟨some d, .binOp .mul t x y u, T, pos, af, none⟩ :: l)) :=
  r_iop hx hy (by simp only [iop]; rw [show (m : Int) * (n : Int) = ((m * n : Nat) : Int) from by simp, i64_nat hr]) hd h
theorem r_quoN {t u : TypeId} {x y : Operand} {ki : IntKind} {m n : Nat} (hx : ev e x = some (.int ki (m : Int))) (hy : ev e y = some (.int ki (n : Int))) (h0 : n ≠ 0) (hw : ki.wrap ((m / n : Nat) : Int) = ((m / n : Nat) : Int))
    (hd : Nat.blt d X.n = true) (h : J X ((d, .int ki ((m / n : Nat) : Int)) :: e) L (sw X.P (Holds X.Φ A) S ops R (k + 1) l)) :
    J X e L (sw X.P (Holds X.Φ A) S ops R k (⟨some d, .binOp .quo t x y u, T, pos, af, none⟩ :: l)) :=
  r_quo hx hy (by omega) hd (by
    have e1 : (m : Int).tdiv (n : Int) = ((m / n : Nat) : Int) := by rw [Int.tdiv_eq_ediv_of_nonneg (by omega)]; rfl
    rw [e1, hw]; exact h)
theorem r_remN {t u : TypeId} {x y : Operand} {ki : IntKind} {m n : Nat} (hx : ev e x = some (.int ki (m : Int))) (hy : ev e y = some (.int ki (n : Int))) (h0 : n ≠ 0)
    (hd : Nat.blt d X.n = true) (h : J X ((d, .int ki ((m % n : Nat) : Int)) :: e) L (sw X.P (Holds X.Φ A) S ops R (k + 1) l)) :
    J X e L (sw X.P (Holds X.Φ A) S ops R k (⟨some d, .binOp .rem t x y u, T, pos, af, none⟩ :: l)) :=
  r_rem hx hy (by omega) hd (by
    have e1 : (m : Int).tmod (n : Int) = ((m % n : Nat) : Int) := by rw [Int.tmod_eq_emod_of_nonneg (by omega)]; rfl
    rw [e1]; exact h)
/-- a row's literal of elements of one cell. -/
theorem r_build1s {t E : TypeId} {len : Nat} {parts : Array (Nat × Operand)} {by_ : Nat} {z : Value} [tu : TUnd X.P t (.slice E)] [te : TElem X.P E 1 by_ z] (as : List Operand) (vs : List Value) (hp : parts = (as.zipIdx.map fun p => (p.2, p.1)).toArray) (hvs : evL e as = some vs)
    (h1 : ∀ v ∈ vs, v.oneCell' = true) (hn : vs.length ≤ 16777216) (hlen : vs.length = len) (hs : S.contains k = false) (hd : Nat.blt d X.n = true) [st : ∀ b, Stay A (pt b (.cells vs.toArray E (0, 0)) :: L)]
    (h : ∀ b, J X ((d, .slice (some ⟨b, 0, none⟩) len len) :: e) (vec (some ⟨b, 0, none⟩) len len E 1 vs :: L) (sw X.P (Holds X.Φ A) S ops R (k + 1) l)) :
    J X e L (sw X.P (Holds X.Φ A) S ops R k (⟨some d, .buildSlice t len parts, T, pos, af, none⟩ :: l)) :=
  r_buildS (cells := vs) (s := 1) hs hd (by omega) (fun a w m => by
    have e1 : (parts.map fun (i, x) => (i, a.eval x)) = (vs.zipIdx.map fun p => (p.2, p.1)).toArray := by
      rw [hp, ← m.evL hvs, List.zipIdx_map]; simp [Function.comp_def]
    rw [e1, ← hlen]
    exact run_buildOnes vs h1 hn w) h
/-- where a row lies that is not empty. -/
theorem j_at (a : Option Addr) (n cap : Nat) (E : TypeId) (s : Nat) (xs : List Value) {M : List Assn} [f : Find (vec a n cap E s xs) L M] (hn : 0 < n ∨ a ≠ none) (h : ∀ b off, a = some ⟨b, off, none⟩ → xs.length = n * s → n ≤ cap → J X e L G) : J X e L G := fun act w m hh => by
  have hh1 := hh.ent f.ent
  obtain ⟨im, hp, r, h1, h2, pa, pb, pc, ⟨hl, hc, hd⟩, st⟩ := hh1
  rcases hd with ⟨rfl, rfl, rfl⟩ | ⟨b, off, pre, post, rfl, _⟩
  · rcases hn with hn | hn
    · exact absurd hn (Nat.lt_irrefl _)
    · exact absurd rfl hn
  · exact h b off rfl hl hc act w m hh
end
end Go.Proofs.YtcnpkmdooekmgaaGreatDoor.Sl
