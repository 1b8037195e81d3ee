/-
  Part 2 of what a proof of this claim uses: rules, contracts and plain laws. No condition.
-/
import Derived.Test.YtcnpkmdooekmgaaGreatDoorV1
import Derived.Laws.IdiomRangeMap
import Derived.Laws.MakeOwn
import Derived.Laws.Tables
import Derived.Laws.BytesArg
import Derived.Laws.StructEq
import Derived.Laws.RangeString
import Derived.ChangeKeysEq
import Derived.Laws.Small
import Derived.Scope
namespace Go.Proofs.YtcnpkmdooekmgaaGreatDoor.Sl
open Go.RowKit (Below)
open Classical in
/-- the value of a key. -/
noncomputable def mget : List (Value × Value) → Value → Option Value
  | [], _ => none
  | p :: m, k => if p.1 = k then some p.2 else mget m k
open Classical in
noncomputable def mset : List (Value × Value) → Value → Value → List (Value × Value)
  | [], k, v => [(k, v)]
  | p :: m, k, v => if p.1 = k then (k, v) :: m else p :: mset m k v
open Classical in
noncomputable def mdel : List (Value × Value) → Value → List (Value × Value)
  | [], _ => []
  | p :: m, k => if p.1 = k then m else p :: mdel m k
theorem mget_none {m : List (Value × Value)} {k : Value} (h : ∀ p ∈ m, p.1 ≠ k) : mget m k = none := by
  induction m with
  | nil => rfl
  | cons p m ih => simp only [mget]; rw [if_neg (h p (by simp)), ih (fun q hq => h q (by simp [hq]))]
theorem mset_none {m : List (Value × Value)} {k v : Value} (h : ∀ p ∈ m, p.1 ≠ k) : mset m k v = m ++ [(k, v)] := by
  induction m with
  | nil => rfl
  | cons p m ih => simp only [mset]; rw [if_neg (h p (by simp)), ih (fun q hq => h q (by simp [hq]))]; rfl
theorem mdel_none {m : List (Value × Value)} {k : Value} (h : ∀ p ∈ m, p.1 ≠ k) : mdel m k = m := by
  induction m with
  | nil => rfl
  | cons p m ih => simp only [mdel]; rw [if_neg (h p (by simp)), ih (fun q hq => h q (by simp [hq]))]
theorem mget_mid {l1 l2 : List (Value × Value)} {k v : Value} (h : ∀ p ∈ l1, p.1 ≠ k) : mget (l1 ++ (k, v) :: l2) k = some v := by
  induction l1 with
  | nil => simp [mget]
  | cons p m ih => simp only [List.cons_append, mget]; rw [if_neg (h p (by simp)), ih (fun q hq => h q (by simp [hq]))]
theorem mset_mid {l1 l2 : List (Value × Value)} {k v u : Value} (h : ∀ p ∈ l1, p.1 ≠ k) : mset (l1 ++ (k, v) :: l2) k u = l1 ++ (k, u) :: l2 := by
  induction l1 with
  | nil => simp [mset]
  | cons p m ih => simp only [List.cons_append, mset]; rw [if_neg (h p (by simp)), ih (fun q hq => h q (by simp [hq]))]
theorem mdel_mid {l1 l2 : List (Value × Value)} {k v : Value} (h : ∀ p ∈ l1, p.1 ≠ k) : mdel (l1 ++ (k, v) :: l2) k = l1 ++ l2 := by
  induction l1 with
  | nil => simp [mdel]
  | cons p m ih => simp only [List.cons_append, mdel]; rw [if_neg (h p (by simp)), ih (fun q hq => h q (by simp [hq]))]

/-- a key's type: which keys are served, and that the code finds them. -/
class TKey (P : Program) (kt : TypeId) (ok : outParam (Value → Prop)) : Prop where
  check : ∀ (em : Bool) (v : Value) (w : World), ok v → (Instr.checkKey em 10000 kt v).run P w = .ok () w
  find : ∀ (k : Value) (es : List MapEntry) (w : World), ok k → (∀ e ∈ es, ok e.key) →
    ((Instr.findKey kt k es).run P w = .ok none w ∧ ∀ e ∈ es, e.key ≠ k) ∨ ∃ l1 e l2, (Instr.findKey kt k es).run P w = .ok (some (l1.length, e.val)) w ∧ es = l1 ++ e :: l2 ∧ e.key = k ∧ ∀ x ∈ l1, x.key ≠ k
  stays : ∀ (v : Value) (w : World), ok v → (Instr.keyThatStays v v).run P w = .ok v w
abbrev isInt (ki : IntKind) (v : Value) : Prop := ∃ n : Int, v = .int ki n
theorem findNow_int (kj ki : IntKind) (n : Int) : ∀ (es : List MapEntry) (i : Nat), (∀ e ∈ es, isInt ki e.key) →
    (Instr.findNow (.int kj) (.int ki n) es i = some none ∧ ∀ e ∈ es, e.key ≠ .int ki n) ∨ ∃ l1 e l2, Instr.findNow (.int kj) (.int ki n) es i = some (some (i + l1.length, e.val)) ∧ es = l1 ++ e :: l2 ∧ e.key = .int ki n ∧ ∀ x ∈ l1, x.key ≠ .int ki n
  | [], _, _ => .inl ⟨rfl, fun e he => absurd he (List.not_mem_nil)⟩
  | e :: es, i, h => by
    obtain ⟨n', hn'⟩ := h e (by simp)
    by_cases hq : n = n'
    · subst hq
      exact .inr ⟨[], e, es, by simp [Instr.findNow, Instr.sameNow, hn'], rfl, hn', fun x hx => absurd hx (List.not_mem_nil)⟩
    · have hne : e.key ≠ .int ki n := by rw [hn']; intro h; cases h; exact hq rfl
      have step : Instr.findNow (.int kj) (.int ki n) (e :: es) i = Instr.findNow (.int kj) (.int ki n) es (i + 1) := by
        simp [Instr.findNow, Instr.sameNow, hn', show (n == n') = false from by simpa using hq]
      rcases findNow_int kj ki n es (i + 1) (fun x hx => h x (by simp [hx])) with ⟨h1, h2⟩ | ⟨l1, x, l2, h1, h2, h3, h4⟩
      · exact .inl ⟨step.trans h1, fun x hx => by
          rcases List.mem_cons.1 hx with rfl | hx
          · exact hne
          · exact h2 x hx⟩
      · refine .inr ⟨e :: l1, x, l2, ?_, by rw [h2]; rfl, h3, fun y hy => ?_⟩
        · rw [step, h1]; simp; omega
        · rcases List.mem_cons.1 hy with rfl | hy
          · exact hne
          · exact h4 y hy
theorem check_int {P : Program} {kt : TypeId} {kj : IntKind} {n : Int} {em : Bool} [tu : TUnd P kt (.int kj)] (d : Nat) (w : World) : (Instr.checkKey em (d + 1) kt (.int kj n)).run P w = .ok () w := by
  simp only [Instr.checkKey, Sem.run_bind, tu.run, Result.andThen_ok, Sem.run_pure]
instance (P : Program) (kt : TypeId) (kj : IntKind) [tu : TUnd P kt (.int kj)] : TKey P kt (isInt kj) where
  check := fun em v w ⟨n, hv⟩ => by subst hv; exact check_int 9999 w
  find := fun k es w ⟨n, hv⟩ he => by
    subst hv
    rcases findNow_int kj kj n es 0 he with ⟨h1, h2⟩ | ⟨l1, x, l2, h1, h2, h3, h4⟩
    · exact .inl ⟨by simp only [Instr.findKey, Sem.run_bind, tu.run, Result.andThen_ok, h1, Sem.run_pure], h2⟩
    · exact .inr ⟨l1, x, l2, by simp only [Instr.findKey, Sem.run_bind, tu.run, Result.andThen_ok, h1, Sem.run_pure, Nat.zero_add], h2, h3, h4⟩
  stays := fun v w ⟨n, hv⟩ => by subst hv; simp [Instr.keyThatStays, Instr.sameBits, go_sem]

def kv (e : MapEntry) : Value × Value := (e.key, e.val)
structure MapOf (ok : Value → Prop) (m : List (Value × Value)) (es : List MapEntry) (clk : Nat) : Prop where
  m : m = es.map kv
  ok : ∀ e ∈ es, ok e.key
  keys : (es.map (·.key)).Nodup
  borns : (es.map (·.born)).Nodup
  lt : ∀ e ∈ es, e.born < clk
/-- a map of one's own. -/
def mp (ok : Value → Prop) (r : Nat) (m : List (Value × Value)) : Assn :=
  ⟨fun _ h => ∃ (es : List MapEntry) (clk : Nat), h r = some (.map es.toArray clk) ∧ MapOf ok m es clk, fun _ h => h⟩
/-- a map of one's own, and one who goes through it: 'todo' is left; 'cur' is what he is at. -/
def mit (ok : Value → Prop) (i r : Nat) (m todo : List (Value × Value)) (cur : Option (Value × Value)) : Assn :=
  ⟨fun _ h => ∃ (es : List MapEntry) (clk since : Nat) (seen : Array Nat) (last : Nat), i ≠ r ∧ h r = some (.map es.toArray clk) ∧ h i = some (.mapIter (some r) since seen last) ∧ MapOf ok m es clk ∧ (∀ e ∈ es, e.born < since) ∧ (since ≤ last ∧ since ≤ clk) ∧
      todo = (es.filter fun e => !seen.contains e.born).map kv ∧ (∀ p, cur = some p → ∃ e ∈ es, kv e = p ∧ seen.back? = some e.born ∧ clk = last), fun _ h => h⟩
class FindMp (r : Nat) (L : List Assn) (ok : outParam (Value → Prop)) (m : outParam (List (Value × Value))) (R : outParam (List Assn)) : Prop where
  ent : Ent L (mp ok r m :: R)
instance (priority := 1050) FindMp.head (ok : Value → Prop) (r : Nat) (m : List (Value × Value)) (L : List Assn) : FindMp r (mp ok r m :: L) ok m L := ⟨Ent.refl _⟩
instance (priority := 900) FindMp.tail (ok : Value → Prop) (r : Nat) (m : List (Value × Value)) (B : Assn) (L R : List Assn) [f : FindMp r L ok m R] : FindMp r (B :: L) ok m (B :: R) := ⟨(Ent.cons B f.ent).trans (Ent.swap B _ R)⟩
/-- what can be read of a map. -/
class RdM (r : Nat) (L : List Assn) (ok : outParam (Value → Prop)) (m : outParam (List (Value × Value))) : Prop where
  get : ∀ im h (w : World), (∀ b o, h b = some o → w.heap[b]? = some o) → satL im L h → ∃ (es : List MapEntry) (clk : Nat), w.heap[r]? = some (.map es.toArray clk) ∧ MapOf ok m es clk
instance (priority := 1100) RdM.mp (ok : Value → Prop) (r : Nat) (m : List (Value × Value)) (L : List Assn) : RdM r (mp ok r m :: L) ok m :=
  ⟨fun _ _ _ hh ⟨_, _, a, _, _, ⟨es, clk, d, hm⟩, _⟩ => ⟨es, clk, hh _ _ (a _ _ d), hm⟩⟩
instance (priority := 1090) RdM.mit (ok : Value → Prop) (i r : Nat) (m todo : List (Value × Value)) (cur : Option (Value × Value)) (L : List Assn) : RdM r (mit ok i r m todo cur :: L) ok m :=
  ⟨fun _ _ _ hh ⟨_, _, a, _, _, ⟨es, clk, _, _, _, _, d, _, hm, _⟩, _⟩ => ⟨es, clk, hh _ _ (a _ _ d), hm⟩⟩
instance (priority := 900) RdM.tail (ok : Value → Prop) (r : Nat) (m : List (Value × Value)) (B : Assn) (L : List Assn) [g : RdM r L ok m] : RdM r (B :: L) ok m :=
  ⟨fun im _ w hh ⟨_, h2, _, b', _, _, s⟩ => g.get im h2 w (fun c p e => hh c p (b' _ _ e)) s⟩
theorem Holds.rdm {Φ : Base} {L : List Assn} {w : World} {r : Nat} {ok : Value → Prop} {m : List (Value × Value)} [g : RdM r L ok m] (h : Holds Φ L w) : ∃ (es : List MapEntry) (clk : Nat), w.heap[r]? = some (.map es.toArray clk) ∧ MapOf ok m es clk := by
  obtain ⟨im, hp, rl, s⟩ := h
  exact g.get im hp w rl.hw s
theorem Holds.mp {Φ : Base} {R : List Assn} {w : World} {r : Nat} {ok : Value → Prop} {m : List (Value × Value)} (h : Holds Φ (Sl.mp ok r m :: R) w) : ∃ (es : List MapEntry) (clk : Nat), MapOf ok m es clk ∧ w.heap[r]? = some (.map es.toArray clk) ∧ Holds Φ (pt r (.map es.toArray clk) :: R) w := by
  obtain ⟨im, hp, rl, h1, h2, a, b, c, ⟨es, clk, d, hm⟩, s⟩ := h
  exact ⟨es, clk, hm, rl.hw _ _ (a _ _ d), im, hp, rl, h1, h2, a, b, c, d, s⟩
theorem Ent.mp {R : List Assn} {r clk : Nat} {es : List MapEntry} {ok : Value → Prop} {m : List (Value × Value)} (hm : MapOf ok m es clk) : Ent (pt r (.map es.toArray clk) :: R) (Sl.mp ok r m :: R) :=
  fun _ _ ⟨h1, h2, a, b, c, d, s⟩ => ⟨h1, h2, a, b, c, ⟨es, clk, d, hm⟩, s⟩
theorem Ent.mpNil {R : List Assn} {r : Nat} (ok : Value → Prop) : Ent (pt r (.map #[] 0) :: R) (Sl.mp ok r [] :: R) :=
  Ent.mp (es := []) ⟨rfl, fun _e he => absurd he (List.not_mem_nil), List.nodup_nil, List.nodup_nil, fun _e he => absurd he (List.not_mem_nil)⟩
theorem ne_kv {l : List MapEntry} {k : Value} (h : ∀ x ∈ l, x.key ≠ k) : ∀ p ∈ l.map kv, p.1 ≠ k := fun p hp => by
  obtain ⟨x, hx, rfl⟩ := List.mem_map.1 hp; exact h x hx
theorem run_setMap {P : Program} {w : World} {r : Nat} {es : Array MapEntry} {clk : Nat} {o' : Obj} (h : w.heap[r]? = some (.map es clk)) : (setObj r o').run P w = .ok () { w with heap := w.heap.setIfInBounds r o' } := by
  simp only [setObj, Sem.run, h]
theorem run_setIter {P : Program} {w : World} {r : Nat} {a : Option Nat} {b : Nat} {c : Array Nat} {d : Nat} {o' : Obj} (h : w.heap[r]? = some (.mapIter a b c d)) : (setObj r o').run P w = .ok () { w with heap := w.heap.setIfInBounds r o' } := by
  simp only [setObj, Sem.run, h]
theorem run_getMap {P : Program} {w : World} {r : Nat} {es : Array MapEntry} {clk : Nat} (h : w.heap[r]? = some (.map es clk)) : (getObj r).run P w = .ok (.map es clk) w := by
  simp only [getObj, Sem.run, h]
theorem run_getIter {P : Program} {w : World} {r : Nat} {a : Option Nat} {b : Nat} {c : Array Nat} {d : Nat} (h : w.heap[r]? = some (.mapIter a b c d)) : (getObj r).run P w = .ok (.mapIter a b c d) w := by
  simp only [getObj, Sem.run, h]
theorem set_at {w : World} {r : Nat} {o o' : Obj} (h : w.heap[r]? = some o) : ({ w with heap := w.heap.setIfInBounds r o' } : World).heap[r]? = some o' := by
  have : r < w.heap.size := by
    rcases Nat.lt_or_ge r w.heap.size with h1 | h1
    · exact h1
    · simp [Array.getElem?_eq_none h1] at h
  simp [this]
theorem set_off {w : World} {r c : Nat} {o' : Obj} (h : c ≠ r) : ({ w with heap := w.heap.setIfInBounds r o' } : World).heap[c]? = w.heap[c]? := by
  show (w.heap.setIfInBounds r o')[c]? = _
  rw [Array.getElem?_setIfInBounds_ne (Ne.symm h)]
section
variable {X : Cx} {e : Env} {L L1 F : List Assn} {A : List Assn} {S : List Nat} {ops : Array Oper} {k : Nat} {l : List Oper} {R : Act → World → Prop} {G : Act → World → Prop}
variable {d : Nat} {T : TypeId} {pos : String} {af : Array Edge} {ok : Value → Prop} {m : List (Value × Value)} {r : Nat}
theorem run_lookup {P : Program} {t kt E : TypeId} {z key : Value} {es : List MapEntry} {clk : Nat} {w : World} {ck : Bool} [tu : TUnd P t (.map kt E)] [tk : TKey P kt ok] [tz : TZero P E z] (hk : ok key) (hb : w.heap[r]? = some (.map es.toArray clk)) (hm : MapOf ok m es clk) :
    (Instr.lookup t (.map (some r)) key ck).run P w = .ok (if ck then .tuple #[(mget m key).getD z, .bool (mget m key).isSome] else (mget m key).getD z) w := by
  simp only [Instr.lookup, Sem.run_bind, tu.run, Result.andThen_ok, run_getMap hb, tk.check _ _ _ hk, Sem.run_pure]
  rcases tk.find key es w hk hm.ok with ⟨h1, h2⟩ | ⟨l1, x, l2, h1, h2, h3, h4⟩
  · rw [hm.m, mget_none (ne_kv h2)]
    simp only [h1, Result.andThen_ok, tz.run, Sem.run_bind, Sem.run_pure, Option.getD_none, Option.isSome_none]
  · have : mget m key = some x.val := by
      rw [hm.m, h2, List.map_append, List.map_cons, show kv x = (key, x.val) from by rw [← h3]; rfl, mget_mid (ne_kv h4)]
    rw [this]
    simp only [h1, Result.andThen_ok, Sem.run_bind, Sem.run_pure, Option.getD_some, Option.isSome_some]
theorem r_lookup1 {t kt E : TypeId} {x y : Operand} {key z : Value} [tu : TUnd X.P t (.map kt E)] [tz : TZero X.P E z] (hx : ev e x = some (.map (some r))) (hy : ev e y = some key) [f : RdM r L ok m] [tk : TKey X.P kt ok] (hk : ok key) (hd : Nat.blt d X.n = true) (hs : S.contains k = false)
    (h : J X ((d, (mget m key).getD z) :: e) L (sw X.P (Holds X.Φ A) S ops R (k + 1) l)) : J X e L (sw X.P (Holds X.Φ A) S ops R k (⟨some d, .lookup t x y false, T, pos, af, none⟩ :: l)) :=
  r_read rfl (cls_read rfl hs rfl) rfl hd (fun a w mt hh => by
    obtain ⟨es, clk, hb, hm⟩ := hh.rdm (r := r)
    have h1 := run_lookup (P := X.P) (t := t) (ck := false) hk hb hm
    simp only [execOp, mt.ev hx, mt.ev hy, Sem.run_bind, h1, Result.andThen_ok, Sem.run_pure, Bool.false_eq_true, if_false]) h
/-- a map of one's own is turned. -/
theorem r_mapW {op : Op} {m' : List (Value × Value)} {dst : Option Nat} {v : Value} [f : FindMp r L ok m L1] (hs : S.contains k = false) (hc : clsOp op = .write) (hd : ∀ j, dst = some j → Nat.blt j X.n = true) (st : Stay A (mp ok r m' :: L1))
    (hrun : ∀ a w es clk, Mt X.ds X.n e a → MapOf ok m es clk → w.heap[r]? = some (.map es.toArray clk) → ∃ es' clk', MapOf ok m' es' clk' ∧
      upS X.P (fun u w' => u = v ∧ w' = { w with heap := w.heap.setIfInBounds r (.map es'.toArray clk') }) ((execOp a.eval (⟨dst, op, T, pos, af, none⟩ : Oper)).run X.P w))
    (h : J X (bnd dst v e) (mp ok r m' :: L1) (sw X.P (Holds X.Φ A) S ops R (k + 1) l)) : J X e L (sw X.P (Holds X.Φ A) S ops R k (⟨dst, op, T, pos, af, none⟩ :: l)) :=
  r_write (α := Unit) (q := fun _ => True) (V := fun _ => v) (M := fun _ => mp ok r m' :: L1) rfl (cls_write rfl hs hc) hd (fun _ => st)
    (fun a w mt hh => by
      obtain ⟨es, clk, hm, hb, hh'⟩ := (hh.ent f.ent).mp
      obtain ⟨es', clk', hm', h1⟩ := hrun a w es clk mt hm hb
      exact upS_mono (fun u w'' ⟨h7, h8⟩ => by
        subst h7; subst h8
        exact ⟨(), trivial, rfl, (hh'.upd (o' := .map es'.toArray clk') (set_at hb) (fun c hc => set_off hc) rfl rfl rfl).ent (Ent.mp hm')⟩) h1) (fun _ _ => h)
theorem MapOf.push {es : List MapEntry} {clk : Nat} {key v : Value} (hm : MapOf ok m es clk) (hk : ok key) (hn : ∀ x ∈ es, x.key ≠ key) : MapOf ok (mset m key v) (es ++ [⟨key, v, clk⟩]) (clk + 1) := by
  refine ⟨?_, fun x hx => ?_, ?_, ?_, fun x hx => ?_⟩
  · rw [hm.m, mset_none (ne_kv hn)]; simp [kv]
  · rcases List.mem_append.1 hx with hx | hx
    · exact hm.ok x hx
    · rw [List.mem_singleton.1 hx]; exact hk
  · rw [List.map_append]
    refine List.nodup_append.2 ⟨hm.keys, by simp, fun a ha b hb => ?_⟩
    obtain ⟨x, hx, rfl⟩ := List.mem_map.1 ha
    simp at hb; subst hb
    exact hn x hx
  · rw [List.map_append]
    refine List.nodup_append.2 ⟨hm.borns, by simp, fun a ha b hb => ?_⟩
    obtain ⟨x, hx, rfl⟩ := List.mem_map.1 ha
    simp at hb; subst hb
    exact Nat.ne_of_lt (hm.lt x hx)
  · rcases List.mem_append.1 hx with hx | hx
    · exact Nat.lt_succ_of_lt (hm.lt x hx)
    · rw [List.mem_singleton.1 hx]; exact Nat.lt_succ_self _
theorem MapOf.mid {l1 l2 : List MapEntry} {x : MapEntry} {clk : Nat} {key v : Value} (hm : MapOf ok m (l1 ++ x :: l2) clk) (hx : x.key = key) (h4 : ∀ y ∈ l1, y.key ≠ key) : MapOf ok (mset m key v) (l1 ++ ⟨key, v, x.born⟩ :: l2) clk := by
  obtain ⟨ck, cv, cb⟩ := x
  dsimp only at hx; subst hx
  have e1 : (l1 ++ (⟨ck, v, cb⟩ : MapEntry) :: l2).map (·.key) = (l1 ++ (⟨ck, cv, cb⟩ : MapEntry) :: l2).map (·.key) := by simp
  have e2 : (l1 ++ (⟨ck, v, cb⟩ : MapEntry) :: l2).map (·.born) = (l1 ++ (⟨ck, cv, cb⟩ : MapEntry) :: l2).map (·.born) := by simp
  refine ⟨?_, fun y hy => ?_, by rw [e1]; exact hm.keys, by rw [e2]; exact hm.borns, fun y hy => ?_⟩
  · rw [hm.m, List.map_append, List.map_cons, show kv ⟨ck, cv, cb⟩ = (ck, cv) from rfl, mset_mid (ne_kv h4)]; simp [kv]
  · have := hm.ok
    simp only [List.mem_append, List.mem_cons] at hy this
    rcases hy with hy | rfl | hy
    · exact this y (.inl hy)
    · exact this ⟨ck, cv, cb⟩ (.inr (.inl rfl))
    · exact this y (.inr (.inr hy))
  · have := hm.lt
    simp only [List.mem_append, List.mem_cons] at hy this
    rcases hy with hy | rfl | hy
    · exact this y (.inl hy)
    · exact this ⟨ck, cv, cb⟩ (.inr (.inl rfl))
    · exact this y (.inr (.inr hy))
theorem MapOf.del {l1 l2 : List MapEntry} {x : MapEntry} {clk : Nat} {key : Value} (hm : MapOf ok m (l1 ++ x :: l2) clk) (hx : x.key = key) (h4 : ∀ y ∈ l1, y.key ≠ key) : MapOf ok (mdel m key) (l1 ++ l2) clk := by
  obtain ⟨ck, cv, cb⟩ := x
  dsimp only at hx; subst hx
  have hsub : (l1 ++ l2).Sublist (l1 ++ (⟨ck, cv, cb⟩ : MapEntry) :: l2) := List.Sublist.append (List.Sublist.refl _) (List.sublist_cons_self _ _)
  refine ⟨?_, fun y hy => hm.ok y (hsub.subset hy), hm.keys.sublist (hsub.map _), hm.borns.sublist (hsub.map _), fun y hy => hm.lt y (hsub.subset hy)⟩
  rw [hm.m, List.map_append, List.map_cons, show kv ⟨ck, cv, cb⟩ = (ck, cv) from rfl, mdel_mid (ne_kv h4)]; simp
theorem modify_mid (f : MapEntry → MapEntry) (x : MapEntry) (l2 : List MapEntry) : ∀ l1 : List MapEntry, (l1 ++ x :: l2).modify l1.length f = l1 ++ f x :: l2
  | [] => rfl
  | y :: l1 => by simp only [List.cons_append, List.length_cons, List.modify_succ_cons]; rw [modify_mid f x l2 l1]
theorem modifyA_mid (f : MapEntry → MapEntry) (x : MapEntry) (l1 l2 : List MapEntry) : (l1 ++ x :: l2).toArray.modify l1.length f = (l1 ++ f x :: l2).toArray := by
  rw [← modify_mid f x l2 l1]; simp
theorem eraseA_mid (x : MapEntry) (l1 l2 : List MapEntry) : (l1 ++ x :: l2).toArray.eraseIdxIfInBounds l1.length = (l1 ++ l2).toArray := by
  rw [Array.eraseIdxIfInBounds, dif_pos (by simp)]
  simp [List.eraseIdx_append_of_length_le]
theorem r_mapUpd {t kt E : TypeId} {x y z : Operand} {key v : Value} [tu : TUnd X.P t (.map kt E)] (hx : ev e x = some (.map (some r))) (hy : ev e y = some key) (hz : ev e z = some v) [f : FindMp r L ok m L1] [tk : TKey X.P kt ok] (hk : ok key) (hs : S.contains k = false) [st : Stay A (mp ok r (mset m key v) :: L1)]
    (h : J X e (mp ok r (mset m key v) :: L1) (sw X.P (Holds X.Φ A) S ops R (k + 1) l)) : J X e L (sw X.P (Holds X.Φ A) S ops R k (⟨none, .mapUpdate t x y z, T, pos, af, none⟩ :: l)) :=
  r_mapW (v := undef) hs rfl blt_none st (fun a w es clk mt hm hb => by
    rcases tk.find key es w hk hm.ok with ⟨h1, h2⟩ | ⟨l1, x, l2, h1, h2, h3, h4⟩
    · refine ⟨es ++ [⟨key, v, clk⟩], clk + 1, hm.push hk h2, ?_⟩
      have hrun : (Instr.mapUpdate t (.map (some r)) key v).run X.P w = .ok () { w with heap := w.heap.setIfInBounds r (.map (es ++ [(⟨key, v, clk⟩ : MapEntry)]).toArray (clk + 1)) } := by
        simp only [Instr.mapUpdate, Sem.run_bind, tu.run, Result.andThen_ok, run_getMap hb, tk.check _ _ _ hk, h1, run_setMap hb]
        simp
      simp only [execOp, mt.ev hx, mt.ev hy, mt.ev hz, Sem.run_bind, hrun, Result.andThen_ok, Sem.run_pure, upS, and_self]
    · refine ⟨l1 ++ ⟨key, v, x.born⟩ :: l2, clk, by rw [h2] at hm; exact hm.mid h3 h4, ?_⟩
      have hg : (((es.toArray[l1.length]?).map (·.key)).getD key) = key := by rw [h2]; simp [h3]
      have hrun : (Instr.mapUpdate t (.map (some r)) key v).run X.P w = .ok () { w with heap := w.heap.setIfInBounds r (.map (l1 ++ (⟨key, v, x.born⟩ : MapEntry) :: l2).toArray clk) } := by
        simp only [Instr.mapUpdate, Sem.run_bind, tu.run, Result.andThen_ok, run_getMap hb, tk.check _ _ _ hk, h1, hg, tk.stays _ _ hk, run_setMap hb]
        rw [h2, modifyA_mid]
      simp only [execOp, mt.ev hx, mt.ev hy, mt.ev hz, Sem.run_bind, hrun, Result.andThen_ok, Sem.run_pure, upS, and_self]) h
theorem run_delete {P : Program} {t kt E ty : TypeId} {key : Value} {es : List MapEntry} {clk : Nat} {w : World} [tu : TUnd P t (.map kt E)] [tk : TKey P kt ok] (hk : ok key) (hb : w.heap[r]? = some (.map es.toArray clk)) (hm : MapOf ok m es clk) :
    ∃ es' clk', MapOf ok (mdel m key) es' clk' ∧ (Builtin.delete_ #[t, kt] ty #[.map (some r), key]).run P w = .ok (.tuple #[]) { w with heap := w.heap.setIfInBounds r (.map es'.toArray clk') } := by
  rcases tk.find key es w hk hm.ok with ⟨h1, h2⟩ | ⟨l1, x, l2, h1, h2, h3, h4⟩
  · refine ⟨es, clk, by rw [hm.m, mdel_none (ne_kv h2), ← hm.m]; exact hm, ?_⟩
    simp only [Builtin.delete_, List.getElem?_toArray, List.getElem?_cons_zero, List.getElem?_cons_succ, Sem.run_bind, tu.run, Result.andThen_ok, run_getMap hb, tk.check _ _ _ hk, h1, run_setMap hb, Sem.run_pure]
  · refine ⟨l1 ++ l2, clk, by rw [h2] at hm; exact hm.del h3 h4, ?_⟩
    simp only [Builtin.delete_, List.getElem?_toArray, List.getElem?_cons_zero, List.getElem?_cons_succ, Sem.run_bind, tu.run, Result.andThen_ok, run_getMap hb, tk.check _ _ _ hk, h1, run_setMap hb, Sem.run_pure]
    rw [h2, eraseA_mid]
theorem r_delete {t kt E : TypeId} {x y : Operand} {key : Value} {dst : Option Nat} [tu : TUnd X.P t (.map kt E)] (hx : ev e x = some (.map (some r))) (hy : ev e y = some key) [f : FindMp r L ok m L1] [tk : TKey X.P kt ok] (hk : ok key) (hs : S.contains k = false) (hd : ∀ j, dst = some j → Nat.blt j X.n = true) [st : Stay A (mp ok r (mdel m key) :: L1)]
    (h : J X (bnd dst (.tuple #[]) e) (mp ok r (mdel m key) :: L1) (sw X.P (Holds X.Φ A) S ops R (k + 1) l)) : J X e L (sw X.P (Holds X.Φ A) S ops R k (⟨dst, .call { callee := .builtin .delete, args := #[x, y], argTypes := #[t, kt] }, T, pos, af, none⟩ :: l)) :=
  r_mapW (v := .tuple #[]) hs rfl hd st (fun a w es clk mt hm hb => by
    obtain ⟨es', clk', h1, h2⟩ := run_delete (P := X.P) (t := t) (ty := T) hk hb hm
    refine ⟨es', clk', h1, ?_⟩
    simp only [execOp, resolve, invoke, builtin, Sem.run_bind, Sem.run_pure, Result.andThen_ok, List.map_toArray, List.map_cons, List.map_nil, mt.ev hx, mt.ev hy, pure_bind, h2, upS, and_self]) h
theorem r_lenM {t kt E : TypeId} {x : Operand} [tu : TUnd X.P t (.map kt E)] (hx : ev e x = some (.map (some r))) [f : RdM r L ok m] (hd : Nat.blt d X.n = true) (hs : S.contains k = false) (h : J X ((d, .int .i64 (m.length : Nat)) :: e) L (sw X.P (Holds X.Φ A) S ops R (k + 1) l)) :
    J X e L (sw X.P (Holds X.Φ A) S ops R k (⟨some d, .call { callee := .builtin .len, args := #[x], argTypes := #[t] }, T, pos, af, none⟩ :: l)) :=
  r_read rfl (cls_read rfl hs rfl) rfl hd (fun a w mt hh => by
    obtain ⟨es, clk, hb, hm⟩ := hh.rdm (r := r)
    have hl : m.length = es.length := by rw [hm.m]; simp
    simp only [execOp, resolve, invoke, builtin, mt.ev hx, List.map_toArray, List.map_cons, List.map_nil, pure_bind, Builtin.len_, List.getElem?_toArray, List.getElem?_cons_zero, Sem.run_bind, tu.run, Result.andThen_ok, Sem.run_pure, goInt, run_getMap hb, List.size_toArray, hl]) h
theorem r_makeMap {t : TypeId} (ok : Value → Prop) (hs : S.contains k = false) (hd : Nat.blt d X.n = true) [st : ∀ b, Stay A (pt b (.map #[] 0) :: L)]
    (h : ∀ b, J X ((d, .map (some b)) :: e) (mp ok b [] :: L) (sw X.P (Holds X.Φ A) S ops R (k + 1) l)) :
    J X e L (sw X.P (Holds X.Φ A) S ops R k (⟨some d, .makeMap t none, T, pos, af, none⟩ :: l)) :=
  r_map hs hd (fun b => j_ent (Ent.mpNil ok) (h b))
theorem two {im h : Hp} {i r : Nat} {o1 o2 : Obj} (hne : i ≠ r) (h1 : h i = some o1) (h2 : h r = some o2) : (all [pt i o1, pt r o2]).sat im h := by
  refine ⟨Hp.emp.set i o1, Hp.emp.set r o2, ?_, ?_, ?_, Hp.set_same _ _ _, Hp.emp.set r o2, Hp.emp, Hp.le_refl _, Hp.emp_le _, fun b => .inr rfl, Hp.set_same _ _ _, trivial⟩
  · intro b o hb
    by_cases e : b = i
    · subst e; rw [Hp.set_same] at hb; rw [h1]; exact hb
    · rw [Hp.set_ne _ _ e] at hb; cases hb
  · intro b o hb
    by_cases e : b = r
    · subst e; rw [Hp.set_same] at hb; rw [h2]; exact hb
    · rw [Hp.set_ne _ _ e] at hb; cases hb
  · intro b
    by_cases e : b = i
    · right; subst e; rw [Hp.set_ne _ _ hne]; rfl
    · left; rw [Hp.set_ne _ _ e]; rfl
theorem of_two {im h : Hp} {i r : Nat} {o1 o2 : Obj} (s : (all [pt i o1, pt r o2]).sat im h) : i ≠ r ∧ h i = some o1 ∧ h r = some o2 := by
  obtain ⟨h1, h2, a, b, c, d1, k1, k2, a', b', c', d2, _⟩ := s
  have d1 : h1 i = some o1 := d1
  have d2 : k1 r = some o2 := d2
  refine ⟨fun e => ?_, a _ _ d1, b _ _ (a' _ _ d2)⟩
  subst e
  rcases c i with h | h
  · rw [h] at d1; cases d1
  · rw [a' _ _ d2] at h; cases h
structure IterOf (ok : Value → Prop) (i r : Nat) (m todo : List (Value × Value)) (cur : Option (Value × Value)) (es : List MapEntry) (clk since : Nat) (seen : Array Nat) (last : Nat) : Prop where
  of : MapOf ok m es clk
  old : ∀ e ∈ es, e.born < since
  since : since ≤ last ∧ since ≤ clk
  todo : todo = (es.filter fun e => !seen.contains e.born).map kv
  cur : ∀ p, cur = some p → ∃ e ∈ es, kv e = p ∧ seen.back? = some e.born ∧ clk = last
theorem Holds.mit {Φ : Base} {R : List Assn} {w : World} {i r : Nat} {ok : Value → Prop} {m todo : List (Value × Value)} {cur : Option (Value × Value)} (h : Holds Φ (Sl.mit ok i r m todo cur :: R) w) :
    ∃ (es : List MapEntry) (clk since : Nat) (seen : Array Nat) (last : Nat), IterOf ok i r m todo cur es clk since seen last ∧ w.heap[i]? = some (.mapIter (some r) since seen last) ∧ w.heap[r]? = some (.map es.toArray clk) ∧ Holds Φ (pt i (.mapIter (some r) since seen last) :: pt r (.map es.toArray clk) :: R) w := by
  obtain ⟨im, hp, rl, h1, h2, a, b, c, ⟨es, clk, since, seen, last, hne, d1, d2, hm, ho, hs, ht, hc⟩, s⟩ := h
  refine ⟨es, clk, since, seen, last, ⟨hm, ho, hs, ht, hc⟩, rl.hw _ _ (a _ _ d2), rl.hw _ _ (a _ _ d1), im, hp, rl, ?_⟩
  exact Ent.all [pt i (.mapIter (some r) since seen last), pt r (.map es.toArray clk)] R im hp ⟨h1, h2, a, b, c, two hne d2 d1, s⟩
theorem Ent.mit {R : List Assn} {i r : Nat} {ok : Value → Prop} {m todo : List (Value × Value)} {cur : Option (Value × Value)} {es : List MapEntry} {clk since : Nat} {seen : Array Nat} {last : Nat} (hi : IterOf ok i r m todo cur es clk since seen last) :
    Ent (pt i (.mapIter (some r) since seen last) :: pt r (.map es.toArray clk) :: R) (Sl.mit ok i r m todo cur :: R) := fun im h s => by
  obtain ⟨h1, h2, a, b, c, d, s⟩ := Ent.unall [pt i (.mapIter (some r) since seen last), pt r (.map es.toArray clk)] R im h s
  obtain ⟨hne, d1, d2⟩ := of_two d
  exact ⟨h1, h2, a, b, c, ⟨es, clk, since, seen, last, hne, d2, d1, hi.of, hi.old, hi.since, hi.todo, hi.cur⟩, s⟩
/-- who has gone through it all, or goes no further. -/
theorem Ent.mitEnd {R : List Assn} {i r : Nat} {ok : Value → Prop} {m todo : List (Value × Value)} {cur : Option (Value × Value)} : Ent (Sl.mit ok i r m todo cur :: R) (Sl.mp ok r m :: R) :=
  fun _ _ ⟨h1, h2, a, b, c, ⟨es, clk, _, _, _, _, d1, _, hm, _⟩, s⟩ => ⟨h1, h2, a, b, c, ⟨es, clk, d1, hm⟩, s⟩
class FindIt (i : Nat) (L : List Assn) (ok : outParam (Value → Prop)) (r : outParam Nat) (m todo : outParam (List (Value × Value))) (cur : outParam (Option (Value × Value))) (R : outParam (List Assn)) : Prop where
  ent : Ent L (mit ok i r m todo cur :: R)
instance (priority := 1050) FindIt.head (ok : Value → Prop) (i r : Nat) (m todo : List (Value × Value)) (cur : Option (Value × Value)) (L : List Assn) : FindIt i (mit ok i r m todo cur :: L) ok r m todo cur L := ⟨Ent.refl _⟩
instance (priority := 900) FindIt.tail (ok : Value → Prop) (i r : Nat) (m todo : List (Value × Value)) (cur : Option (Value × Value)) (B : Assn) (L R : List Assn) [f : FindIt i L ok r m todo cur R] : FindIt i (B :: L) ok r m todo cur (B :: R) := ⟨(Ent.cons B f.ent).trans (Ent.swap B _ R)⟩

theorem r_rangeM {t kt E : TypeId} {x : Operand} [tu : TUnd X.P t (.map kt E)] (hx : ev e x = some (.map (some r))) [f : FindMp r L ok m L1] (hs : S.contains k = false) (hd : Nat.blt d X.n = true) [st : ∀ b, Stay A (mit ok b r m m none :: L1)]
    (h : ∀ b, J X ((d, .pointer (some ⟨b, 0, none⟩)) :: e) (mit ok b r m m none :: L1) (sw X.P (Holds X.Φ A) S ops R (k + 1) l)) : J X e L (sw X.P (Holds X.Φ A) S ops R k (⟨some d, .range t x, T, pos, af, none⟩ :: l)) :=
  r_write (α := Nat) (q := fun _ => True) (V := fun b => .pointer (some ⟨b, 0, none⟩)) (M := fun b => mit ok b r m m none :: L1) rfl (cls_write rfl hs rfl) (blt_some hd) st
    (fun a w mt hh => by
      obtain ⟨es, clk, hm, hb, hh'⟩ := (hh.ent f.ent).mp
      have hrun : (Instr.range t (.map (some r))).run X.P w = .ok (.pointer (some ⟨w.heap.size, 0, none⟩)) { w with heap := w.heap.push (.mapIter (some r) clk #[] clk) } := by
        simp only [Instr.range, Sem.run_bind, tu.run, Result.andThen_ok, run_getMap hb, Sem.run_pure, run_newObj]
      simp only [execOp, mt.ev hx, Sem.run_bind, hrun, Result.andThen_ok, Sem.run_pure, upS]
      exact ⟨w.heap.size, trivial, rfl, (hh'.alloc (w' := { w with heap := w.heap.push (.mapIter (some r) clk #[] clk) }) (.mapIter (some r) clk #[] clk) rfl rfl rfl rfl).ent (Ent.mit (ok := ok) (m := m) (todo := m) (cur := none) ⟨hm, hm.lt, ⟨Nat.le_refl _, Nat.le_refl _⟩, by rw [hm.m]; congr 1; symm; exact List.filter_eq_self.2 (fun _ _ => by simp), fun p hp => by cases hp⟩)⟩) (fun b _ => h b)
theorem filter_push {es l1 l2 : List MapEntry} {x : MapEntry} {seen : Array Nat} (hn : (es.map (·.born)).Nodup) (h : (es.filter fun e => !seen.contains e.born) = l1 ++ x :: l2) :
    (es.filter fun e => !(seen.push x.born).contains e.born) = l1 ++ l2 := by
  have e1 : (es.filter fun e => !(seen.push x.born).contains e.born) = (es.filter fun e => !seen.contains e.born).filter fun e => !(e.born == x.born) := by
    rw [List.filter_filter]
    congr 1
    funext e
    rw [Array.contains_push]
    cases seen.contains e.born <;> cases e.born == x.born <;> rfl
  have hn2 : ((l1 ++ x :: l2).map (·.born)).Nodup := by rw [← h]; exact hn.sublist ((List.filter_sublist (l := es)).map _)
  rw [e1, h, List.filter_append, List.filter_cons]
  simp only [beq_self_eq_true, Bool.not_true, Bool.false_eq_true, if_false]
  rw [List.map_append, List.map_cons] at hn2
  have h3 := List.nodup_append.1 hn2
  have h4 := List.nodup_cons.1 h3.2.1
  congr 1
  · refine List.filter_eq_self.2 fun y hy => ?_
    have := h3.2.2 y.born (List.mem_map.2 ⟨y, hy, rfl⟩) x.born (by simp)
    simpa using this
  · refine List.filter_eq_self.2 fun y hy => ?_
    have : y.born ≠ x.born := fun e => h4.1 (e ▸ List.mem_map.2 ⟨y, hy, rfl⟩)
    simpa using this
theorem run_nextM {P : Program} {w : World} {ty : TypeId} {i r since last clk : Nat} {seen : Array Nat} {es : List MapEntry} (hi : w.heap[i]? = some (.mapIter (some r) since seen last)) (hr : w.heap[r]? = some (.map es.toArray clk)) (hold : ∀ x ∈ es, x.born < since) (hsc : since ≤ last) :
    ((es.filter fun e => !seen.contains e.born) = [] ∧ (Instr.next (.pointer (some ⟨i, 0, none⟩)) false ty).run P w = .ok (.tuple #[.bool false]) w) ∨
    ∃ (l1 : List MapEntry) (x : MapEntry) (l2 : List MapEntry) (w1 : World), (es.filter fun e => !seen.contains e.born) = l1 ++ x :: l2 ∧ (w1.heap = w.heap ∧ w1.os = w.os ∧ w1.output = w.output ∧ w1.tape = w.tape) ∧
      (Instr.next (.pointer (some ⟨i, 0, none⟩)) false ty).run P w = .ok (.tuple #[.bool true, x.key, x.val]) { w1 with heap := w1.heap.setIfInBounds i (.mapIter (some r) since (seen.push x.born) clk) } := by
  have ht := next_test_false seen es.toArray since last (by simpa using hold) hsc
  simp only [Instr.next, Sem.run_bind, run_getIter hi, run_getMap hr, Result.andThen_ok, ht, Bool.false_eq_true, if_false]
  have hL : Array.filter (fun e => !seen.contains e.born) es.toArray = (es.filter fun e => !seen.contains e.born).toArray := by simp
  rw [hL]
  have hmem : ∀ x ∈ (es.filter fun e => !seen.contains e.born), x.born < since := fun x hx => hold x (List.mem_filter.1 hx).1
  generalize (es.filter fun e => !seen.contains e.born) = L at hmem
  have e1 : L.toArray.filter (fun x => decide (x.born < since)) = L.toArray := Array.filter_eq_self.2 (fun x hx => by simpa using hmem x (by simpa using hx))
  have e2 : L.toArray.filter (fun x => decide (x.born ≥ since)) = #[] := by
    rw [Array.filter_eq_empty_iff]
    intro x hx
    have := hmem x (by simpa using hx)
    simp
    omega
  simp only [e1, e2, Array.append_empty]
  by_cases h0 : L = []
  · left
    subst h0
    refine ⟨rfl, ?_⟩
    simp [choose, Sem.run, Question.forced]
  · right
    have hne : L.toArray.isEmpty = false := by cases L with | nil => exact absurd rfl h0 | cons _ _ => rfl
    have hpos : 0 < L.length := List.length_pos_iff.2 h0
    simp only [hne, Bool.false_eq_true, if_false, Array.empty_append, Array.size_map, List.size_toArray]
    have hch : ∃ (j : Nat) (w1 : World), j < L.length ∧ (w1.heap = w.heap ∧ w1.os = w.os ∧ w1.output = w.output ∧ w1.tape = w.tape) ∧ (choose (Question.mapNext L.length)).run P w = .ok j w1 := by
      by_cases hf : L.length ≤ 1
      · exact ⟨0, w, by omega, ⟨rfl, rfl, rfl, rfl⟩, by simp [choose, Sem.run, Question.forced, hf]⟩
      · exact ⟨_, w.drew, Nat.mod_lt _ (by omega), ⟨rfl, rfl, rfl, rfl⟩, by
          simp only [choose, Sem.run, Question.forced, decide_eq_true_eq, hf, if_false, Question.cut]
          rfl⟩
    obtain ⟨j, w1, hj, hal, hrun⟩ := hch
    have hsplit : L = L.take j ++ L[j] :: L.drop (j + 1) := by rw [← List.drop_eq_getElem_cons hj, List.take_append_drop]
    have hi1 : w1.heap[i]? = some (.mapIter (some r) since seen last) := by rw [hal.1]; exact hi
    refine ⟨L.take j, L[j], L.drop (j + 1), w1, hsplit, hal, ?_⟩
    have hget : (L.toArray.map some)[j]? = some (some L[j]) := by simp [List.getElem?_eq_getElem hj]
    simp only [hrun, Sem.run_bind, Result.andThen_ok, hget, run_setIter hi1, Sem.run_pure]
theorem r_nextM {t : TypeId} {x : Operand} {i : Nat} {todo : List (Value × Value)} {cur : Option (Value × Value)} (hx : ev e x = some (.pointer (some ⟨i, 0, none⟩))) [f : FindIt i L ok r m todo cur L1] (hs : S.contains k = false) (hd : Nat.blt d X.n = true)
    [st1 : Stay A (mit ok i r m todo cur :: L1)] [st2 : ∀ (l : List (Value × Value)) (p : Value × Value), Stay A (mit ok i r m l (some p) :: L1)]
    (h0 : todo = [] → J X ((d, .tuple #[.bool false]) :: e) (mit ok i r m todo cur :: L1) (sw X.P (Holds X.Φ A) S ops R (k + 1) l))
    (h1 : ∀ l1 p l2, todo = l1 ++ p :: l2 → J X ((d, .tuple #[.bool true, p.1, p.2]) :: e) (mit ok i r m (l1 ++ l2) (some p) :: L1) (sw X.P (Holds X.Φ A) S ops R (k + 1) l)) :
    J X e L (sw X.P (Holds X.Φ A) S ops R k (⟨some d, .next x false, t, pos, af, none⟩ :: l)) :=
  r_write (α := Option (List (Value × Value) × (Value × Value) × List (Value × Value))) (q := fun o => match o with | none => todo = [] | some y => todo = y.1 ++ y.2.1 :: y.2.2)
    (V := fun o => match o with | none => .tuple #[.bool false] | some y => .tuple #[.bool true, y.2.1.1, y.2.1.2])
    (M := fun o => match o with | none => mit ok i r m todo cur :: L1 | some y => mit ok i r m (y.1 ++ y.2.2) (some y.2.1) :: L1) rfl (cls_write rfl hs rfl) (blt_some hd)
    (fun o => by cases o with | none => exact st1 | some y => exact st2 _ _)
    (fun a w mt hh => by
      have hh1 := hh.ent f.ent
      obtain ⟨es, clk, since, seen, last, hi, hbi, hbr, hh'⟩ := hh1.mit
      rcases run_nextM (P := X.P) (ty := t) hbi hbr hi.old hi.since.1 with ⟨h1, h2⟩ | ⟨l1, x, l2, w1, h1, h2, h3⟩
      · simp only [execOp, mt.ev hx, Sem.run_bind, h2, Result.andThen_ok, Sem.run_pure, upS]
        exact ⟨none, by show todo = []; rw [hi.todo, h1]; rfl, rfl, hh1⟩
      · simp only [execOp, mt.ev hx, Sem.run_bind, h3, Result.andThen_ok, Sem.run_pure, upS]
        refine ⟨some (l1.map kv, kv x, l2.map kv), by show todo = _; rw [hi.todo, h1]; simp, rfl, ?_⟩
        have hw1 : Holds X.Φ (pt i (.mapIter (some r) since seen last) :: pt r (.map es.toArray clk) :: L1) w1 := hh'.draws h2.1 h2.2.1 h2.2.2.1 h2.2.2.2
        have hbi1 : w1.heap[i]? = some (.mapIter (some r) since seen last) := by rw [h2.1]; exact hbi
        refine (hw1.upd (o' := .mapIter (some r) since (seen.push x.born) clk) (set_at hbi1) (fun c hc => set_off hc) rfl rfl rfl).ent (Ent.mit ⟨hi.of, hi.old, ?_, ?_, fun p hp => ?_⟩)
        · exact ⟨hi.since.2, hi.since.2⟩
        · rw [filter_push hi.of.borns h1]; simp
        · cases hp
          have hx : x ∈ es := (List.mem_filter.1 (show x ∈ es.filter fun e => !seen.contains e.born by rw [h1]; simp)).1
          exact ⟨x, hx, rfl, by simp, rfl⟩)
    (fun o hq => by cases o with | none => exact h0 hq | some y => exact h1 _ _ _ hq)
theorem r_entry {x : Operand} {i : Nat} {todo : List (Value × Value)} {p : Value × Value} (hx : ev e x = some (.pointer (some ⟨i, 0, none⟩))) [f : FindIt i L ok r m todo (some p) L1] (hs : S.contains k = false) (hd : Nat.blt d X.n = true) [st : Stay A L]
    (h : J X ((d, .tuple #[p.1, p.2]) :: e) L (sw X.P (Holds X.Φ A) S ops R (k + 1) l)) : J X e L (sw X.P (Holds X.Φ A) S ops R k (⟨some d, .entry x, T, pos, af, none⟩ :: l)) :=
  r_write (α := Unit) (q := fun _ => True) (V := fun _ => .tuple #[p.1, p.2]) (M := fun _ => L) rfl (cls_write rfl hs rfl) (blt_some hd) (fun _ => st)
    (fun a w mt hh => by
      obtain ⟨es, clk, since, seen, last, hi, hbi, hbr, _⟩ := (hh.ent f.ent).mit
      obtain ⟨y, hy, rfl, hb, hc⟩ := hi.cur p rfl
      subst hc
      have hf : es.toArray.find? (·.born == y.born) = some y := by rw [← Array.find?_toList]; exact find_born y es hi.of.borns hy
      have hrun : (Instr.entry (.pointer (some ⟨i, 0, none⟩))).run X.P w = .ok (.tuple #[y.key, y.val]) w := by
        simp only [Instr.entry, Sem.run_bind, run_getIter hbi, run_getMap hbr, Result.andThen_ok, hb, bne_self_eq_false, Bool.false_eq_true, if_false, hf, Sem.run_pure]
      simp only [execOp, mt.ev hx, Sem.run_bind, hrun, Result.andThen_ok, Sem.run_pure, upS]
      exact ⟨(), trivial, rfl, hh⟩) (fun _ _ => h)
/-- a map against nil. -/
theorem r_meq {t u K E : TypeId} {x y : Operand} {p : Option Nat} [tu : TUnd X.P t (.map K E)] (hx : ev e x = some (.map p)) (hy : ev e y = some (.map none)) (hd : Nat.blt d X.n = true)
    (h : J X ((d, .bool p.isNone) :: e) L (sw X.P (Holds X.Φ A) S ops R (k + 1) l)) : J X e L (sw X.P (Holds X.Φ A) S ops R k (⟨some d, .binOp .eql t x y u, T, pos, af, none⟩ :: l)) :=
  r_pure rfl (fun a mt w => by
    have h2 : (binOp .eql t (.map p) (.map none)).run X.P w = .ok (.bool p.isNone) w :=
      run_eql_by rfl (fun dd => by simp only [Op.equalIn, Sem.run_bind, tu.run, Result.andThen_ok]; cases p <;> rfl)
    simp only [execOp, mt.ev hx, mt.ev hy, Sem.run_bind, show eqGuard .eql t x y (.map p) (.map none) = pure () from rfl, Sem.run_pure, h2, Result.andThen_ok]) hd h
end
end Go.Proofs.YtcnpkmdooekmgaaGreatDoor.Sl
namespace Go.Proofs.YtcnpkmdooekmgaaGreatDoor.Sl
open Go.RowKit (Below)
theorem madeCells_one (z : Value) (n : Nat) : madeCells #[z] n = (List.replicate n z).toArray := by
  apply Array.ext'
  apply List.ext_getElem?
  intro j
  by_cases h : j < n
  · simp [madeCells, h, Nat.mod_one]
  · simp [madeCells, h]
/-- what 'build' fills in, on lists. -/
def fillL (pl : List (Nat × Nat)) : List Value → List (Nat × Value) → Option (List Value)
  | cs, [] => some cs
  | cs, (i, v) :: rest => match pl[i]? with
    | none => none
    | some (off, size) => if v.cells.size ≠ size || off + v.cells.size > cs.length then none else fillL pl (cs.take off ++ v.cells.toList ++ cs.drop (off + v.cells.size)) rest
theorem foldl_set : ∀ (vs : List Value) (off j : Nat) (cs : Array Value) (pre mid post : List Value), cs.toList = pre ++ mid ++ post → pre.length = off + j → mid.length = vs.length →
    (vs.zipIdx j).foldl (fun cs p => cs.setIfInBounds (off + p.2) p.1) cs = (pre ++ vs ++ post).toArray
  | [], off, j, cs, pre, mid, post, h, _, h2 => by
    have : mid = [] := List.eq_nil_of_length_eq_zero h2
    subst this
    simp only [List.zipIdx_nil, List.foldl_nil]
    rw [← h]
  | v :: vs, off, j, cs, pre, mid, post, h, h1, h2 => by
    obtain ⟨m, mid', rfl⟩ : ∃ m mid', mid = m :: mid' := by
      cases mid with
      | nil => simp at h2
      | cons m mid' => exact ⟨m, mid', rfl⟩
    simp only [List.zipIdx_cons, List.foldl_cons]
    rw [foldl_set vs off (j + 1) _ (pre ++ [v]) mid' post ?_ (by simp; omega) (by simpa using h2)]
    · simp
    · rw [Array.toList_setIfInBounds, h, ← h1]
      simp
theorem fill_list (pl : List (Nat × Nat)) : ∀ (parts : List (Nat × Value)) (zs cs : List Value), fillL pl zs parts = some cs → Instr.fill (pl.toArray[·]?) zs.toArray parts = some cs.toArray
  | [], zs, cs, h => by simp only [fillL, Option.some.injEq] at h; subst h; rfl
  | (i, v) :: rest, zs, cs, h => by
    simp only [fillL] at h
    simp only [Instr.fill, List.getElem?_toArray]
    cases hp : pl[i]? with
    | none => rw [hp] at h; cases h
    | some p =>
      obtain ⟨off, size⟩ := p
      rw [hp] at h
      dsimp only at h ⊢
      split at h
      · cases h
      · rename_i hc
        have hc' : ¬ (v.cells.size ≠ size || off + v.cells.size > zs.toArray.size) = true := by simpa using hc
        rw [if_neg hc']
        have hb : off + v.cells.size ≤ zs.length := by simp at hc; omega
        have e1 : v.cells.zipIdx.foldl (fun cs (c, j) => cs.setIfInBounds (off + j) c) zs.toArray = (zs.take off ++ v.cells.toList ++ zs.drop (off + v.cells.size)).toArray := by
          have := foldl_set v.cells.toList off 0 zs.toArray (zs.take off) ((zs.drop off).take v.cells.size) (zs.drop (off + v.cells.size)) (by rw [List.append_assoc, ← List.drop_drop, List.take_append_drop, List.take_append_drop]) (by simp; omega) (by simp; omega)
          rw [← this, ← Array.foldl_toList, Array.toList_zipIdx]
        rw [e1]
        have := fill_list pl rest _ _ h
        simpa only [List.getElem?_toArray] using this
/-- a struct's type: its fields' places, and its zero. -/
class TBuild (P : Program) (t : TypeId) (pl : outParam (List (Nat × Nat))) (zs : outParam (List Value)) : Prop where
  built : ∀ parts, P.built t parts = Instr.fill (pl.toArray[·]?) zs.toArray parts
def evP (e : Env) : List (Nat × Operand) → Option (List (Nat × Value))
  | [] => some []
  | (i, x) :: l => match ev e x, evP e l with
    | some v, some vs => some ((i, v) :: vs)
    | _, _ => none
theorem Mt.evP {ds : List Deferred} {n : Nat} {e : Env} {a : Act} (m : Mt ds n e a) : ∀ {l : List (Nat × Operand)} {vs : List (Nat × Value)}, Sl.evP e l = some vs → l.map (fun (i, x) => (i, a.eval x)) = vs
  | [], vs, h => by simpa [Sl.evP] using h
  | (i, x) :: l, vs, h => by
    simp only [Sl.evP] at h
    split at h
    · rename_i v vs' h1 h2
      cases h
      simp only [List.map_cons, m.ev h1, m.evP h2]
    · cases h
/-- a byte, a whole number, as a value. -/
abbrev u8 (n : Nat) : Value := .int .u8 (n : Int)
abbrev i64 (n : Nat) : Value := .int .i64 (n : Int)
/-- a string of bytes. -/
def bstr (xs : List Nat) : ByteArray := strOfNums (xs.map fun n : Nat => (n : Int))
theorem run_toStr {P : Program} {w : World} {src el dst : TypeId} [ts : TUnd P src (.slice el)] [te : TUnd P el (.int .u8)] [td : TUnd P dst .string] {a : Option Addr} {n cap : Nat} {xs : List Nat} (h : Reads w a n 1 (xs.map u8)) :
    (convert src dst (.slice a n cap)).run P w = .ok (.string (bstr xs)) w := by
  rw [run_convert_bytes_string w src dst el a n cap ts.eq te.eq td.eq]
  have hl : xs.length = n := by have := h.1; simpa using this
  have key : ∀ ad : Addr, (loadCells ad n).run P w = .ok ((xs.map fun n : Nat => (n : Int)).map (Value.int .u8)).toArray w → (Conv.bytesToString (.slice (some ad) n cap)).run P w = .ok (.string (bstr xs)) w := fun ad hr => by
    rw [run_bytesToString w ad n cap _ hr, foldl_push_bytes]
    simp [bstr, strOfNums, ByteArray.empty, ByteArray.emptyWithCapacity]
    rfl
  cases a with
  | none =>
    have : xs = [] := by
      rcases h.2 with h2 | ⟨ad, e, _⟩
      · simpa using h2
      · cases e
    subst this
    have e : bstr [] = ByteArray.empty := by
      simp [bstr, strOfNums, ByteArray.empty, ByteArray.emptyWithCapacity]
      rfl
    rw [e]
    simp [Conv.bytesToString]
  | some ad =>
    refine key ad ?_
    have hc : ∀ j v, (xs.map u8)[j]? = some v → w.cell? (ad.add j) = some v := by
      rcases h.2 with h2 | ⟨ad', e, h3⟩
      · intro j v hj; rw [h2] at hj; cases hj
      · cases e; exact h3
    have := run_loadCells_list (P := P) w ad (xs.map u8) hc
    simpa [hl, Function.comp_def] using this
theorem bstr_inj {xs ys : List Nat} (hx : ∀ x ∈ xs, x < 256) (hy : ∀ y ∈ ys, y < 256) (h : (bstr xs).data.toList = (bstr ys).data.toList) : xs = ys := by
  have h1 : ∀ l : List Nat, (∀ x ∈ l, x < 256) → ((bstr l).data.toList).map UInt8.toNat = l := fun l hl => by
    rw [bstr, strOfNums_data, List.map_map, List.map_map]
    have : l.map (UInt8.toNat ∘ (fun n : Int => UInt8.ofNat n.toNat) ∘ fun n : Nat => (n : Int)) = l.map id := List.map_congr_left (fun x hx => by
      have := hl x hx
      simp; omega)
    exact this.trans (List.map_id l)
  rw [← h1 xs hx, ← h1 ys hy, h]
theorem bstr_beq {xs ys : List Nat} (hx : ∀ x ∈ xs, x < 256) (hy : ∀ y ∈ ys, y < 256) : ((bstr xs).toList == (bstr ys).toList) = decide (xs = ys) := by
  rw [ByteArray.toList_eq, ByteArray.toList_eq]
  by_cases h : xs = ys
  · subst h; simp
  · have : ¬ (bstr xs).data.toList = (bstr ys).data.toList := fun e => h (bstr_inj hx hy e)
    have h2 : ((bstr xs).data.toList == (bstr ys).data.toList) = false := by rw [beq_eq_false_iff_ne]; exact this
    rw [h2]; simp [h]
section
variable {X : Cx} {e : Env} {L L1 F : List Assn} {A : List Assn} {S : List Nat} {ops : Array Oper} {k : Nat} {l : List Oper} {R : Act → World → Prop} {G : Act → World → Prop}
variable {d : Nat} {T : TypeId} {pos : String} {af : Array Edge}
/-- a new row of elements of one cell. -/
theorem r_makeSlice {t E : TypeId} {x y : Operand} {by_ n c : Nat} {z : Value} [tu : TUnd X.P t (.slice E)] [te : TElem X.P E 1 by_ z] (hx : ev e x = some (.int .i64 (n : Int))) (hy : ev e y = some (.int .i64 (c : Int))) (hnc : n ≤ c) (hc : c ≤ 16777216) (hb : by_ * c ≤ 281474976710656) (hz : z.cells = #[z]) (hs : S.contains k = false) (hd : Nat.blt d X.n = true)
    [st : ∀ b, Stay A (pt b (.cells (List.replicate c z).toArray E (0, 0)) :: L)]
    (h : ∀ b, J X ((d, .slice (some ⟨b, 0, none⟩) n c) :: e) (vec (some ⟨b, 0, none⟩) n c E 1 (List.replicate n z) :: L) (sw X.P (Holds X.Φ A) S ops R (k + 1) l)) :
    J X e L (sw X.P (Holds X.Φ A) S ops R k (⟨some d, .makeSlice t x y, T, pos, af, none⟩ :: l)) := by
  obtain ⟨i, hi, h1, h2, h3⟩ := te.ex
  refine r_new (V := fun b => .slice (some ⟨b, 0, none⟩) n c) (o := .cells (List.replicate c z).toArray E (0, 0)) hs rfl hd (fun a w m => ?_) (fun b => ?_)
  · have hb' : (i.bytes : Int) * (c : Int) ≤ 281474976710656 := by
      rw [h2]
      have : ((by_ * c : Nat) : Int) ≤ 281474976710656 := by omega
      rwa [Int.natCast_mul] at this
    have hr := run_makeSlice (P := X.P) (w := w) t E i z tu.eq hi h3 .i64 .i64 (n : Int) (c : Int) (by omega) (by omega) (by rw [h1]; simpa using hc) hb' (by omega)
    rw [h1, hz] at hr
    simp only [Int.toNat_natCast, Nat.mul_one, madeCells_one] at hr
    simp only [execOp, m.ev hx, m.ev hy, Sem.run_bind, hr, Result.andThen_ok, Sem.run_pure]
    rfl
  · refine j_ent ?_ (h b)
    have hrep : List.replicate c z = [] ++ List.replicate n z ++ List.replicate (c - n) z := by
      rw [List.nil_append, List.replicate_append_replicate]; congr 1; omega
    rw [hrep]
    exact Ent.vec (by simp) hnc rfl (by simp) L
/-- a value with parts. -/
theorem r_build {t : TypeId} {parts : Array (Nat × Operand)} {pl : List (Nat × Nat)} {zs cells : List Value} {vs : List (Nat × Value)} [tb : TBuild X.P t pl zs] (hp : evP e parts.toList = some vs) (hc : fillL pl zs vs = some cells) (hd : Nat.blt d X.n = true)
    (h : J X ((d, .agg cells.toArray) :: e) L (sw X.P (Holds X.Φ A) S ops R (k + 1) l)) : J X e L (sw X.P (Holds X.Φ A) S ops R k (⟨some d, .build t parts, T, pos, af, none⟩ :: l)) :=
  r_pure rfl (fun a m w => by
    have e1 : (parts.map fun (i, x) => (i, a.eval x)).toList = vs := by rw [← m.evP hp, Array.toList_map]
    have h1 : (Instr.build t (parts.map fun (i, x) => (i, a.eval x))).run X.P w = .ok (.agg cells.toArray) w := run_build w t _ _ (by rw [e1, tb.built, fill_list pl vs zs cells hc])
    simp only [execOp, Sem.run_bind, h1, Result.andThen_ok, Sem.run_pure]) hd h
/-- a row of bytes becomes a string. -/
theorem r_toStr {t u el : TypeId} {x : Operand} {a : Option Addr} {n cap : Nat} (xs : List Nat) [ts : TUnd X.P t (.slice el)] [te : TUnd X.P el (.int .u8)] [td : TUnd X.P u .string] (hx : ev e x = some (.slice a n cap)) {vs : List Value} [g : RdS a n 1 vs L] (hv : vs = xs.map u8) (hd : Nat.blt d X.n = true) (hs : S.contains k = false) [st : Stay A L]
    (h : J X ((d, .string (bstr xs)) :: e) L (sw X.P (Holds X.Φ A) S ops R (k + 1) l)) : J X e L (sw X.P (Holds X.Φ A) S ops R k (⟨some d, .convert t u x, T, pos, af, none⟩ :: l)) :=
  r_write (α := Unit) (q := fun _ => True) (V := fun _ => .string (bstr xs)) (M := fun _ => L) rfl (cls_write rfl hs rfl) (blt_some hd) (fun _ => st)
    (fun act w m hh => by
      have hr : Reads w a n 1 (xs.map u8) := by rw [← hv]; exact hh.rds
      have h1 := run_toStr (P := X.P) (src := t) (dst := u) (cap := cap) hr
      have h2 : (execOp act.eval (⟨some d, .convert t u x, T, pos, af, none⟩ : Oper)).run X.P w = .ok (.value (.string (bstr xs))) w := by
        simp only [execOp, m.ev hx, Sem.run_bind, h1, Result.andThen_ok, Sem.run_pure]
      rw [h2]
      exact ⟨(), trivial, rfl, hh⟩) (fun _ _ => h)
theorem r_streq {t u : TypeId} {x y : Operand} {p q : ByteArray} [_tu : TUnd X.P t .string] (hx : ev e x = some (.string p)) (hy : ev e y = some (.string q)) (hd : Nat.blt d X.n = true)
    (h : J X ((d, .bool (p.toList == q.toList)) :: e) L (sw X.P (Holds X.Φ A) S ops R (k + 1) l)) : J X e L (sw X.P (Holds X.Φ A) S ops R k (⟨some d, .binOp .eql t x y u, T, pos, af, none⟩ :: l)) :=
  r_pure rfl (fun a m w => by
    have h2 : (binOp .eql t (.string p) (.string q)).run X.P w = .ok (.bool (p.toList == q.toList)) w := by simp [binOp, Op.stringOp, go_sem]
    have h3 : eqGuard .eql t x y (.string p) (.string q) = pure () := rfl
    simp only [execOp, m.ev hx, m.ev hy, Sem.run_bind, h3, Sem.run_pure, h2, Result.andThen_ok]) hd h
theorem r_seq {t u E : TypeId} {x y : Operand} {p : Option Addr} {n c n' c' : Nat} [tu : TUnd X.P t (.slice E)] (hx : ev e x = some (.slice p n c)) (hy : ev e y = some (.slice none n' c')) (hd : Nat.blt d X.n = true)
    (h : J X ((d, .bool p.isNone) :: e) L (sw X.P (Holds X.Φ A) S ops R (k + 1) l)) : J X e L (sw X.P (Holds X.Φ A) S ops R k (⟨some d, .binOp .eql t x y u, T, pos, af, none⟩ :: l)) :=
  r_pure rfl (fun a mt w => by
    have h2 : (binOp .eql t (.slice p n c) (.slice none n' c')).run X.P w = .ok (.bool p.isNone) w := by
      refine run_eql_by rfl (fun d => ?_)
      simp only [Op.equalIn, Sem.run_bind, tu.run, Result.andThen_ok]
      cases p <;> rfl
    have h3 : eqGuard .eql t x y (.slice p n c) (.slice none n' c') = pure () := rfl
    simp only [execOp, mt.ev hx, mt.ev hy, Sem.run_bind, h3, Sem.run_pure, h2, Result.andThen_ok]) hd h
theorem r_peqS {t u E : TypeId} {x y : Operand} {p : Addr} [tu : TUnd X.P t (.pointer E)] (hx : ev e x = some (.pointer (some p))) (hy : ev e y = some (.pointer none)) (hd : Nat.blt d X.n = true)
    (h : J X ((d, .bool false) :: e) L (sw X.P (Holds X.Φ A) S ops R (k + 1) l)) : J X e L (sw X.P (Holds X.Φ A) S ops R k (⟨some d, .binOp .eql t x y u, T, pos, af, none⟩ :: l)) :=
  r_peq hx hy hd h
theorem r_pneS {t u E : TypeId} {x y : Operand} {p : Addr} [tu : TUnd X.P t (.pointer E)] (hx : ev e x = some (.pointer (some p))) (hy : ev e y = some (.pointer none)) (hd : Nat.blt d X.n = true)
    (h : J X ((d, .bool true) :: e) L (sw X.P (Holds X.Φ A) S ops R (k + 1) l)) : J X e L (sw X.P (Holds X.Φ A) S ops R k (⟨some d, .binOp .neq t x y u, T, pos, af, none⟩ :: l)) :=
  r_pne hx hy hd h
theorem r_meqS {t u E K : TypeId} {x y : Operand} {p : Nat} [tu : TUnd X.P t (.map K E)] (hx : ev e x = some (.map (some p))) (hy : ev e y = some (.map none)) (hd : Nat.blt d X.n = true)
    (h : J X ((d, .bool false) :: e) L (sw X.P (Holds X.Φ A) S ops R (k + 1) l)) : J X e L (sw X.P (Holds X.Φ A) S ops R k (⟨some d, .binOp .eql t x y u, T, pos, af, none⟩ :: l)) :=
  r_meq hx hy hd h
theorem r_mneS {t u E K : TypeId} {x y : Operand} {p : Nat} [tu : TUnd X.P t (.map K E)] (hx : ev e x = some (.map (some p))) (hy : ev e y = some (.map none)) (hd : Nat.blt d X.n = true)
    (h : J X ((d, .bool true) :: e) L (sw X.P (Holds X.Φ A) S ops R (k + 1) l)) : J X e L (sw X.P (Holds X.Φ A) S ops R k (⟨some d, .binOp .neq t x y u, T, pos, af, none⟩ :: l)) :=
  r_mne hx hy hd h
/-- the element at a place of a list that is written out. -/
class LGet (l : List Value) (i : Nat) (v : outParam Value) : Prop where
  eq : l[i]? = some v
instance (priority := 1100) LGet.z (a : Value) (l : List Value) : LGet (a :: l) 0 a := ⟨rfl⟩
instance (priority := 1100) LGet.s (a : Value) (l : List Value) (i : Nat) (v : Value) [h : LGet l i v] : LGet (a :: l) (i + 1) v := ⟨by rw [List.getElem?_cons_succ, h.eq]⟩
theorem r_load1L {t : TypeId} {x : Operand} {b off : Nat} {cs : List Value} {U : TypeId} {fr : Nat × Nat} {v : Value} [ta : TAgg X.P t false] (hx : ev e x = some (.pointer (some ⟨b, off, none⟩)))
    [g : Rd b L (.cells cs.toArray U fr)] [lg : LGet cs off v] (hd : Nat.blt d X.n = true) (hs : S.contains k = false) (h : J X ((d, v) :: e) L (sw X.P (Holds X.Φ A) S ops R (k + 1) l)) :
    J X e L (sw X.P (Holds X.Φ A) S ops R k (⟨some d, .load t x, T, pos, af, none⟩ :: l)) :=
  r_load1 hx (g := g) (by rw [List.getElem?_toArray]; exact lg.eq) hd hs h
end
end Go.Proofs.YtcnpkmdooekmgaaGreatDoor.Sl
namespace Go.Proofs.YtcnpkmdooekmgaaGreatDoor.Sl
open Go.RowKit (Below)
theorem Reads.take {w : World} {a : Option Addr} {m k : Nat} {ys : List Value} (h : Reads w a m 1 ys) (hk : k ≤ m) : Reads w a k 1 (ys.take k) := by
  obtain ⟨hl, hx⟩ := h
  refine ⟨by simp [hl]; omega, ?_⟩
  rcases hx with rfl | ⟨ad, e, hc⟩
  · left; simp
  · right
    refine ⟨ad, e, fun j v hj => hc j v ?_⟩
    rw [List.getElem?_take] at hj
    split at hj
    · exact hj
    · cases hj
theorem run_copyP {P : Program} {w : World} {dT sT ty elem : TypeId} [tu : TUnd P dT (.slice elem)] [ts : TSize P elem 1] {g o dl dc m cap2 : Nat} {a2 : Option Addr} {cur ys : List Value} {U : TypeId}
    (hg : w.heap[g]? = some (.cells cur.toArray U (0, 0))) (hy : Reads w a2 m 1 ys) (hfit : o + min m dl ≤ cur.length) (h1 : ∀ v ∈ ys, v.oneCell' = true) :
    (Builtin.copy_ #[dT, sT] ty #[.slice (some ⟨g, o, none⟩) dl dc, .slice a2 m cap2]).run P w = .ok (goInt ((min m dl : Nat) : Int)) (w.setRow g (cur.take o ++ ys.take (min m dl) ++ cur.drop (o + min m dl)).toArray) := by
  have hf := run_first (P := P) (len := m) (cap := cap2) (hy.take (Nat.min_le_left m dl))
  have hlen : (ys.take (min m dl)).length = min m dl := by have := hy.1; simp at this ⊢; omega
  have hst := run_storeCells_at P g o U (ys.take (min m dl)) 0 cur.toArray w hg (by simp only [List.size_toArray, hlen]; omega) (fun v hv => h1 v (List.mem_of_mem_take hv))
  simp only [Nat.add_zero, hlen] at hst
  simp only [Builtin.copy_, List.getElem?_toArray, List.getElem?_cons_zero, List.getElem?_cons_succ, Sem.run_bind, tu.run, Result.andThen_ok, Builtin.lenOf, Sem.run_pure, ts.run, Nat.min_def] at hf hst ⊢
  simp only [hf, Result.andThen_ok, hst]
section
variable {X : Cx} {e : Env} {L L1 F : List Assn} {A : List Assn} {S : List Nat} {ops : Array Oper} {k : Nat} {l : List Oper} {R : Act → World → Prop} {G : Act → World → Prop}
variable {d : Nat} {T : TypeId} {pos : String} {af : Array Edge}
/-- COPY into a piece of a block of one's own. -/
theorem r_copyP {dT sT elem : TypeId} {x y : Operand} {dst : Option Nat} {b o dl dc m cap2 : Nat} {a2 : Option Addr} {cur cur' ys : List Value} {U : TypeId} {f : Obj → List Assn} [tu : TUnd X.P dT (.slice elem)] [ts : TSize X.P elem 1]
    (hx : ev e x = some (.slice (some ⟨b, o, none⟩) dl dc)) (hy : ev e y = some (.slice a2 m cap2)) [g : Own b L (.cells cur.toArray U (0, 0)) f] [rd : RdS a2 m 1 ys L] (hfit : o + min m dl ≤ cur.length) (h1 : ∀ v ∈ ys, v.oneCell' = true)
    (hc : cur.take o ++ ys.take (min m dl) ++ cur.drop (o + min m dl) = cur') (hs : S.contains k = false) (hd : ∀ j, dst = some j → Nat.blt j X.n = true) [st : Stay A (f (.cells cur'.toArray U (0, 0)))]
    (h : J X (bnd dst (.int .i64 ((min m dl : Nat) : Int)) e) (f (.cells cur'.toArray U (0, 0))) (sw X.P (Holds X.Φ A) S ops R (k + 1) l)) :
    J X e L (sw X.P (Holds X.Φ A) S ops R k (⟨dst, .call { callee := .builtin .copy, args := #[x, y], argTypes := #[dT, sT] }, T, pos, af, none⟩ :: l)) :=
  r_write (α := Unit) (q := fun _ => True) (V := fun _ => .int .i64 ((min m dl : Nat) : Int)) (M := fun _ => f (.cells cur'.toArray U (0, 0))) rfl (cls_write rfl hs rfl) hd (fun _ => st)
    (fun a w mt hh => by
      have hb : w.heap[b]? = some (.cells cur.toArray U (0, 0)) := by obtain ⟨im, hp, r, s⟩ := hh; exact r.hw _ _ (g.get _ _ s)
      have hrun := run_copyP (P := X.P) (dT := dT) (sT := sT) (ty := T) (dc := dc) (cap2 := cap2) hb (hh.rds : Reads w a2 m 1 ys) hfit h1
      rw [hc] at hrun
      have h2 : (execOp a.eval (⟨dst, .call { callee := .builtin .copy, args := #[x, y], argTypes := #[dT, sT] }, T, pos, af, none⟩ : Oper)).run X.P w = .ok (.value (.int .i64 ((min m dl : Nat) : Int))) (w.setRow b cur'.toArray) := by
        simp only [execOp, resolve, invoke, builtin, Sem.run_bind, Sem.run_pure, Result.andThen_ok, List.map_toArray, List.map_cons, List.map_nil, mt.ev hx, mt.ev hy, pure_bind, hrun, goInt]
      rw [h2]
      refine ⟨(), trivial, rfl, hh.upd (b := b) (g := g) (o' := .cells cur'.toArray U (0, 0)) ?_ (fun c hc => ?_) rfl rfl rfl⟩
      · simp [World.setRow, Array.getElem?_modify, hb]
      · simp [World.setRow, Array.getElem?_modify, Ne.symm hc]) (fun _ _ => h)
theorem r_max {x y : Operand} {ts : Array TypeId} {ki kj : IntKind} {m n : Int} (hx : ev e x = some (.int ki m)) (hy : ev e y = some (.int kj n)) (hd : Nat.blt d X.n = true) [st : Stay A L]
    (h : J X ((d, .int ki (max m n)) :: e) L (sw X.P (Holds X.Φ A) S ops R (k + 1) l)) :
    J X e L (sw X.P (Holds X.Φ A) S ops R k (⟨some d, .call { callee := .builtin .max, args := #[x, y], argTypes := ts }, T, pos, af, none⟩ :: l)) :=
  r_pureW rfl (fun a mt w => by
    have h1 : (if n > m then n else m) = max m n := by omega
    simp only [execOp, resolve, invoke, builtin, Sem.run_bind, Sem.run_pure, Result.andThen_ok, List.map_toArray, List.map_cons, List.map_nil, mt.ev hx, mt.ev hy, pure_bind, run_max_int2, h1]) hd h
theorem r_min {x y : Operand} {ts : Array TypeId} {ki kj : IntKind} {m n : Int} (hx : ev e x = some (.int ki m)) (hy : ev e y = some (.int kj n)) (hd : Nat.blt d X.n = true) [st : Stay A L]
    (h : J X ((d, .int ki (min m n)) :: e) L (sw X.P (Holds X.Φ A) S ops R (k + 1) l)) :
    J X e L (sw X.P (Holds X.Φ A) S ops R k (⟨some d, .call { callee := .builtin .min, args := #[x, y], argTypes := ts }, T, pos, af, none⟩ :: l)) :=
  r_pureW rfl (fun a mt w => by
    have h1 : (if n < m then n else m) = min m n := by omega
    simp only [execOp, resolve, invoke, builtin, Sem.run_bind, Sem.run_pure, Result.andThen_ok, List.map_toArray, List.map_cons, List.map_nil, mt.ev hx, mt.ev hy, pure_bind, run_min_int2, h1]) hd h
end
theorem int_inj (ki : IntKind) : ∀ (as bs : List Int), as.map (Value.int ki) = bs.map (Value.int ki) → as = bs
  | [], [], _ => rfl
  | [], _ :: _, h => by simp at h
  | _ :: _, [], h => by simp at h
  | a :: as, b :: bs, h => by
    simp only [List.map_cons, List.cons.injEq, Value.int.injEq, true_and] at h
    rw [h.1, int_inj ki as bs h.2]
theorem u8_inj : ∀ (as bs : List Nat), as.map u8 = bs.map u8 → as = bs
  | [], [], _ => rfl
  | [], _ :: _, h => by simp at h
  | _ :: _, [], h => by simp at h
  | a :: as, b :: bs, h => by
    simp only [List.map_cons, List.cons.injEq, Value.int.injEq, true_and] at h
    rw [Int.ofNat_inj.1 h.1, u8_inj as bs h.2]
/-- values of a type that are compared by their parts: whole numbers. -/
class TEq (P : Program) (t : TypeId) (ok : outParam (Value → Prop)) : Prop where
  eq : ∀ (d : Nat) (x y : Value) (w : World), ok x → ok y → ∃ b : Bool, (Op.equalIn (d + 4) t x y).run P w = .ok b w ∧ (b = true ↔ x = y)
/-- of so many numbers. -/
abbrev isInts (ki : IntKind) (n : Nat) (v : Value) : Prop := ∃ ns : List Int, ns.length = n ∧ v = .agg (ns.map (Value.int ki)).toArray
theorem run_eqItems_int {P : Program} {E : TypeId} {ki : IntKind} [tu : TUnd P E (.int ki)] [ta : TAgg P E false] (d : Nat) (w : World) (xs ys : List Int) (hl : xs.length = ys.length) : ∀ (n k : Nat), k + n = xs.length →
    (Op.eqItems (d + 1) E 1 (xs.map (Value.int ki)).toArray (ys.map (Value.int ki)).toArray (List.range' k n)).run P w = .ok (decide (xs.drop k = ys.drop k)) w
  | 0, k, h => by
    have h1 : xs.drop k = [] := List.drop_eq_nil_of_le (by omega)
    have h2 : ys.drop k = [] := List.drop_eq_nil_of_le (by omega)
    simp [Op.eqItems, h1, h2, List.range'_zero]
  | n + 1, k, h => by
    have hx : k < xs.length := by omega
    have hy : k < ys.length := by omega
    have e1 : xs.drop k = xs[k] :: xs.drop (k + 1) := List.drop_eq_getElem_cons hx
    have e2 : ys.drop k = ys[k] :: ys.drop (k + 1) := List.drop_eq_getElem_cons hy
    have ih := run_eqItems_int (P := P) (E := E) (ki := ki) d w xs ys hl n (k + 1) (by omega)
    have p1 : (part E (xs.map (Value.int ki)).toArray (k * 1)).run P w = .ok (.int ki xs[k]) w := by
      simp [part, ta.run, Sem.run_bind, hx, go_sem]
    have p2 : (part E (ys.map (Value.int ki)).toArray (k * 1)).run P w = .ok (.int ki ys[k]) w := by
      simp [part, ta.run, Sem.run_bind, hy, go_sem]
    have p3 : (Op.equalIn (d + 1) E (.int ki xs[k]) (.int ki ys[k])).run P w = .ok (xs[k] == ys[k]) w := by
      simp [Op.equalIn, Sem.run_bind, tu.run, go_sem]
    rw [List.range'_succ]
    simp only [Op.eqItems, Sem.run_bind, p1, p2, p3, Result.andThen_ok]
    by_cases hq : xs[k] = ys[k]
    · rw [show (xs[k] == ys[k]) = true from by simpa using hq]
      simp only [Bool.not_true, Bool.false_eq_true, if_false, ih]
      rw [e1, e2, hq]
      congr 1
      rw [decide_eq_decide]
      exact ⟨fun h => by rw [h], fun h => (List.cons.inj h).2⟩
    · rw [show (xs[k] == ys[k]) = false from by simpa using hq]
      simp only [Bool.not_false, if_true, Sem.run_pure]
      rw [e1, e2, decide_eq_false (fun h => hq (List.cons.inj h).1)]
instance (priority := 900) TEq.ints (P : Program) (t E : TypeId) (n : Nat) (ki : IntKind) (by_ : Nat) (z : Value) [tt : TUnd P t (.array n E)] [tu : TUnd P E (.int ki)] [ta : TAgg P E false] [te : TElem P E 1 by_ z] : TEq P t (isInts ki n) where
  eq := fun d x y w ⟨xs, h1, hx⟩ ⟨ys, h2, hy⟩ => by
    subst hx hy
    obtain ⟨i, hi, hs, _⟩ := te.ex
    have hc : P.cellsOf E = 1 := by simp [Program.cellsOf, hi, hs]
    have h3 := run_equalIn_array (P := P) w (d + 3) (xs.map (Value.int ki)).toArray (ys.map (Value.int ki)).toArray tt.eq hi
    have h4 := run_eqItems_int (P := P) (E := E) (ki := ki) (d + 2) w xs ys (by omega) n 0 (by omega)
    rw [hc, List.range_eq_range', h4] at h3
    refine ⟨_, h3, ?_⟩
    simp only [List.drop_zero, decide_eq_true_eq]
    constructor
    · rintro rfl; rfl
    · intro h
      have h5 : xs.map (Value.int ki) = ys.map (Value.int ki) := by simpa using h
      exact int_inj ki xs ys h5
section
variable {X : Cx} {e : Env} {L L1 F : List Assn} {A : List Assn} {S : List Nat} {ops : Array Oper} {k : Nat} {l : List Oper} {R : Act → World → Prop} {G : Act → World → Prop}
variable {d : Nat} {T : TypeId} {pos : String} {af : Array Edge} {ok : Value → Prop}
theorem r_ane {t u : TypeId} {x y : Operand} {xs ys : Array Value} {b : Bool} [te : TEq X.P t ok] (hg : X.P.eqGuardType X.P.depth t = false) (hx : ev e x = some (.agg xs)) (hy : ev e y = some (.agg ys)) (h1 : ok (.agg xs)) (h2 : ok (.agg ys)) (hb : b = true ↔ xs ≠ ys) (hd : Nat.blt d X.n = true)
    (h : J X ((d, .bool b) :: e) L (sw X.P (Holds X.Φ A) S ops R (k + 1) l)) : J X e L (sw X.P (Holds X.Φ A) S ops R k (⟨some d, .binOp .neq t x y u, T, pos, af, none⟩ :: l)) :=
  r_pure rfl (fun a m w => by
    obtain ⟨c, hc, hi⟩ := te.eq 9996 (.agg xs) (.agg ys) w h1 h2
    have hcb : (!c) = b := by
      have : c = true ↔ ¬ b = true := by rw [hi, hb]; simp
      cases c <;> cases b <;> simp_all
    have h3 : (binOp .neq t (.agg xs) (.agg ys)).run X.P w = .ok (.bool b) w := by rw [run_neq_struct, hc, ← hcb]; rfl
    simp only [execOp, m.ev hx, m.ev hy, Sem.run_bind, run_eqGuard_agg w .neq t x y xs ys hg, h3, Result.andThen_ok, Sem.run_pure]) hd h
def bltO (d : Option Nat) (n : Nat) : Bool := match d with
  | none => true
  | some d => Nat.blt d n
theorem blt_any {d : Option Nat} {n : Nat} (h : bltO d n = true) : ∀ j, d = some j → Nat.blt j n = true := fun j e => by subst e; exact h
/-- an operation behind a guard, marked as such. -/
def swG (P : Program) (C : World → Prop) (S : List Nat) (ops : Array Oper) (R : Act → World → Prop) (k : Nat) (dst : Option Nat) (op : Op) (T : TypeId) (pos : String) (af : Array Edge) (j : Nat) (b : Bool) (l : List Oper) : Act → World → Prop :=
  sw P C S ops R k (⟨dst, op, T, pos, af, some (j, b)⟩ :: l)
variable {dst : Option Nat} {op : Op} {j t : Nat} {b c : Bool} {v : Value}
theorem g_mark (h : J X e L (swG X.P (Holds X.Φ A) S ops R k dst op T pos af j b l)) : J X e L (sw X.P (Holds X.Φ A) S ops R k (⟨dst, op, T, pos, af, some (j, b)⟩ :: l)) := h
theorem gg_pass (hs : gslot ops j = some t) (hv : lk t e = some v) (hb : v = .bool b) (h : J X e L (sw X.P (Holds X.Φ A) S ops R k (⟨dst, op, T, pos, af, none⟩ :: l))) : J X e L (swG X.P (Holds X.Φ A) S ops R k dst op T pos af j b l) := g_pass hs hv hb h
theorem gg_skipT (hs : gslot ops j = some t) (hv : lk t e = some v) (hb : v = .bool true) (hdn : ∀ j, dst = some j → Nat.blt j X.n = true)
    (h : J X (bnd dst undef e) L (sw X.P (Holds X.Φ A) S ops R (k + 1) l)) : J X e L (swG X.P (Holds X.Φ A) S ops R k dst op T pos af j false l) := g_skipB hs hv hb rfl hdn h
theorem gg_skipF (hs : gslot ops j = some t) (hv : lk t e = some v) (hb : v = .bool false) (hdn : ∀ j, dst = some j → Nat.blt j X.n = true)
    (h : J X (bnd dst undef e) L (sw X.P (Holds X.Φ A) S ops R (k + 1) l)) : J X e L (swG X.P (Holds X.Φ A) S ops R k dst op T pos af j true l) := g_skipB hs hv hb rfl hdn h
theorem gg_skipU (hs : gslot ops j = some t) (hv : lk t e = some v) (hb : v = undef) (hdn : ∀ j, dst = some j → Nat.blt j X.n = true)
    (h : J X (bnd dst undef e) L (sw X.P (Holds X.Φ A) S ops R (k + 1) l)) : J X e L (swG X.P (Holds X.Φ A) S ops R k dst op T pos af j b l) := g_skip hs hv (.inr hb) hdn h
theorem gg_split (hs : gslot ops j = some t) (hv : lk t e = some (.bool c)) (ht : c = true → J X ((t, .bool true) :: e) L (sw X.P (Holds X.Φ A) S ops R k (⟨dst, op, T, pos, af, some (j, b)⟩ :: l)))
    (hf : c = false → J X ((t, .bool false) :: e) L (sw X.P (Holds X.Φ A) S ops R k (⟨dst, op, T, pos, af, some (j, b)⟩ :: l))) : J X e L (swG X.P (Holds X.Φ A) S ops R k dst op T pos af j b l) := g_split rfl hs hv ht hf
theorem gg_splitD {p : Prop} [Decidable p] (hs : gslot ops j = some t) (hv : lk t e = some (.bool (decide p))) (ht : p → J X ((t, .bool true) :: e) L (sw X.P (Holds X.Φ A) S ops R k (⟨dst, op, T, pos, af, some (j, b)⟩ :: l)))
    (hf : ¬ p → J X ((t, .bool false) :: e) L (sw X.P (Holds X.Φ A) S ops R k (⟨dst, op, T, pos, af, some (j, b)⟩ :: l))) : J X e L (swG X.P (Holds X.Φ A) S ops R k dst op T pos af j b l) :=
  g_split rfl hs hv (fun h => ht (of_decide_eq_true h)) (fun h => hf (of_decide_eq_false h))
theorem gg_splitN {p : Prop} [Decidable p] (hs : gslot ops j = some t) (hv : lk t e = some (.bool (!decide p))) (ht : ¬ p → J X ((t, .bool true) :: e) L (sw X.P (Holds X.Φ A) S ops R k (⟨dst, op, T, pos, af, some (j, b)⟩ :: l)))
    (hf : p → J X ((t, .bool false) :: e) L (sw X.P (Holds X.Φ A) S ops R k (⟨dst, op, T, pos, af, some (j, b)⟩ :: l))) : J X e L (swG X.P (Holds X.Φ A) S ops R k dst op T pos af j b l) :=
  g_split rfl hs hv (fun h => ht (by simpa using h)) (fun h => hf (by simpa using h))
theorem r_peqN {t u E : TypeId} {x y : Operand} [tu : TUnd X.P t (.pointer E)] (hx : ev e x = some (.pointer none)) (hy : ev e y = some (.pointer none)) (hd : Nat.blt d X.n = true)
    (h : J X ((d, .bool true) :: e) L (sw X.P (Holds X.Φ A) S ops R (k + 1) l)) : J X e L (sw X.P (Holds X.Φ A) S ops R k (⟨some d, .binOp .eql t x y u, T, pos, af, none⟩ :: l)) := r_peq hx hy hd h
theorem r_pneN {t u E : TypeId} {x y : Operand} [tu : TUnd X.P t (.pointer E)] (hx : ev e x = some (.pointer none)) (hy : ev e y = some (.pointer none)) (hd : Nat.blt d X.n = true)
    (h : J X ((d, .bool false) :: e) L (sw X.P (Holds X.Φ A) S ops R (k + 1) l)) : J X e L (sw X.P (Holds X.Φ A) S ops R k (⟨some d, .binOp .neq t x y u, T, pos, af, none⟩ :: l)) := r_pne hx hy hd h
theorem r_notT {x : Operand} {v : Value} (hx : ev e x = some v) (hv : v = .bool true) (hd : Nat.blt d X.n = true) (h : J X ((d, .bool false) :: e) L (sw X.P (Holds X.Φ A) S ops R (k + 1) l)) :
    J X e L (sw X.P (Holds X.Φ A) S ops R k (⟨some d, .unOp .not T x, T, pos, af, none⟩ :: l)) := r_not (b := true) (by rw [hx, hv]) hd h
theorem r_notF {x : Operand} {v : Value} (hx : ev e x = some v) (hv : v = .bool false) (hd : Nat.blt d X.n = true) (h : J X ((d, .bool true) :: e) L (sw X.P (Holds X.Φ A) S ops R (k + 1) l)) :
    J X e L (sw X.P (Holds X.Φ A) S ops R k (⟨some d, .unOp .not T x, T, pos, af, none⟩ :: l)) := r_not (b := false) (by rw [hx, hv]) hd h
theorem r_extL {x : Operand} {i : Nat} {vs : List Value} {v : Value} (hx : ev e x = some (.tuple vs.toArray)) [lg : LGet vs i v] (hd : Nat.blt d X.n = true)
    (h : J X ((d, v) :: e) L (sw X.P (Holds X.Φ A) S ops R (k + 1) l)) : J X e L (sw X.P (Holds X.Φ A) S ops R k (⟨some d, .extract x i, T, pos, af, none⟩ :: l)) := r_ext hx (by rw [List.getElem?_toArray]; exact lg.eq) hd h
theorem t_scope {Q : Exit → Act → World → Prop} {c : Code} (h : J X e L (cw X.P c (Exit.noGoto Q))) : J X e L (cw X.P (Code.scope c) Q) := fun a w m hh ro hr => by
  obtain rfl := hr.resolve_right (by simp [noR])
  exact wpIn_wide.2 (wp_scope_straight (cw_wp (h a w m hh)))
theorem j_ng {Q : Exit → Act → World → Prop} (h : J X e L (Q .normal)) : J X e L (Exit.noGoto Q .normal) := h
theorem j_ng_ret {Q : Exit → Act → World → Prop} (h : J X e L (Q .ret)) : J X e L (Exit.noGoto Q .ret) := h
theorem j_ng_exit {Q : Exit → Act → World → Prop} {id : Nat} (h : J X e L (Q (.exit id))) : J X e L (Exit.noGoto Q (.exit id)) := h
theorem Mt.rebind {ds : List Deferred} {n : Nat} {e : Env} {a : Act} (m : Mt ds n e a) {t : Nat} {v u : Value} (hv : lk t e = some v) (h : v = u) : Mt ds n ((t, u) :: e) a := ⟨m.size, m.defers, fun k w hk => by
  simp only [lk] at hk
  split at hk
  · rename_i hb
    have : k = t := Nat.eq_of_beq_eq_true hb
    subst this; subst h
    rw [← hk]; exact m.val _ _ hv
  · exact m.val _ _ hk⟩
/-- a test by a tmp, whose outcome is known from then on. -/
theorem t_condS {Q : Exit → Act → World → Prop} {t : Nat} {p : Prop} [Decidable p] {x y : Code} (hc : lk t e = some (.bool (decide p))) (ht : p → J X ((t, .bool true) :: e) L (cw X.P x Q)) (hf : ¬ p → J X ((t, .bool false) :: e) L (cw X.P y Q)) :
    J X e L (cw X.P (Code.cond (.tmp t) x y) Q) := t_cond hc (fun h a w m hh => ht (of_decide_eq_true h) a w (m.rebind hc (by rw [h])) hh) (fun h a w m hh => hf (of_decide_eq_false h) a w (m.rebind hc (by rw [h])) hh)
theorem t_condSN {Q : Exit → Act → World → Prop} {t : Nat} {p : Prop} [Decidable p] {x y : Code} (hc : lk t e = some (.bool (!decide p))) (ht : ¬ p → J X ((t, .bool true) :: e) L (cw X.P x Q)) (hf : p → J X ((t, .bool false) :: e) L (cw X.P y Q)) :
    J X e L (cw X.P (Code.cond (.tmp t) x y) Q) := t_cond hc (fun h a w m hh => ht (by simpa using h) a w (m.rebind hc (by rw [h])) hh) (fun h a w m hh => hf (by simpa using h) a w (m.rebind hc (by rw [h])) hh)
theorem t_condSB {Q : Exit → Act → World → Prop} {t : Nat} {b : Bool} {x y : Code} (hc : lk t e = some (.bool b)) (ht : b = true → J X ((t, .bool true) :: e) L (cw X.P x Q)) (hf : b = false → J X ((t, .bool false) :: e) L (cw X.P y Q)) :
    J X e L (cw X.P (Code.cond (.tmp t) x y) Q) := t_cond hc (fun h a w m hh => ht h a w (m.rebind hc (by rw [h])) hh) (fun h a w m hh => hf h a w (m.rebind hc (by rw [h])) hh)
/-- a comparison's outcome. -/
def icmp (op : BinOp) (x y : Int) : Option Bool := match op with
  | .eql => some (decide (x = y))
  | .neq => some (!decide (x = y))
  | .lss => some (decide (x < y))
  | .leq => some (decide (x ≤ y))
  | .gtr => some (decide (y < x))
  | .geq => some (decide (y ≤ x))
  | _ => none
theorem r_icmp {op : BinOp} {t u : TypeId} {x y : Operand} {ki : IntKind} {m n : Int} {b : Bool} (hx : ev e x = some (.int ki m)) (hy : ev e y = some (.int ki n)) (hv : icmp op m n = some b)
    (hd : Nat.blt d X.n = true) (h : J X ((d, .bool b) :: e) L (sw X.P (Holds X.Φ A) S ops R (k + 1) l)) :
    J X e L (sw X.P (Holds X.Φ A) S ops R k (⟨some d, .binOp op t x y u, T, pos, af, none⟩ :: l)) :=
  r_iop hx hy (by cases op <;> simp [icmp, iop] at hv ⊢ <;> exact hv) hd h
theorem r_icmpT {op : BinOp} {t u : TypeId} {x y : Operand} {ki : IntKind} {m n : Int} (hx : ev e x = some (.int ki m)) (hy : ev e y = some (.int ki n)) (hv : icmp op m n = some true)
    (hd : Nat.blt d X.n = true) (h : J X ((d, .bool true) :: e) L (sw X.P (Holds X.Φ A) S ops R (k + 1) l)) :
    J X e L (sw X.P (Holds X.Φ A) S ops R k (⟨some d, .binOp op t x y u, T, pos, af, none⟩ :: l)) := r_icmp hx hy hv hd h
theorem r_icmpF {op : BinOp} {t u : TypeId} {x y : Operand} {ki : IntKind} {m n : Int} (hx : ev e x = some (.int ki m)) (hy : ev e y = some (.int ki n)) (hv : icmp op m n = some false)
    (hd : Nat.blt d X.n = true) (h : J X ((d, .bool false) :: e) L (sw X.P (Holds X.Φ A) S ops R (k + 1) l)) :
    J X e L (sw X.P (Holds X.Φ A) S ops R k (⟨some d, .binOp op t x y u, T, pos, af, none⟩ :: l)) := r_icmp hx hy hv hd h
theorem r_aneB {t u : TypeId} {x y : Operand} {xs ys : List Nat} {n : Nat} [te : TEq X.P t (isInts .u8 n)] (hg : X.P.eqGuardType X.P.depth t = false) (hx : ev e x = some (.agg (xs.map u8).toArray)) (hy : ev e y = some (.agg (ys.map u8).toArray)) (h1 : xs.length = n) (h2 : ys.length = n) (hd : Nat.blt d X.n = true)
    (h : J X ((d, .bool (!decide (xs = ys))) :: e) L (sw X.P (Holds X.Φ A) S ops R (k + 1) l)) : J X e L (sw X.P (Holds X.Φ A) S ops R k (⟨some d, .binOp .neq t x y u, T, pos, af, none⟩ :: l)) :=
  r_ane hg hx hy ⟨xs.map (fun n : Nat => (n : Int)), by simpa using h1, by simp⟩ ⟨ys.map (fun n : Nat => (n : Int)), by simpa using h2, by simp⟩ (by
    simp only [Bool.not_eq_true', decide_eq_false_iff_not, ne_eq]
    constructor
    · intro h h2; exact h (u8_inj xs ys (by simpa using congrArg Array.toList h2))
    · intro h h2; exact h (by rw [h2])) hd h
/-- an array of elements of one cell, all of them given. -/
theorem r_buildA {t E : TypeId} {N by_ : Nat} {z zz : Value} {parts : Array (Nat × Operand)} [tu : TUnd X.P t (.array N E)] [te : TElem X.P E 1 by_ z] [tz : TZero X.P t zz] (as : List Operand) (vs : List Value) (hp : parts = (as.zipIdx.map fun p => (p.2, p.1)).toArray) (hvs : evL e as = some vs)
    (h1 : ∀ v ∈ vs, v.oneCell' = true) (hlen : zz.cells.size = vs.length) (hd : Nat.blt d X.n = true)
    (h : J X ((d, .agg vs.toArray) :: e) L (sw X.P (Holds X.Φ A) S ops R (k + 1) l)) : J X e L (sw X.P (Holds X.Φ A) S ops R k (⟨some d, .build t parts, T, pos, af, none⟩ :: l)) :=
  r_pure rfl (fun a m w => by
    have e1 : (parts.map fun (i, x) => (i, a.eval x)) = (vs.zipIdx.map fun p => (p.2, p.1)).toArray := by
      rw [hp, ← m.evL hvs, List.zipIdx_map]; simp [Function.comp_def]
    obtain ⟨i, hi, hs, hb, hz⟩ := te.ex
    have hsz : ∀ w, (sizeOf E).run X.P w = .ok 1 w := fun w => by simp [sizeOf, typeInfo, hi, hs, go_sem]
    obtain ⟨cs, e2, es, _, ev⟩ := fill_one vs (fun i => some (i * 1, 1)) 0 zz.cells h1 (fun _ => rfl) (by omega)
    have hcs : cs = vs.toArray := by
      apply Array.ext'
      apply List.ext_getElem?
      intro j
      by_cases hj : j < vs.length
      · have := ev j hj
        simpa using this
      · have h2 : cs.size = vs.length := by rw [es, hlen]
        rw [List.getElem?_eq_none (by simp; omega), List.getElem?_eq_none (by simp; omega)]
    have h1 : (Instr.build t (parts.map fun (i, x) => (i, a.eval x))).run X.P w = .ok (.agg vs.toArray) w := by
      simp only [Instr.build, Sem.run_bind, tz.run, tu.run, Result.andThen_ok, hsz, e1, e2, Sem.run_pure, hcs]
    simp only [execOp, Sem.run_bind, h1, Result.andThen_ok, Sem.run_pure]) hd h
/-- a piece of an array, as a row. -/
theorem r_pieceA {t E : TypeId} {x : Operand} {ol oh om : Option Operand} {N s b o : Nat} [tu : TUnd X.P t (.array N E)] [ts : TSize X.P E s] (lo hi mx : Nat) (hx : ev e x = some (.pointer (some ⟨b, o, none⟩)))
    (hl : (ol = none ∧ lo = 0) ∨ ∃ ki, ol.bind (ev e) = some (.int ki (lo : Int))) (hh : (oh = none ∧ hi = N ∧ om = none) ∨ ∃ ki, oh.bind (ev e) = some (.int ki (hi : Int))) (hm : (om = none ∧ mx = N) ∨ ∃ ki, om.bind (ev e) = some (.int ki (mx : Int)))
    (h1 : lo ≤ hi) (h2 : hi ≤ mx) (h3 : mx ≤ N) (hd : Nat.blt d X.n = true) (h : J X ((d, .slice (some ⟨b, if mx = lo then o else o + lo * s, none⟩) (hi - lo) (mx - lo)) :: e) L (sw X.P (Holds X.Φ A) S ops R (k + 1) l)) :
    J X e L (sw X.P (Holds X.Φ A) S ops R k (⟨some d, .slice t x ol oh om, T, pos, af, none⟩ :: l)) :=
  r_pure rfl (fun act m w => by
    have key : ∀ {o : Option Operand} {v : Value}, o.bind (ev e) = some v → o.map act.eval = some v := fun {o v} ho => by
      cases o with
      | none => cases ho
      | some y => simp only [Option.bind_some] at ho; simp [m.ev ho]
    have hb : ∀ (ki : IntKind) (x y : Nat) c, x ≤ y → (Instr.sliceBound (.int ki (x : Int)) y c).run X.P w = .ok x w := fun ki x y c hxy => by
      have h4 : (0 : Int) ≤ x ∧ (x : Int) ≤ y := ⟨by omega, by omega⟩
      simp only [Instr.sliceBound, asIntOf, pure_bind, h4, and_self, if_true, Sem.run_pure, Int.toNat_natCast]
    have hbs : (Instr.sliceBounds false N N (ol.map act.eval) (oh.map act.eval) (om.map act.eval)).run X.P w = .ok (lo, hi, mx) w := by
      unfold Instr.sliceBounds
      have hl' : (ol.map act.eval = none ∧ lo = 0) ∨ ∃ ki, ol.map act.eval = some (.int ki (lo : Int)) := hl.imp (fun ⟨h, h'⟩ => ⟨by rw [h]; rfl, h'⟩) (fun ⟨ki, h⟩ => ⟨ki, key h⟩)
      have hh' : (oh.map act.eval = none ∧ hi = N ∧ om.map act.eval = none) ∨ ∃ ki, oh.map act.eval = some (.int ki (hi : Int)) := hh.imp (fun ⟨h, h', h''⟩ => ⟨by rw [h]; rfl, h', by rw [h'']; rfl⟩) (fun ⟨ki, h⟩ => ⟨ki, key h⟩)
      have hm' : (om.map act.eval = none ∧ mx = N) ∨ ∃ ki, om.map act.eval = some (.int ki (mx : Int)) := hm.imp (fun ⟨h, h'⟩ => ⟨by rw [h]; rfl, h'⟩) (fun ⟨ki, h⟩ => ⟨ki, key h⟩)
      revert hl' hh' hm'
      generalize ol.map act.eval = vl
      generalize oh.map act.eval = vh
      generalize om.map act.eval = vm
      intro hl' hh' hm'
      rcases hm' with ⟨rfl, rfl⟩ | ⟨km, rfl⟩ <;> rcases hh' with ⟨rfl, rfl, hv⟩ | ⟨kh, rfl⟩ <;> rcases hl' with ⟨rfl, rfl⟩ | ⟨kl, rfl⟩ <;> first
        | (cases hv; done)
        | simp [Sem.run_bind, hb, h1, h2, h3, Result.andThen_ok, Sem.run_pure]
    have ha : (if mx = lo then (⟨b, o, none⟩ : Addr) else (⟨b, o, none⟩ : Addr).add (lo * s)) = ⟨b, if mx = lo then o else o + lo * s, none⟩ := by
      split
      · rfl
      · rw [add_at]
    have h4 : (Instr.sliceAt t (.pointer (some ⟨b, o, none⟩)) (ol.map act.eval) (oh.map act.eval) (om.map act.eval)).run X.P w = .ok (.slice (some ⟨b, if mx = lo then o else o + lo * s, none⟩) (hi - lo) (mx - lo)) w := by
      simp only [Instr.sliceAt, Sem.run_bind, tu.run, Result.andThen_ok, Instr.sureAddr, pure_bind, hbs, ts.run, Sem.run_pure, ha]
    simp only [execOp, m.ev hx, Sem.run_bind, h4, Result.andThen_ok, Sem.run_pure]) hd h
/-- all of an array, as a row. -/
theorem r_sliceA {t E : TypeId} {x : Operand} {n s b o : Nat} [tu : TUnd X.P t (.array n E)] [ts : TSize X.P E s] (hx : ev e x = some (.pointer (some ⟨b, o, none⟩))) (hn : n ≠ 0) (hd : Nat.blt d X.n = true)
    (h : J X ((d, .slice (some ⟨b, o, none⟩) n n) :: e) L (sw X.P (Holds X.Φ A) S ops R (k + 1) l)) : J X e L (sw X.P (Holds X.Φ A) S ops R k (⟨some d, .slice t x none none none, T, pos, af, none⟩ :: l)) :=
  r_pieceA 0 n n hx (.inl ⟨rfl, rfl⟩) (.inl ⟨rfl, rfl, rfl⟩) (.inl ⟨rfl, rfl⟩) (Nat.zero_le _) (Nat.le_refl _) (Nat.le_refl _) hd (by simpa [hn] using h)
end
/- shapes: each hands on what it is given. -/
section
variable {X : Cx} {e : Env} {L : List Assn} {C : World → Prop} {P : Program} {S : List Nat} {ops : Array Oper} {k : Nat} {l : List Oper} {R : Act → World → Prop}
variable {d : Nat} {T : TypeId} {pos : String} {af : Array Edge}
theorem k_move {x : Operand} (h : J X e L (sw P C S ops R k (⟨some d, .move x, T, pos, af, none⟩ :: l))) : J X e L (sw P C S ops R k (⟨some d, .move x, T, pos, af, none⟩ :: l)) := h
theorem k_assign {x : Operand} (h : J X e L (sw P C S ops R k (⟨some d, .assign x, T, pos, af, none⟩ :: l))) : J X e L (sw P C S ops R k (⟨some d, .assign x, T, pos, af, none⟩ :: l)) := h
theorem k_nck {x : Operand} (h : J X e L (sw P C S ops R k (⟨some d, .nilCheck x, T, pos, af, none⟩ :: l))) : J X e L (sw P C S ops R k (⟨some d, .nilCheck x, T, pos, af, none⟩ :: l)) := h
theorem k_fld {t : TypeId} {x : Operand} {f : Nat} (h : J X e L (sw P C S ops R k (⟨some d, .fieldAddr t x f, T, pos, af, none⟩ :: l))) : J X e L (sw P C S ops R k (⟨some d, .fieldAddr t x f, T, pos, af, none⟩ :: l)) := h
theorem k_load {t : TypeId} {x : Operand} (h : J X e L (sw P C S ops R k (⟨some d, .load t x, T, pos, af, none⟩ :: l))) : J X e L (sw P C S ops R k (⟨some d, .load t x, T, pos, af, none⟩ :: l)) := h
theorem k_ext {x : Operand} {f : Nat} (h : J X e L (sw P C S ops R k (⟨some d, .extract x f, T, pos, af, none⟩ :: l))) : J X e L (sw P C S ops R k (⟨some d, .extract x f, T, pos, af, none⟩ :: l)) := h
theorem k_len {as : Array Operand} {ts : Array TypeId} (h : J X e L (sw P C S ops R k (⟨some d, .call { callee := .builtin .len, args := as, argTypes := ts }, T, pos, af, none⟩ :: l))) : J X e L (sw P C S ops R k (⟨some d, .call { callee := .builtin .len, args := as, argTypes := ts }, T, pos, af, none⟩ :: l)) := h
theorem k_un {uo : UnOp} {t : TypeId} {x : Operand} (h : J X e L (sw P C S ops R k (⟨some d, .unOp uo t x, T, pos, af, none⟩ :: l))) : J X e L (sw P C S ops R k (⟨some d, .unOp uo t x, T, pos, af, none⟩ :: l)) := h
theorem k_conv {t u : TypeId} {x : Operand} (h : J X e L (sw P C S ops R k (⟨some d, .convert t u x, T, pos, af, none⟩ :: l))) : J X e L (sw P C S ops R k (⟨some d, .convert t u x, T, pos, af, none⟩ :: l)) := h
theorem k_pick {x y z : Operand} (h : J X e L (sw P C S ops R k (⟨some d, .pick x y z, T, pos, af, none⟩ :: l))) : J X e L (sw P C S ops R k (⟨some d, .pick x y z, T, pos, af, none⟩ :: l)) := h
theorem k_bin {bo : BinOp} {t u : TypeId} {x y : Operand} (h : J X e L (sw P C S ops R k (⟨some d, .binOp bo t x y u, T, pos, af, none⟩ :: l))) : J X e L (sw P C S ops R k (⟨some d, .binOp bo t x y u, T, pos, af, none⟩ :: l)) := h
theorem k_eql {t u : TypeId} {x y : Operand} (h : J X e L (sw P C S ops R k (⟨some d, .binOp .eql t x y u, T, pos, af, none⟩ :: l))) : J X e L (sw P C S ops R k (⟨some d, .binOp .eql t x y u, T, pos, af, none⟩ :: l)) := h
theorem k_neq {t u : TypeId} {x y : Operand} (h : J X e L (sw P C S ops R k (⟨some d, .binOp .neq t x y u, T, pos, af, none⟩ :: l))) : J X e L (sw P C S ops R k (⟨some d, .binOp .neq t x y u, T, pos, af, none⟩ :: l)) := h
theorem k_inc {t u : TypeId} {x : Operand} (h : J X e L (sw P C S ops R k (⟨some d, .binOp .add t x (.const (.int .i64 1)) u, T, pos, af, none⟩ :: l))) : J X e L (sw P C S ops R k (⟨some d, .binOp .add t x (.const (.int .i64 1)) u, T, pos, af, none⟩ :: l)) := h
theorem k_sl0 {t : TypeId} {x : Operand} (h : J X e L (sw P C S ops R k (⟨some d, .slice t x none none none, T, pos, af, none⟩ :: l))) : J X e L (sw P C S ops R k (⟨some d, .slice t x none none none, T, pos, af, none⟩ :: l)) := h
theorem k_cond {Q : Exit → Act → World → Prop} {x : Operand} {a b : Code} (h : J X e L (cw P (Code.cond x a b) Q)) : J X e L (cw P (Code.cond x a b) Q) := h
end
end Go.Proofs.YtcnpkmdooekmgaaGreatDoor.Sl
namespace Go.Proofs.YtcnpkmdooekmgaaGreatDoor.Sl
open Go.RowKit (Below)
instance (priority := 1200) Find.app0 (A : Assn) (L R : List Assn) [f : Find A L R] : Find A ([] ++ L) R := ⟨f.ent⟩
instance (priority := 1200) Find.appc (A Z : Assn) (M L R : List Assn) [f : Find A (Z :: (M ++ L)) R] : Find A ((Z :: M) ++ L) R := ⟨f.ent⟩
section
variable {α β : Type} [DecidableEq α]
def alook : List (α × β) → α → Option β
  | [], _ => none
  | p :: l, k => if p.1 = k then some p.2 else alook l k
def aset : List (α × β) → α → β → List (α × β)
  | [], k, v => [(k, v)]
  | p :: l, k, v => if p.1 = k then (k, v) :: l else p :: aset l k v
def adel : List (α × β) → α → List (α × β)
  | [], _ => []
  | p :: l, k => if p.1 = k then l else p :: adel l k
def upd (f : α → Option β) (k : α) (v : Option β) : α → Option β := fun x => if x = k then v else f x
theorem alook_set (l : List (α × β)) (k : α) (v : β) (x : α) : alook (aset l k v) x = if x = k then some v else alook l x := by
  induction l with
  | nil =>
    simp only [aset, alook]
    by_cases h : x = k
    · rw [if_pos h, if_pos h.symm]
    · rw [if_neg h, if_neg (fun e => h e.symm)]
  | cons p l ih =>
    simp only [aset]
    by_cases h : p.1 = k
    · rw [if_pos h]
      simp only [alook]
      by_cases hx : x = k
      · subst hx; simp
      · rw [if_neg (fun e => hx e.symm), if_neg hx, if_neg (fun e => hx (e.symm.trans h))]
    · rw [if_neg h]
      simp only [alook, ih]
      by_cases hx : p.1 = x
      · subst hx; rw [if_pos rfl, if_neg h, if_pos rfl]
      · rw [if_neg hx, if_neg hx]
theorem alook_none {l : List (α × β)} {k : α} (h : k ∉ l.map Prod.fst) : alook l k = none := by
  induction l with
  | nil => rfl
  | cons p l ih =>
    simp only [List.map_cons, List.mem_cons, not_or] at h
    simp only [alook]
    rw [if_neg (fun e => h.1 e.symm), ih h.2]
theorem alook_mem {l : List (α × β)} {k : α} {v : β} (h : alook l k = some v) : (k, v) ∈ l := by
  induction l with
  | nil => cases h
  | cons p l ih =>
    simp only [alook] at h
    split at h
    · rename_i e; cases h; subst e; exact List.mem_cons_self
    · exact List.mem_cons_of_mem _ (ih h)
theorem mem_alook {l : List (α × β)} {k : α} {v : β} (hn : (l.map Prod.fst).Nodup) (h : (k, v) ∈ l) : alook l k = some v := by
  induction l with
  | nil => cases h
  | cons p l ih =>
    simp only [List.map_cons, List.nodup_cons] at hn
    simp only [alook]
    rcases List.mem_cons.1 h with rfl | h
    · rw [if_pos rfl]
    · rw [if_neg (fun e => hn.1 (by rw [e]; exact List.mem_map.2 ⟨_, h, rfl⟩)), ih hn.2 h]
theorem aset_keys (l : List (α × β)) (k : α) (v : β) : (aset l k v).map Prod.fst = if k ∈ l.map Prod.fst then l.map Prod.fst else l.map Prod.fst ++ [k] := by
  induction l with
  | nil => simp [aset]
  | cons p l ih =>
    simp only [aset]
    by_cases h : p.1 = k
    · rw [if_pos h, if_pos (by simp [h])]; simp [h]
    · rw [if_neg h, List.map_cons, ih]
      by_cases hm : k ∈ l.map Prod.fst
      · rw [if_pos hm, if_pos (by simp only [List.map_cons]; exact List.mem_cons_of_mem _ hm)]; rfl
      · rw [if_neg hm, if_neg (by simp only [List.map_cons, List.mem_cons, not_or]; exact ⟨fun e => h e.symm, hm⟩)]; rfl
theorem adel_sub (l : List (α × β)) (k : α) : (adel l k).Sublist l := by
  induction l with
  | nil => exact List.Sublist.refl _
  | cons p l ih =>
    simp only [adel]
    split
    · exact List.sublist_cons_self _ _
    · exact ih.cons_cons _
theorem alook_del {l : List (α × β)} (hn : (l.map Prod.fst).Nodup) (k x : α) : alook (adel l k) x = if x = k then none else alook l x := by
  induction l with
  | nil => simp [adel, alook]
  | cons p l ih =>
    simp only [List.map_cons, List.nodup_cons] at hn
    simp only [adel]
    by_cases h : p.1 = k
    · rw [if_pos h]
      by_cases hx : x = k
      · rw [if_pos hx, hx, ← h, alook_none hn.1]
      · rw [if_neg hx, alook, if_neg (fun e => hx (e.symm.trans h))]
    · rw [if_neg h, alook, alook, ih hn.2]
      by_cases hx : p.1 = x
      · subst hx; rw [if_pos rfl, if_pos rfl, if_neg h]
      · rw [if_neg hx, if_neg hx]
/-- a list of pairs, as what it tells. -/
structure Rep (l : List (α × β)) (f : α → Option β) : Prop where
  nd : (l.map Prod.fst).Nodup
  eq : ∀ k, alook l k = f k
theorem Rep.nil : Rep ([] : List (α × β)) (fun _ => none) := ⟨List.nodup_nil, fun _ => rfl⟩
theorem Rep.set {l : List (α × β)} {f : α → Option β} (h : Rep l f) (k : α) (v : β) : Rep (aset l k v) (upd f k (some v)) := by
  refine ⟨?_, fun x => by rw [alook_set, h.eq]; rfl⟩
  rw [aset_keys]
  split
  · exact h.nd
  · rename_i hk
    refine List.nodup_append.2 ⟨h.nd, by simp, fun a ha b hb => ?_⟩
    simp at hb; subst hb
    exact fun e => hk (e ▸ ha)
theorem Rep.del {l : List (α × β)} {f : α → Option β} (h : Rep l f) (k : α) : Rep (adel l k) (upd f k none) :=
  ⟨h.nd.sublist ((adel_sub l k).map _), fun x => by rw [alook_del h.nd, h.eq]; rfl⟩
theorem Rep.mem {l : List (α × β)} {f : α → Option β} (h : Rep l f) {k : α} {v : β} : (k, v) ∈ l ↔ f k = some v :=
  ⟨fun hm => by rw [← h.eq]; exact mem_alook h.nd hm, fun hf => alook_mem (by rw [h.eq]; exact hf)⟩
/-- what is still to be copied, and what was. -/
structure Cov (f : α → Option β) (t : List (α × β)) (g : α → Option β) : Prop where
  nd : (t.map Prod.fst).Nodup
  fresh : ∀ p ∈ t, g p.1 = none
  eq : ∀ k, f k = (alook t k).or (g k)
theorem Cov.done {f g : α → Option β} (h : Cov f [] g) : g = f := by funext k; rw [h.eq]; rfl
theorem alook_app {l1 l2 : List (α × β)} {k : α} : alook (l1 ++ l2) k = (alook l1 k).or (alook l2 k) := by
  induction l1 with
  | nil => rfl
  | cons p l ih =>
    simp only [List.cons_append, alook]
    split
    · rfl
    · exact ih
theorem Cov.get {f g : α → Option β} {t1 t2 : List (α × β)} {q : α × β} (h : Cov f (t1 ++ q :: t2) g) : f q.1 = some q.2 := by
  rw [h.eq, mem_alook h.nd (v := q.2) (by simp)]; rfl
theorem Cov.step {f g : α → Option β} {t1 t2 : List (α × β)} {q : α × β} (h : Cov f (t1 ++ q :: t2) g) : Cov f (t1 ++ t2) (upd g q.1 (some q.2)) := by
  have hs : (t1 ++ t2).Sublist (t1 ++ q :: t2) := List.Sublist.append (List.Sublist.refl _) (List.sublist_cons_self _ _)
  have hn := h.nd
  rw [List.map_append, List.map_cons] at hn
  have hn' := List.nodup_append.1 hn
  have hq := (List.nodup_cons.1 hn'.2.1).1
  have hq1 : q.1 ∉ t1.map Prod.fst := fun hm => hn'.2.2 _ hm _ (by simp) rfl
  refine ⟨h.nd.sublist (hs.map _), fun p hp => ?_, fun k => ?_⟩
  · have : p.1 ≠ q.1 := fun e => by
      rcases List.mem_append.1 hp with hp | hp
      · exact hq1 (e ▸ List.mem_map.2 ⟨p, hp, rfl⟩)
      · exact hq (e ▸ List.mem_map.2 ⟨p, hp, rfl⟩)
    simp only [upd, this, if_false]
    exact h.fresh p (hs.subset hp)
  by_cases hk : k = q.1
  · subst hk
    rw [h.get, alook_none (by rw [List.map_append]; exact fun hm => (List.mem_append.1 hm).elim hq1 hq)]
    simp [upd]
  · rw [h.eq, alook_app, alook_app, alook, if_neg (fun e => hk e.symm)]
    simp [upd, hk]
theorem aset_new {l : List (α × β)} {k : α} {v : β} (h : alook l k = none) : aset l k v = l ++ [(k, v)] := by
  induction l with
  | nil => rfl
  | cons p l ih =>
    simp only [alook] at h
    split at h
    · cases h
    · rename_i hp; simp only [aset, if_neg hp, ih h]; rfl
theorem aset_old {l1 l2 : List (α × β)} {k : α} {v u : β} (h : k ∉ l1.map Prod.fst) : aset (l1 ++ (k, u) :: l2) k v = l1 ++ (k, v) :: l2 := by
  induction l1 with
  | nil => simp [aset]
  | cons p l ih =>
    simp only [List.map_cons, List.mem_cons, not_or] at h
    simp only [List.cons_append, aset, if_neg (fun e => h.1 (Eq.symm e)), ih h.2]
theorem adel_old {l1 l2 : List (α × β)} {k : α} {u : β} (h : k ∉ l1.map Prod.fst) : adel (l1 ++ (k, u) :: l2) k = l1 ++ l2 := by
  induction l1 with
  | nil => simp [adel]
  | cons p l ih =>
    simp only [List.map_cons, List.mem_cons, not_or] at h
    simp only [List.cons_append, adel, if_neg (fun e => h.1 (Eq.symm e)), ih h.2]
theorem alook_map {γ : Type} (g : β → γ) (l : List (α × β)) (k : α) : alook (l.map fun e => (e.1, g e.2)) k = (alook l k).map g := by
  induction l with
  | nil => rfl
  | cons p l ih => simp only [List.map_cons, alook]; split <;> simp [ih]
/-- a list in which a key stands, opened at it. -/
theorem alook_split {l : List (α × β)} {k : α} {v : β} (hn : (l.map Prod.fst).Nodup) (h : alook l k = some v) : ∃ l1 l2, l = l1 ++ (k, v) :: l2 ∧ k ∉ l1.map Prod.fst := by
  obtain ⟨l1, l2, rfl⟩ := List.append_of_mem (alook_mem h)
  refine ⟨l1, l2, rfl, fun hm => ?_⟩
  rw [List.map_append, List.map_cons] at hn
  exact (List.nodup_append.1 hn).2.2 _ hm _ (by simp) rfl
variable (κ : α → Value) (ν : β → Value)
def em (l : List (α × β)) : List (Value × Value) := l.map fun p => (κ p.1, ν p.2)
variable {κ ν}
theorem mget_em (hκ : ∀ a b, κ a = κ b → a = b) (l : List (α × β)) (k : α) : mget (em κ ν l) (κ k) = (alook l k).map ν := by
  induction l with
  | nil => rfl
  | cons p l ih =>
    simp only [em, List.map_cons, mget, alook] at ih ⊢
    by_cases h : p.1 = k
    · rw [if_pos h, if_pos (by rw [h])]; rfl
    · rw [if_neg h, if_neg (fun e => h (hκ _ _ e)), ih]
theorem mset_em (hκ : ∀ a b, κ a = κ b → a = b) (l : List (α × β)) (k : α) (v : β) : mset (em κ ν l) (κ k) (ν v) = em κ ν (aset l k v) := by
  induction l with
  | nil => rfl
  | cons p l ih =>
    simp only [em, List.map_cons, mset, aset] at ih ⊢
    by_cases h : p.1 = k
    · rw [if_pos h, if_pos (by rw [h])]; rfl
    · rw [if_neg h, if_neg (fun e => h (hκ _ _ e)), ih]; rfl
theorem mdel_em (hκ : ∀ a b, κ a = κ b → a = b) (l : List (α × β)) (k : α) : mdel (em κ ν l) (κ k) = em κ ν (adel l k) := by
  induction l with
  | nil => rfl
  | cons p l ih =>
    simp only [em, List.map_cons, mdel, adel] at ih ⊢
    by_cases h : p.1 = k
    · rw [if_pos h, if_pos (by rw [h])]
    · rw [if_neg h, if_neg (fun e => h (hκ _ _ e)), ih]; rfl
omit [DecidableEq α] in
theorem em_split {t : List (α × β)} {l1 l2 : List (Value × Value)} {p : Value × Value} (h : em κ ν t = l1 ++ p :: l2) : ∃ t1 q t2, t = t1 ++ q :: t2 ∧ l1 ++ l2 = em κ ν (t1 ++ t2) ∧ p = (κ q.1, ν q.2) := by
  obtain ⟨t1, t', rfl, h1, h2⟩ := List.map_eq_append_iff.1 h
  obtain ⟨q, t2, rfl, h3, h4⟩ := List.map_eq_cons_iff.1 h2
  exact ⟨t1, q, t2, rfl, by rw [← h1, ← h4]; simp [em], h3.symm⟩
omit [DecidableEq α] in
theorem em_nil {t : List (α × β)} (h : em κ ν t = []) : t = [] := List.map_eq_nil_iff.1 h
/-- a map of one's own that tells f. -/
def mapF (κ : α → Value) (ν : β → Value) (ok : Value → Prop) (r : Nat) (f : α → Option β) : Assn := ex fun l : List (α × β) => all [Sl.mp ok r (em κ ν l), Sl.pu (Rep l f)]
theorem Ent.mapF {ok : Value → Prop} {r : Nat} {f : α → Option β} {l : List (α × β)} (h : Rep l f) (L : List Assn) : Ent (Sl.mp ok r (em κ ν l) :: L) (Sl.mapF κ ν ok r f :: L) :=
  ((Ent.mkPu h).trans (Ent.swap _ _ _)).trans ((Ent.unall [Sl.mp ok r (em κ ν l), Sl.pu (Rep l f)] L).trans (Ent.mkEx (f := fun l : List (α × β) => Sl.all [Sl.mp ok r (em κ ν l), Sl.pu (Rep l f)]) l))
theorem j_mapF {X : Cx} {e : Env} {L : List Assn} {G : Act → World → Prop} {ok : Value → Prop} {r : Nat} {f : α → Option β} (h : ∀ l : List (α × β), Rep l f → J X e (Sl.mp ok r (em κ ν l) :: L) G) : J X e (Sl.mapF κ ν ok r f :: L) G :=
  j_ex fun l => j_ent ((Ent.all [Sl.mp ok r (em κ ν l), Sl.pu (Rep l f)] L).trans (Ent.swap _ _ _)) (j_pu fun hr => h l hr)
end
/- one for each of a list: one of them taken out, and put back. -/
theorem Ent.mid (A : List Assn) (Z : Assn) (B : List Assn) : Ent (A ++ Z :: B) (Z :: (A ++ B)) := by
  induction A with
  | nil => exact Ent.refl _
  | cons Y A ih => exact (Ent.cons Y ih).trans (Ent.swap _ _ _)
theorem Ent.unmid (A : List Assn) (Z : Assn) (B : List Assn) : Ent (Z :: (A ++ B)) (A ++ Z :: B) := by
  induction A with
  | nil => exact Ent.refl _
  | cons Y A ih => exact (Ent.swap _ _ _).trans (Ent.cons Y ih)
theorem Ent.eachMid {α : Type} (l1 : List α) (x : α) (l2 : List α) (f : α → Assn) (L : List Assn) : Ent (each (l1 ++ x :: l2) f :: L) (f x :: each (l1 ++ l2) f :: L) := by
  have h1 := Ent.all ((l1 ++ x :: l2).map f) L
  rw [List.map_append, List.map_cons, List.append_assoc, List.cons_append] at h1
  have h2 := Ent.mid (l1.map f) (f x) (l2.map f ++ L)
  have h3 := Ent.cons (f x) (Ent.unall ((l1 ++ l2).map f) L)
  rw [List.map_append, List.append_assoc] at h3
  unfold each
  rw [List.map_append (l₁ := l1) (l₂ := x :: l2), List.map_cons, List.map_append (l₁ := l1) (l₂ := l2)]
  exact h1.trans (h2.trans h3)
theorem Ent.eachUnmid {α : Type} (l1 : List α) (x : α) (l2 : List α) (f : α → Assn) (L : List Assn) : Ent (f x :: each (l1 ++ l2) f :: L) (each (l1 ++ x :: l2) f :: L) := by
  have h1 := Ent.cons (f x) (Ent.all ((l1 ++ l2).map f) L)
  rw [List.map_append, List.append_assoc] at h1
  have h2 := Ent.unmid (l1.map f) (f x) (l2.map f ++ L)
  have h3 := Ent.unall ((l1 ++ x :: l2).map f) L
  rw [List.map_append, List.map_cons, List.append_assoc, List.cons_append] at h3
  unfold each
  rw [List.map_append (l₁ := l1) (l₂ := l2), List.map_append (l₁ := l1) (l₂ := x :: l2), List.map_cons]
  exact h1.trans (h2.trans h3)
theorem Ent.eachNil {α : Type} (f : α → Assn) (L : List Assn) : Ent L (each [] f :: L) := Ent.unall [] L
section
variable {X : Cx} {e : Env} {L L1 F : List Assn} {A : List Assn} {S : List Nat} {ops : Array Oper} {k : Nat} {l : List Oper} {R : Act → World → Prop} {G : Act → World → Prop}
variable {d : Nat} {T : TypeId} {pos : String} {af : Array Edge}
/-- a reading that is the same all along the region. -/
theorem s_load1L {t : TypeId} {x : Operand} {b off : Nat} {cs : List Value} {U : TypeId} {fr : Nat × Nat} {v : Value} [ta : TAgg X.P t false] (hx : ev e x = some (.pointer (some ⟨b, off, none⟩)))
    [g : Rd b A (.cells cs.toArray U fr)] [lg : LGet cs off v] (hd : Nat.blt d X.n = true) (hs : S.contains k = true) (h : J X ((d, v) :: e) L (sw X.P (Holds X.Φ A) S ops R (k + 1) l)) :
    J X e L (sw X.P (Holds X.Φ A) S ops R k (⟨some d, .load t x, T, pos, af, none⟩ :: l)) := s_load1 hx (g := g) (by rw [List.getElem?_toArray]; exact lg.eq) hd hs h
theorem s_loadW {t : TypeId} {x : Operand} {b n : Nat} {vs : List Value} {U : TypeId} {fr : Nat × Nat} [ta : TAgg X.P t true] [ts : TSize X.P t n] (hx : ev e x = some (.pointer (some ⟨b, 0, none⟩)))
    [g : Rd b A (.cells vs.toArray U fr)] (hn : vs.length = n) (hd : Nat.blt d X.n = true) (hs : S.contains k = true) (h : J X ((d, .agg vs.toArray) :: e) L (sw X.P (Holds X.Φ A) S ops R (k + 1) l)) :
    J X e L (sw X.P (Holds X.Φ A) S ops R k (⟨some d, .load t x, T, pos, af, none⟩ :: l)) := s_loadA hx (g := g) hn (fun j v hj => by simpa using hj) hd hs h
theorem s_loadBy {t : TypeId} {x : Operand} {b off : Nat} {v : Value} [ta : TAgg X.P t false] (hx : ev e x = some (.pointer (some ⟨b, off, none⟩))) (hv : ∀ w, Holds X.Φ A w → w.cell? ⟨b, off, none⟩ = some v) (hd : Nat.blt d X.n = true) (hs : S.contains k = true)
    (h : J X ((d, v) :: e) L (sw X.P (Holds X.Φ A) S ops R (k + 1) l)) : J X e L (sw X.P (Holds X.Φ A) S ops R k (⟨some d, .load t x, T, pos, af, none⟩ :: l)) :=
  r_stable rfl hs rfl hd (fun a w m hh => by
    have h1 := run_loadOne (P := X.P) (t := t) (a := ⟨b, off, none⟩) (hv w hh)
    simp only [execOp, m.ev hx, Instr.loadAt, Instr.sureAddr, pure_bind, Sem.run_bind, h1, Result.andThen_ok, Sem.run_pure]) h
theorem r_meqN {t u E K : TypeId} {x y : Operand} [tu : TUnd X.P t (.map K E)] (hx : ev e x = some (.map none)) (hy : ev e y = some (.map none)) (hd : Nat.blt d X.n = true)
    (h : J X ((d, .bool true) :: e) L (sw X.P (Holds X.Φ A) S ops R (k + 1) l)) : J X e L (sw X.P (Holds X.Φ A) S ops R k (⟨some d, .binOp .eql t x y u, T, pos, af, none⟩ :: l)) := r_meq hx hy hd h
theorem r_mneN {t u E K : TypeId} {x y : Operand} [tu : TUnd X.P t (.map K E)] (hx : ev e x = some (.map none)) (hy : ev e y = some (.map none)) (hd : Nat.blt d X.n = true)
    (h : J X ((d, .bool false) :: e) L (sw X.P (Holds X.Φ A) S ops R (k + 1) l)) : J X e L (sw X.P (Holds X.Φ A) S ops R k (⟨some d, .binOp .neq t x y u, T, pos, af, none⟩ :: l)) := r_mne hx hy hd h
theorem r_indexV {t E : TypeId} {x y : Operand} {N : Nat} {ki : IntKind} {i : Nat} {cs : Array Value} {v : Value} [tu : TUnd X.P t (.array N E)] [ta : TAgg X.P E false] [ts : TSize X.P E 1] (hx : ev e x = some (.agg cs)) (hy : ev e y = some (.int ki (i : Int))) (hi : i < N) (hv : cs[i]? = some v) (hd : Nat.blt d X.n = true)
    (h : J X ((d, v) :: e) L (sw X.P (Holds X.Φ A) S ops R (k + 1) l)) : J X e L (sw X.P (Holds X.Φ A) S ops R k (⟨some d, .index t x y, T, pos, af, none⟩ :: l)) :=
  r_pure rfl (fun a m w => by
    have h0 : (0 : Int) ≤ (i : Int) ∧ (i : Int) < (N : Int) := ⟨by omega, by omega⟩
    have h1 : (Instr.index t (.agg cs) (.int ki (i : Int))).run X.P w = .ok v w := by
      simp only [Instr.index, asIntOf, pure_bind, Sem.run_bind, tu.run, Result.andThen_ok, h0, and_self, if_true, ts.run, Int.toNat_natCast, Nat.mul_one, part, ta.run, Bool.false_eq_true, if_false, hv, Sem.run_pure]
    simp only [execOp, m.ev hx, m.ev hy, Sem.run_bind, h1, Result.andThen_ok, Sem.run_pure]) hd h
end
section
variable {X : Cx} {e : Env} {L L1 F : List Assn} {A : List Assn} {S : List Nat} {ops : Array Oper} {k : Nat} {l : List Oper} {R : Act → World → Prop} {G : Act → World → Prop}
variable {d : Nat} {T : TypeId} {pos : String} {af : Array Edge}
end
end Go.Proofs.YtcnpkmdooekmgaaGreatDoor.Sl
namespace Go.Proofs.YtcnpkmdooekmgaaGreatDoor.Sl
section
variable {ro : Option Nat} {P : Program} {C : World → Prop} {S : List Nat} {ops : Array Oper}
/-- may p stand ahead of q in a list of what is left? -/
def mayAhead (S : List Nat) (ops : Array Oper) (ex : Nat × Nat) (p q : Nat × Oper) : Bool :=
  ((Region.before ops).getD q.1 0).testBit p.1 || (p.2.apart ops q.2 && compat (cls S p.1 p.2) (cls S q.1 q.2) && !exm S p.1 && !exm S q.1) || (Nat.beq p.1 ex.1 && Nat.beq q.1 ex.2)
def okOrd (S : List Nat) (ops : Array Oper) (ex : Nat × Nat) : List (Nat × Oper) → Bool
  | [] => true
  | p :: l => l.all (mayAhead S ops ex p) && okOrd S ops ex l
structure Left2 (ops : Array Oper) (listed : Array Bool) (l : List (Nat × Oper)) : Prop where
  size : listed.size = ops.size
  mem : ∀ p, p ∈ l ↔ ops[p.1]? = some p.2 ∧ listed.getD p.1 true = false
  nd : (l.map Prod.fst).Nodup
  down : ∀ (j : Nat) (o : Oper), ops[j]? = some o → listed.getD j false = true → ∀ e ∈ o.after, Region.binds .any e = true → listed.getD e.on false = true
theorem okOrd_mid {ex : Nat × Nat} {m : Nat × Oper} {post : List (Nat × Oper)} : ∀ {pre : List (Nat × Oper)}, okOrd S ops ex (pre ++ m :: post) = true → (∀ p ∈ pre, mayAhead S ops ex p m = true) ∧ (∀ q ∈ post, mayAhead S ops ex m q = true) ∧ okOrd S ops ex (pre ++ post) = true
  | [], h => by
    simp only [List.nil_append, okOrd, Bool.and_eq_true, List.all_eq_true] at h
    exact ⟨(fun p hp => by cases hp), h.1, h.2⟩
  | p :: pre, h => by
    simp only [List.cons_append, okOrd, Bool.and_eq_true, List.all_eq_true] at h
    obtain ⟨h1, h2, h3⟩ := okOrd_mid h.2
    refine ⟨fun q hq => ?_, h2, ?_⟩
    · rcases List.mem_cons.1 hq with rfl | hq
      · exact h.1 m (by simp)
      · exact h1 q hq
    · simp only [List.cons_append, okOrd, Bool.and_eq_true, List.all_eq_true]
      exact ⟨fun q hq => h.1 q (by rcases List.mem_append.1 hq with hq | hq <;> simp [hq]), h3⟩
theorem left2_erase {listed : Array Bool} {pre post : List (Nat × Oper)} {j : Nat} {oj : Oper} (hL : Left2 ops listed (pre ++ (j, oj) :: post)) (hoj : ops[j]? = some oj) (hall : ∀ e ∈ oj.after, Region.binds .any e = true → listed.getD e.on false = true) :
    Left2 ops (listed.setIfInBounds j true) (pre ++ post) := by
  have hmj := (hL.mem (j, oj)).1 (by simp)
  have hjs : j < listed.size := by rw [hL.size]; exact (Array.getElem?_eq_some_iff.1 hoj).1
  have hnd := hL.nd
  rw [List.map_append, List.map_cons] at hnd
  have hn := List.nodup_append.1 hnd
  have hn2 := List.nodup_cons.1 hn.2.1
  refine ⟨by simp [hL.size], fun p => ?_, hL.nd.sublist (List.Sublist.map _ (List.Sublist.append (List.Sublist.refl _) (List.sublist_cons_self _ _))), fun k o hk hlk e he hb => ?_⟩
  · constructor
    · intro hp
      have hpm := (hL.mem p).1 (by rcases List.mem_append.1 hp with h1 | h1 <;> simp [h1])
      have hne : j ≠ p.1 := fun e => by
        rcases List.mem_append.1 hp with h1 | h1
        · exact hn.2.2 p.1 (List.mem_map.2 ⟨p, h1, rfl⟩) j (by simp) e.symm
        · exact hn2.1 (e ▸ List.mem_map.2 ⟨p, h1, rfl⟩)
      exact ⟨hpm.1, by rw [getD_set_ne true hne]; exact hpm.2⟩
    · rintro ⟨h1, h2⟩
      have hne : j ≠ p.1 := fun e => by subst e; simp [hjs] at h2
      rw [getD_set_ne true hne] at h2
      have := (hL.mem p).2 ⟨h1, h2⟩
      rcases List.mem_append.1 this with h3 | h3
      · simp [h3]
      · rcases List.mem_cons.1 h3 with h4 | h4
        · exact absurd (by rw [h4]) hne
        · simp [h4]
  · by_cases hkj : j = k
    · subst hkj
      rw [hoj] at hk
      obtain rfl := Option.some.inj hk
      exact getD_set_true (hall e he hb)
    · rw [getD_set_ne false hkj] at hlk
      exact getD_set_true (hL.down k o hk hlk e he hb)
theorem unlisted_before {listed : Array Bool} (down : ∀ (j : Nat) (o : Oper), ops[j]? = some o → listed.getD j false = true → ∀ e ∈ o.after, Region.binds .any e = true → listed.getD e.on false = true)
    {j : Nat} {oj : Oper} (hoj : ops[j]? = some oj) (hall : ∀ e ∈ oj.after, Region.binds .any e = true → listed.getD e.on false = true) {i : Nat} (hi : listed.getD i true = false) : ((Region.before ops).getD j 0).testBit i = false := by
  cases hb : ((Region.before ops).getD j 0).testBit i with
  | false => rfl
  | true =>
    have := false_of_true (closed down (j + 1) j (by omega) oj hoj hall i hb)
    rw [hi] at this; cases this
/-- the first step out of a list of what is left. -/
theorem step2 {Q : Act → World → Prop} {ex : Nat × Nat} {listed : Array Bool} {pre post : List (Nat × Oper)} {j : Nat} {oj : Oper} {a : Act} {w : World} (hsel : Region.noSelect ops = true) (hL : Left2 ops listed (pre ++ (j, oj) :: post)) (hok : okOrd S ops ex (pre ++ (j, oj) :: post) = true)
    (hoj : ops[j]? = some oj) (hall : ∀ e ∈ oj.after, Region.binds .any e = true → listed.getD e.on false = true) (hex : ∀ p ∈ pre, ¬ (p.1 = ex.1 ∧ j = ex.2)) (hC : C w) (h : swL P C S ops Q (pre ++ (j, oj) :: post) a w) :
    swOp P C S ops j oj (swL P C S ops Q (pre ++ post)) a w ∧ (exm S j = true → pre = []) := by
  have hns := Region.noSelect_spec (ops := ops) hsel
  obtain ⟨h1, _, _⟩ := okOrd_mid hok
  have hpre : ∀ p ∈ pre, p.2.apart ops oj = true ∧ (∀ cs b, p.2.op ≠ .select cs b) ∧ compat (cls S p.1 p.2) (cls S j oj) = true ∧ exm S p.1 = false ∧ exm S j = false := fun p hp => by
    have hpm := (hL.mem p).1 (by simp [hp])
    have hb := unlisted_before hL.down hoj hall hpm.2
    have := h1 p hp
    simp only [mayAhead, hb, Bool.false_or, Bool.or_eq_true, Bool.and_eq_true, Bool.not_eq_true'] at this
    rcases this with ⟨⟨⟨e1, e2⟩, e3⟩, e4⟩ | ⟨e1, e2⟩
    · exact ⟨e1, fun cs b => hns p.1 p.2 cs b hpm.1, e2, e3, e4⟩
    · exact absurd ⟨Nat.eq_of_beq_eq_true e1, Nat.eq_of_beq_eq_true e2⟩ (hex p hp)
  have hnil : exm S j = true → pre = [] := fun hx => by
    cases pre with
    | nil => rfl
    | cons p pre => have := (hpre p (by simp)).2.2.2.2; rw [hx] at this; cases this
  refine ⟨?_, hnil⟩
  cases hx : exm S j with
  | false => exact front (fun cs b => hns j oj cs b hoj) hx pre (fun p hp => ⟨(hpre p hp).1, (hpre p hp).2.1, (hpre p hp).2.2.1, (hpre p hp).2.2.2.1⟩) hC h
  | true =>
    have := hnil hx
    subst this
    exact h
/-- what is exempt stands last. -/
theorem post_nil {listed : Array Bool} {ex : Nat × Nat} {pre post : List (Nat × Oper)} {j : Nat} {oj : Oper} (hck : exck S ops = true) (hL : Left2 ops listed (pre ++ (j, oj) :: post)) (hoj : ops[j]? = some oj) (hall : ∀ e ∈ oj.after, Region.binds .any e = true → listed.getD e.on false = true)
    (hx : exm S j = true) : post = [] := by
  cases post with
  | nil => rfl
  | cons q post =>
    exfalso
    have hqm := (hL.mem q).1 (by simp)
    have hjs := (Array.getElem?_eq_some_iff.1 hoj).1
    have hqs := (Array.getElem?_eq_some_iff.1 hqm.1).1
    obtain ⟨h1, h2⟩ := exck_spec hck hjs hx
    have hnd := hL.nd
    rw [List.map_append, List.map_cons] at hnd
    have hn2 := List.nodup_cons.1 (List.nodup_append.1 hnd).2.1
    have hne : q.1 ≠ j := fun e => hn2.1 (e ▸ by simp)
    have := unlisted_before hL.down hoj hall hqm.2
    rw [h2 q.1 (by omega)] at this
    cases this
theorem ready2 {listed : Array Bool} {l : List (Nat × Oper)} (hedge : ∀ (j : Nat) (o : Oper), ops[j]? = some o → ∀ e ∈ o.after, Region.binds .any e = true → e.on < j) (hL : Left2 ops listed l) (hne : l ≠ []) : Region.ready .any ops listed ≠ [] := by
  -- the least index that is left is ready
  have key : ∀ (n : Nat) (p : Nat × Oper), p.1 ≤ n → p ∈ l → ∃ q : Nat × Oper, q ∈ l ∧ ∀ e ∈ q.2.after, Region.binds .any e = true → listed.getD e.on false = true := by
    intro n
    induction n with
    | zero =>
      intro p hp hm
      refine ⟨p, hm, fun e he hb => ?_⟩
      have := hedge p.1 p.2 ((hL.mem p).1 hm).1 e he hb
      omega
    | succ n ih =>
      intro p hp hm
      by_cases h : ∀ e ∈ p.2.after, Region.binds .any e = true → listed.getD e.on false = true
      · exact ⟨p, hm, h⟩
      · rcases Classical.not_forall.1 h with ⟨e, h⟩
        rcases Classical.not_imp.1 h with ⟨he, h⟩
        rcases Classical.not_imp.1 h with ⟨hb, h⟩
        have hlt := hedge p.1 p.2 ((hL.mem p).1 hm).1 e he hb
        have hps := (Array.getElem?_eq_some_iff.1 ((hL.mem p).1 hm).1).1
        have hel : e.on < listed.size := by rw [hL.size]; omega
        have hf : listed.getD e.on true = false := by
          simp [hel] at h ⊢; exact h
        exact ih (e.on, ops[e.on]'(by omega)) (by dsimp only; omega) ((hL.mem _).2 ⟨Array.getElem?_eq_getElem (by omega), hf⟩)
  cases l with
  | nil => exact absurd rfl hne
  | cons p l =>
    obtain ⟨q, hq, hr⟩ := key p.1 p (Nat.le_refl _) (by simp)
    intro h0
    have : q.1 ∈ Region.ready .any ops listed := mem_ready.2 ⟨((hL.mem q).1 hq).2, q.2, ((hL.mem q).1 hq).1, hr⟩
    rw [h0] at this; cases this
theorem wpAny_one {Q : Exit → Act → World → Prop} {ex : Nat × Nat} (hsel : Region.noSelect ops = true) (hck : exck S ops = true) (hedge : ∀ (j : Nat) (o : Oper), ops[j]? = some o → ∀ e ∈ o.after, Region.binds .any e = true → e.on < j) :
    ∀ (fuel : Nat) (listed : Array Bool) (l : List (Nat × Oper)) (a : Act) (w : World), l.length = fuel → Left2 ops listed l → okOrd S ops ex l = true → (listed.getD ex.1 true = true ∨ listed.getD ex.2 true = true) → (l ≠ [] → C w) →
      swL P C S ops (fun a w => Q .normal a w) l a w → wpAnyIn (fen ro) 0 P .any ops Q fuel listed a w := by
  intro fuel
  induction fuel with
  | zero =>
    intro listed l a w hlen hL hok hex hC h
    have : l = [] := List.length_eq_zero_iff.1 hlen
    subst this
    refine ⟨?_, h⟩
    rw [List.eq_nil_iff_forall_not_mem]
    intro j hj
    obtain ⟨h0, o, ho, _⟩ := mem_ready.1 hj
    have := (hL.mem (j, o)).2 ⟨ho, h0⟩
    simp at this
  | succ fuel ih =>
    intro listed l a w hlen hL hok hex hC h
    have hne : l ≠ [] := fun e => by subst e; simp at hlen
    refine ⟨fun h0 => absurd h0 (ready2 hedge hL hne), fun j hj => ?_⟩
    obtain ⟨hun, oj, hoj, hall⟩ := mem_ready.1 hj
    obtain ⟨pre, post, rfl⟩ := List.append_of_mem ((hL.mem (j, oj)).2 ⟨hoj, hun⟩)
    have hexp : ∀ p ∈ pre, ¬ (p.1 = ex.1 ∧ j = ex.2) := fun p hp ⟨e1, e2⟩ => by
      have hpm := (hL.mem p).1 (by simp [hp])
      rcases hex with hx | hx
      · rw [← e1, hpm.2] at hx; cases hx
      · rw [← e2, hun] at hx; cases hx
    obtain ⟨hf, hnil⟩ := step2 hsel hL hok hoj hall hexp (hC hne) h
    refine wpOpIn_mono (fun a' w' ⟨hC', hk⟩ => ih (listed.setIfInBounds j true) (pre ++ post) a' w' (by simp at hlen ⊢; omega) (left2_erase hL hoj hall) (okOrd_mid hok).2.2 ?_ (fun hne2 => hC'.resolve_left fun hx => hne2 (by rw [hnil hx, post_nil (ex := ex) hck hL hoj hall hx]; rfl)) hk) (wpOp_of_swOp ro hoj (hC hne) hf)
    rcases hex with hx | hx
    · left
      by_cases e : j = ex.1
      · subst e; rw [hun] at hx; cases hx
      · rw [getD_set_ne true e]; exact hx
    · right
      by_cases e : j = ex.2
      · subst e; rw [hun] at hx; cases hx
      · rw [getD_set_ne true e]; exact hx
theorem swOp_and {i : Nat} {o : Oper} {K K' : Act → World → Prop} {a : Act} {w : World} (hn : cls S i o ≠ .write ∨ Region.wanted o (yielded ops a.tmps) = false) (hC : C w) (h : swOp P C S ops i o K a w) (h' : swOp P C S ops i o K' a w) :
    swOp P C S ops i o (fun a w => K a w ∧ K' a w) a w := by
  rw [swOp_Y hn] at h h' ⊢
  obtain ⟨v, hv, hk⟩ := h
  obtain ⟨u, hu, hk'⟩ := h'
  have : v = u := by
    unfold Y at hv hu
    rcases hv with ⟨hw, hv⟩ | ⟨hw, rfl⟩
    · rcases hu with ⟨_, hu⟩ | ⟨hw', _⟩
      · cases hc : cls S i o <;> simp only [hc] at hv hu
        · have e1 := hv w hC
          rw [hu w hC] at e1
          simpa using e1.symm
        · rw [hu] at hv
          simpa using hv.symm
      · rw [hw] at hw'; cases hw'
    · rcases hu with ⟨hw', _⟩ | ⟨_, e⟩
      · rw [hw] at hw'; cases hw'
      · exact e.symm
  subst this
  exact ⟨v, hv, hk, hk'⟩
theorem wpAny_two {Q : Exit → Act → World → Prop} {i j : Nat} (hij : i ≠ j) (hsel : Region.noSelect ops = true) (hck : exck S ops = true) (hedge : ∀ (j : Nat) (o : Oper), ops[j]? = some o → ∀ e ∈ o.after, Region.binds .any e = true → e.on < j)
    (hwr : ∀ (m : Nat) (o : Oper), ops[m]? = some o → cls S m o = .write → m = i ∨ m = j ∨ ((Region.before ops).getD m 0).testBit i = true) :
    ∀ (fuel : Nat) (listed : Array Bool) (lA lB : List (Nat × Oper)) (a : Act) (w : World), lA.length = fuel → lB.length = fuel → Left2 ops listed lA → Left2 ops listed lB → okOrd S ops (i, j) lA = true → okOrd S ops (j, i) lB = true → (lA ≠ [] → C w) →
      (listed.getD i true = false ∧ listed.getD j true = false) →
      swL P C S ops (fun a w => Q .normal a w) lA a w → swL P C S ops (fun a w => Q .normal a w) lB a w → wpAnyIn (fen ro) 0 P .any ops Q fuel listed a w := by
  intro fuel
  induction fuel with
  | zero =>
    intro listed lA lB a w hlA hlB hLA hLB hoA hoB hC hu hA hB
    have : lA = [] := List.length_eq_zero_iff.1 hlA
    subst this
    refine ⟨?_, hA⟩
    rw [List.eq_nil_iff_forall_not_mem]
    intro j hj
    obtain ⟨h0, o, ho, _⟩ := mem_ready.1 hj
    have := (hLA.mem (j, o)).2 ⟨ho, h0⟩
    simp at this
  | succ fuel ih =>
    intro listed lA lB a w hlA hlB hLA hLB hoA hoB hC hu hA hB
    have hne : lA ≠ [] := fun e => by subst e; simp at hlA
    refine ⟨fun h0 => absurd h0 (ready2 hedge hLA hne), fun m hm => ?_⟩
    obtain ⟨hun, om, hom, hall⟩ := mem_ready.1 hm
    obtain ⟨preA, postA, rfl⟩ := List.append_of_mem ((hLA.mem (m, om)).2 ⟨hom, hun⟩)
    obtain ⟨preB, postB, rfl⟩ := List.append_of_mem ((hLB.mem (m, om)).2 ⟨hom, hun⟩)
    have hsz : m < listed.size := by rw [hLA.size]; exact (Array.getElem?_eq_some_iff.1 hom).1
    have hset : (listed.setIfInBounds m true).getD m true = true := by simp [hsz]
    by_cases hmj : m = j
    · -- the second is first: by the second order
      subst hmj
      obtain ⟨hf, hnil⟩ := step2 hsel hLB hoB hom hall (fun p _ ⟨_, e2⟩ => hij e2.symm) (hC hne) hB
      exact wpOpIn_mono (fun a' w' ⟨hC', hk⟩ => wpAny_one (ex := (m, i)) hsel hck hedge fuel (listed.setIfInBounds m true) (preB ++ postB) a' w' (by simp at hlB ⊢; omega) (left2_erase hLB hom hall) (okOrd_mid hoB).2.2 (.inl hset)
        (fun hne2 => hC'.resolve_left fun hx => hne2 (by rw [hnil hx, post_nil (ex := (m, i)) hck hLB hom hall hx]; rfl)) hk) (wpOp_of_swOp ro hom (hC hne) hf)
    · obtain ⟨hfA, hnilA⟩ := step2 hsel hLA hoA hom hall (fun p _ ⟨_, e2⟩ => hmj e2) (hC hne) hA
      by_cases hmi : m = i
      · subst hmi
        exact wpOpIn_mono (fun a' w' ⟨hC', hk⟩ => wpAny_one (ex := (m, j)) hsel hck hedge fuel (listed.setIfInBounds m true) (preA ++ postA) a' w' (by simp at hlA ⊢; omega) (left2_erase hLA hom hall) (okOrd_mid hoA).2.2 (.inl hset)
          (fun hne2 => hC'.resolve_left fun hx => hne2 (by rw [hnilA hx, post_nil (ex := (m, j)) hck hLA hom hall hx]; rfl)) hk) (wpOp_of_swOp ro hom (hC hne) hfA)
      · obtain ⟨hfB, hnilB⟩ := step2 hsel hLB hoB hom hall (fun p _ ⟨_, e2⟩ => hmi e2) (hC hne) hB
        have hnw : cls S m om ≠ .write := fun hw => by
          rcases hwr m om hom hw with h | h | h
          · exact hmi h
          · exact hmj h
          · have := unlisted_before hLA.down hom hall hu.1
            rw [h] at this; cases this
        have hboth := swOp_and (.inl hnw) (hC hne) hfA hfB
        refine wpOpIn_mono (fun a' w' ⟨hC', hkA, hkB⟩ => ih (listed.setIfInBounds m true) (preA ++ postA) (preB ++ postB) a' w' (by simp at hlA ⊢; omega) (by simp at hlB ⊢; omega) (left2_erase hLA hom hall) (left2_erase hLB hom hall) (okOrd_mid hoA).2.2 (okOrd_mid hoB).2.2
          (fun hne2 => hC'.resolve_left fun hx => hne2 (by rw [hnilA hx, post_nil (ex := (i, j)) hck hLA hom hall hx]; rfl)) ?_ hkA hkB) (wpOp_of_swOp ro (Q := Q) hom (hC hne) hboth)
        exact ⟨by rw [getD_set_ne true hmi]; exact hu.1, by rw [getD_set_ne true hmj]; exact hu.2⟩
/-- operations by a list of their numbers. -/
def permL (ops : Array Oper) : List Nat → List (Nat × Oper)
  | [] => []
  | k :: ks => match ops[k]? with
    | some o => (k, o) :: permL ops ks
    | none => permL ops ks
def chk2 (S : List Nat) (ops : Array Oper) (i j : Nat) (perm : List Nat) : Bool :=
  Region.noSelect ops && exck S ops && !Nat.beq i j &&
  ((List.range ops.size).all fun k => match ops[k]? with
    | some o => o.after.all fun e => !Region.binds .any e || decide (e.on < k)
    | none => true) &&
  ((List.range ops.size).all fun k => match ops[k]? with
    | some o => match cls S k o with
      | .write => Nat.beq k i || Nat.beq k j || ((Region.before ops).getD k 0).testBit i
      | _ => true
    | none => true) &&
  okOrd S ops (i, j) (num 0 ops.toList) && okOrd S ops (j, i) (permL ops perm) && Nat.blt i ops.size && Nat.blt j ops.size &&
  Nat.beq perm.length ops.size && (perm.all fun k => Nat.blt k ops.size) && ((List.range ops.size).all fun k => perm.contains k)
theorem permL_fst (ops : Array Oper) : ∀ (perm : List Nat), (∀ k ∈ perm, k < ops.size) → (permL ops perm).map Prod.fst = perm
  | [], _ => rfl
  | k :: ks, h => by
    have hk : k < ops.size := h k (by simp)
    simp only [permL, Array.getElem?_eq_getElem hk, List.map_cons]
    rw [permL_fst ops ks (fun q hq => h q (by simp [hq]))]
theorem permL_mem (ops : Array Oper) : ∀ (perm : List Nat) (p : Nat × Oper), p ∈ permL ops perm ↔ p.1 ∈ perm ∧ ops[p.1]? = some p.2
  | [], p => by simp [permL]
  | k :: ks, p => by
    simp only [permL]
    cases ho : ops[k]? with
    | none =>
      simp only [permL_mem ops ks p, List.mem_cons]
      constructor
      · exact fun ⟨h1, h2⟩ => ⟨.inr h1, h2⟩
      · rintro ⟨rfl | h1, h2⟩
        · rw [ho] at h2; cases h2
        · exact ⟨h1, h2⟩
    | some o =>
      simp only [List.mem_cons, permL_mem ops ks p]
      constructor
      · rintro (rfl | ⟨h1, h2⟩)
        · exact ⟨.inl rfl, ho⟩
        · exact ⟨.inr h1, h2⟩
      · rintro ⟨h1 | h1, h2⟩
        · left
          obtain ⟨p1, p2⟩ := p
          simp only at h1 h2
          subst h1
          rw [ho] at h2; cases h2; rfl
        · exact .inr ⟨h1, h2⟩
theorem nodup_of_cover : ∀ (l : List Nat), (∀ k, k < l.length → k ∈ l) → l.Nodup := by
  intro l h
  -- a list of n numbers that has all below n has none twice
  have key : ∀ (n : Nat) (l : List Nat), l.length ≤ n → (∀ k, k < n → k ∈ l) → l.Nodup := by
    intro n
    induction n with
    | zero => intro l hl _; rw [List.length_eq_zero_iff.1 (by omega : l.length = 0)]; exact List.nodup_nil
    | succ n ih =>
      intro l hl hc
      obtain ⟨l1, l2, rfl⟩ := List.append_of_mem (hc n (by omega))
      have h1 := ih (l1 ++ l2) (by simp at hl ⊢; omega) (fun k hk => by
        have := hc k (by omega)
        simp only [List.mem_append, List.mem_cons] at this ⊢
        rcases this with h | h | h
        · exact .inl h
        · omega
        · exact .inr h)
      have hlen : (l1 ++ l2).length ≤ n := by simp at hl ⊢; omega
      have hn : n ∉ l1 ++ l2 := fun hm => by
        -- then l1 ++ l2 has n + 1 different numbers
        have h2 : (List.range (n + 1)).length ≤ (l1 ++ l2).length := by
          have sub : ∀ (a b : List Nat), a.Nodup → (∀ x ∈ a, x ∈ b) → a.length ≤ b.length := by
            intro a
            induction a with
            | nil => intro b _ _; exact Nat.zero_le _
            | cons x a iha =>
              intro b hn hs
              obtain ⟨b1, b2, rfl⟩ := List.append_of_mem (hs x (by simp))
              have hx := List.nodup_cons.1 hn
              have := iha (b1 ++ b2) hx.2 (fun y hy => by
                have h1 := hs y (by simp [hy])
                have h2 : y ≠ x := fun e => hx.1 (e ▸ hy)
                simp only [List.mem_append, List.mem_cons] at h1 ⊢
                rcases h1 with h1 | h1 | h1
                · exact .inl h1
                · exact absurd h1 h2
                · exact .inr h1)
              simp only [List.length_append, List.length_cons] at this ⊢
              omega
          refine sub _ _ List.nodup_range (fun x hx => ?_)
          rw [List.mem_range] at hx
          by_cases hxn : x = n
          · rw [hxn]; exact hm
          · have := hc x (by omega)
            simp only [List.mem_append, List.mem_cons] at this ⊢
            rcases this with h | h | h
            · exact .inl h
            · exact absurd h hxn
            · exact .inr h
        simp only [List.length_range] at h2
        omega
      rw [List.nodup_append] at h1 ⊢
      refine ⟨h1.1, List.nodup_cons.2 ⟨fun hm => hn (by simp [hm]), h1.2.1⟩, fun a ha b hb => ?_⟩
      rcases List.mem_cons.1 hb with rfl | hb
      · exact fun e => hn (by simp [← e, ha])
      · exact h1.2.2 a ha b hb
  exact key l.length l (Nat.le_refl _) h
theorem wp_region_draw2 {id i j : Nat} {perm : List Nat} {Q : Exit → Act → World → Prop} {a : Act} {w : World} (hm : P.follows .mixedOrders = true) (hchk : chk2 S ops i j perm = true)
    (hC : C { w with drawn := w.drawn + 1 }) (hA : sw P C S ops (fun a w => Q .normal a w) 0 ops.toList a { w with drawn := w.drawn + 1 })
    (hB : swL P C S ops (fun a w => Q .normal a w) (permL ops perm) a { w with drawn := w.drawn + 1 }) : (Code.region id ops true).wpIn (fen ro) 0 P Q a w := by
  rw [sw_num] at hA
  simp only [chk2, Bool.and_eq_true, Bool.not_eq_true', List.all_eq_true, List.mem_range] at hchk
  obtain ⟨⟨⟨⟨⟨⟨⟨⟨⟨⟨⟨c1, c2⟩, c3⟩, c4⟩, c5⟩, c6⟩, c7⟩, c8⟩, c9⟩, c10⟩, c11⟩, c12⟩ := hchk
  have hlen : (num 0 ops.toList).length = ops.size := by rw [num_length]; simp
  have hpl : perm.length = ops.size := Nat.eq_of_beq_eq_true c10
  have hplt : ∀ k ∈ perm, k < ops.size := fun k hk => by have := c11 k hk; simpa [Nat.blt_eq] using this
  have hpc : ∀ k, k < ops.size → k ∈ perm := fun k hk => by have := c12 k hk; simpa using this
  have hnd : perm.Nodup := nodup_of_cover perm (fun k hk => hpc k (by omega))
  have hi : i < ops.size := by simpa [Nat.blt_eq] using c8
  have hj : j < ops.size := by simpa [Nat.blt_eq] using c9
  have hun : ∀ k, k < ops.size → (Array.replicate ops.size false).getD k true = false := fun k hk => by simp [hk]
  refine wpIn_region_any hm (wpAny_two (i := i) (j := j) (fun e => by subst e; simp at c3) c1 c2 (fun k o ho e he hb => ?_) (fun k o ho hw => ?_) ops.size _ (num 0 ops.toList) (permL ops perm) a _ hlen ?_ ?_ ?_ c6 c7 (fun _ => hC) ⟨hun i hi, hun j hj⟩ hA hB)
  · have h1 := c4 k (Array.getElem?_eq_some_iff.1 ho).1
    rw [ho] at h1
    have h2 := Array.all_eq_true_iff_forall_mem.1 h1 e he
    simpa [hb] using h2
  · have h1 := c5 k (Array.getElem?_eq_some_iff.1 ho).1
    rw [ho] at h1
    simp only [hw, Bool.or_eq_true] at h1
    rcases h1 with (h1 | h1) | h1
    · exact .inl (Nat.eq_of_beq_eq_true h1)
    · exact .inr (.inl (Nat.eq_of_beq_eq_true h1))
    · exact .inr (.inr h1)
  · rw [← List.length_map (f := Prod.fst), permL_fst ops perm hplt]; exact hpl
  · refine ⟨by simp, fun p => ?_, ?_, fun k o ho hl => ?_⟩
    · rw [num_mem]
      simp only [Nat.zero_le, Nat.sub_zero, true_and, Array.getElem?_toList]
      constructor
      · intro hp
        exact ⟨hp, hun _ (Array.getElem?_eq_some_iff.1 hp).1⟩
      · exact fun hp => hp.1
    · have := num_up ops.toList 0
      have h2 : ((num 0 ops.toList).map Prod.fst).Pairwise (· < ·) := List.pairwise_map.2 this
      exact h2.imp (fun h => Nat.ne_of_lt h)
    · have hlt := (Array.getElem?_eq_some_iff.1 ho).1
      simp [hlt] at hl
  · refine ⟨by simp, fun p => ?_, by rw [permL_fst ops perm hplt]; exact hnd, fun k o ho hl => ?_⟩
    · rw [permL_mem]
      constructor
      · exact fun ⟨_, h2⟩ => ⟨h2, hun _ (Array.getElem?_eq_some_iff.1 h2).1⟩
      · exact fun ⟨h1, _⟩ => ⟨hpc _ (Array.getElem?_eq_some_iff.1 h1).1, h1⟩
    · have hlt := (Array.getElem?_eq_some_iff.1 ho).1
      simp [hlt] at hl
end
section
variable {X : Cx} {e : Env} {L : List Assn} {Q : Exit → Act → World → Prop} {l : List Oper}
/-- a region with two operations that don't meet: i ahead of j in the text; 'perm' has j ahead of i. -/
theorem t_draw2 (A : List Assn) (S : List Nat) (i j : Nat) (perm : List Nat) {id : Nat} (hm : X.P.follows .mixedOrders = true) (hchk : chk2 S l.toArray i j perm = true) [st : Stay A L]
    (hA : J X e L (sw X.P (Holds X.Φ A) S l.toArray (Q .normal) 0 l)) (hB : J X e L (swL X.P (Holds X.Φ A) S l.toArray (Q .normal) (permL l.toArray perm))) : J X e L (cw X.P (Code.region id l.toArray true) Q) := fun a w m hh _ro _ =>
  have hh' : Holds X.Φ L { w with drawn := w.drawn + 1 } := hh.draws rfl rfl rfl rfl
  wp_region_draw2 (C := Holds X.Φ A) (S := S) hm hchk (hh'.ent st.ent) (hA a _ m hh') (hB a _ m hh')
theorem t_perm {C : World → Prop} {S : List Nat} {ops : Array Oper} {R : Act → World → Prop} {k : Nat} {ks : List Nat} {o : Oper} (ho : ops[k]? = some o) (h : J X e L (sw X.P C S ops (swL X.P C S ops R (permL ops ks)) k [o])) : J X e L (swL X.P C S ops R (permL ops (k :: ks))) := by
  simp only [permL, ho]
  exact h
theorem t_permE {C : World → Prop} {S : List Nat} {ops : Array Oper} {R : Act → World → Prop} (h : J X e L R) : J X e L (swL X.P C S ops R (permL ops [])) := h
end
end Go.Proofs.YtcnpkmdooekmgaaGreatDoor.Sl
namespace Go.Proofs.YtcnpkmdooekmgaaGreatDoor.Sl
class AppL (A B : List Assn) (C : outParam (List Assn)) : Prop where
  eq : A ++ B = C
instance (priority := 1100) AppL.nil (B : List Assn) : AppL [] B B := ⟨rfl⟩
instance (priority := 1100) AppL.cons (X : Assn) (A B C : List Assn) [h : AppL A B C] : AppL (X :: A) B (X :: C) := ⟨by rw [List.cons_append, h.eq]⟩
instance (priority := 100) AppL.any (A B : List Assn) : AppL A B (A ++ B) := ⟨rfl⟩
class AEnv (l : List Value) (e : outParam Env) : Prop where
  eq : argEnv 0 l = e
instance : AEnv [] [] := ⟨rfl⟩
instance (a : Value) : AEnv [a] [(0, a)] := ⟨rfl⟩
instance (a b : Value) : AEnv [a, b] [(0, a), (1, b)] := ⟨rfl⟩
instance (a b c : Value) : AEnv [a, b, c] [(0, a), (1, b), (2, c)] := ⟨rfl⟩
instance (a b c d : Value) : AEnv [a, b, c, d] [(0, a), (1, b), (2, c), (3, d)] := ⟨rfl⟩
instance (a b c d f : Value) : AEnv [a, b, c, d, f] [(0, a), (1, b), (2, c), (3, d), (4, f)] := ⟨rfl⟩
/-- a function by its body. -/
theorem fo {P : Program} {Φ : Base} {f : FuncId} {fn : Func} {c : Code} {n : Nat} {args : List Value} {Pre : List Assn} {α : Type} {q : α → Prop} {V : α → Value} {Post : α → List Assn} {E : Env} {C : List Assn → List Assn}
    [tb : TBody P f fn n] [ae : AEnv args E] [ap : ∀ F, AppL Pre F (C F)] (h : ∀ F, J ⟨P, Φ, n, []⟩ E (C F) (cw P c (bodyPost P fn (PostR Φ q V Post F))))
    (hb : fn.body = some c := by rfl) (hl : Nat.ble args.length n = true := by rfl) : Fn P Φ f args Pre q V Post :=
  fn_of hb hl (fun F => by rw [ae.eq, (ap F).eq]; exact h F)
section
variable {X : Cx} {e : Env} {L F : List Assn} {A : List Assn} {S : List Nat} {ops : Array Oper} {k : Nat} {l : List Oper} {R : Act → World → Prop} {G : Act → World → Prop} {Q : Exit → Act → World → Prop}
variable {d : Nat} {T : TypeId} {pos : String} {af : Array Edge}
/-- a call, one outcome. -/
theorem cl {f : FuncId} {as : List Operand} {ts : Array TypeId} {vs : List Value} {Pre C : List Assn}
    {V : Unit → Value} {q : Unit → Prop} {Post : Unit → List Assn} [TFn X.P f] (hc : Fn X.P X.Φ f vs Pre q V Post) [sp : Split Pre L F] [ap : AppL (Post ()) F C] [st : Stay A C]
    (h : J X ((d, V ()) :: e) C (sw X.P (Holds X.Φ A) S ops R (k + 1) l)) (hs : S.contains k = false := by rfl) (hd : Nat.blt d X.n = true := by rfl) (hvs : evL e as = some vs := by rfl) :
    J X e L (sw X.P (Holds X.Φ A) S ops R k (⟨some d, .call { callee := .value (.func f), args := as.toArray, argTypes := ts }, T, pos, af, none⟩ :: l)) :=
  r_call (st := fun _ => by rw [ap.eq]; exact st) hs (blt_some hd) hvs hc (fun _ _ => by rw [ap.eq]; exact h)
/-- a call, several outcomes. -/
theorem cx {f : FuncId} {as : List Operand} {ts : Array TypeId} {vs : List Value} {Pre : List Assn} {α : Type} {C : α → List Assn}
    {V : α → Value} {q : α → Prop} {Post : α → List Assn} [TFn X.P f] (hc : Fn X.P X.Φ f vs Pre q V Post) [sp : Split Pre L F] [ap : ∀ x, AppL (Post x) F (C x)] [st : ∀ x, Stay A (C x)]
    (h : ∀ x, q x → J X ((d, V x) :: e) (C x) (sw X.P (Holds X.Φ A) S ops R (k + 1) l)) (hs : S.contains k = false := by rfl) (hd : Nat.blt d X.n = true := by rfl) (hvs : evL e as = some vs := by rfl) :
    J X e L (sw X.P (Holds X.Φ A) S ops R k (⟨some d, .call { callee := .value (.func f), args := as.toArray, argTypes := ts }, T, pos, af, none⟩ :: l)) :=
  r_call (st := fun x => by rw [(ap x).eq]; exact st x) hs (blt_some hd) hvs hc (fun x hq => by rw [(ap x).eq]; exact h x hq)
/-- a new place. -/
theorem al {t : TypeId} {z : Value} [tz : TZero X.P t z] {cs : List Value} (h : ∀ b, J X ((d, .pointer (some ⟨b, 0, none⟩)) :: e) (pt b (.cells cs.toArray t (0, 0)) :: L) (sw X.P (Holds X.Φ A) S ops R (k + 1) l))
    [st : ∀ b, Stay A (pt b (.cells cs.toArray t (0, 0)) :: L)] (hz : z.cells = cs.toArray := by rfl) (hs : S.contains k = false := by rfl) (hd : Nat.blt d X.n = true := by rfl) :
    J X e L (sw X.P (Holds X.Φ A) S ops R k (⟨some d, .alloc t, T, pos, af, none⟩ :: l)) := r_alloc hz hs hd h
/-- a region that draws its order, where all that is known stays. -/
theorem dr (S : List Nat) {id : Nat} (hm : X.P.follows .mixedOrders = true) (h : J X e L (sw X.P (Holds X.Φ L) S l.toArray (Q .normal) 0 l)) (hchk : chk S l.toArray = true := by decide +kernel) :
    J X e L (cw X.P (Code.region id l.toArray true) Q) := t_draw L S hm hchk (st := ⟨Ent.refl _⟩) h
/- a function's end -/
theorem f0 {fn : Func} {α : Type} {q : α → Prop} {V : α → Value} {Post : α → List Assn} (x : α) [ft : Fits (Post x) F L] (hV : V x = .tuple #[] := by rfl) (hq : q x := by trivial) (hr : fn.results = #[] := by rfl) (hds : X.ds = [] := by rfl) :
    J X e L (bodyPost X.P fn (PostR X.Φ q V Post F) .ret) := j_fin (rs := []) hr .nil x hV hq hds
theorem f0' {fn : Func} {α : Type} {q : α → Prop} {V : α → Value} {Post : α → List Assn} (x : α) [ft : Fits (Post x) F L] (hV : V x = .tuple #[] := by rfl) (hq : q x := by trivial) (hr : fn.results = #[] := by rfl) (hds : X.ds = [] := by rfl) :
    J X e L (bodyPost X.P fn (PostR X.Φ q V Post F) .normal) := j_fin' (rs := []) hr .nil x hV hq hds
theorem f1 {fn : Func} {t : Nat} {v : Value} {α : Type} {q : α → Prop} {V : α → Value} {Post : α → List Assn} (x : α) [ft : Fits (Post x) F L] (hr : fn.results = #[.tmp t] := by rfl) (h : lk t e = some v := by rfl) (hV : V x = v := by rfl) (hq : q x := by trivial) (hds : X.ds = [] := by rfl) :
    J X e L (bodyPost X.P fn (PostR X.Φ q V Post F) .ret) := j_fin (rs := [.tmp t]) hr (.cons (rv_tmp h) .nil) x hV hq hds
theorem f2 {fn : Func} {t u : Nat} {v w : Value} {α : Type} {q : α → Prop} {V : α → Value} {Post : α → List Assn} (x : α) [ft : Fits (Post x) F L] (hr : fn.results = #[.tmp t, .tmp u] := by rfl) (h : lk t e = some v := by rfl) (h' : lk u e = some w := by rfl) (hV : V x = .tuple #[v, w] := by rfl) (hq : q x := by trivial) (hds : X.ds = [] := by rfl) :
    J X e L (bodyPost X.P fn (PostR X.Φ q V Post F) .ret) := j_fin (rs := [.tmp t, .tmp u]) hr (.cons (rv_tmp h) (.cons (rv_tmp h') .nil)) x hV hq hds
theorem f3 {fn : Func} {t u s : Nat} {v w y : Value} {α : Type} {q : α → Prop} {V : α → Value} {Post : α → List Assn} (x : α) [ft : Fits (Post x) F L] (hr : fn.results = #[.tmp t, .tmp u, .tmp s] := by rfl) (h : lk t e = some v := by rfl) (h' : lk u e = some w := by rfl) (h2 : lk s e = some y := by rfl) (hV : V x = .tuple #[v, w, y] := by rfl) (hq : q x := by trivial) (hds : X.ds = [] := by rfl) :
    J X e L (bodyPost X.P fn (PostR X.Φ q V Post F) .ret) := j_fin (rs := [.tmp t, .tmp u, .tmp s]) hr (.cons (rv_tmp h) (.cons (rv_tmp h') (.cons (rv_tmp h2) .nil))) x hV hq hds
end
/- keys of maps that are arrays of numbers -/
theorem check_ints {P : Program} {kt E : TypeId} {kj : IntKind} {N : Nat} {em : Bool} [tt : TUnd P kt (.array N E)] [tu : TUnd P E (.int kj)] [ta : TAgg P E false] [ts : TSize P E 1] (ns : List Int) (hn : ns.length = N) (d : Nat) (w : World) :
    (Instr.checkKey em (d + 2) kt (.agg (ns.map (Value.int kj)).toArray)).run P w = .ok () w := by
  rw [Instr.checkKey]
  simp only [Sem.run_bind, tt.run, Result.andThen_ok, Std.Legacy.Range.forIn_eq_forIn_range', Std.Legacy.Range.size, Nat.sub_zero, Nat.add_one_sub_one, Nat.div_one]
  have each : ∀ j ∈ List.range' 0 N, j < ns.length := by simp [hn]
  generalize List.range' 0 N = is at each
  induction is with
  | nil => simp
  | cons j is ih =>
    have hj := each j (by simp)
    have p1 : (part E (ns.map (Value.int kj)).toArray (j * 1)).run P w = .ok (.int kj ns[j]) w := by simp [part, ta.run, Sem.run_bind, hj, go_sem]
    simp only [List.forIn_cons, Sem.run_bind, ts.run, Result.andThen_ok, p1, check_int, Sem.run_pure]
    exact ih (fun y hy => each y (by simp [hy]))
theorem find_ints {P : Program} {kt : TypeId} {ok : Value → Prop} [te : TEq P kt ok] {k : Value} (hk : ok k) (w : World) : ∀ (es : List MapEntry) (i : Nat), (∀ e ∈ es, ok e.key) →
    ((Instr.findAsking kt k es i).run P w = .ok none w ∧ ∀ e ∈ es, e.key ≠ k) ∨ ∃ l1 e l2, (Instr.findAsking kt k es i).run P w = .ok (some (i + l1.length, e.val)) w ∧ es = l1 ++ e :: l2 ∧ e.key = k ∧ ∀ x ∈ l1, x.key ≠ k
  | [], _, _ => .inl ⟨by simp [Instr.findAsking, go_sem], fun e he => absurd he (List.not_mem_nil)⟩
  | e :: es, i, h => by
    obtain ⟨b, h1, h2⟩ := te.eq 9996 k e.key w hk (h e (by simp))
    have h1 : (Op.equal kt k e.key).run P w = .ok b w := by unfold Op.equal Op.maxDepth; exact h1
    cases b with
    | true => exact .inr ⟨[], e, es, by simp [Instr.findAsking, Sem.run_bind, h1, go_sem], rfl, (h2.1 rfl).symm, fun x hx => absurd hx (List.not_mem_nil)⟩
    | false =>
      have hne : e.key ≠ k := fun he => by have := h2.2 he.symm; cases this
      have step : (Instr.findAsking kt k (e :: es) i).run P w = (Instr.findAsking kt k es (i + 1)).run P w := by simp [Instr.findAsking, Sem.run_bind, h1, go_sem]
      rcases find_ints (P := P) (kt := kt) hk w es (i + 1) (fun x hx => h x (by simp [hx])) with ⟨h1, h2⟩ | ⟨l1, x, l2, h1, h2, h3, h4⟩
      · exact .inl ⟨step.trans h1, fun x hx => by
          rcases List.mem_cons.1 hx with rfl | hx
          · exact hne
          · exact h2 x hx⟩
      · refine .inr ⟨e :: l1, x, l2, ?_, by rw [h2]; rfl, h3, fun y hy => ?_⟩
        · rw [step, h1]; simp; omega
        · rcases List.mem_cons.1 hy with rfl | hy
          · exact hne
          · exact h4 y hy
theorem same_ints (ki : IntKind) (ns : List Int) : Instr.sameBits 10000 (.agg (ns.map (Value.int ki)).toArray) (.agg (ns.map (Value.int ki)).toArray) = true := by
  simp [Instr.sameBits, List.zip_map', List.all_map]
instance (priority := 900) TKey.ints (P : Program) (t E : TypeId) (n : Nat) (ki : IntKind) (by_ : Nat) (z : Value) [tt : TUnd P t (.array n E)] [tu : TUnd P E (.int ki)] [ta : TAgg P E false] [ts : TSize P E 1] [te : TElem P E 1 by_ z] : TKey P t (isInts ki n) where
  check := fun em v w ⟨ns, h1, hv⟩ => by subst hv; exact check_ints ns h1 9998 w
  find := fun k es w hk he => by
    have key : (∀ es' : List MapEntry, (Instr.findKey t k es').run P w = (Instr.findAsking t k es').run P w) := fun es' => by
      obtain ⟨ns, _, rfl⟩ := hk
      cases es' with
      | nil => simp [Instr.findKey, Instr.findNow, Instr.findAsking, tt.run, go_sem]
      | cons e es' => simp [Instr.findKey, Instr.findNow, Instr.sameNow, Sem.run_bind, tt.run, go_sem]
    rw [key]
    rcases find_ints (P := P) (kt := t) (ok := isInts ki n) hk w es 0 he with h | ⟨l1, x, l2, h1, h2⟩
    · exact .inl h
    · exact .inr ⟨l1, x, l2, by rw [h1, Nat.zero_add], h2⟩
  stays := fun v w ⟨ns, _, hv⟩ => by subst hv; simp [Instr.keyThatStays, same_ints, go_sem]
/- rows of numbers of a fixed length, within a struct's cells -/
abbrev BV (n : Nat) := {l : List Nat // l.length = n ∧ ∀ x ∈ l, x < 256}
theorem LGet.bv {n : Nat} (k : BV n) (post : List Value) (j : Nat) (v : Value) (h : LGet post j v) : LGet (k.1.map u8 ++ post) (j + n) v :=
  ⟨by rw [List.getElem?_append_right (by simp [k.2.1])]; simp [k.2.1, h.eq]⟩
theorem LSet.bv {n : Nat} (k : BV n) (post post' : List Value) (j : Nat) (v : Value) (h : LSet post j v post') : LSet (k.1.map u8 ++ post) (j + n) v (k.1.map u8 ++ post') :=
  ⟨by rw [List.set_append_right _ _ (by simp [k.2.1])]; simp [k.2.1, h.eq]⟩
instance (priority := 1090) (k : BV 64) (post : List Value) (j : Nat) (v : Value) [h : LGet post j v] : LGet (k.1.map u8 ++ post) (j + 64) v := LGet.bv k post j v h
instance (priority := 1090) (k : BV 64) (post post' : List Value) (j : Nat) (v : Value) [h : LSet post j v post'] : LSet (k.1.map u8 ++ post) (j + 64) v (k.1.map u8 ++ post') := LSet.bv k post post' j v h
end Go.Proofs.YtcnpkmdooekmgaaGreatDoor.Sl
namespace Go.Proofs.YtcnpkmdooekmgaaGreatDoor.Sl
class FindF (r : Nat) (L : List Assn) (α β : outParam Type) (dec : outParam (DecidableEq α)) (κ : outParam (α → Value)) (ν : outParam (β → Value)) (ok : outParam (Value → Prop)) (f : outParam (α → Option β)) (R : outParam (List Assn)) : Prop where
  ent : Ent L (mapF κ ν ok r f :: R)
  back : ∀ f', Ent (mapF κ ν ok r f' :: R) (mapF κ ν ok r f' :: R)
instance (priority := 1050) FindF.head {α β : Type} [dec : DecidableEq α] (r : Nat) (κ : α → Value) (ν : β → Value) (ok : Value → Prop) (f : α → Option β) (L : List Assn) : FindF r (mapF κ ν ok r f :: L) α β dec κ ν ok f L := ⟨Ent.refl _, fun _ => Ent.refl _⟩
instance (priority := 900) FindF.tail {α β : Type} [dec : DecidableEq α] (r : Nat) (κ : α → Value) (ν : β → Value) (ok : Value → Prop) (f : α → Option β) (B : Assn) (L R : List Assn) [g : FindF r L α β dec κ ν ok f R] : FindF r (B :: L) α β dec κ ν ok f (B :: R) :=
  ⟨(Ent.cons B g.ent).trans (Ent.swap B _ R), fun _ => Ent.refl _⟩
section
variable {X : Cx} {e : Env} {L L1 F : List Assn} {A : List Assn} {S : List Nat} {ops : Array Oper} {k : Nat} {l : List Oper} {R : Act → World → Prop} {G : Act → World → Prop}
variable {d : Nat} {T : TypeId} {pos : String} {af : Array Edge} {ok : Value → Prop} {α β : Type} [dec : DecidableEq α] {κ : α → Value} {ν : β → Value} {f : α → Option β}
theorem r_back {r : Nat} {la : List (α × β)} (hl : Rep la f) (h : J X e (mapF κ ν ok r f :: L) G) : J X e (mp ok r (em κ ν la) :: L) G := j_ent (Ent.mapF hl L) h
/-- a look into a map. -/
theorem mg {t kt E : TypeId} {x y : Operand} {z : Value} {r : Nat} {key : α} [tu : TUnd X.P t (.map kt E)] [tz : TZero X.P E z] [tk : TKey X.P kt ok] [g : FindF r L α β dec κ ν ok f L1]
    (h : J X ((d, ((f key).map ν).getD z) :: e) (mapF κ ν ok r f :: L1) (sw X.P (Holds X.Φ A) S ops R (k + 1) l)) (hx : ev e x = some (.map (some r)) := by rfl) (hy : ev e y = some (κ key) := by rfl) (hκ : ∀ a b, κ a = κ b → a = b := by intro a b h; cases h; rfl) (hk : ok (κ key) := by exact ⟨_, rfl⟩) (hd : Nat.blt d X.n = true := by rfl) (hs : S.contains k = false := by rfl) :
    J X e L (sw X.P (Holds X.Φ A) S ops R k (⟨some d, .lookup t x y false, T, pos, af, none⟩ :: l)) :=
  j_ent g.ent (j_mapF fun la hl => r_lookup1 (f := RdM.mp _ _ _ _) hx hy hk hd hs (by rw [mget_em hκ, hl.eq]; exact r_back hl h))
/-- a map is turned at a key. -/
theorem mu {t kt E : TypeId} {x y z : Operand} {r : Nat} {key : α} {v : β} [tu : TUnd X.P t (.map kt E)] [tk : TKey X.P kt ok] [g : FindF r L α β dec κ ν ok f L1] [st : Stay A L1]
    (h : J X e (mapF κ ν ok r (upd f key (some v)) :: L1) (sw X.P (Holds X.Φ A) S ops R (k + 1) l)) (hx : ev e x = some (.map (some r)) := by rfl) (hy : ev e y = some (κ key) := by rfl) (hz : ev e z = some (ν v) := by rfl) (hκ : ∀ a b, κ a = κ b → a = b := by intro a b h; cases h; rfl) (hk : ok (κ key) := by exact ⟨_, rfl⟩) (hs : S.contains k = false := by rfl) :
    J X e L (sw X.P (Holds X.Φ A) S ops R k (⟨none, .mapUpdate t x y z, T, pos, af, none⟩ :: l)) :=
  j_ent g.ent (j_mapF fun la hl => r_mapUpd (f := ⟨Ent.refl _⟩) (st := ⟨(Ent.drop _ _).trans st.ent⟩) hx hy hz hk hs (by rw [mset_em hκ]; exact r_back (hl.set key v) h))
theorem md {t kt E : TypeId} {x y : Operand} {r : Nat} {key : α} [tu : TUnd X.P t (.map kt E)] [tk : TKey X.P kt ok] [g : FindF r L α β dec κ ν ok f L1] [st : Stay A L1]
    (h : J X e (mapF κ ν ok r (upd f key none) :: L1) (sw X.P (Holds X.Φ A) S ops R (k + 1) l)) (hx : ev e x = some (.map (some r)) := by rfl) (hy : ev e y = some (κ key) := by rfl) (hκ : ∀ a b, κ a = κ b → a = b := by intro a b h; cases h; rfl) (hk : ok (κ key) := by exact ⟨_, rfl⟩) (hs : S.contains k = false := by rfl) :
    J X e L (sw X.P (Holds X.Φ A) S ops R k (⟨none, .call { callee := .builtin .delete, args := #[x, y], argTypes := #[t, kt] }, T, pos, af, none⟩ :: l)) :=
  j_ent g.ent (j_mapF fun la hl => r_delete (f := ⟨Ent.refl _⟩) (st := ⟨(Ent.drop _ _).trans st.ent⟩) hx hy hk hs blt_none (by rw [mdel_em hκ]; exact r_back (hl.del key) h))
/-- a new map. -/
theorem mk (κ : α → Value) (ν : β → Value) (ok : Value → Prop) {t : TypeId} (h : ∀ r, J X ((d, .map (some r)) :: e) (mapF κ ν ok r (fun _ => none) :: L) (sw X.P (Holds X.Φ A) S ops R (k + 1) l)) [st : Stay A L] (hs : S.contains k = false := by rfl) (hd : Nat.blt d X.n = true := by rfl) :
    J X e L (sw X.P (Holds X.Φ A) S ops R k (⟨some d, .makeMap t none, T, pos, af, none⟩ :: l)) :=
  r_makeMap ok hs hd (st := fun _b => ⟨(Ent.drop _ _).trans st.ent⟩) (fun r => j_ent (Ent.mapF (κ := κ) (ν := ν) (l := []) Rep.nil _) (h r))
/- places of rows -/
theorem ix {t E : TypeId} {x y : Operand} {s : Nat} {ki : IntKind} {i : Nat} {b off n cap : Nat} [tu : TUnd X.P t (.slice E)] [ts : TSize X.P E s] (hx : ev e x = some (.slice (some ⟨b, off, none⟩) n cap)) (hy : ev e y = some (.int ki (i : Int))) (h1 : i < n)
    (h : J X ((d, .pointer (some ⟨b, off + i * s, none⟩)) :: e) L (sw X.P (Holds X.Φ A) S ops R (k + 1) l)) (hd : Nat.blt d X.n = true := by rfl) :
    J X e L (sw X.P (Holds X.Φ A) S ops R k (⟨some d, .indexAddr t x y, T, pos, af, none⟩ :: l)) := r_idx hx hy (by omega) (by omega) hd h
/-- the first place of a row at the start of a block. -/
theorem ix1 {t E : TypeId} {x y : Operand} {ki : IntKind} {i : Nat} {b n cap : Nat} [tu : TUnd X.P t (.slice E)] [ts : TSize X.P E 1] (hx : ev e x = some (.slice (some ⟨b, 0, none⟩) n cap)) (hy : ev e y = some (.int ki (i : Int))) (h1 : i < n)
    (h : J X ((d, .pointer (some ⟨b, i, none⟩)) :: e) L (sw X.P (Holds X.Φ A) S ops R (k + 1) l)) (hd : Nat.blt d X.n = true := by rfl) :
    J X e L (sw X.P (Holds X.Φ A) S ops R k (⟨some d, .indexAddr t x y, T, pos, af, none⟩ :: l)) := ix hx hy h1 (by simpa using h) hd
theorem k_ixA {t : TypeId} {x : Operand} {y : Value} (h : J X e L (sw X.P (Holds X.Φ A) S ops R k (⟨some d, .indexAddr t x (.const y), T, pos, af, none⟩ :: l))) : J X e L (sw X.P (Holds X.Φ A) S ops R k (⟨some d, .indexAddr t x (.const y), T, pos, af, none⟩ :: l)) := h
theorem ixA {t E : TypeId} {x y : Operand} {ki : IntKind} {i b n : Nat} [tu : TUnd X.P t (.array n E)] [ts : TSize X.P E 1] (hx : ev e x = some (.pointer (some ⟨b, 0, none⟩))) (hy : ev e y = some (.int ki (i : Int)))
    (h1 : Nat.blt i n = true) (hd : Nat.blt d X.n = true) (h : J X ((d, .pointer (some ⟨b, i, none⟩)) :: e) L (sw X.P (Holds X.Φ A) S ops R (k + 1) l)) :
    J X e L (sw X.P (Holds X.Φ A) S ops R k (⟨some d, .indexAddr t x y, T, pos, af, none⟩ :: l)) := r_idxA hx hy (by omega) (by rw [Nat.blt_eq] at h1; omega) hd (by simpa using h)
theorem ld {t : TypeId} {x : Operand} {b off : Nat} {cs : List Value} {U : TypeId} {fr : Nat × Nat} {v : Value} [ta : TAgg X.P t false] [g : Rd b L (.cells cs.toArray U fr)] (hx : ev e x = some (.pointer (some ⟨b, off, none⟩))) (hv : cs[off]? = some v)
    (h : J X ((d, v) :: e) L (sw X.P (Holds X.Φ A) S ops R (k + 1) l)) (hd : Nat.blt d X.n = true := by rfl) (hs : S.contains k = false := by rfl) :
    J X e L (sw X.P (Holds X.Φ A) S ops R k (⟨some d, .load t x, T, pos, af, none⟩ :: l)) := r_load1 hx (by simpa using hv) hd hs h
theorem r_loadBy {t : TypeId} {x : Operand} {b off : Nat} {v : Value} [ta : TAgg X.P t false] (hx : ev e x = some (.pointer (some ⟨b, off, none⟩))) (hv : ∀ w, Holds X.Φ L w → w.cell? ⟨b, off, none⟩ = some v)
    (h : J X ((d, v) :: e) L (sw X.P (Holds X.Φ A) S ops R (k + 1) l)) (hd : Nat.blt d X.n = true := by rfl) (hs : S.contains k = false := by rfl) :
    J X e L (sw X.P (Holds X.Φ A) S ops R k (⟨some d, .load t x, T, pos, af, none⟩ :: l)) :=
  r_read rfl (by unfold cls; rw [hs]; rfl) rfl hd (fun a w m hh => by
    have h1 := run_loadOne (P := X.P) (t := t) (a := ⟨b, off, none⟩) (hv w hh)
    simp only [execOp, m.ev hx, Instr.loadAt, Instr.sureAddr, pure_bind, Sem.run_bind, h1, Result.andThen_ok, Sem.run_pure]) h
/-- a copy out of what can be read. -/
theorem r_copyS {dT sT elem : TypeId} {x y : Operand} {dst : Option Nat} {b o dl dc m cap2 : Nat} {a2 : Option Addr} {cur : List Value} (cur' ys : List Value) {U : TypeId} {f : Obj → List Assn} [tu : TUnd X.P dT (.slice elem)] [ts : TSize X.P elem 1]
    (hx : ev e x = some (.slice (some ⟨b, o, none⟩) dl dc)) (hy : ev e y = some (.slice a2 m cap2)) [g : Own b L (.cells cur.toArray U (0, 0)) f] (hrd : ∀ w, Holds X.Φ L w → Reads w a2 m 1 ys) (hfit : o + min m dl ≤ cur.length) (h1 : ∀ v ∈ ys, v.oneCell' = true)
    (hc : cur.take o ++ ys.take (min m dl) ++ cur.drop (o + min m dl) = cur') [st : Stay A (f (.cells cur'.toArray U (0, 0)))]
    (h : J X (bnd dst (.int .i64 ((min m dl : Nat) : Int)) e) (f (.cells cur'.toArray U (0, 0))) (sw X.P (Holds X.Φ A) S ops R (k + 1) l)) (hs : S.contains k = false := by rfl) (hd : ∀ j, dst = some j → Nat.blt j X.n = true := by exact blt_any rfl) :
    J X e L (sw X.P (Holds X.Φ A) S ops R k (⟨dst, .call { callee := .builtin .copy, args := #[x, y], argTypes := #[dT, sT] }, T, pos, af, none⟩ :: l)) :=
  r_write (α := Unit) (q := fun _ => True) (V := fun _ => .int .i64 ((min m dl : Nat) : Int)) (M := fun _ => f (.cells cur'.toArray U (0, 0))) rfl (cls_write rfl hs rfl) hd (fun _ => st)
    (fun a w mt hh => by
      have hb : w.heap[b]? = some (.cells cur.toArray U (0, 0)) := by obtain ⟨im, hp, r, s⟩ := hh; exact r.hw _ _ (g.get _ _ s)
      have hrun := run_copyP (P := X.P) (dT := dT) (sT := sT) (ty := T) (dc := dc) (cap2 := cap2) hb (hrd w hh) hfit h1
      rw [hc] at hrun
      have h2 : (execOp a.eval (⟨dst, .call { callee := .builtin .copy, args := #[x, y], argTypes := #[dT, sT] }, T, pos, af, none⟩ : Oper)).run X.P w = .ok (.value (.int .i64 ((min m dl : Nat) : Int))) (w.setRow b cur'.toArray) := by
        simp only [execOp, resolve, invoke, builtin, Sem.run_bind, Sem.run_pure, Result.andThen_ok, List.map_toArray, List.map_cons, List.map_nil, mt.ev hx, mt.ev hy, pure_bind, hrun, goInt]
      rw [h2]
      refine ⟨(), trivial, rfl, hh.upd (b := b) (g := g) (o' := .cells cur'.toArray U (0, 0)) ?_ (fun c hc => ?_) rfl rfl rfl⟩
      · simp [World.setRow, Array.getElem?_modify, hb]
      · simp [World.setRow, Array.getElem?_modify, Ne.symm hc]) (fun _ _ => h)
/-- what stands within a block can be read. -/
theorem reads_in {w : World} {b o m : Nat} {cs : List Value} {U : TypeId} {fr : Nat × Nat} (ys : List Value) (hb : w.heap[b]? = some (.cells cs.toArray U fr)) (hl : ys.length = m) (hy : ∀ j v, ys[j]? = some v → cs[o + j]? = some v) : Reads w (some ⟨b, o, none⟩) m 1 ys :=
  ⟨by omega, .inr ⟨_, rfl, fun j v hj => by rw [add_at]; exact cell_of_heap hb (by simpa using hy j v hj)⟩⟩
/-- a function value. -/
theorem mkf {f : FuncId} {as : List Operand} {vs : List Value} (hvs : evL e as = some vs) (h : J X ((d, .func (.func f) #[] vs.toArray) :: e) L (sw X.P (Holds X.Φ A) S ops R (k + 1) l)) (hd : Nat.blt d X.n = true := by rfl) :
    J X e L (sw X.P (Holds X.Φ A) S ops R k (⟨some d, .makeFunc (.func f) #[] as.toArray, T, pos, af, none⟩ :: l)) :=
  r_light rfl (cls_light rfl rfl) rfl hd (fun a m w => by
    have h1 : as.toArray.map a.eval = vs.toArray := by rw [← m.evL hvs]; simp
    simp [execOp, Instr.makeFunc, h1, go_sem]) h
theorem so {t : TypeId} {x y : Operand} {b off : Nat} {cs cs' : List Value} {U : TypeId} {v : Value} {f : Obj → List Assn} [ts : TSize X.P t 1] [g : Own b L (.cells cs.toArray U (0, 0)) f] [hl : LSet cs off v cs'] [st : Stay A (f (.cells cs'.toArray U (0, 0)))] (hx : ev e x = some (.pointer (some ⟨b, off, none⟩))) (hy : ev e y = some v)
    (h : J X e (f (.cells cs'.toArray U (0, 0))) (sw X.P (Holds X.Φ A) S ops R (k + 1) l)) (ho : off < cs.length := by first | (simp; done) | (simp; omega)) (hv : v.oneCell' = true := by rfl) (hs : S.contains k = false := by rfl) :
    J X e L (sw X.P (Holds X.Φ A) S ops R k (⟨none, .store t x y, T, pos, af, none⟩ :: l)) := r_store1 hx hy ho hv hs h
end
/- what stands behind a name: parts that somebody knows, of which something is so. -/
def box {α : Type} (Q : α → Prop) (B : α → List Assn) : Assn := ex fun x => all (pu (Q x) :: B x)
theorem j_open {X : Cx} {e : Env} {L : List Assn} {G : Act → World → Prop} {α : Type} {Q : α → Prop} {B : α → List Assn} (h : ∀ x, Q x → J X e (B x ++ L) G) : J X e (box Q B :: L) G :=
  j_ex fun x => j_all (j_pu fun hq => h x hq)
theorem Ent.shut {L : List Assn} {α : Type} {Q : α → Prop} {B : α → List Assn} (x : α) (hq : Q x) : Ent (B x ++ L) (box Q B :: L) :=
  ((Ent.mkPu hq).trans (Ent.unall (pu (Q x) :: B x) L)).trans (Ent.mkEx (f := fun x => Sl.all (pu (Q x) :: B x)) x)
theorem jh {X : Cx} {e : Env} {L R C : List Assn} {G : Act → World → Prop} (A : List Assn) [sp : Split A L R] [ap : AppL A R C] (h : J X e C G) : J X e L G := j_ent sp.ent (by rw [ap.eq]; exact h)
/-- parts, wherever they stand, become a whole. -/
theorem js {X : Cx} {e : Env} {L R : List Assn} {G : Act → World → Prop} (A : List Assn) {B : Assn} [sp : Split A L R] (hE : ∀ R, Ent (A ++ R) (B :: R)) (h : J X e (B :: R) G) : J X e L G := j_ent (sp.ent.trans (hE R)) h
/-- what was just laid is turned no more. -/
theorem fz {X : Cx} {e : Env} {L : List Assn} {G : Act → World → Prop} {a : Option Addr} {n cap s : Nat} {E : TypeId} {xs : List Value} (h : J X e (isl a n cap E s xs :: L) G) : J X e (vec a n cap E s xs :: L) G := j_freezeV a n cap E s xs (f := Find.head _ _) h
theorem j_base {X : Cx} {e : Env} {L : List Assn} {G : Act → World → Prop} {b : Nat} {o : Obj} (hb : X.Φ.im b = some o) (h : J X e (imm b o :: L) G) : J X e L G := fun a w m hh => by
  obtain ⟨im, hp, r, s⟩ := hh
  exact h a w m ⟨im, hp, r, Hp.emp, hp, Hp.emp_le _, Hp.le_refl _, Hp.emp_dis _, r.base _ _ hb, s⟩
/- bits of 64 -/
theorem wrap64 {n : Nat} (h : n < 18446744073709551616) : IntKind.u64.wrap (n : Int) = (n : Int) := by simp [IntKind.wrap, IntKind.signed, IntKind.bits]; omega
theorem ofInt64 {n : Nat} (h : n < 18446744073709551616) : (BitVec.ofInt 64 (n : Int)).toNat = n := by simp; omega
theorem and64 {x y : Nat} (hx : x < 18446744073709551616) (hy : y < 18446744073709551616) : Go.bits .and .u64 (x : Int) (y : Int) = ((x &&& y : Nat) : Int) := by
  show IntKind.u64.wrap ((BitVec.ofInt 64 (x : Int) &&& BitVec.ofInt 64 (y : Int)).toNat : Int) = _
  rw [BitVec.toNat_and, ofInt64 hx, ofInt64 hy, wrap64 (Nat.lt_of_le_of_lt Nat.and_le_left hx)]
theorem or64 {x y : Nat} (hx : x < 18446744073709551616) (hy : y < 18446744073709551616) : Go.bits .or .u64 (x : Int) (y : Int) = ((x ||| y : Nat) : Int) := by
  show IntKind.u64.wrap ((BitVec.ofInt 64 (x : Int) ||| BitVec.ofInt 64 (y : Int)).toNat : Int) = _
  rw [BitVec.toNat_or, ofInt64 hx, ofInt64 hy, wrap64 (Nat.or_lt_two_pow (n := 64) hx hy)]
def andn (x y : Nat) : Nat := x &&& (18446744073709551615 - y)
theorem andn64 {x y : Nat} (hx : x < 18446744073709551616) (hy : y < 18446744073709551616) : Go.bits .andNot .u64 (x : Int) (y : Int) = ((andn x y : Nat) : Int) := by
  show IntKind.u64.wrap ((BitVec.ofInt 64 (x : Int) &&& ~~~ BitVec.ofInt 64 (y : Int)).toNat : Int) = _
  rw [BitVec.toNat_and, BitVec.toNat_not, ofInt64 hx, ofInt64 hy, show (2 ^ 64 - 1 - y) = 18446744073709551615 - y from rfl, wrap64 (Nat.lt_of_le_of_lt Nat.and_le_left hx)]; rfl
theorem cpl64 {x : Nat} (hx : x < 18446744073709551616) : Go.bits .xor .u64 IntKind.u64.max (x : Int) = ((18446744073709551615 - x : Nat) : Int) := by
  have h1 : (BitVec.ofInt 64 IntKind.u64.max ^^^ BitVec.ofInt 64 (x : Int)) = ~~~ BitVec.ofInt 64 (x : Int) := by
    rw [show BitVec.ofInt 64 IntKind.u64.max = BitVec.allOnes 64 from rfl, BitVec.allOnes_xor]
  show IntKind.u64.wrap ((BitVec.ofInt 64 IntKind.u64.max ^^^ BitVec.ofInt 64 (x : Int)).toNat : Int) = _
  rw [h1, BitVec.toNat_not, ofInt64 hx, show (2 ^ 64 - 1 - x) = 18446744073709551615 - x from rfl, wrap64 (by omega)]
theorem tb_cpl {x : Nat} (hx : x < 18446744073709551616) (i : Nat) : (18446744073709551615 - x).testBit i = (decide (i < 64) && !x.testBit i) := by
  have := Nat.testBit_two_pow_sub_succ (n := 64) (x := x) hx i
  rwa [show 2 ^ 64 - (x + 1) = 18446744073709551615 - x by omega] at this
theorem tb_andn {x y : Nat} (hx : x < 18446744073709551616) (hy : y < 18446744073709551616) (i : Nat) : (andn x y).testBit i = (x.testBit i && !y.testBit i) := by
  rw [andn, Nat.testBit_and, tb_cpl hy]
  by_cases h : i < 64
  · simp [h]
  · have : x.testBit i = false := Nat.testBit_lt_two_pow (Nat.lt_of_lt_of_le hx (Nat.pow_le_pow_right (n := 2) (by omega) (by omega : 64 ≤ i)))
    simp [this]
theorem shl64 {k : Nat} (h : k < 64) : IntKind.u64.wrap ((1 : Int) * 2 ^ min ((k : Int)).toNat IntKind.u64.bits) = ((2 ^ k : Nat) : Int) := by
  have h1 : min ((k : Int)).toNat IntKind.u64.bits = k := by simp [IntKind.bits]; omega
  have h2 : (2 : Nat) ^ k < 18446744073709551616 := Nat.pow_lt_pow_right (by omega : 1 < 2) h
  rw [h1, Int.one_mul]
  have := wrap64 h2
  simpa using this
theorem ones64 {k : Nat} (h : k < 64) : IntKind.u64.wrap ((18446744073709551615 : Int) * 2 ^ min ((k : Int)).toNat IntKind.u64.bits) = ((18446744073709551616 - 2 ^ k : Nat) : Int) := by
  have h1 : min ((k : Int)).toNat IntKind.u64.bits = k := by simp [IntKind.bits]; omega
  rw [h1]
  have h2 : (2 : Nat) ^ k < 18446744073709551616 := Nat.pow_lt_pow_right (by omega : 1 < 2) h
  have h3 : 0 < 2 ^ k := Nat.pow_pos (by omega)
  simp only [IntKind.wrap, IntKind.signed, IntKind.bits]
  have h4 : ((2 : Int) ^ k) = ((2 ^ k : Nat) : Int) := by simp
  rw [h4]
  generalize 2 ^ k = m at *
  simp
  omega
end Go.Proofs.YtcnpkmdooekmgaaGreatDoor.Sl
