/-
  A walk through Go functions with the memory as a list of separate pieces: frames as functions of slots, operations one by one, calls by contracts. No program in sight.
-/
import Derived.WalkKit
import Derived.Laws.StructEq
import Derived.Deep.LoopGhost
import Derived.Deep.QuietTactic
namespace Go.Proofs.Ytandadfmmohhhaa.E
open Go Go.RowKit

abbrev Fr := Nat → Value

/-- One slot set. -/
def up (σ : Fr) (d : Nat) (v : Value) : Fr := fun i => bif Nat.beq i d then v else σ i
/-- Slots set, the first of the list last. -/
def ups (σ : Fr) : List (Nat × Value) → Fr
  | [] => σ
  | (d, v) :: l => up (ups σ l) d v

def mk (n : Nat) (σ : Fr) : Act := ⟨Array.ofFn (n := n) fun i => σ i.1, []⟩

theorem mk_congr {n : Nat} {σ τ : Fr} (h : ∀ i, i < n → σ i = τ i) : mk n σ = mk n τ := by
  unfold mk; congr 2; funext i; exact h i.1 i.2

def ev (n : Nat) (σ : Fr) : Operand → Value
  | .tmp t => bif Nat.blt t n then σ t else undef
  | .const v => v
  | .global g => .pointer (some ⟨g, 0, none⟩)
  | .func f => .func (.func f) #[] #[]

theorem blt_eq (a b : Nat) : Nat.blt a b = decide (a < b) := by
  rw [Bool.eq_iff_iff]; simp [Nat.blt_eq]

theorem eval_mk (n : Nat) (σ : Fr) : (mk n σ).eval = ev n σ := by
  funext x
  cases x with
  | tmp t =>
    simp only [Act.eval, mk, ev, blt_eq]
    by_cases h : t < n
    · simp [Array.getD, h]
    · simp [Array.getD, h]
  | _ => rfl

theorem up_same (σ : Fr) (d : Nat) (v : Value) : up σ d v d = v := by simp [up]
theorem up_ne (σ : Fr) {d i : Nat} (v : Value) (h : i ≠ d) : up σ d v i = σ i := by
  have : Nat.beq i d = false := by
    cases hb : Nat.beq i d
    · rfl
    · exact absurd (Nat.eq_of_beq_eq_true hb) h
  simp [up, this]

theorem up_self (σ : Fr) (d : Nat) (v : Value) (h : σ d = v) : up σ d v = σ := by
  funext i
  by_cases hi : i = d
  · subst hi; rw [up_same, h]
  · rw [up_ne _ _ hi]

def Has (σ : Fr) : List (Nat × Value) → Prop
  | [] => True
  | (d, v) :: l => σ d = v ∧ Has σ l

theorem ups_of {σ : Fr} : ∀ {l : List (Nat × Value)}, Has σ l → ups σ l = σ
  | [], _ => rfl
  | (d, v) :: l, h => by
    show up (ups σ l) d v = σ
    rw [ups_of h.2]; exact up_self _ _ _ h.1

theorem ups_ex {σ : Fr} {l : List (Nat × Value)} (h : Has σ l) : ∃ τ, σ = ups τ l := ⟨σ, (ups_of h).symm⟩

def upo (σ : Fr) (d : Option Nat) (v : Value) : Fr := match d with
  | some d => up σ d v
  | none => σ

theorem put_mk (n : Nat) (σ : Fr) (d : Option Nat) (v : Value) : (mk n σ).put d v = mk n (upo σ d v) := by
  cases d with
  | none => rfl
  | some d =>
    simp only [Act.put, mk, upo]
    congr 1
    apply Array.ext
    · simp
    · intro i h1 h2
      simp only [Array.size_setIfInBounds, Array.size_ofFn] at h1 h2
      by_cases hi : i = d
      · subst hi; simp [up_same]
      · rw [Array.getElem_setIfInBounds (by simpa using h1)]
        simp only [Array.getElem_ofFn]
        rw [if_neg (fun h => hi h.symm), up_ne _ _ hi]

abbrev Cont := Fr → World → Prop

/-- Where the exits of the blocks around lead. -/
def bl : List (Nat × Cont) → Nat → Cont
  | [], _ => fun _ _ => False
  | (i, K) :: B, id => if id = i then K else bl B id

def post (n : Nat) (N : Cont) (B : List (Nat × Cont)) (R : Cont) : Exit → Act → World → Prop
  | .normal, a, w => ∃ σ, a = mk n σ ∧ N σ w
  | .ret, a, w => ∃ σ, a = mk n σ ∧ R σ w
  | .exit id, a, w => ∃ σ, a = mk n σ ∧ bl B id σ w
  | _, _, _ => False

/-- The code, from a frame and a world, ends in N (normally), at a block's exit (B) or returns (R). -/
def W (P : Program) (n : Nat) (c : Code) (N : Cont) (B : List (Nat × Cont)) (R : Cont) (σ : Fr) (w : World) : Prop :=
  c.wp P (post n N B R) (mk n σ) w

/-- A list of operations. -/
def Wl (P : Program) (n : Nat) (all l : List Oper) (N : Cont) (σ : Fr) (w : World) : Prop :=
  ∀ B R, wpList P all.toArray (post n N B R) l (mk n σ) w

section
variable {P : Program} {n : Nat} {N : Cont} {B : List (Nat × Cont)} {R : Cont} {σ : Fr} {w : World}

theorem W_region {id : Nat} {ops : List Oper} (h : Wl P n ops ops N σ w) : W P n (.region id ops.toArray false) N B R σ w :=
  wp_region_lit (h B R)

theorem W_seq {x y : Code} (h : W P n x (fun σ w => W P n y N B R σ w) B R σ w) : W P n (.seq x y) N B R σ w := by
  refine wp_seq (Code.wp_mono ?_ h)
  intro e a w q
  cases e with
  | normal => obtain ⟨σ, rfl, q⟩ := q; exact q
  | _ => exact q

theorem W_mono {c : Code} {N' : Cont} (hN : ∀ σ w, N σ w → N' σ w) (h : W P n c N B R σ w) : W P n c N' B R σ w := by
  refine Code.wp_mono ?_ h
  intro e a w q
  cases e with
  | normal => obtain ⟨σ, rfl, q⟩ := q; exact ⟨σ, rfl, hN _ _ q⟩
  | _ => exact q

theorem W_skip (h : N σ w) : W P n .skip N B R σ w := wp_skip ⟨σ, rfl, h⟩
theorem W_ret (h : R σ w) : W P n .ret N B R σ w := wp_ret ⟨σ, rfl, h⟩
theorem W_exit {id : Nat} (h : bl B id σ w) : W P n (.exit id) N B R σ w := wp_exit ⟨σ, rfl, h⟩

theorem W_block {id : Nat} {c : Code} (h : W P n c N ((id, N) :: B) R σ w) : W P n (.block id c) N B R σ w := by
  refine wp_block (Code.wp_mono ?_ h)
  intro e a w q
  cases e with
  | exit k =>
    obtain ⟨σ, rfl, q⟩ := q
    simp only [bl] at q
    simp only [Exit.inBlock]
    split
    · rename_i hk; rw [if_pos hk] at q; exact ⟨σ, rfl, q⟩
    · rename_i hk; rw [if_neg hk] at q; exact ⟨σ, rfl, q⟩
  | _ => exact q

theorem W_cond {c : Operand} {x y : Code} {t : Bool} (hc : ev n σ c = .bool t) (ht : t = true → W P n x N B R σ w) (hf : t = false → W P n y N B R σ w) :
    W P n (.cond c x y) N B R σ w := wp_cond_split (t := t) (by rw [eval_mk]; exact hc) ht hf

theorem W_loop {c : Code} (I : Nat → Cont) (m : Nat) (h₀ : I m σ w)
    (round : ∀ m σ w, I m σ w → W P n c (fun σ' w' => ∃ m', m' < m ∧ I m' σ' w') B R σ w) : W P n (.loop c) N B R σ w := by
  refine wp_loop_ghost (fun m a w => ∃ σ, a = mk n σ ∧ I m σ w) m ⟨σ, rfl, h₀⟩ ?_
  rintro m a w ⟨σ, rfl, hI⟩
  refine Code.wp_mono ?_ (round m σ w hI)
  intro e a w q
  cases e with
  | normal => obtain ⟨σ, rfl, m', hm, q⟩ := q; exact ⟨m', hm, σ, rfl, q⟩
  | _ => exact q

/-! ### operations -/

theorem Wl_nil {all : List Oper} (h : N σ w) : Wl P n all [] N σ w := fun _ _ => wpList_nil ⟨σ, rfl, h⟩

/-- What the guard's operation has yielded. -/
def yv (all : List Oper) (n : Nat) (σ : Fr) (j : Nat) : Option Value :=
  match all[j]? with
  | some o => match o.dst with
    | some d => some (ev n σ (.tmp d))
    | none => none
  | none => none

theorem yielded_mk (all : List Oper) (n : Nat) (σ : Fr) (j : Nat) (b : Bool) (h : yv all n σ j = some (.bool b)) : yielded all.toArray (mk n σ).tmps j = some b := by
  unfold yv at h
  unfold yielded
  rw [List.getElem?_toArray]
  cases ho : all[j]? with
  | none => simp [ho] at h
  | some o =>
    simp only [ho] at h
    cases hd : o.dst with
    | none => simp [hd] at h
    | some d =>
      simp only [hd, Option.some.injEq, ev, blt_eq] at h
      by_cases hdn : d < n
      · simp [hdn] at h
        simp [hd, mk, hdn, h]
      · simp [hdn] at h
        cases h

section ops
variable {all rest : List Oper} {d : Option Tmp} {op : Op} {ty : TypeId} {pos : String} {aft : Array Edge}

theorem Wl_guardT {j : Nat} {b : Bool} (hy : yv all n σ j = some (.bool b)) (h : Wl P n all (⟨d, op, ty, pos, aft, none⟩ :: rest) N σ w) :
    Wl P n all (⟨d, op, ty, pos, aft, some (j, b)⟩ :: rest) N σ w := by
  intro B R
  have h' := h B R
  have e1 : Region.wanted (⟨d, op, ty, pos, aft, some (j, b)⟩ : Oper) (yielded all.toArray (mk n σ).tmps) = true := by
    simp [Region.wanted, yielded_mk all n σ j b hy]
  have e2 : Region.wanted (⟨d, op, ty, pos, aft, none⟩ : Oper) (yielded all.toArray (mk n σ).tmps) = true := by
    simp [Region.wanted]
  unfold wpList at h' ⊢
  rw [if_pos e1]
  rw [if_pos e2] at h'
  exact h'

theorem Wl_guardF {j : Nat} {b c : Bool} (hy : yv all n σ j = some (.bool c)) (hne : (c == b) = false) (h : Wl P n all rest N (upo σ d undef) w) :
    Wl P n all (⟨d, op, ty, pos, aft, some (j, b)⟩ :: rest) N σ w := by
  intro B R
  refine wpList_skip ?_ ?_
  · simp only [Region.wanted, yielded_mk all n σ j c hy]
    cases c <;> cases b <;> first | rfl | cases hne
  · rw [put_mk]; exact h B R

/-- The value of slot d is decided. -/
theorem Wl_split (d : Nat) {t : Bool} (hd : σ d = .bool t) {l : List Oper} (ht : t = true → Wl P n all l N (up σ d (.bool true)) w) (hf : t = false → Wl P n all l N (up σ d (.bool false)) w) :
    Wl P n all l N σ w := by
  cases t with
  | true => have := ht rfl; rwa [up_self _ _ _ hd] at this
  | false => have := hf rfl; rwa [up_self _ _ _ hd] at this

theorem Wl_val {v : Value} {w' : World} (hrun : (execOp (ev n σ) ⟨d, op, ty, pos, aft, none⟩).run P w = .ok (.value v) w') (h : Wl P n all rest N (upo σ d v) w') :
    Wl P n all (⟨d, op, ty, pos, aft, none⟩ :: rest) N σ w := by
  intro B R
  refine wpList_plain rfl fun K hK => ?_
  unfold Oper.wp
  rw [eval_mk, hrun, Oper.upon_value, put_mk]
  exact hK _ _ (h B R)

theorem Wl_unit {w' : World} (hrun : (execOp (ev n σ) ⟨d, op, ty, pos, aft, none⟩).run P w = .ok .skip w') (h : Wl P n all rest N (upo σ d undef) w') :
    Wl P n all (⟨d, op, ty, pos, aft, none⟩ :: rest) N σ w := by
  intro B R
  refine wpList_plain rfl fun K hK => ?_
  unfold Oper.wp
  rw [eval_mk, hrun, Oper.upon_skip, put_mk]
  exact hK _ _ (h B R)

/-- What a call must do: it returns. -/
def C (P : Program) (f : FuncId) (args : Array Value) (w : World) (R : Value → World → Prop) : Prop :=
  Calls P f args w fun e w' => ∃ v, e = .returned v ∧ R v w'

theorem C.mono {f : FuncId} {args : Array Value} {w : World} {R R' : Value → World → Prop} (h : C P f args w R) (hr : ∀ v w', R v w' → R' v w') : C P f args w R' :=
  Calls.mono h fun _ _ ⟨v, e, r⟩ => ⟨v, e, hr _ _ r⟩

theorem Wl_enter {f : FuncId} {args : Array Value} {w' : World} {Q : Value → World → Prop}
    (hrun : (execOp (ev n σ) ⟨d, op, ty, pos, aft, none⟩).run P w = .ok (.enter f args) w') (hc : C P f args w' Q)
    (h : ∀ v w'', Q v w'' → Wl P n all rest N (upo σ d v) w'') :
    Wl P n all (⟨d, op, ty, pos, aft, none⟩ :: rest) N σ w := by
  intro B R
  refine wpList_plain rfl fun K hK => ?_
  unfold Oper.wp
  rw [eval_mk, hrun, Oper.upon_enter]
  refine Calls.mono hc ?_
  rintro e w'' ⟨v, rfl, hq⟩
  dsimp only
  rw [put_mk]
  exact hK _ _ (h v w'' hq B R)

end ops

/-! ### a function's body -/
theorem C_of_W {f : FuncId} {fn : Func} {c : Code} {args : List Value} {w : World} {Q : Value → World → Prop}
    (hf : P.funcs[f]? = some fn) (hb : fn.body = some c) (hle : args.length ≤ fn.ntmps)
    (h : W P fn.ntmps c (fun σ w => ∃ v, (results fn (mk fn.ntmps σ).tmps).run P w = .ok v w ∧ Q v w) []
      (fun σ w => ∃ v, (results fn (mk fn.ntmps σ).tmps).run P w = .ok v w ∧ Q v w) (fun i => args.getD i undef) w) :
    C P f args.toArray w Q := by
  refine calls_of_wp hf hb ?_
  have e : ({ tmps := args.toArray ++ Array.replicate (fn.ntmps - args.toArray.size) undef, defers := [] } : Act) = mk fn.ntmps (fun i => args.getD i undef) := by
    unfold mk
    congr 1
    apply Array.ext
    · simp; omega
    · intro i h1 h2
      simp only [Array.getElem_ofFn, List.getD_eq_getElem?_getD]
      by_cases hi : i < args.length
      · rw [Array.getElem_append_left (by simpa using hi)]; simp [hi]
      · rw [Array.getElem_append_right (by simpa using Nat.le_of_not_lt hi)]
        simp [Nat.le_of_not_lt hi]
  rw [e]
  refine Code.wp_mono ?_ h
  intro e a w q
  cases e with
  | normal => obtain ⟨σ, rfl, v, hr, hq⟩ := q; exact ⟨rfl, v, hr, v, rfl, hq⟩
  | ret => obtain ⟨σ, rfl, v, hr, hq⟩ := q; exact ⟨rfl, v, hr, v, rfl, hq⟩
  | exit id => obtain ⟨σ, _, q⟩ := q; exact q.elim
  | _ => exact q.elim

end
end Go.Proofs.Ytandadfmmohhhaa.E

namespace Go.Proofs.Ytandadfmmohhhaa.E
open Go Go.RowKit

/-! ### operations that ask nothing of the world -/
def icmp (op : BinOp) (a b : Int) : Option Bool :=
  match op with
  | .eql => some (decide (a = b))
  | .neq => some (!decide (a = b))
  | .lss => some (decide (a < b))
  | .leq => some (decide (a ≤ b))
  | .gtr => some (decide (b < a))
  | .geq => some (decide (b ≤ a))
  | _ => none

theorem run_icmp {P : Program} {w : World} {op : BinOp} {ty : TypeId} {x y : Operand} {a b : Int} {t : Bool} (h : icmp op a b = some t) :
    (do eqGuard op ty x y (.int .i64 a) (.int .i64 b); binOp op ty (.int .i64 a) (.int .i64 b) : Sem Value).run P w = .ok (.bool t) w := by
  cases op <;> simp only [icmp, Option.some.injEq, reduceCtorEq] at h <;> subst h <;> rfl

def pv (n : Nat) (σ : Fr) : Op → Option Value
  | .move x | .assign x =>
    match ev n σ x with
    | .int k a => some (.int k a)
    | .bool b => some (.bool b)
    | .slice a l c => some (.slice a l c)
    | .pointer p => some (.pointer p)
    | .agg cs => some (.agg cs)
    | .tuple vs => some (.tuple vs)
    | .func f a b => some (.func f a b)
    | v => some v
  | .binOp op _ x y _ =>
    match ev n σ x, ev n σ y with
    | .int .i64 a, .int .i64 b => match icmp op a b with
      | some t => some (.bool t)
      | none => none
    | _, _ => none
  | .unOp .not _ x =>
    match ev n σ x with
    | .bool b => some (.bool !b)
    | _ => none
  | .extract x i =>
    match ev n σ x with
    | .tuple vs => match vs.toList[i]? with
      | some v => some v
      | none => none
    | _ => none
  | .pick c a b =>
    match ev n σ c with
    | .bool true => match ev n σ a with
      | .bool t => some (.bool t)
      | v => some v
    | .bool false => match ev n σ b with
      | .bool t => some (.bool t)
      | v => some v
    | _ => none
  | _ => none

theorem fv_eq {v u : Value} (h : (match v with
    | .int k a => some (.int k a)
    | .bool b => some (.bool b)
    | .slice a l c => some (.slice a l c)
    | .pointer p => some (.pointer p)
    | .agg cs => some (.agg cs)
    | .tuple vs => some (.tuple vs)
    | .func f a b => some (.func f a b)
    | v => some v) = some u) : v = u := by
  split at h <;> simpa using h

theorem bv_eq {v u : Value} (h : (match v with
      | .bool t => some (.bool t)
      | v => some v) = some u) : v = u := by
  split at h <;> simpa using h

theorem pv_run {P : Program} {n : Nat} {σ : Fr} {w : World} {d : Option Tmp} {op : Op} {ty : TypeId} {pos : String} {aft : Array Edge} {v : Value}
    (h : pv n σ op = some v) : (execOp (ev n σ) ⟨d, op, ty, pos, aft, none⟩).run P w = .ok (.value v) w := by
  unfold pv at h
  split at h
  · have := fv_eq h; subst this; rfl
  · have := fv_eq h; subst this; rfl
  · rename_i op' t x y yt
    split at h
    · rename_i a b ha hb
      split at h
      · rename_i tt ht
        simp only [Option.some.injEq] at h
        subst h
        have := run_icmp (P := P) (w := w) (ty := t) (x := x) (y := y) ht
        simp only [execOp, ha, hb]
        rw [Sem.run_bind, this]
        rfl
      · cases h
    · cases h
  · split at h
    · rename_i b hb
      simp only [Option.some.injEq] at h; subst h
      simp only [execOp, hb]; rfl
    · cases h
  · split at h
    · rename_i i xv vs hvs
      split at h
      · rename_i u hu
        simp only [Option.some.injEq] at h; subst h
        have hu' : vs[i]? = some u := by rw [← Array.getElem?_toList]; exact hu
        simp only [execOp, hvs, Instr.extract, hu']
        rfl
      · cases h
    · cases h
  · rename_i c a b
    split at h
    · rename_i hc
      have := bv_eq h
      simp [execOp, hc, asBool, this]
    · rename_i hc
      have := bv_eq h
      simp [execOp, hc, asBool, this]
    · cases h
  · cases h

/-- As many operations as ask nothing of the world, one behind the other. -/
def runP (n : Nat) : List Oper → Fr → List Oper × Fr
  | [], σ => ([], σ)
  | ⟨some d, op, ty, pos, aft, none⟩ :: rest, σ =>
    match pv n σ op with
    | some v => runP n rest (up σ d v)
    | none => (⟨some d, op, ty, pos, aft, none⟩ :: rest, σ)
  | o :: rest, σ => (o :: rest, σ)

section
variable {P : Program} {n : Nat} {N : Cont} {σ : Fr} {w : World}

theorem Wl_runP {all : List Oper} : ∀ {l l' : List Oper} {σ σ' : Fr}, runP n l σ = (l', σ') → Wl P n all l' N σ' w → Wl P n all l N σ w
  | [], l', σ, σ', h, k => by
    simp only [runP, Prod.mk.injEq] at h; obtain ⟨rfl, rfl⟩ := h; exact k
  | ⟨some d, op, ty, pos, aft, none⟩ :: rest, l', σ, σ', h, k => by
    unfold runP at h
    split at h
    · rename_i v hv
      exact Wl_val (pv_run hv) (Wl_runP h k)
    · simp only [Prod.mk.injEq] at h; obtain ⟨rfl, rfl⟩ := h; exact k
  | ⟨none, op, ty, pos, aft, g⟩ :: rest, l', σ, σ', h, k => by
    simp only [runP, Prod.mk.injEq] at h; obtain ⟨rfl, rfl⟩ := h; exact k
  | ⟨some d, op, ty, pos, aft, some g⟩ :: rest, l', σ, σ', h, k => by
    simp only [runP, Prod.mk.injEq] at h; obtain ⟨rfl, rfl⟩ := h; exact k
end
end Go.Proofs.Ytandadfmmohhhaa.E

namespace Go.Proofs.Ytandadfmmohhhaa.E
open Go Go.RowKit

/-! ### facts about types, as instances -/
class SlT (P : Program) (T : TypeId) (e : outParam TypeId) (sz by_ : outParam Nat) : Prop where
  und : P.underlying T = some (.slice e)
  inf : (P.info? e).map (fun i => (i.size, i.bytes)) = some (sz, by_)
class ZeroT (P : Program) (e : TypeId) (z : outParam (List Value)) : Prop where
  zero : (P.info? e).map (fun i => i.zero.map (fun v => v.cells.toList)) = some (some z)
/-- A type of one cell. -/
class Sc (P : Program) (T : TypeId) : Prop where
  isAgg : ∀ w, (isAgg T).run P w = .ok false w
  size : (P.info? T).map (·.size) = some 1
/-- A struct's type of sz cells. -/
class Ag (P : Program) (T : TypeId) (sz : outParam Nat) : Prop where
  isAgg : ∀ w, (isAgg T).run P w = .ok true w
  size : (P.info? T).map (·.size) = some sz
class Fld (P : Program) (S : TypeId) (f : Nat) (off : outParam Nat) : Prop where
  run : ∀ a w, (Instr.fieldAt S (.pointer (some a)) f).run P w = .ok (.pointer (some (a.add off))) w

theorem Addr.add_eq (b o k : Nat) : (⟨b, o, none⟩ : Addr).add k = ⟨b, o + k, none⟩ := by
  unfold Addr.add; split <;> simp_all

theorem size_run {P : Program} {T : TypeId} {s : Nat} {w : World} (h : (P.info? T).map (·.size) = some s) : (sizeOf T).run P w = .ok s w := by
  cases hq : P.info? T with
  | none => simp [hq] at h
  | some i =>
    have : i.size = s := by simpa [hq] using h
    simp [sizeOf, typeInfo, hq, this]

theorem SlT.info {P : Program} {T : TypeId} {e : TypeId} {sz by_ : Nat} [h : SlT P T e sz by_] : ∃ i, P.info? e = some i ∧ i.size = sz ∧ i.bytes = by_ := by
  obtain ⟨i, hi, hz⟩ := Option.map_eq_some_iff.1 h.inf
  simp only [Prod.mk.injEq] at hz
  exact ⟨i, hi, hz.1, hz.2⟩

section
variable {P : Program} {n : Nat} {N : Cont} {σ : Fr} {w : World} {all rest : List Oper} {d : Option Tmp} {ty : TypeId} {pos : String} {aft : Array Edge}

theorem Wl_len {T e : TypeId} {sz by_ : Nat} [hT : SlT P T e sz by_] {x : Operand} {ao : Option Addr} {l c : Nat} (hx : ev n σ x = .slice ao l c)
    (h : Wl P n all rest N (upo σ d (.int .i64 l)) w) : Wl P n all (⟨d, .call ⟨.builtin .len, ⟨[x]⟩, ⟨[T]⟩⟩, ty, pos, aft, none⟩ :: rest) N σ w := by
  refine Wl_val ?_ h
  simp [execOp, resolve, invoke, builtin, hx, Builtin.len_, run_underlying hT.und, goInt]

theorem Wl_fa {S : TypeId} {f off : Nat} [hF : Fld P S f off] {x : Operand} {b o : Nat} (hx : ev n σ x = .pointer (some ⟨b, o, none⟩))
    (h : Wl P n all rest N (upo σ d (.pointer (some ⟨b, o + off, none⟩))) w) : Wl P n all (⟨d, .fieldAddr S x f, ty, pos, aft, none⟩ :: rest) N σ w := by
  refine Wl_val ?_ h
  simp [execOp, hx, hF.run, Addr.add_eq]

theorem Wl_ix {T e : TypeId} {sz by_ : Nat} [hT : SlT P T e sz by_] {x y : Operand} {b o l c i : Nat} {z : Int} (hx : ev n σ x = .slice (some ⟨b, o, none⟩) l c) (hy : ev n σ y = .int .i64 z) (hz : z = (i : Int)) (hi : i < l)
    (h : Wl P n all rest N (upo σ d (.pointer (some ⟨b, o + i * sz, none⟩))) w) : Wl P n all (⟨d, .indexAddr T x y, ty, pos, aft, none⟩ :: rest) N σ w := by
  refine Wl_val ?_ h
  obtain ⟨inf, hinf, hs, _⟩ := hT.info
  subst hz
  have h1 : (0 : Int) ≤ (i : Int) ∧ (i : Int) < (l : Int) := by omega
  have h2 := size_run (P := P) (T := e) (s := sz) (w := w) (by simp [hinf, hs])
  simp only [execOp, hx, hy, Instr.indexAt, asIntOf, Sem.run_bind, Sem.run_pure, Result.andThen_ok, run_underlying hT.und, h2, if_pos h1, Int.toNat_natCast, Addr.add_eq]

theorem Wl_ld {T : TypeId} [hT : Sc P T] {x : Operand} {b o : Nat} {v : Value} (hx : ev n σ x = .pointer (some ⟨b, o, none⟩)) (hv : w.cell? ⟨b, o, none⟩ = some v)
    (h : Wl P n all rest N (upo σ d v) w) : Wl P n all (⟨d, .load T x, ty, pos, aft, none⟩ :: rest) N σ w := by
  refine Wl_val ?_ h
  simp [execOp, hx, Instr.loadAt, Instr.sureAddr, loadVar, hT.isAgg, run_load, hv]

theorem Wl_ldA {T : TypeId} {sz : Nat} [hT : Ag P T sz] {x : Operand} {b o : Nat} {cs : List Value} (hx : ev n σ x = .pointer (some ⟨b, o, none⟩)) (hl : cs.length = sz)
    (hv : ∀ j, j < sz → w.cell? ⟨b, o + j, none⟩ = cs[j]?)
    (h : Wl P n all rest N (upo σ d (.agg cs.toArray)) w) : Wl P n all (⟨d, .load T x, ty, pos, aft, none⟩ :: rest) N σ w := by
  refine Wl_val ?_ h
  have h2 := size_run (P := P) (T := T) (s := cs.length) (w := w) (by rw [hl]; exact hT.size)
  have h3 := run_loadCells_list (P := P) w ⟨b, o, none⟩ cs (fun j v hj => by
    have hjl : j < cs.length := (List.getElem?_eq_some_iff.1 hj).1
    rw [Addr.add_eq, hv j (by omega), hj])
  simp [execOp, hx, Instr.loadAt, Instr.sureAddr, loadVar, hT.isAgg, h2, h3]

theorem Wl_st {T : TypeId} [hT : Sc P T] {x y : Operand} {b o : Nat} {v u : Value} (hx : ev n σ x = .pointer (some ⟨b, o, none⟩)) (hy : ev n σ y = v) (h1 : v.cells = #[v]) (h2 : v.oneCell' = true)
    (hv : w.cell? ⟨b, o, none⟩ = some u) (hf : w.frozen? ⟨b, o, none⟩ = false)
    (h : Wl P n all rest N (upo σ d undef) (w.setCell ⟨b, o, none⟩ v)) : Wl P n all (⟨d, .store T x y, ty, pos, aft, none⟩ :: rest) N σ w := by
  refine Wl_unit ?_ h
  have hs := size_run (P := P) (T := T) (w := w) hT.size
  simp [execOp, hx, hy, Instr.storeAt, Instr.sureAddr, storeVar, h1, hs, storeCells, run_store P w _ v _ h2, Addr.add_eq, hv, hf]

theorem Wl_stA {T : TypeId} {sz : Nat} [hT : Ag P T sz] {x y : Operand} {b o : Nat} {cs : List Value} {cur : Array Value} {e : TypeId} (hx : ev n σ x = .pointer (some ⟨b, o, none⟩)) (hy : ev n σ y = .agg cs.toArray) (hl : cs.length = sz)
    (h1 : ∀ u ∈ cs, u.oneCell' = true) (hg : w.heap[b]? = some (.cells cur e (0, 0))) (hfit : o + sz ≤ cur.size)
    (h : Wl P n all rest N (upo σ d undef) (w.setRow b (cur.toList.take o ++ cs ++ cur.toList.drop (o + sz)).toArray)) : Wl P n all (⟨d, .store T x y, ty, pos, aft, none⟩ :: rest) N σ w := by
  refine Wl_unit ?_ h
  have hs := size_run (P := P) (T := T) (w := w) hT.size
  have hst := run_storeCells_at P b o e cs 0 cur w hg (by omega) h1
  simp only [Nat.add_zero, hl] at hst
  simp [execOp, hx, hy, Instr.storeAt, Instr.sureAddr, storeVar, Value.cells, hs, hl, hst]

theorem Wl_alloc {T : TypeId} {z : List Value} [hT : ZeroT P T z] (h : Wl P n all rest N (upo σ d (.pointer (some ⟨w.heap.size, 0, none⟩))) (w.alloc (.cells z.toArray T))) :
    Wl P n all (⟨d, .alloc T, ty, pos, aft, none⟩ :: rest) N σ w := by
  refine Wl_val ?_ h
  obtain ⟨i, hi, hz⟩ := Option.map_eq_some_iff.1 hT.zero
  obtain ⟨v, hv, hvz⟩ := Option.map_eq_some_iff.1 hz
  have : v.cells = z.toArray := by rw [← hvz]
  simp [execOp, Instr.alloc, zeroValue, typeInfo, hi, hv, newVar, newRow, this]

theorem Wl_box {T : TypeId} {x : Operand} {cs : List Value} (hx : (ev n σ x).cells = cs.toArray) (h : Wl P n all rest N (upo σ d (.pointer (some ⟨w.heap.size, 0, none⟩))) (w.alloc (.cells cs.toArray T))) :
    Wl P n all (⟨d, .box T x, ty, pos, aft, none⟩ :: rest) N σ w := by
  refine Wl_val ?_ h
  simp [execOp, Instr.box, newVar, newRow, hx]

/-- The operands, as they stand. -/
theorem Wl_call {f : FuncId} {fn : Func} (hf : P.funcs[f]? = some fn) (hn : (fn.name == "runtime.NumGoroutine") = false) (hb : fn.body.isNone = false) {xs : List Operand} {tys : Array TypeId} {args : List Value} {Q : Value → World → Prop}
    (ha : xs.map (ev n σ) = args) (hc : C P f args.toArray w Q) (h : ∀ v w'', Q v w'' → Wl P n all rest N (upo σ d v) w'') :
    Wl P n all (⟨d, .call ⟨.value (.func f), ⟨xs⟩, tys⟩, ty, pos, aft, none⟩ :: rest) N σ w := by
  refine Wl_enter (f := f) (args := args.toArray) (w' := w) ?_ hc h
  subst ha
  have hn' : ¬ fn.name = "runtime.NumGoroutine" := by simpa using hn
  have hb' : ¬ fn.body = none := by intro e; rw [e] at hb; cases hb
  simp [execOp, resolve, ev, Deferred.ofValue, invoke, callFunc, hf, hn', hb']

end
end Go.Proofs.Ytandadfmmohhhaa.E

namespace Go.Proofs.Ytandadfmmohhhaa.E
open Go Go.RowKit

/-- How long a list of the call's own may be. -/
def lim : Nat := 2147483648
theorem lim_maxLen : lim ≤ maxLen := by decide

/-- Data with the places where their slices lie. -/
class Lod (α : Type) where
  ty : TypeId
  sz : Nat
  cells : α → List Value
  len : ∀ x, (cells x).length = sz
  one : ∀ x, ∀ u ∈ cells x, u.oneCell' = true
  fp : α → List Nat
  rd : Nat → World → α → Prop
  own : World → α → Prop
  rd_of : ∀ {w x}, own w x → rd lim w x
  rd_le : ∀ {m m' w x}, m ≤ m' → rd m w x → rd m' w x
  rd_below : ∀ {m w w' x}, rd m w x → Below w.heap.size w w' → rd m w' x
  own_frame : ∀ {w w' x}, own w x → (∀ b, b ∈ fp x → w'.heap[b]? = w.heap[b]?) → own w' x

structure Sl (α : Type) where
  ao : Option Addr
  n : Nat
  cap : Nat
  l : List α
  hn : l.length = n

namespace Sl
variable {α : Type}
def val (s : Sl α) : Value := .slice s.ao s.n s.cap
def blk (s : Sl α) : Nat := match s.ao with | some a => a.block | none => 0
def off (s : Sl α) : Nat := match s.ao with | some a => a.off | none => 0
end Sl

section
variable {α : Type} [Lod α]

/-- The i-th, of a place that there is. -/
def Sl.nth (s : Sl α) (i : Nat) (h : i < s.n) : α := s.l[i]'(by rw [s.hn]; exact h)

def Sl.rd (m : Nat) (w : World) (s : Sl α) : Prop :=
  s.n ≤ m ∧ s.n ≤ s.cap ∧ s.cap ≤ maxLen ∧ (s.ao = none → s.cap = 0) ∧ (s.n ≠ 0 → s.ao = some ⟨s.blk, s.off, none⟩) ∧
  (∀ i, (h : i < s.n) → ∀ j, j < Lod.sz α → w.cell? ⟨s.blk, s.off + i * Lod.sz α + j, none⟩ = (Lod.cells (s.nth i h))[j]?) ∧
  ∀ x ∈ s.l, Lod.rd m w x

/-- The row that holds the slice: its cells; the slice lies from o on. -/
def Sl.row (w : World) (s : Sl α) (g o : Nat) (cur : Array Value) : Prop :=
  s.ao = some ⟨g, o, none⟩ ∧ w.heap[g]? = some (.cells cur (Lod.ty α) (0, 0)) ∧ s.n ≤ s.cap ∧ s.cap ≤ maxLen ∧ cur.size = o + s.cap * Lod.sz α ∧
  (cur.toList.drop o).take (s.n * Lod.sz α) = s.l.flatMap Lod.cells

def Sl.own (w : World) (s : Sl α) : Prop :=
  s.n ≤ lim ∧ (∀ x ∈ s.l, Lod.own w x) ∧ ((s.cap = 0 ∧ s.n = 0) ∨ ∃ g o cur, s.row w g o cur)

def Sl.fp (s : Sl α) : List Nat := (s.ao.toList.map (·.block)) ++ s.l.flatMap Lod.fp

theorem flatMap_get (l : List α) (i : Nat) (h : i < l.length) (j : Nat) (hj : j < Lod.sz α) : (l.flatMap Lod.cells)[i * Lod.sz α + j]? = (Lod.cells l[i])[j]? := by
  induction l generalizing i with
  | nil => simp at h
  | cons x l ih =>
    simp only [List.flatMap_cons]
    have hx := Lod.len x
    cases i with
    | zero =>
      rw [List.getElem?_append_left (by omega)]
      simp
    | succ i =>
      rw [List.getElem?_append_right (by rw [hx, Nat.succ_mul]; omega)]
      have : (i + 1) * Lod.sz α + j - (Lod.cells x).length = i * Lod.sz α + j := by rw [hx, Nat.succ_mul]; omega
      rw [this]
      simpa using ih i (by simpa using h)

theorem flatMap_len (l : List α) : (l.flatMap (Lod.cells (α := α))).length = l.length * Lod.sz α := by
  induction l with
  | nil => simp
  | cons x l ih => simp [List.flatMap_cons, ih, Lod.len x, Nat.succ_mul, Nat.add_comm]

theorem lt_mul_of {i j n s : Nat} (hi : i < n) (hj : j < s) : i * s + j < n * s := by
  have h1 : (i + 1) * s ≤ n * s := Nat.mul_le_mul_right s hi
  rw [Nat.succ_mul] at h1
  omega

theorem Sl.row.cellAt {w : World} {s : Sl α} {g o : Nat} {cur : Array Value} (h : s.row w g o cur) (i : Nat) (hi : i < s.n) (j : Nat) (hj : j < Lod.sz α) :
    cur[o + i * Lod.sz α + j]? = (Lod.cells (s.nth i hi))[j]? := by
  obtain ⟨_, _, h3, _, h5, h6⟩ := h
  unfold Sl.nth
  rw [← flatMap_get s.l i (by rw [s.hn]; exact hi) j hj, ← h6]
  have hb := lt_mul_of hi hj
  rw [List.getElem?_take, if_pos hb, List.getElem?_drop, Array.getElem?_toList, Nat.add_assoc]

theorem Sl.rd_of {w : World} {s : Sl α} (h : s.own w) : s.rd lim w := by
  obtain ⟨h1, h2, h3⟩ := h
  rcases h3 with ⟨e2, e3⟩ | ⟨g, o, cur, hr⟩
  · refine ⟨h1, by simp [e3], by simp [e2], fun _ => e2, fun h => absurd e3 h, ?_, fun x hx => Lod.rd_of (h2 x hx)⟩
    intro i hi
    omega
  · have hc := hr.cellAt
    obtain ⟨r1, r2, r3, r4, r5, r6⟩ := hr
    have hb : s.blk = g := by simp [Sl.blk, r1]
    have ho : s.off = o := by simp [Sl.off, r1]
    refine ⟨h1, r3, r4, fun h => (by rw [r1] at h; cases h), fun _ => (by rw [hb, ho, r1]), ?_, fun x hx => Lod.rd_of (h2 x hx)⟩
    intro i hi j hj
    rw [hb, ho, cell_of_row w g _ cur _ (0, 0) r2]
    exact hc i hi j hj

theorem Sl.rd_le {m m' : Nat} {w : World} {s : Sl α} (h : m ≤ m') (k : s.rd m w) : s.rd m' w :=
  ⟨Nat.le_trans k.1 h, k.2.1, k.2.2.1, k.2.2.2.1, k.2.2.2.2.1, k.2.2.2.2.2.1, fun x hx => Lod.rd_le h (k.2.2.2.2.2.2 x hx)⟩

theorem Sl.rd_below {m : Nat} {w w' : World} {s : Sl α} (h : s.rd m w) (hb : Below w.heap.size w w') : s.rd m w' := by
  obtain ⟨h1, h2, h3, h4, h5, h6, h7⟩ := h
  refine ⟨h1, h2, h3, h4, h5, ?_, fun x hx => Lod.rd_below (h7 x hx) hb⟩
  intro i hi j hj
  rw [← h6 i hi j hj]
  have hlt : (Lod.cells (s.nth i hi))[j]? = some ((Lod.cells (s.nth i hi))[j]'(by rw [Lod.len]; exact hj)) := List.getElem?_eq_getElem _
  have h8 := h6 i hi j hj
  rw [hlt] at h8
  exact hb.cell (World.block_lt_of_cell? _ _ h8)

theorem Sl.own_frame {w w' : World} {s : Sl α} (h : s.own w) (hf : ∀ b, b ∈ s.fp → w'.heap[b]? = w.heap[b]?) : s.own w' := by
  obtain ⟨h1, h2, h3⟩ := h
  refine ⟨h1, fun x hx => Lod.own_frame (h2 x hx) (fun b hb => hf b (List.mem_append_right _ (List.mem_flatMap.2 ⟨x, hx, hb⟩))), ?_⟩
  rcases h3 with h3 | ⟨g, o, cur, r1, r2, r⟩
  · exact .inl h3
  · refine .inr ⟨g, o, cur, r1, ?_, r⟩
    rw [hf g (by simp [Sl.fp, r1]), r2]

end

/-- A flat type's instance. -/
@[reducible] def Lod.flat {α : Type} (ty : TypeId) (sz : Nat) (cells : α → List Value) (len : ∀ x, (cells x).length = sz) (one : ∀ x, ∀ u ∈ cells x, u.oneCell' = true) : Lod α where
  ty := ty
  sz := sz
  cells := cells
  len := len
  one := one
  fp := fun _ => []
  rd := fun _ _ _ => True
  own := fun _ _ => True
  rd_of := fun _ => trivial
  rd_le := fun _ _ => trivial
  rd_below := fun _ _ => trivial
  own_frame := fun _ _ => trivial

/-- A slice (no slice of bare slices is owned here: its type's number is not told). -/
instance Lod.slice {α : Type} [Lod α] : Lod (Sl α) where
  ty := 0
  sz := 1
  cells := fun s => [s.val]
  len := fun _ => rfl
  one := fun s u hu => by simp only [List.mem_singleton] at hu; subst hu; rfl
  fp := Sl.fp
  rd := Sl.rd
  own := Sl.own
  rd_of := Sl.rd_of
  rd_le := Sl.rd_le
  rd_below := Sl.rd_below
  own_frame := Sl.own_frame

/-! ### what the call's own memory holds -/
structure Atom where
  fp : List Nat
  holds : World → Prop
  frame : ∀ {w w' : World}, holds w → (∀ b, b ∈ fp → w'.heap[b]? = w.heap[b]?) → holds w'

def Blk (b : Nat) (cs : List Value) (T : TypeId) : Atom where
  fp := [b]
  holds := fun w => w.heap[b]? = some (.cells cs.toArray T (0, 0))
  frame := fun h hf => by rw [hf b (by simp)]; exact h

def Own {α : Type} [Lod α] (x : α) : Atom where
  fp := Lod.fp x
  holds := fun w => Lod.own w x
  frame := Lod.own_frame

def fps (L : List Atom) : List Nat := L.flatMap Atom.fp

structure St (w0 w : World) (L : List Atom) : Prop where
  below : Below w0.heap.size w0 w
  nodup : (fps L).Nodup
  range : ∀ b, b ∈ fps L → w0.heap.size ≤ b ∧ b < w.heap.size
  holds : ∀ A, A ∈ L → A.holds w

theorem St.start (w : World) : St w w [] := ⟨Below.refl _ _, List.nodup_nil, fun _ h => by simp [fps] at h, fun _ h => by simp at h⟩

theorem St.perm {w0 w : World} {L M : List Atom} (h : St w0 w L) (hp : M.Perm L) : St w0 w M := by
  have hq : (fps M).Perm (fps L) := List.Perm.flatMap_right _ hp
  exact ⟨h.below, hq.nodup_iff.2 h.nodup, fun b hb => h.range b (hq.mem_iff.1 hb), fun A hA => h.holds A (hp.mem_iff.1 hA)⟩

theorem fps_sub {M L : List Atom} (h : M.Sublist L) : (fps M).Sublist (fps L) := by
  induction h with
  | slnil => exact List.Sublist.refl _
  | cons a _ ih => exact ih.trans (List.sublist_append_right _ _)
  | cons_cons a _ ih => exact List.Sublist.append (List.Sublist.refl _) ih

theorem St.sub {w0 w : World} {L M : List Atom} (h : St w0 w L) (hp : M.Sublist L) : St w0 w M := by
  have hq : (fps M).Sublist (fps L) := fps_sub hp
  exact ⟨h.below, h.nodup.sublist hq, fun b hb => h.range b (hq.subset hb), fun A hA => h.holds A (hp.subset hA)⟩

/-- A pure call behind. -/
theorem St.then {w0 w w' : World} {L M : List Atom} (h : St w0 w L) (k : St w w' M) : St w0 w' (M ++ L) := by
  have hfps : fps (M ++ L) = fps M ++ fps L := by simp [fps]
  refine ⟨h.below.trans (k.below.mono h.below.size), ?_, ?_, ?_⟩
  · rw [hfps, List.nodup_append]
    refine ⟨k.nodup, h.nodup, fun a ha b hb e => ?_⟩
    have h1 := k.range a ha
    have h2 := h.range b hb
    omega
  · intro b hb
    rw [hfps, List.mem_append] at hb
    rcases hb with hb | hb
    · have h1 := k.range b hb
      have := h.below.size
      omega
    · have h2 := h.range b hb
      have := k.below.size
      omega
  · intro A hA
    rcases List.mem_append.1 hA with hA | hA
    · exact k.holds A hA
    · refine A.frame (h.holds A hA) (fun b hb => k.below.block b ?_)
      exact (h.range b (List.mem_flatMap.2 ⟨A, hA, hb⟩)).2

/-- The head atom turned in place. -/
theorem St.turn {w0 w w' : World} {A A' : Atom} {L : List Atom} (h : St w0 w (A :: L)) (hsz : w'.heap.size = w.heap.size) (hos : w'.os = w.os) (ht : w'.tape = w.tape) (ho : w'.output = w.output)
    (hfp : A'.fp = A.fp) (hblk : ∀ b, b ∉ A.fp → w'.heap[b]? = w.heap[b]?) (hA : A'.holds w') : St w0 w' (A' :: L) := by
  have e1 : fps (A :: L) = A.fp ++ fps L := rfl
  have e2 : fps (A' :: L) = A.fp ++ fps L := by rw [← hfp]; rfl
  refine ⟨⟨hos.trans h.below.os, ht.trans h.below.tape, ho.trans h.below.output, by rw [hsz]; exact h.below.size, fun k hk => ?_⟩, ?_, ?_, ?_⟩
  · rw [hblk k (fun hm => ?_), h.below.block k hk]
    have := h.range k (by rw [e1]; exact List.mem_append_left _ hm)
    omega
  · rw [e2, ← e1]; exact h.nodup
  · intro b hb
    rw [hsz]; exact h.range b (by rw [e1]; rwa [e2] at hb)
  · intro B hB
    rcases List.mem_cons.1 hB with rfl | hB
    · exact hA
    · refine B.frame (h.holds B (List.mem_cons_of_mem _ hB)) (fun b hb => hblk b (fun hm => ?_))
      have hn := h.nodup
      rw [e1, List.nodup_append] at hn
      exact hn.2.2 b hm b (List.mem_flatMap.2 ⟨B, hB, hb⟩) rfl

theorem St.alloc {w0 w : World} {L : List Atom} (h : St w0 w L) (cs : List Value) (T : TypeId) : St w0 (w.alloc (.cells cs.toArray T)) (Blk w.heap.size cs T :: L) := by
  have k : St w (w.alloc (.cells cs.toArray T)) [Blk w.heap.size cs T] := by
    refine ⟨(Below.refl _ _).alloc (Nat.le_refl _) _, by simp [fps, Blk], ?_, ?_⟩
    · intro b hb
      simp [fps, Blk] at hb
      subst hb
      simp
    · intro A hA
      simp at hA
      subst hA
      exact heap_alloc_new w _
  exact h.then k
end Go.Proofs.Ytandadfmmohhhaa.E

namespace Go.Proofs.Ytandadfmmohhhaa.E
open Go Go.RowKit

/-! ### the walk with the worlds out of sight -/
def SN (K : Cont) (w0 : World) (σ : Fr) (L : List Atom) : Prop := ∀ w, St w0 w L → K σ w
def SW (P : Program) (n : Nat) (c : Code) (N : Cont) (B : List (Nat × Cont)) (R : Cont) (w0 : World) (σ : Fr) (L : List Atom) : Prop := ∀ w, St w0 w L → W P n c N B R σ w
def SWl (P : Program) (n : Nat) (all l : List Oper) (N : Cont) (w0 : World) (σ : Fr) (L : List Atom) : Prop := ∀ w, St w0 w L → Wl P n all l N σ w

/-- From the one list of atoms to the other, in whatever world. -/
def Imp (w0 : World) (L M : List Atom) : Prop := ∀ w, St w0 w L → St w0 w M

theorem Imp.refl {w0 : World} {L : List Atom} : Imp w0 L L := fun _ h => h
theorem Imp.nil {w0 : World} {L : List Atom} : Imp w0 L [] := fun _ h => h.sub (List.nil_sublist _)
theorem Imp.trans {w0 : World} {L M K : List Atom} (h : Imp w0 L M) (k : Imp w0 M K) : Imp w0 L K := fun w x => k w (h w x)
theorem Imp.drop {w0 : World} {A : Atom} {L M : List Atom} (h : Imp w0 L M) : Imp w0 (A :: L) M := fun w x => h w (x.sub (List.sublist_cons_self _ _))
theorem Imp.one {w0 : World} {A : Atom} {L : List Atom} (k : Nat) (h : L[k]? = some A) : Imp w0 L [A] := fun _ x => x.sub (List.singleton_sublist.2 (List.mem_of_getElem? h))

theorem perm_front {α : Type} : ∀ (L : List α) (k : Nat) (A : α), L[k]? = some A → (A :: L.eraseIdx k).Perm L
  | [], k, A, h => by simp at h
  | x :: L, 0, A, h => by simp at h; subst h; exact List.Perm.refl _
  | x :: L, k + 1, A, h => by
    have := perm_front L k A (by simpa using h)
    exact (List.Perm.swap _ _ _).trans (List.Perm.cons _ this)

theorem perm_back {α : Type} : ∀ (L : List α) (k : Nat) (A : α), k < L.length → (L.set k A).Perm (A :: L.eraseIdx k)
  | [], k, A, h => by simp at h
  | x :: L, 0, A, _ => List.Perm.refl _
  | x :: L, k + 1, A, h => by
    have := perm_back L k A (by simpa using h)
    exact (List.Perm.cons _ this).trans (List.Perm.swap _ _ _)

/-- The k-th atom ahead. -/
theorem Imp.front {w0 : World} {A : Atom} {L : List Atom} (k : Nat) (h : L[k]? = some A) : Imp w0 L (A :: L.eraseIdx k) :=
  fun _ x => x.perm (perm_front L k A h)

theorem Imp.back {w0 : World} {A : Atom} {L : List Atom} (k : Nat) (hk : k < L.length) : Imp w0 (A :: L.eraseIdx k) (L.set k A) :=
  fun _ x => x.perm (perm_back L k A hk)

/-- What a call hands back, and what new memory it leaves. -/
def F (P : Program) (f : FuncId) (args : List Value) (w : World) (Φ : Value → List Atom → Prop) : Prop :=
  C P f args.toArray w fun v w' => ∃ M, Φ v M ∧ St w w' M

def rA (v : Value) : Value → List Atom → Prop := fun v' M => v' = v ∧ M = []
def rZ {γ : Type} (ret : γ → Value) (Q : γ → Prop) : Value → List Atom → Prop := fun v M => ∃ z, v = ret z ∧ M = [] ∧ Q z
def rB {β : Type} [Lod β] (ret : β → Value) (Q : β → Prop) : Value → List Atom → Prop := fun v M => ∃ y, v = ret y ∧ M = [Own y] ∧ Q y

def Ret (P : Program) (fn : Func) (w0 : World) (Φ : Value → List Atom → Prop) : Cont :=
  fun σ w => ∃ v, (results fn (mk fn.ntmps σ).tmps).run P w = .ok v w ∧ ∃ M, Φ v M ∧ St w0 w M

def fr0 : Nat → List Value → Fr
  | _, [] => fun _ => undef
  | k, v :: l => up (fr0 (k + 1) l) k v

theorem fr0_get : ∀ (l : List Value) (k i : Nat), fr0 k l (k + i) = l.getD i undef
  | [], k, i => by simp [fr0]
  | v :: l, k, i => by
    cases i with
    | zero => simp [fr0, up_same]
    | succ i =>
      have := fr0_get l (k + 1) i
      rw [show k + (i + 1) = k + 1 + i by omega]
      rw [fr0, up_ne _ _ (by omega), this]
      simp

theorem F_of {P : Program} {f : FuncId} {fn : Func} {c : Code} {args : List Value} {w : World} {Φ : Value → List Atom → Prop}
    (hf : P.funcs[f]? = some fn) (hb : fn.body = some c) (hle : Nat.ble args.length fn.ntmps = true)
    (h : SW P fn.ntmps c (Ret P fn w Φ) [] (Ret P fn w Φ) w (fr0 0 args) []) : F P f args w Φ := by
  have e : fr0 0 args = fun i => args.getD i undef := by
    funext i
    have := fr0_get args 0 i
    simpa using this
  have h' := h w (St.start w)
  rw [e] at h'
  exact C_of_W hf hb (Nat.le_of_ble_eq_true hle) h'

section
variable {P : Program} {n : Nat} {N : Cont} {B : List (Nat × Cont)} {R : Cont} {w0 : World} {σ : Fr} {L : List Atom}

theorem SN_W {y : Code} (h : SW P n y N B R w0 σ L) : SN (fun σ w => W P n y N B R σ w) w0 σ L := h
theorem SW_region {id : Nat} {ops : List Oper} (h : SWl P n ops ops N w0 σ L) : SW P n (.region id ops.toArray false) N B R w0 σ L := fun w x => W_region (h w x)
theorem SW_seq {x y : Code} (h : SW P n x (fun σ w => W P n y N B R σ w) B R w0 σ L) : SW P n (.seq x y) N B R w0 σ L := fun w k => W_seq (h w k)
theorem SW_skip (h : SN N w0 σ L) : SW P n .skip N B R w0 σ L := fun w x => W_skip (h w x)
theorem SW_ret (h : SN R w0 σ L) : SW P n .ret N B R w0 σ L := fun w x => W_ret (h w x)
theorem SW_exit {id : Nat} (h : SN (bl B id) w0 σ L) : SW P n (.exit id) N B R w0 σ L := fun w x => W_exit (h w x)
theorem SN_bl0 {id : Nat} {K : Cont} (h : SN K w0 σ L) : SN (bl ((id, K) :: B) id) w0 σ L := fun w x => by simpa [bl] using h w x
theorem SN_blS {id i : Nat} {K : Cont} (hne : Nat.beq id i = false) (h : SN (bl B id) w0 σ L) : SN (bl ((i, K) :: B) id) w0 σ L := fun w x => by
  have : id ≠ i := fun e => by subst e; simp at hne
  simpa [bl, this] using h w x
theorem SW_block {id : Nat} {c : Code} (h : SW P n c N ((id, N) :: B) R w0 σ L) : SW P n (.block id c) N B R w0 σ L := fun w x => W_block (h w x)
theorem SW_cond {c : Operand} {x y : Code} {t : Bool} (hc : ev n σ c = .bool t) (ht : t = true → SW P n x N B R w0 σ L) (hf : t = false → SW P n y N B R w0 σ L) :
    SW P n (.cond c x y) N B R w0 σ L := fun w k => W_cond hc (fun h => ht h w k) (fun h => hf h w k)
theorem SW_condT {c : Operand} {x y : Code} (hc : ev n σ c = .bool true) (h : SW P n x N B R w0 σ L) : SW P n (.cond c x y) N B R w0 σ L :=
  SW_cond hc (fun _ => h) (fun h => by cases h)
theorem SW_condF {c : Operand} {x y : Code} (hc : ev n σ c = .bool false) (h : SW P n y N B R w0 σ L) : SW P n (.cond c x y) N B R w0 σ L :=
  SW_cond hc (fun h => by cases h) (fun _ => h)

def Back (w0 : World) (m : Nat) (I : Nat → Fr → List Atom → Prop) : Cont := fun σ w => ∃ m', m' < m ∧ ∃ L, I m' σ L ∧ St w0 w L
def Mid (w0 : World) (I : Fr → List Atom → Prop) : Cont := fun σ w => ∃ L, I σ L ∧ St w0 w L

theorem SW_loop {c : Code} (I : Nat → Fr → List Atom → Prop) (m : Nat) {L' : List Atom} (hL : Imp w0 L L') (h₀ : I m σ L')
    (round : ∀ m σ L, I m σ L → SW P n c (Back w0 m I) B R w0 σ L) : SW P n (.loop c) N B R w0 σ L := by
  intro w x
  refine W_loop (fun m σ w => ∃ L, I m σ L ∧ St w0 w L) m ⟨L', h₀, hL w x⟩ ?_
  rintro m σ w ⟨L, hI, hs⟩
  exact round m σ L hI w hs
theorem SN_back {m : Nat} {I : Nat → Fr → List Atom → Prop} (m' : Nat) {L' : List Atom} (hm : m' < m) (hL : Imp w0 L L') (hI : I m' σ L') : SN (Back w0 m I) w0 σ L :=
  fun w x => ⟨m', hm, L', hI, hL w x⟩

theorem SW_cut {x y : Code} (I : Fr → List Atom → Prop) (h1 : SW P n x (Mid w0 I) B R w0 σ L) (h2 : ∀ σ L, I σ L → SW P n y N B R w0 σ L) : SW P n (.seq x y) N B R w0 σ L := by
  intro w k
  refine W_seq (W_mono ?_ (h1 w k))
  rintro σ w ⟨L, hI, hs⟩
  exact h2 σ L hI w hs
theorem SN_mid {I : Fr → List Atom → Prop} {L' : List Atom} (hL : Imp w0 L L') (hI : I σ L') : SN (Mid w0 I) w0 σ L := fun w x => ⟨L', hI, hL w x⟩

theorem SW_imp {c : Code} {L' : List Atom} (hL : Imp w0 L L') (h : SW P n c N B R w0 σ L') : SW P n c N B R w0 σ L := fun w x => h w (hL w x)
theorem SWl_imp {all l : List Oper} {L' : List Atom} (hL : Imp w0 L L') (h : SWl P n all l N w0 σ L') : SWl P n all l N w0 σ L := fun w x => h w (hL w x)
theorem SW_fr {c : Code} {τ : Fr} (e : σ = τ) (h : SW P n c N B R w0 τ L) : SW P n c N B R w0 σ L := e ▸ h

end

/-! ### results -/
def rv1 (n : Nat) (σ : Fr) : ResultVar → Sem Value
  | .tmp t => pure (ev n σ (.tmp t))
  | .cell a t => do loadVar t (← asAddr (ev n σ (.tmp a)))

theorem getD_mk (n : Nat) (σ : Fr) (t : Nat) : (mk n σ).tmps[t]?.getD undef = ev n σ (.tmp t) := by
  have := congrFun (eval_mk n σ) (.tmp t)
  simpa [Act.eval] using this

theorem andThen_assoc {α β γ : Type} (r : Result α) (f : α → World → Result β) (g : β → World → Result γ) :
    (r.andThen f).andThen g = r.andThen fun a w => (f a w).andThen g := by cases r <;> rfl

theorem results_1 {P : Program} {fn : Func} {σ : Fr} {r1 : ResultVar} {v1 : Value} {w : World} {n : Nat} (h : fn.results = #[r1]) (h1 : (rv1 n σ r1).run P w = .ok v1 w) : (results fn (mk n σ).tmps).run P w = .ok v1 w := by
  rw [← h1]
  cases r1 <;> simp [results, h, getD_mk, rv1]

theorem results_2 {P : Program} {fn : Func} {σ : Fr} {r1 r2 : ResultVar} {v1 v2 : Value} {w : World} {n : Nat} (h : fn.results = #[r1, r2]) (h1 : (rv1 n σ r1).run P w = .ok v1 w) (h2 : (rv1 n σ r2).run P w = .ok v2 w) :
    (results fn (mk n σ).tmps).run P w = .ok (.tuple #[v1, v2]) w := by
  have : (results fn (mk n σ).tmps).run P w = ((rv1 n σ r1).run P w).andThen fun a w => ((rv1 n σ r2).run P w).andThen fun b w => .ok (.tuple #[a, b]) w := by
    cases r1 <;> cases r2 <;> simp [results, h, getD_mk, rv1, andThen_assoc]
  rw [this, h1, Result.andThen_ok, h2]; rfl

theorem results_3 {P : Program} {fn : Func} {σ : Fr} {r1 r2 r3 : ResultVar} {v1 v2 v3 : Value} {w : World} {n : Nat} (h : fn.results = #[r1, r2, r3]) (h1 : (rv1 n σ r1).run P w = .ok v1 w) (h2 : (rv1 n σ r2).run P w = .ok v2 w)
    (h3 : (rv1 n σ r3).run P w = .ok v3 w) : (results fn (mk n σ).tmps).run P w = .ok (.tuple #[v1, v2, v3]) w := by
  have : (results fn (mk n σ).tmps).run P w = ((rv1 n σ r1).run P w).andThen fun a w => ((rv1 n σ r2).run P w).andThen fun b w => ((rv1 n σ r3).run P w).andThen fun c w => .ok (.tuple #[a, b, c]) w := by
    cases r1 <;> cases r2 <;> cases r3 <;> simp [results, h, getD_mk, rv1, andThen_assoc]
  rw [this, h1, Result.andThen_ok, h2, Result.andThen_ok, h3]; rfl

theorem results_4 {P : Program} {fn : Func} {σ : Fr} {r1 r2 r3 r4 : ResultVar} {v1 v2 v3 v4 : Value} {w : World} {n : Nat} (h : fn.results = #[r1, r2, r3, r4]) (h1 : (rv1 n σ r1).run P w = .ok v1 w) (h2 : (rv1 n σ r2).run P w = .ok v2 w)
    (h3 : (rv1 n σ r3).run P w = .ok v3 w) (h4 : (rv1 n σ r4).run P w = .ok v4 w) : (results fn (mk n σ).tmps).run P w = .ok (.tuple #[v1, v2, v3, v4]) w := by
  have : (results fn (mk n σ).tmps).run P w = ((rv1 n σ r1).run P w).andThen fun a w => ((rv1 n σ r2).run P w).andThen fun b w => ((rv1 n σ r3).run P w).andThen fun c w => ((rv1 n σ r4).run P w).andThen fun d w => .ok (.tuple #[a, b, c, d]) w := by
    cases r1 <;> cases r2 <;> cases r3 <;> cases r4 <;> simp [results, h, getD_mk, rv1, andThen_assoc]
  rw [this, h1, Result.andThen_ok, h2, Result.andThen_ok, h3, Result.andThen_ok, h4]; rfl

/-- One result, told. -/
def RV (P : Program) (n : Nat) (w0 : World) (σ : Fr) (L : List Atom) (r : ResultVar) (v : Value) : Prop := ∀ w, St w0 w L → (rv1 n σ r).run P w = .ok v w

section
variable {P : Program} {n : Nat} {w0 : World} {σ : Fr} {L : List Atom}

theorem RV.tmp {t : Nat} {v : Value} (h : ev n σ (.tmp t) = v) : RV P n w0 σ L (.tmp t) v := fun w _ => by subst h; rfl

theorem blk_heap {k b : Nat} {cs : List Value} {T : TypeId} (hk : L[k]? = some (Blk b cs T)) {w : World} (h : St w0 w L) : w.heap[b]? = some (.cells cs.toArray T (0, 0)) :=
  h.holds _ (List.mem_of_getElem? hk)

theorem RV.cell {t : Nat} {T T' : TypeId} {sz : Nat} [hT : Ag P T sz] (k : Nat) {b : Nat} {cs : List Value} (hk : L[k]? = some (Blk b cs T')) (h : ev n σ (.tmp t) = .pointer (some ⟨b, 0, none⟩)) (hl : cs.length = sz) : RV P n w0 σ L (.cell t T) (.agg cs.toArray) := by
  intro w x
  have hb := blk_heap hk x
  have h2 := size_run (P := P) (T := T) (s := cs.length) (w := w) (by rw [hl]; exact hT.size)
  have h3 := run_loadCells_list (P := P) w ⟨b, 0, none⟩ cs (fun j v hj => by
    rw [Addr.add_eq, cell_of_row w b _ _ _ _ hb]; simpa using hj)
  simp [rv1, h, asAddr, loadVar, hT.isAgg, h2, h3]

section
variable {fn : Func} {Φ : Value → List Atom → Prop} {M : List Atom}
theorem SN_ret1 {r1 : ResultVar} {v1 : Value} (hr : fn.results = #[r1]) (h1 : RV P fn.ntmps w0 σ L r1 v1) (hL : Imp w0 L M) (h : Φ v1 M) : SN (Ret P fn w0 Φ) w0 σ L :=
  fun w x => ⟨_, results_1 hr (h1 w x), M, h, hL w x⟩
theorem SN_ret2 {r1 r2 : ResultVar} {v1 v2 : Value} (hr : fn.results = #[r1, r2]) (h1 : RV P fn.ntmps w0 σ L r1 v1) (h2 : RV P fn.ntmps w0 σ L r2 v2) (hL : Imp w0 L M) (h : Φ (.tuple #[v1, v2]) M) : SN (Ret P fn w0 Φ) w0 σ L :=
  fun w x => ⟨_, results_2 hr (h1 w x) (h2 w x), M, h, hL w x⟩
theorem SN_ret3 {r1 r2 r3 : ResultVar} {v1 v2 v3 : Value} (hr : fn.results = #[r1, r2, r3]) (h1 : RV P fn.ntmps w0 σ L r1 v1) (h2 : RV P fn.ntmps w0 σ L r2 v2) (h3 : RV P fn.ntmps w0 σ L r3 v3) (hL : Imp w0 L M) (h : Φ (.tuple #[v1, v2, v3]) M) : SN (Ret P fn w0 Φ) w0 σ L :=
  fun w x => ⟨_, results_3 hr (h1 w x) (h2 w x) (h3 w x), M, h, hL w x⟩
theorem SN_ret4 {r1 r2 r3 r4 : ResultVar} {v1 v2 v3 v4 : Value} (hr : fn.results = #[r1, r2, r3, r4]) (h1 : RV P fn.ntmps w0 σ L r1 v1) (h2 : RV P fn.ntmps w0 σ L r2 v2) (h3 : RV P fn.ntmps w0 σ L r3 v3) (h4 : RV P fn.ntmps w0 σ L r4 v4) (hL : Imp w0 L M) (h : Φ (.tuple #[v1, v2, v3, v4]) M) : SN (Ret P fn w0 Φ) w0 σ L :=
  fun w x => ⟨_, results_4 hr (h1 w x) (h2 w x) (h3 w x) (h4 w x), M, h, hL w x⟩
end
end
end Go.Proofs.Ytandadfmmohhhaa.E

namespace Go.Proofs.Ytandadfmmohhhaa.E
open Go Go.RowKit

section
variable {P : Program} {n : Nat} {N : Cont} {w0 : World} {σ : Fr} {L : List Atom} {all rest : List Oper} {d : Option Tmp} {op : Op} {ty : TypeId} {pos : String} {aft : Array Edge}

theorem SWl_nil (h : SN N w0 σ L) : SWl P n all [] N w0 σ L := fun w x => Wl_nil (h w x)
theorem SWl_run {l l' : List Oper} {σ' : Fr} (h : runP n l σ = (l', σ')) (k : SWl P n all l' N w0 σ' L) : SWl P n all l N w0 σ L := fun w x => Wl_runP h (k w x)
theorem SWl_pv {v : Value} (h : pv n σ op = some v) (k : SWl P n all rest N w0 (upo σ d v) L) : SWl P n all (⟨d, op, ty, pos, aft, none⟩ :: rest) N w0 σ L := fun w x => Wl_val (pv_run h) (k w x)
theorem SWl_guardT {j : Nat} {b : Bool} (hy : yv all n σ j = some (.bool b)) (h : SWl P n all (⟨d, op, ty, pos, aft, none⟩ :: rest) N w0 σ L) :
    SWl P n all (⟨d, op, ty, pos, aft, some (j, b)⟩ :: rest) N w0 σ L := fun w x => Wl_guardT hy (h w x)
theorem SWl_guardF {j : Nat} {b c : Bool} (hy : yv all n σ j = some (.bool c)) (hne : (c == b) = false) (h : SWl P n all rest N w0 (upo σ d undef) L) :
    SWl P n all (⟨d, op, ty, pos, aft, some (j, b)⟩ :: rest) N w0 σ L := fun w x => Wl_guardF hy hne (h w x)
theorem SWl_split {l : List Oper} (d : Nat) {t : Bool} (hd : σ d = .bool t) (ht : t = true → SWl P n all l N w0 (up σ d (.bool true)) L) (hf : t = false → SWl P n all l N w0 (up σ d (.bool false)) L) :
    SWl P n all l N w0 σ L := fun w x => Wl_split d hd (fun h => ht h w x) (fun h => hf h w x)

theorem wrap_in {z : Int} (h1 : -9223372036854775808 ≤ z) (h2 : z ≤ 9223372036854775807) : IntKind.i64.wrap z = z := by
  rw [IntKind.wrap_i64]; omega

theorem SWl_add {t : TypeId} {x y : Operand} {yt : TypeId} {a b : Int} (hx : ev n σ x = .int .i64 a) (hy : ev n σ y = .int .i64 b) (h1 : -9223372036854775808 ≤ a + b) (h2 : a + b ≤ 9223372036854775807)
    (h : SWl P n all rest N w0 (upo σ d (.int .i64 (a + b))) L) : SWl P n all (⟨d, .binOp .add t x y yt, ty, pos, aft, none⟩ :: rest) N w0 σ L := fun w k =>
  Wl_val (by simp [execOp, hx, hy, eqGuard, binOp, Op.intArith, wrap_in h1 h2]) (h w k)
theorem SWl_sub {t : TypeId} {x y : Operand} {yt : TypeId} {a b : Int} (hx : ev n σ x = .int .i64 a) (hy : ev n σ y = .int .i64 b) (h1 : -9223372036854775808 ≤ a - b) (h2 : a - b ≤ 9223372036854775807)
    (h : SWl P n all rest N w0 (upo σ d (.int .i64 (a - b))) L) : SWl P n all (⟨d, .binOp .sub t x y yt, ty, pos, aft, none⟩ :: rest) N w0 σ L := fun w k =>
  Wl_val (by simp [execOp, hx, hy, eqGuard, binOp, Op.intArith, wrap_in h1 h2]) (h w k)
theorem SWl_mul {t : TypeId} {x y : Operand} {yt : TypeId} {a b : Int} (hx : ev n σ x = .int .i64 a) (hy : ev n σ y = .int .i64 b) (h1 : -9223372036854775808 ≤ a * b) (h2 : a * b ≤ 9223372036854775807)
    (h : SWl P n all rest N w0 (upo σ d (.int .i64 (a * b))) L) : SWl P n all (⟨d, .binOp .mul t x y yt, ty, pos, aft, none⟩ :: rest) N w0 σ L := fun w k =>
  Wl_val (by simp [execOp, hx, hy, eqGuard, binOp, Op.intArith, wrap_in h1 h2]) (h w k)
theorem SWl_addw {t : TypeId} {x y : Operand} {yt : TypeId} {a b : Int} (hx : ev n σ x = .int .i64 a) (hy : ev n σ y = .int .i64 b)
    (h : SWl P n all rest N w0 (upo σ d (.int .i64 (IntKind.i64.wrap (a + b)))) L) : SWl P n all (⟨d, .binOp .add t x y yt, ty, pos, aft, none⟩ :: rest) N w0 σ L := fun w k =>
  Wl_val (by simp [execOp, hx, hy, eqGuard, binOp, Op.intArith]) (h w k)
theorem SWl_subw {t : TypeId} {x y : Operand} {yt : TypeId} {a b : Int} (hx : ev n σ x = .int .i64 a) (hy : ev n σ y = .int .i64 b)
    (h : SWl P n all rest N w0 (upo σ d (.int .i64 (IntKind.i64.wrap (a - b)))) L) : SWl P n all (⟨d, .binOp .sub t x y yt, ty, pos, aft, none⟩ :: rest) N w0 σ L := fun w k =>
  Wl_val (by simp [execOp, hx, hy, eqGuard, binOp, Op.intArith]) (h w k)
theorem SWl_mulw {t : TypeId} {x y : Operand} {yt : TypeId} {a b : Int} (hx : ev n σ x = .int .i64 a) (hy : ev n σ y = .int .i64 b)
    (h : SWl P n all rest N w0 (upo σ d (.int .i64 (IntKind.i64.wrap (a * b)))) L) : SWl P n all (⟨d, .binOp .mul t x y yt, ty, pos, aft, none⟩ :: rest) N w0 σ L := fun w k =>
  Wl_val (by simp [execOp, hx, hy, eqGuard, binOp, Op.intArith]) (h w k)
theorem SWl_quo {t : TypeId} {x y : Operand} {yt : TypeId} {a b : Int} (hx : ev n σ x = .int .i64 a) (hy : ev n σ y = .int .i64 b) (h0 : b ≠ 0)
    (h : SWl P n all rest N w0 (upo σ d (.int .i64 (IntKind.i64.wrap (a.tdiv b)))) L) : SWl P n all (⟨d, .binOp .quo t x y yt, ty, pos, aft, none⟩ :: rest) N w0 σ L := fun w k =>
  Wl_val (by simp [execOp, hx, hy, eqGuard, binOp, Op.intDiv, h0]) (h w k)
theorem SWl_rem {t : TypeId} {x y : Operand} {yt : TypeId} {a b : Int} (hx : ev n σ x = .int .i64 a) (hy : ev n σ y = .int .i64 b) (h0 : b ≠ 0)
    (h : SWl P n all rest N w0 (upo σ d (.int .i64 (a.tmod b))) L) : SWl P n all (⟨d, .binOp .rem t x y yt, ty, pos, aft, none⟩ :: rest) N w0 σ L := fun w k =>
  Wl_val (by simp [execOp, hx, hy, eqGuard, binOp, Op.intDiv, h0]) (h w k)

theorem SWl_len {T e : TypeId} {sz by_ : Nat} [hT : SlT P T e sz by_] {x : Operand} {ao : Option Addr} {l c : Nat} (hx : ev n σ x = .slice ao l c)
    (h : SWl P n all rest N w0 (upo σ d (.int .i64 l)) L) : SWl P n all (⟨d, .call ⟨.builtin .len, ⟨[x]⟩, ⟨[T]⟩⟩, ty, pos, aft, none⟩ :: rest) N w0 σ L := fun w k => Wl_len hx (h w k)
theorem SWl_fa {S : TypeId} {f off : Nat} [hF : Fld P S f off] {x : Operand} {b o : Nat} (hx : ev n σ x = .pointer (some ⟨b, o, none⟩))
    (h : SWl P n all rest N w0 (upo σ d (.pointer (some ⟨b, o + off, none⟩))) L) : SWl P n all (⟨d, .fieldAddr S x f, ty, pos, aft, none⟩ :: rest) N w0 σ L := fun w k => Wl_fa hx (h w k)

/-! the call's own blocks -/
theorem SWl_alloc {T : TypeId} {z : List Value} [hT : ZeroT P T z] (h : ∀ b, SWl P n all rest N w0 (upo σ d (.pointer (some ⟨b, 0, none⟩))) (Blk b z T :: L)) :
    SWl P n all (⟨d, .alloc T, ty, pos, aft, none⟩ :: rest) N w0 σ L := fun _ k => Wl_alloc (h _ _ (k.alloc _ _))
theorem SWl_box {T : TypeId} {x : Operand} {v : Value} {cs : List Value} (hx : ev n σ x = v) (hv : v.cells = cs.toArray) (h : ∀ b, SWl P n all rest N w0 (upo σ d (.pointer (some ⟨b, 0, none⟩))) (Blk b cs T :: L)) :
    SWl P n all (⟨d, .box T x, ty, pos, aft, none⟩ :: rest) N w0 σ L := fun w k => Wl_box (by rw [hx]; exact hv) (h _ _ (k.alloc _ _))
theorem SWl_ldB {T : TypeId} [hT : Sc P T] (k : Nat) {b : Nat} {cs : List Value} {T' : TypeId} (hk : L[k]? = some (Blk b cs T')) {x : Operand} {o : Nat} (hx : ev n σ x = .pointer (some ⟨b, o, none⟩)) {v : Value} (hv : cs[o]? = some v)
    (h : SWl P n all rest N w0 (upo σ d v) L) : SWl P n all (⟨d, .load T x, ty, pos, aft, none⟩ :: rest) N w0 σ L := fun w s =>
  Wl_ld hx (by rw [cell_of_row w b o _ _ _ (blk_heap hk s)]; simpa using hv) (h w s)
/-- A struct in a block: sz cells from o on. -/
theorem SWl_ldAB {T : TypeId} {sz : Nat} [hT : Ag P T sz] (k : Nat) {b : Nat} {cs : List Value} {T' : TypeId} (hk : L[k]? = some (Blk b cs T')) {x : Operand} {o : Nat} (hx : ev n σ x = .pointer (some ⟨b, o, none⟩)) {vs : List Value} (hv : (cs.drop o).take sz = vs) (hl : vs.length = sz)
    (h : SWl P n all rest N w0 (upo σ d (.agg vs.toArray)) L) : SWl P n all (⟨d, .load T x, ty, pos, aft, none⟩ :: rest) N w0 σ L := fun w s =>
  Wl_ldA hx hl (fun j hj => by rw [cell_of_row w b _ _ _ _ (blk_heap hk s), ← hv, List.getElem?_take, if_pos hj]; simp) (h w s)

theorem St.setBlk {w : World} {k b : Nat} {cs cs' : List Value} {T : TypeId} (hk : L[k]? = some (Blk b cs T)) (s : St w0 w L) : St w0 (w.setRow b cs'.toArray) (L.set k (Blk b cs' T)) := by
  have hkl : k < L.length := (List.getElem?_eq_some_iff.1 hk).1
  have s1 := Imp.front (w0 := w0) k hk w s
  have hb : w.heap[b]? = some (.cells cs.toArray T (0, 0)) := s1.holds _ (List.mem_cons_self)
  have s2 : St w0 (w.setRow b cs'.toArray) (Blk b cs' T :: L.eraseIdx k) :=
    s1.turn (by simp) rfl rfl rfl rfl (fun c hc => setRow_other w b c _ (fun e => hc (by subst e; simp [Blk]))) (setRow_heap w b _ _ _ _ hb)
  exact Imp.back k hkl _ s2

theorem SWl_stB {T : TypeId} [hT : Sc P T] (k : Nat) {b : Nat} {cs : List Value} {T' : TypeId} (hk : L[k]? = some (Blk b cs T')) {x y : Operand} {o : Nat} (hx : ev n σ x = .pointer (some ⟨b, o, none⟩)) {v u : Value} (hy : ev n σ y = v) (h1 : v.cells = #[v]) (h2 : v.oneCell' = true)
    (hv : cs[o]? = some u) (h : SWl P n all rest N w0 (upo σ d undef) (L.set k (Blk b (cs.set o v) T'))) : SWl P n all (⟨d, .store T x y, ty, pos, aft, none⟩ :: rest) N w0 σ L := fun w s => by
  have hb := blk_heap hk s
  refine Wl_st hx hy h1 h2 (u := u) (by rw [cell_of_row w b o _ _ _ hb]; simpa using hv) (frozen_of_row w b o _ _ hb) (h _ ?_)
  rw [setCell_eq_setRow w b o _ _ _ v hb]
  have := St.setBlk (cs' := cs.set o v) hk s
  simpa using this

theorem SWl_stAB {T : TypeId} {sz : Nat} [hT : Ag P T sz] (k : Nat) {b : Nat} {cs : List Value} {T' : TypeId} (hk : L[k]? = some (Blk b cs T')) {x y : Operand} {o : Nat} (hx : ev n σ x = .pointer (some ⟨b, o, none⟩)) {vs : List Value} (hy : ev n σ y = .agg vs.toArray) (hl : vs.length = sz)
    (h1 : ∀ u ∈ vs, u.oneCell' = true) (hfit : Nat.ble (o + sz) cs.length = true) {cs' : List Value} (hc : cs.take o ++ vs ++ cs.drop (o + sz) = cs')
    (h : SWl P n all rest N w0 (upo σ d undef) (L.set k (Blk b cs' T'))) : SWl P n all (⟨d, .store T x y, ty, pos, aft, none⟩ :: rest) N w0 σ L := fun w s => by
  have hb := blk_heap hk s
  refine Wl_stA hx hy hl h1 hb (by simpa using hfit) (h _ ?_)
  have := St.setBlk (cs' := cs') hk s
  rw [← hc] at this ⊢
  simpa using this

/-! calls -/
class FnT (P : Program) (f : FuncId) : Prop where
  ex : ∃ fn, P.funcs[f]? = some fn ∧ (fn.name == "runtime.NumGoroutine") = false ∧ fn.body.isNone = false

theorem SWl_call {f : FuncId} [hf : FnT P f] {xs : List Operand} {tys : Array TypeId} {args : List Value} {Φ : Value → List Atom → Prop} (ha : xs.map (ev n σ) = args) (hc : ∀ w, St w0 w L → F P f args w Φ)
    (h : ∀ v M, Φ v M → SWl P n all rest N w0 (upo σ d v) (M ++ L)) : SWl P n all (⟨d, .call ⟨.value (.func f), ⟨xs⟩, tys⟩, ty, pos, aft, none⟩ :: rest) N w0 σ L := fun w s => by
  obtain ⟨fn, h1, h2, h3⟩ := hf.ex
  refine Wl_call h1 h2 h3 ha (hc w s) ?_
  rintro v w'' ⟨M, hΦ, hM⟩
  exact h v M hΦ w'' (s.then hM)

theorem SWl_callA {f : FuncId} [hf : FnT P f] {xs : List Operand} {tys : Array TypeId} {args : List Value} {v : Value} (ha : xs.map (ev n σ) = args) (hc : ∀ w, St w0 w L → F P f args w (rA v))
    (h : SWl P n all rest N w0 (upo σ d v) L) : SWl P n all (⟨d, .call ⟨.value (.func f), ⟨xs⟩, tys⟩, ty, pos, aft, none⟩ :: rest) N w0 σ L :=
  SWl_call ha hc (by rintro v M ⟨rfl, rfl⟩; exact h)

theorem SWl_callZ {f : FuncId} [hf : FnT P f] {xs : List Operand} {tys : Array TypeId} {args : List Value} {γ : Type} {ret : γ → Value} {Q : γ → Prop} (ha : xs.map (ev n σ) = args) (hc : ∀ w, St w0 w L → F P f args w (rZ ret Q))
    (h : ∀ z, Q z → SWl P n all rest N w0 (upo σ d (ret z)) L) : SWl P n all (⟨d, .call ⟨.value (.func f), ⟨xs⟩, tys⟩, ty, pos, aft, none⟩ :: rest) N w0 σ L :=
  SWl_call ha hc (by rintro v M ⟨z, rfl, rfl, hz⟩; exact h z hz)

theorem SWl_callB {f : FuncId} [hf : FnT P f] {xs : List Operand} {tys : Array TypeId} {args : List Value} {β : Type} [Lod β] {ret : β → Value} {Q : β → Prop} (ha : xs.map (ev n σ) = args) (hc : ∀ w, St w0 w L → F P f args w (rB ret Q))
    (h : ∀ y, Q y → SWl P n all rest N w0 (upo σ d (ret y)) (Own y :: L)) : SWl P n all (⟨d, .call ⟨.value (.func f), ⟨xs⟩, tys⟩, ty, pos, aft, none⟩ :: rest) N w0 σ L :=
  SWl_call ha hc (by rintro v M ⟨y, rfl, rfl, hy⟩; exact h y hy)

/-- A call that turns the caller's own atoms. -/
theorem SWl_callM {f : FuncId} [hf : FnT P f] {xs : List Operand} {tys : Array TypeId} {args : List Value} {Φ : Value → List Atom → Prop} (ha : xs.map (ev n σ) = args)
    (hc : ∀ w1, St w0 w1 L → C P f args.toArray w1 (fun v w' => ∃ M, Φ v M ∧ St w0 w' M))
    (h : ∀ v M, Φ v M → SWl P n all rest N w0 (upo σ d v) M) : SWl P n all (⟨d, .call ⟨.value (.func f), ⟨xs⟩, tys⟩, ty, pos, aft, none⟩ :: rest) N w0 σ L := fun w s => by
  obtain ⟨fn, h1, h2, h3⟩ := hf.ex
  refine Wl_call h1 h2 h3 ha (hc w s) ?_
  rintro v w'' ⟨M, hΦ, hM⟩
  exact h v M hΦ w'' hM

end
end Go.Proofs.Ytandadfmmohhhaa.E

namespace Go.Proofs.Ytandadfmmohhhaa.E
open Go Go.RowKit

/-- Atoms taken up, other ones laid down; the rest stays. -/
theorem St.redo {w0 w w' : World} {M M' R : List Atom} (h : St w0 w (M ++ R)) (hos : w'.os = w.os) (ht : w'.tape = w.tape) (ho : w'.output = w.output) (hsz : w.heap.size ≤ w'.heap.size)
    (hblk : ∀ b, b < w.heap.size → b ∉ fps M → w'.heap[b]? = w.heap[b]?) (hnew : ∀ b, b ∈ fps M' → b ∈ fps M ∨ (w.heap.size ≤ b ∧ b < w'.heap.size)) (hnd : (fps M').Nodup) (hh : ∀ A, A ∈ M' → A.holds w') :
    St w0 w' (M' ++ R) := by
  have e1 : fps (M ++ R) = fps M ++ fps R := by simp [fps]
  have e2 : fps (M' ++ R) = fps M' ++ fps R := by simp [fps]
  have hn := h.nodup
  rw [e1, List.nodup_append] at hn
  have hr := h.range
  have hs := h.below.size
  refine ⟨⟨hos.trans h.below.os, ht.trans h.below.tape, ho.trans h.below.output, Nat.le_trans hs hsz, fun k hk => ?_⟩, ?_, ?_, ?_⟩
  · rw [hblk k (by omega) (fun hm => ?_), h.below.block k hk]
    have := hr k (by rw [e1]; exact List.mem_append_left _ hm)
    omega
  · rw [e2, List.nodup_append]
    refine ⟨hnd, hn.2.1, fun a ha b hb e => ?_⟩
    subst e
    rcases hnew a ha with h1 | h1
    · exact hn.2.2 a h1 a hb rfl
    · have := hr a (by rw [e1]; exact List.mem_append_right _ hb)
      omega
  · intro b hb
    rw [e2, List.mem_append] at hb
    rcases hb with hb | hb
    · rcases hnew b hb with h1 | h1
      · have := hr b (by rw [e1]; exact List.mem_append_left _ h1)
        omega
      · omega
    · have := hr b (by rw [e1]; exact List.mem_append_right _ hb)
      omega
  · intro A hA
    rcases List.mem_append.1 hA with hA | hA
    · exact hh A hA
    · refine A.frame (h.holds A (List.mem_append_right _ hA)) (fun b hb => ?_)
      have hbR : b ∈ fps R := List.mem_flatMap.2 ⟨A, hA, hb⟩
      have := hr b (by rw [e1]; exact List.mem_append_right _ hbR)
      exact hblk b this.2 (fun hm => hn.2.2 b hm b hbR rfl)

/-! ### slices -/
/-- What may be read of, wherever the call stands. -/
def Src {α : Type} [Lod α] (m : Nat) (w0 : World) (L : List Atom) (x : α) : Prop := ∀ w, St w0 w L → Lod.rd m w x

section
variable {α : Type} [Lod α] {m : Nat} {w0 : World} {L : List Atom}

theorem Src.arg {x : α} (h : Lod.rd m w0 x) : Src m w0 L x := fun _ k => Lod.rd_below h k.below
theorem Src.own {x : α} (k : Nat) (hk : L[k]? = some (Own x)) : Src lim w0 L x := fun _ s => Lod.rd_of (s.holds _ (List.mem_of_getElem? hk) : Lod.own _ x)
theorem Src.le {x : α} {m' : Nat} (h : Src m w0 L x) (hm : m ≤ m') : Src m' w0 L x := fun w s => Lod.rd_le hm (h w s)
theorem Src.imp {x : α} {M : List Atom} (h : Src m w0 L x) (hi : Imp w0 M L) : Src m w0 M x := fun w s => h w (hi w s)
theorem Src.elem {s : Sl α} (h : Src m w0 L s) (i : Nat) (hi : i < s.n) : Src m w0 L (s.nth i hi) :=
  fun w k => (h w k).2.2.2.2.2.2 _ (List.getElem_mem _)

/-- The first k of a slice. -/
def Sl.take (s : Sl α) (k : Nat) (h : k ≤ s.n) : Sl α := ⟨s.ao, k, s.cap, s.l.take k, by rw [List.length_take, s.hn]; omega⟩

omit [Lod α] in
theorem Sl.take_nth (s : Sl α) (k : Nat) (h : k ≤ s.n) (i : Nat) (hi : i < k) : (s.take k h).nth i hi = s.nth i (Nat.lt_of_lt_of_le hi h) := by
  simp [Sl.nth, Sl.take]

theorem Src.take {s : Sl α} (h : Src m w0 L s) (k : Nat) (hk : k ≤ s.n) : Src m w0 L (s.take k hk) := by
  intro w x
  obtain ⟨h1, h2, h3, h4, h5, h6, h7⟩ := h w x
  refine ⟨Nat.le_trans hk h1, Nat.le_trans hk h2, h3, h4, fun hne => h5 (by simp only [Sl.take] at hne; omega), ?_, fun y hy => h7 y (List.mem_of_mem_take hy)⟩
  intro i hi j hj
  rw [Sl.take_nth s k hk i hi]
  exact h6 i _ j hj

/-- An element of an owned slice put anew. -/
def Sl.upd (s : Sl α) (i : Nat) (x : α) : Sl α := ⟨s.ao, s.n, s.cap, s.l.set i x, by rw [List.length_set, s.hn]⟩

theorem take_drop_set {l : List Value} {o k : Nat} {v : Value} {N : Nat} (hk : k < N) : ((l.set (o + k) v).drop o).take N = ((l.drop o).take N).set k v := by
  apply List.ext_getElem?
  intro i
  simp only [List.getElem?_take, List.getElem?_drop, List.getElem?_set, List.length_take, List.length_drop]
  by_cases h1 : i < N
  · simp only [if_pos h1]
    by_cases h2 : k = i
    · subst h2
      simp only [if_true]
      by_cases h3 : o + k < l.length
      · rw [if_pos h3, if_pos (by omega)]
      · rw [if_neg h3, if_neg (by omega)]
    · rw [if_neg (by omega), if_neg h2]
  · simp only [if_neg h1]
    rw [if_neg (by omega)]

theorem flatMap_set (l : List α) (i : Nat) (h : i < l.length) (x : α) : (l.set i x).flatMap Lod.cells = (l.flatMap Lod.cells).take (i * Lod.sz α) ++ Lod.cells x ++ (l.flatMap Lod.cells).drop (i * Lod.sz α + Lod.sz α) := by
  induction l generalizing i with
  | nil => simp at h
  | cons y l ih =>
    have hy := Lod.len y
    cases i with
    | zero =>
      simp only [List.set_cons_zero, List.flatMap_cons, Nat.zero_mul, List.take_zero, List.nil_append, Nat.zero_add]
      rw [List.drop_append_of_le_length (by omega), List.drop_of_length_le (by omega)]
      simp
    | succ i =>
      simp only [List.set_cons_succ, List.flatMap_cons]
      rw [ih i (by simpa using h)]
      have e1 : (i + 1) * Lod.sz α = (Lod.cells y).length + i * Lod.sz α := by rw [hy, Nat.succ_mul]; omega
      have e2 : (i + 1) * Lod.sz α + Lod.sz α = (Lod.cells y).length + (i * Lod.sz α + Lod.sz α) := by rw [e1]; omega
      rw [e2, e1, List.take_length_add_append, List.drop_length_add_append]
      simp [List.append_assoc]

/-- One cell of one element. -/
theorem flatMap_cell (l : List α) (i : Nat) (h : i < l.length) (j : Nat) (hj : j < Lod.sz α) (v : Value) (x : α) (hx : Lod.cells x = (Lod.cells l[i]).set j v) :
    (l.set i x).flatMap Lod.cells = (l.flatMap Lod.cells).set (i * Lod.sz α + j) v := by
  induction l generalizing i with
  | nil => simp at h
  | cons y l ih =>
    have hy := Lod.len y
    cases i with
    | zero =>
      simp only [List.set_cons_zero, List.flatMap_cons, Nat.zero_mul, Nat.zero_add]
      simp only [List.getElem_cons_zero] at hx
      rw [hx, List.set_append_left _ _ (by omega)]
    | succ i =>
      simp only [List.set_cons_succ, List.flatMap_cons]
      rw [ih i (by simpa using h) (by simpa using hx)]
      rw [List.set_append_right _ _ (by rw [hy, Nat.succ_mul]; omega)]
      congr 2
      rw [hy, Nat.succ_mul]; omega

end
end Go.Proofs.Ytandadfmmohhhaa.E

namespace Go.Proofs.Ytandadfmmohhhaa.E
open Go Go.RowKit

section
variable {P : Program} {n : Nat} {N : Cont} {w0 : World} {σ : Fr} {L : List Atom} {all rest : List Oper} {d : Option Tmp} {ty : TypeId} {pos : String} {aft : Array Edge}
variable {α : Type} [Lod α] {m : Nat}

theorem SWl_ix {T e : TypeId} {sz by_ : Nat} [hT : SlT P T e sz by_] {s : Sl α} (hs : Src m w0 L s) {x y : Operand} (hx : ev n σ x = s.val) {z : Int} (hy : ev n σ y = .int .i64 z) (i : Nat) (hz : z = (i : Int)) (hi : i < s.n)
    (h : SWl P n all rest N w0 (upo σ d (.pointer (some ⟨s.blk, s.off + i * sz, none⟩))) L) : SWl P n all (⟨d, .indexAddr T x y, ty, pos, aft, none⟩ :: rest) N w0 σ L := fun w k => by
  have h5 := (hs w k).2.2.2.2.1 (by omega)
  refine Wl_ix (b := s.blk) (o := s.off) (l := s.n) (c := s.cap) (by rw [hx, Sl.val, h5]) hy hz hi (h w k)

/-- One cell of an element. -/
theorem SWl_ldS {T : TypeId} [hT : Sc P T] {s : Sl α} (hs : Src m w0 L s) {x : Operand} {i j sz : Nat} (hx : ev n σ x = .pointer (some ⟨s.blk, s.off + i * sz + j, none⟩)) (hsz : Lod.sz α = sz) (hj : Nat.blt j sz = true) (hi : i < s.n) {v : Value} (hv : (Lod.cells (s.nth i hi))[j]? = some v)
    (h : SWl P n all rest N w0 (upo σ d v) L) : SWl P n all (⟨d, .load T x, ty, pos, aft, none⟩ :: rest) N w0 σ L := fun w k => by
  subst hsz
  exact Wl_ld hx (by rw [(hs w k).2.2.2.2.2.1 i hi j (by simpa [blt_eq] using hj), hv]) (h w k)

/-- An element of one cell. -/
theorem SWl_ldE {T : TypeId} [hT : Sc P T] {s : Sl α} (hs : Src m w0 L s) {x : Operand} {i : Nat} (hx : ev n σ x = .pointer (some ⟨s.blk, s.off + i * 1, none⟩)) (hsz : Lod.sz α = 1) (hi : i < s.n) {v : Value} (hv : (Lod.cells (s.nth i hi))[0]? = some v)
    (h : SWl P n all rest N w0 (upo σ d v) L) : SWl P n all (⟨d, .load T x, ty, pos, aft, none⟩ :: rest) N w0 σ L :=
  SWl_ldS hs (j := 0) hx hsz rfl hi hv h

/-- A whole element, of a struct's type. -/
theorem SWl_ldAE {T : TypeId} {sz : Nat} [hT : Ag P T sz] {s : Sl α} (hs : Src m w0 L s) {x : Operand} {i : Nat} (hx : ev n σ x = .pointer (some ⟨s.blk, s.off + i * sz, none⟩)) (hsz : Lod.sz α = sz) (hi : i < s.n)
    (h : SWl P n all rest N w0 (upo σ d (.agg (Lod.cells (s.nth i hi)).toArray)) L) : SWl P n all (⟨d, .load T x, ty, pos, aft, none⟩ :: rest) N w0 σ L := fun w k => by
  subst hsz
  exact Wl_ldA hx (Lod.len _) (fun j hj => (hs w k).2.2.2.2.2.1 i hi j hj) (h w k)

/-- A struct that lies within an element. -/
theorem SWl_ldAS {T : TypeId} {tz : Nat} [hT : Ag P T tz] {s : Sl α} (hs : Src m w0 L s) {x : Operand} {i j sz : Nat} (hx : ev n σ x = .pointer (some ⟨s.blk, s.off + i * sz + j, none⟩)) (hsz : Lod.sz α = sz) (hj : Nat.ble (j + tz) sz = true) (hi : i < s.n) {vs : List Value} (hv : ((Lod.cells (s.nth i hi)).drop j).take tz = vs)
    (h : SWl P n all rest N w0 (upo σ d (.agg vs.toArray)) L) : SWl P n all (⟨d, .load T x, ty, pos, aft, none⟩ :: rest) N w0 σ L := fun w k => by
  subst hsz
  have hj' : j + tz ≤ Lod.sz α := Nat.le_of_ble_eq_true hj
  refine Wl_ldA hx (by rw [← hv, List.length_take, List.length_drop, Lod.len]; omega) (fun q hq => ?_) (h w k)
  rw [Nat.add_assoc, Nat.add_assoc, ← Nat.add_assoc s.off, (hs w k).2.2.2.2.2.1 i hi (j + q) (by omega), ← hv, List.getElem?_take, if_pos hq, List.getElem?_drop]

/-! stores into what is owned -/
theorem own_row {w : World} {s : Sl α} (h : s.own w) (hn : 0 < s.n) : ∃ g o cur, s.row w g o cur ∧ s.blk = g ∧ s.off = o := by
  rcases h.2.2 with ⟨_, h3⟩ | ⟨g, o, cur, hr⟩
  · omega
  · exact ⟨g, o, cur, hr, by simp [Sl.blk, hr.1], by simp [Sl.off, hr.1]⟩

theorem mem_fp_blk {s : Sl α} {g o : Nat} (h : s.ao = some ⟨g, o, none⟩) : g ∈ s.fp := by simp [Sl.fp, h]

theorem flatMap_fp_set (l : List α) (i : Nat) (h : i < l.length) (x : α) (hx : Lod.fp x = Lod.fp l[i]) : (l.set i x).flatMap Lod.fp = l.flatMap Lod.fp := by
  induction l generalizing i with
  | nil => rfl
  | cons y l ih =>
    cases i with
    | zero => simpa using hx
    | succ i => simp only [List.set_cons_succ, List.flatMap_cons]; rw [ih i (by simpa using h) (by simpa using hx)]

theorem SWl_stS {T : TypeId} [hT : Sc P T] (k : Nat) {s : Sl α} (hk : L[k]? = some (Own s)) {x y : Operand} {i j sz : Nat} (hx : ev n σ x = .pointer (some ⟨s.blk, s.off + i * sz + j, none⟩)) (hsz : Lod.sz α = sz) (hj : Nat.blt j sz = true) (hi : i < s.n)
    {v : Value} (hy : ev n σ y = v) (h1 : v.cells = #[v]) (h2 : v.oneCell' = true) (x' : α) (hc : Lod.cells x' = (Lod.cells (s.nth i hi)).set j v) (hfp : Lod.fp x' = Lod.fp (s.nth i hi)) (how : ∀ w, Lod.own w (s.nth i hi) → Lod.own w x')
    (h : SWl P n all rest N w0 (upo σ d undef) (L.set k (Own (s.upd i x')))) : SWl P n all (⟨d, .store T x y, ty, pos, aft, none⟩ :: rest) N w0 σ L := fun w st => by
  subst hsz
  have hj' : j < Lod.sz α := by simpa [blt_eq] using hj
  have hkl : k < L.length := (List.getElem?_eq_some_iff.1 hk).1
  have s1 := Imp.front (w0 := w0) k hk w st
  have hown : s.own w := s1.holds _ List.mem_cons_self
  obtain ⟨g, o, cur, hr, hb, ho⟩ := own_row hown (by omega)
  have hcell := (Sl.rd_of hown).2.2.2.2.2.1 i hi j hj'
  have hget : (Lod.cells (s.nth i hi))[j]? = some ((Lod.cells (s.nth i hi))[j]'(by rw [Lod.len]; exact hj')) := List.getElem?_eq_getElem _
  rw [hget] at hcell
  have hrow := hr.2.1
  have hfl : (s.l.set i x').flatMap Lod.fp = s.l.flatMap (Lod.fp (α := α)) := flatMap_fp_set s.l i (by rw [s.hn]; exact hi) x' hfp
  refine Wl_st hx hy h1 h2 hcell (by rw [hb, frozen_of_row w g _ _ _ hrow]) (h _ ?_)
  have hoff : w.setCell ⟨s.blk, s.off + i * Lod.sz α + j, none⟩ v = w.setRow g (cur.setIfInBounds (o + i * Lod.sz α + j) v) := by
    rw [hb, ho, setCell_eq_setRow w g _ _ _ _ v hrow]
  rw [hoff]
  have key : St w0 (w.setRow g (cur.setIfInBounds (o + i * Lod.sz α + j) v)) (Own (s.upd i x') :: L.eraseIdx k) := by
    refine s1.turn (by simp) rfl rfl rfl ?_ (fun b hb' => setRow_other w g b _ (fun e => hb' (by subst e; exact mem_fp_blk hr.1))) ?_
    · show s.ao.toList.map (·.block) ++ (s.l.set i x').flatMap Lod.fp = s.fp
      rw [Sl.fp, hfl]
    · have hnd : s.fp.Nodup := by
        have := s1.nodup
        simp only [fps, List.flatMap_cons] at this
        exact (List.nodup_append.1 this).1
      have hg : ∀ y ∈ s.l, g ∉ Lod.fp y := by
        intro y hy hgy
        rw [Sl.fp, List.nodup_append] at hnd
        exact hnd.2.2 g (by simp [hr.1]) g (List.mem_flatMap.2 ⟨y, hy, hgy⟩) rfl
      have hkeep : ∀ y ∈ s.l, Lod.own (w.setRow g (cur.setIfInBounds (o + i * Lod.sz α + j) v)) y := fun y hy =>
        Lod.own_frame (hown.2.1 y hy) (fun b hb' => setRow_other w g b _ (fun e => hg y hy (by subst e; exact hb')))
      refine ⟨hown.1, ?_, .inr ⟨g, o, cur.setIfInBounds (o + i * Lod.sz α + j) v, hr.1, setRow_heap w g _ _ _ _ hrow, hr.2.2.1, hr.2.2.2.1, (by rw [Array.size_setIfInBounds]; exact hr.2.2.2.2.1), ?_⟩⟩
      · intro y hy
        rcases List.mem_or_eq_of_mem_set hy with hy | rfl
        · exact hkeep y hy
        · exact how _ (hkeep _ (List.getElem_mem _))
      · have hb := lt_mul_of hi hj'
        have e := flatMap_cell s.l i (by rw [s.hn]; exact hi) j hj' v x' hc
        show List.take (s.n * Lod.sz α) (List.drop o (cur.setIfInBounds (o + i * Lod.sz α + j) v).toList) = (s.l.set i x').flatMap Lod.cells
        rw [e, ← hr.2.2.2.2.2, Array.toList_setIfInBounds, Nat.add_assoc, take_drop_set hb]
  exact Imp.back k hkl _ key

/-- A whole element, flat, put into an owned slice. -/
class Flat (α : Type) [Lod α] : Prop where
  fp : ∀ x : α, Lod.fp x = []
  own : ∀ w (x : α), Lod.own w x

theorem flat_fps [hf : Flat α] (l : List α) : l.flatMap Lod.fp = [] := by
  induction l with
  | nil => rfl
  | cons x l ih => simp [hf.fp x, ih]

end
end Go.Proofs.Ytandadfmmohhhaa.E

namespace Go.Proofs.Ytandadfmmohhhaa.E
open Go Go.RowKit

theorem fill_seg : ∀ (cs : List Value) (k off : Nat) (arr : Array Value), off + k + cs.length ≤ arr.size →
    ((cs.zipIdx k).foldl (fun a (p : Value × Nat) => a.setIfInBounds (off + p.2) p.1) arr).toList = arr.toList.take (off + k) ++ cs ++ arr.toList.drop (off + k + cs.length)
  | [], k, off, arr, _ => by simp
  | c :: cs, k, off, arr, h => by
    simp only [List.zipIdx_cons, List.foldl_cons]
    rw [fill_seg cs (k + 1) off _ (by simp at h ⊢; omega)]
    have e := list_seg_step arr.toList (off + k) c cs (by simp at h ⊢; omega)
    rw [Array.toList_setIfInBounds]
    simpa [Nat.add_assoc] using e

theorem fill_vs (sz : Nat) : ∀ (vs : List Value) (i : Nat) (pre rest : List Value), (∀ v ∈ vs, v.cells.size = sz) → pre.length = i * sz → rest.length = vs.length * sz →
    Instr.fill (fun i => some (i * sz, sz)) (pre ++ rest).toArray ((vs.zipIdx i).map fun p => (p.2, p.1)) = some (pre ++ vs.flatMap fun v => v.cells.toList).toArray
  | [], i, pre, rest, _, _, h2 => by
    have : rest = [] := List.eq_nil_of_length_eq_zero (by simpa using h2)
    subst this
    simp [Instr.fill]
  | v :: vs, i, pre, rest, h0, h1, h2 => by
    have hv := h0 v (by simp)
    have h2' : rest.length = sz + vs.length * sz := by rw [h2, List.length_cons, Nat.succ_mul]; omega
    have hfit : ¬ ((decide (v.cells.size ≠ sz) || decide (i * sz + v.cells.size > (pre ++ rest).toArray.size)) = true) := by
      simp only [List.size_toArray, List.length_append, h1, hv, Bool.or_eq_true, decide_eq_true_eq]; omega
    have e : v.cells.zipIdx.foldl (fun cs (p : Value × Nat) => cs.setIfInBounds (i * sz + p.2) p.1) (pre ++ rest).toArray = ((pre ++ v.cells.toList) ++ rest.drop sz).toArray := by
      rw [← Array.foldl_toList, Array.toList_zipIdx]
      apply Array.ext'
      rw [fill_seg _ 0 _ _ (by simp [h1, hv]; omega)]
      simp only [Nat.add_zero, Array.length_toList, hv]
      rw [← h1, List.take_left, List.drop_length_add_append]
    simp only [List.zipIdx_cons, List.map_cons]
    rw [Instr.fill]
    dsimp only
    rw [if_neg hfit]
    have e2 := fill_vs sz vs (i + 1) (pre ++ v.cells.toList) (rest.drop sz) (fun u hu => h0 u (by simp [hu])) (by simp [h1, hv, Nat.succ_mul]) (by simp [h2'])
    rw [← e] at e2
    simp only [List.flatMap_cons, ← List.append_assoc]
    exact e2

section
variable {P : Program} {n : Nat} {N : Cont} {w0 : World} {σ : Fr} {L : List Atom} {all rest : List Oper} {d : Option Tmp} {ty : TypeId} {pos : String} {aft : Array Edge}

/-- '[]T{x0, x1, ..}': each place in turn. -/
theorem SWl_bs {T e : TypeId} {sz by_ : Nat} [hT : SlT P T e sz by_] {z : List Value} [hZ : ZeroT P e z] {len : Nat} {parts : List (Nat × Operand)} {vs : List Value} (hlen : len = vs.length) (hp : parts.map (fun p => (p.1, ev n σ p.2)) = (vs.zipIdx).map fun p => (p.2, p.1))
    (hsz : ∀ v ∈ vs, v.cells.size = sz) (hsmall : Nat.ble (len * sz) 16777216 = true) {cs : List Value} (hcs : vs.flatMap (fun v => v.cells.toList) = cs)
    (h : ∀ b, SWl P n all rest N w0 (upo σ d (.slice (some ⟨b, 0, none⟩) len len)) (Blk b cs e :: L)) : SWl P n all (⟨d, .buildSlice T len ⟨parts⟩, ty, pos, aft, none⟩ :: rest) N w0 σ L := fun w k => by
  refine Wl_val ?_ (h w.heap.size _ (k.alloc cs e))
  obtain ⟨i, hi, hs, _⟩ := hT.info
  obtain ⟨i', hi', hz⟩ := Option.map_eq_some_iff.1 hZ.zero
  rw [hi] at hi'
  obtain rfl := Option.some.inj hi'
  obtain ⟨zv, hzv, _⟩ := Option.map_eq_some_iff.1 hz
  have hsm : ¬ (16777216 < len * sz) := by have := Nat.le_of_ble_eq_true hsmall; omega
  have h2 := size_run (P := P) (T := e) (s := sz) (w := w) (by simp [hi, hs])
  have hf : ∀ (Z : Array Value), Z.size = len * sz → Instr.fill (fun i => some (i * sz, sz)) Z ((parts.map fun p => (p.1, ev n σ p.2))) = some cs.toArray := by
    intro Z hZs
    have := fill_vs sz vs 0 [] Z.toList hsz (by simp) (by simpa [← hlen] using hZs)
    rw [hp, ← hcs]
    simpa using this
  by_cases h0 : len * sz = 0
  · simp only [execOp, Instr.buildSlice, run_underlying hT.und, Sem.run_bind, Result.andThen_ok, h2]
    simp [h0, hf, newRow]
  · simp only [execOp, Instr.buildSlice, run_underlying hT.und, Sem.run_bind, Result.andThen_ok, h2]
    simp [hsm, h0, hf, newRow, zeroValue, typeInfo, hi, hzv]
end
end Go.Proofs.Ytandadfmmohhhaa.E

namespace Go.Proofs.Ytandadfmmohhhaa.E
open Go Go.RowKit

section
variable {P : Program} {α : Type} [Lod α]

theorem run_append_room' {w : World} (t ty e : TypeId) (i : TypeInfo) (ht : P.underlying t = some (.slice e)) (hi : P.info? e = some i)
    (g o sLen sCap : Nat) (cur : Array Value) (e' : TypeId) (hg : w.heap[g]? = some (.cells cur e' (0, 0)))
    (a : Addr) (m c : Nat) (news : List Value) (hl : news.length = m * i.size) (hnews : ∀ j u, news[j]? = some u → w.cell? (a.add j) = some u) (h1 : ∀ u ∈ news, u.oneCell' = true)
    (hroom : sLen + m ≤ sCap) (hfit : o + sLen * i.size + news.length ≤ cur.size) :
    (Builtin.append_ #[t, t] ty #[.slice (some ⟨g, o, none⟩) sLen sCap, .slice (some a) m c]).run P w =
      .ok (.slice (some ⟨g, o, none⟩) (sLen + m) sCap) (w.setRow g (cur.toList.take (o + sLen * i.size) ++ news ++ cur.toList.drop (o + sLen * i.size + news.length)).toArray) := by
  have hf := run_firstCells_some (P := P) w i.size m a m c news hl hnews
  have hst := run_storeCells_at P g (o + sLen * i.size) e' news 0 cur w hg (by simpa using hfit) h1
  simp only [Nat.add_zero] at hst
  simp [Builtin.append_, run_underlying ht, sizeOf, typeInfo, hi, Builtin.lenOf, hroom, hf, Addr.add_eq, hst]

theorem run_append_none {w : World} (t ty e : TypeId) (i : TypeInfo) (ht : P.underlying t = some (.slice e)) (hi : P.info? e = some i)
    (ao : Option Addr) (sLen sCap : Nat) (x : Value) (hx : x = .slice none 0 0 ∨ ∃ a c, x = .slice (some a) 0 c) (hroom : sLen ≤ sCap) :
    (Builtin.append_ #[t, t] ty #[.slice ao sLen sCap, x]).run P w = .ok (.slice ao sLen sCap) w := by
  rcases hx with rfl | ⟨a, c, rfl⟩
  · cases ao <;> simp [Builtin.append_, run_underlying ht, sizeOf, typeInfo, hi, Builtin.lenOf, Builtin.firstCells, hroom, storeCells]
  · have hf := run_firstCells_some (P := P) w i.size 0 a 0 c [] (by simp) (by simp)
    cases ao <;> simp [Builtin.append_, run_underlying ht, sizeOf, typeInfo, hi, Builtin.lenOf, hroom, hf, storeCells]

theorem zeroCells_size {z : Array Value} {k sz : Nat} (h : z.size = sz) : (Builtin.zeroCells z k).size = k * sz := by rw [size_zeroCells, h]

/-- append, of whatever may be read. -/
theorem run_app {w : World} {T ty e : TypeId} {sz by_ : Nat} [hT : SlT P T e sz by_] {z : List Value} [hZ : ZeroT P e z] (hz : z.length = sz) (hsz : Lod.sz α = sz) (hty : Lod.ty α = e) (hpos : 0 < sz) (hby : by_ ≤ 65536)
    {s : Sl α} (hs : s.own w) (ys : List α) (x : Value) (ao : Option Addr) (c : Nat) (hx : x = .slice ao ys.length c) (hao : ao = none → ys = [] ∧ c = 0)
    (hsrc : ∀ a, ao = some a → ∀ j u, (ys.flatMap Lod.cells)[j]? = some u → w.cell? (a.add j) = some u) (hlim : s.n + ys.length ≤ lim) :
    ∃ (s' : Sl α) (w' : World), (Builtin.append_ #[T, T] ty #[s.val, x]).run P w = .ok s'.val w' ∧ s'.l = s.l ++ ys ∧ w'.os = w.os ∧ w'.tape = w.tape ∧ w'.output = w.output ∧ w.heap.size ≤ w'.heap.size ∧
      (∀ b, b < w.heap.size → b ∉ s.ao.toList.map (·.block) → w'.heap[b]? = w.heap[b]?) ∧
      (∀ b, b ∈ s'.ao.toList.map (·.block) → b ∈ s.ao.toList.map (·.block) ∨ (w.heap.size ≤ b ∧ b < w'.heap.size)) ∧
      ((s'.cap = 0 ∧ s'.n = 0) ∨ ∃ g o cur, s'.row w' g o cur) := by
  obtain ⟨inf, hinf, hisz, hiby⟩ := hT.info
  obtain ⟨inf', hinf', hzz⟩ := Option.map_eq_some_iff.1 hZ.zero
  rw [hinf] at hinf'
  obtain rfl := Option.some.inj hinf'
  obtain ⟨zv, hzv, hzc⟩ := Option.map_eq_some_iff.1 hzz
  have hlm := lim_maxLen
  have hcaps : s.n ≤ s.cap := (Sl.rd_of hs).2.1
  have hzs : zv.cells.size = sz := by rw [← hz, ← hzc]; simp
  subst hsz
  by_cases hm : ys = []
  · subst hm
    refine ⟨s, w, ?_, by simp, rfl, rfl, rfl, Nat.le_refl _, fun _ _ _ => rfl, fun b hb => .inl hb, hs.2.2⟩
    rw [hx]
    unfold Sl.val
    refine run_append_none T ty e inf hT.und hinf s.ao s.n s.cap _ ?_ hcaps
    cases ao with
    | none => left; obtain ⟨_, h2⟩ := hao rfl; simp [h2]
    | some a => right; exact ⟨a, c, by simp⟩
  · have hmpos : 0 < ys.length := List.length_pos_iff.2 hm
    obtain ⟨a, rfl⟩ : ∃ a, ao = some a := by
      cases ao with
      | none => exact absurd (hao rfl).1 hm
      | some a => exact ⟨a, rfl⟩
    have hnews := hsrc a rfl
    have hl : (ys.flatMap (Lod.cells (α := α))).length = ys.length * inf.size := by rw [flatMap_len, hisz]
    have h1 : ∀ u ∈ ys.flatMap (Lod.cells (α := α)), u.oneCell' = true := by
      intro u hu
      obtain ⟨y, _, hy⟩ := List.mem_flatMap.1 hu
      exact Lod.one y u hy
    have hbytes : (s.n + ys.length) * inf.bytes ≤ 140737488355328 := by
      have : (s.n + ys.length) * inf.bytes ≤ lim * 65536 := Nat.mul_le_mul hlim (by omega)
      simp only [lim] at this
      omega
    subst hx
    unfold Sl.val
    have grown : ∀ (old : Nat), old < s.n + ys.length → ∃ (s' : Sl α) (w' : World), s'.val = .slice (some ⟨w.heap.size, 0, none⟩) (s.n + ys.length) (grownCap w (s.n + ys.length) old e) ∧
        w' = w.drew.alloc (.cells ((s.l.flatMap Lod.cells).toArray ++ (ys.flatMap Lod.cells).toArray ++ Builtin.zeroCells zv.cells (grownCap w (s.n + ys.length) old e - (s.n + ys.length))) e) ∧ s'.l = s.l ++ ys ∧ w'.os = w.os ∧ w'.tape = w.tape ∧ w'.output = w.output ∧ w.heap.size ≤ w'.heap.size ∧
        (∀ b, b < w.heap.size → b ∉ s.ao.toList.map (·.block) → w'.heap[b]? = w.heap[b]?) ∧
        (∀ b, b ∈ s'.ao.toList.map (·.block) → b ∈ s.ao.toList.map (·.block) ∨ (w.heap.size ≤ b ∧ b < w'.heap.size)) ∧
        ((s'.cap = 0 ∧ s'.n = 0) ∨ ∃ g o cur, s'.row w' g o cur) := by
      intro old ho
      have hge := grownCap_ge w (s.n + ys.length) old e
      have hcm : grownCap w (s.n + ys.length) old e ≤ maxLen := grownCap_le_maxLen w (s.n + ys.length) old e (by omega)
      refine ⟨⟨some ⟨w.heap.size, 0, none⟩, s.n + ys.length, grownCap w (s.n + ys.length) old e, s.l ++ ys, by rw [List.length_append, s.hn]⟩, _, rfl, rfl, rfl, rfl, rfl, rfl, by simp, fun b hb _ => Below.heap_alloc w.drew _ b hb, ?_, .inr ⟨w.heap.size, 0, (s.l.flatMap Lod.cells).toArray ++ (ys.flatMap Lod.cells).toArray ++ Builtin.zeroCells zv.cells (grownCap w (s.n + ys.length) old e - (s.n + ys.length)), rfl, ?_, hge, hcm, ?_, ?_⟩⟩
      · intro b hb
        simp at hb
        subst hb
        exact .inr ⟨Nat.le_refl _, by simp⟩
      · rw [hty]; exact heap_alloc_new w.drew _
      · simp only [Array.size_append, List.size_toArray, size_zeroCells, hzs, flatMap_len, s.hn, ← Nat.add_mul, Nat.zero_add]
        congr 1
        omega
      · simp only [List.drop_zero, Array.toList_append, List.append_assoc, List.flatMap_append]
        rw [← List.append_assoc]
        have : (s.n + ys.length) * Lod.sz α = ((s.l.flatMap Lod.cells) ++ (ys.flatMap (Lod.cells (α := α)))).length := by
          rw [List.length_append, flatMap_len, flatMap_len, s.hn, Nat.add_mul]
        rw [this]
        exact List.take_left
    rcases hs.2.2 with ⟨e2, e3⟩ | ⟨g, o, cur, hr⟩
    · have hsl : s.l = [] := List.eq_nil_of_length_eq_zero (by rw [s.hn]; exact e3)
      obtain ⟨s', w', q1, q2, q⟩ := grown 0 (by omega)
      refine ⟨s', w', ?_, q⟩
      cases e1 : s.ao with
      | some b0 =>
        rw [e2, e3]
        have hrun := run_append_grow (P := P) w T ty e inf zv hT.und hinf hzv b0 0 0 [] (by simp) (fun j u hj => by simp at hj) a ys.length c _ hl hnews (by omega) (by simp only [lim] at hlim; omega) (growslice_fits (by omega) (by rw [e3] at hbytes; exact hbytes))
        rw [hrun]
        unfold Sl.val at q1
        rw [q1, q2, e3, hsl]
        simp
      | none =>
      rw [e2, e3]
      have hr := run_append_nil (P := P) w T ty e inf zv hT.und hinf hzv a ys.length c _ hl hnews hmpos (by simp only [lim] at hlim; omega) (by rw [e3, Nat.zero_add] at hbytes; omega)
      rw [hr]
      unfold Sl.val at q1
      rw [q1, q2, e3, hsl]
      simp
    · obtain ⟨r1, r2, r3, r4, r5, r6⟩ := hr
      by_cases hroom : s.n + ys.length ≤ s.cap
      · have hmul : (s.n + ys.length) * Lod.sz α ≤ s.cap * Lod.sz α := Nat.mul_le_mul_right _ hroom
        rw [Nat.add_mul] at hmul
        have hfit : o + s.n * inf.size + (ys.flatMap (Lod.cells (α := α))).length ≤ cur.size := by rw [r5, hl, hisz]; omega
        have hrun := run_append_room' (P := P) T ty e inf hT.und hinf g o s.n s.cap cur _ r2 a ys.length c _ hl hnews h1 hroom hfit
        rw [← r1] at hrun
        refine ⟨⟨s.ao, s.n + ys.length, s.cap, s.l ++ ys, by rw [List.length_append, s.hn]⟩, _, hrun, rfl, rfl, rfl, rfl, by simp, ?_, fun b hb => .inl hb, .inr ⟨g, o, _, r1, setRow_heap w g cur _ _ _ r2, hroom, r4, ?_, ?_⟩⟩
        · intro b _ hb
          exact setRow_other w g b _ (fun h => hb (by rw [r1, h]; simp))
        · simp only [List.size_toArray, List.length_append, List.length_take, List.length_drop, Array.length_toList]
          omega
        · simp only [List.flatMap_append]
          rw [← r6, hisz]
          have hA : (List.take (o + s.n * Lod.sz α) cur.toList).drop o = (cur.toList.drop o).take (s.n * Lod.sz α) := by
            rw [List.drop_take]
            congr 1
            omega
          rw [List.append_assoc, List.drop_append_of_le_length (by simp only [List.length_take, Array.length_toList]; omega), hA]
          have hlenA : ((cur.toList.drop o).take (s.n * Lod.sz α)).length = s.n * Lod.sz α := by
            simp only [List.length_take, List.length_drop, Array.length_toList]; omega
          have : (s.n + ys.length) * Lod.sz α = (((cur.toList.drop o).take (s.n * Lod.sz α)) ++ (ys.flatMap (Lod.cells (α := α)))).length := by
            rw [List.length_append, hlenA, flatMap_len, Nat.add_mul]
          rw [this, ← List.append_assoc]
          exact List.take_left
      · obtain ⟨s', w', q1, q2, q⟩ := grown s.cap (by omega)
        refine ⟨s', w', ?_, q⟩
        rw [r1]
        have holds : ∀ j u, (s.l.flatMap (Lod.cells (α := α)))[j]? = some u → w.cell? ((⟨g, o, none⟩ : Addr).add j) = some u := by
          intro j u hj
          have hjl := (List.getElem?_eq_some_iff.1 hj).1
          rw [flatMap_len, s.hn] at hjl
          rw [Addr.add_eq, cell_of_row w g _ cur _ (0, 0) r2]
          rw [← r6, List.getElem?_take, if_pos hjl, List.getElem?_drop, Array.getElem?_toList] at hj
          exact hj
        have hrun := run_append_grow (P := P) w T ty e inf zv hT.und hinf hzv ⟨g, o, none⟩ s.n s.cap _ (by rw [flatMap_len, s.hn, hisz]) holds a ys.length c _ hl hnews (by omega) (by simp only [lim] at hlim; omega) (growslice_fits (by omega) hbytes)
        unfold Sl.val at q1
        rw [hrun, q1, q2]
end
end Go.Proofs.Ytandadfmmohhhaa.E

namespace Go.Proofs.Ytandadfmmohhhaa.E
open Go Go.RowKit

section
variable {P : Program} {n : Nat} {N : Cont} {w0 : World} {σ : Fr} {L R : List Atom} {all rest : List Oper} {d : Option Tmp} {ty : TypeId} {pos : String} {aft : Array Edge}
variable {α : Type} [Lod α] {m : Nat}

/-- What the elements of a list own. -/
def OwnL (ys : List α) : Atom where
  fp := ys.flatMap Lod.fp
  holds := fun w => ∀ y ∈ ys, Lod.own w y
  frame := fun h hf y hy => Lod.own_frame (h y hy) (fun b hb => hf b (List.mem_flatMap.2 ⟨y, hy, hb⟩))

theorem Imp.flat [hf : Flat α] (ys : List α) : Imp w0 L (OwnL ys :: L) := by
  intro w h
  have e : (OwnL ys).fp = [] := flat_fps ys
  refine ⟨h.below, ?_, ?_, ?_⟩
  · simp only [fps, List.flatMap_cons, e, List.nil_append]; exact h.nodup
  · intro b hb
    simp only [fps, List.flatMap_cons, e, List.nil_append] at hb
    exact h.range b hb
  · intro A hA
    rcases List.mem_cons.1 hA with rfl | hA
    · exact fun y _ => hf.own w y
    · exact h.holds A hA

theorem Imp.own1 (y : α) : Imp w0 (Own y :: L) (OwnL [y] :: L) := by
  intro w h
  have e : (OwnL [y]).fp = (Own y).fp := by simp [OwnL, Own]
  refine ⟨h.below, ?_, ?_, ?_⟩
  · have := h.nodup; simp only [fps, List.flatMap_cons] at this ⊢; rw [e]; exact this
  · intro b hb
    simp only [fps, List.flatMap_cons, e] at hb
    exact h.range b hb
  · intro A hA
    rcases List.mem_cons.1 hA with rfl | hA
    · intro z hz
      simp only [List.mem_singleton] at hz; subst hz
      exact h.holds (Own z) List.mem_cons_self
    · exact h.holds A (List.mem_cons_of_mem _ hA)

theorem Imp.swap {A B : Atom} : Imp w0 (A :: B :: L) (B :: A :: L) := fun _ h => h.perm (List.Perm.swap _ _ _)
theorem Imp.perm {M : List Atom} (hp : M.Perm L) : Imp w0 L M := fun _ h => h.perm hp
theorem Imp.sub {M : List Atom} (hp : M.Sublist L) : Imp w0 L M := fun _ h => h.sub hp

theorem SWl_app0 {T e : TypeId} {sz by_ : Nat} [hT : SlT P T e sz by_] {z : List Value} [hZ : ZeroT P e z] (hz : z.length = sz) (hsz : Lod.sz α = sz) (hty : Lod.ty α = e) (hpos : Nat.blt 0 sz = true) (hby : Nat.ble by_ 65536 = true)
    {s : Sl α} {ys : List α} (hL : Imp w0 L (Own s :: OwnL ys :: R)) {x y : Operand} (hx : ev n σ x = s.val) {ao : Option Addr} {c : Nat} (hy : ev n σ y = .slice ao ys.length c)
    (hsrc : ∀ w, St w0 w L → (ao = none → ys = [] ∧ c = 0) ∧ (∀ a, ao = some a → ∀ j u, (ys.flatMap Lod.cells)[j]? = some u → w.cell? (a.add j) = some u)) (hlim : s.n + ys.length ≤ lim)
    (h : ∀ s' : Sl α, s'.l = s.l ++ ys → s'.n = s.n + ys.length → SWl P n all rest N w0 (upo σ d s'.val) (Own s' :: R)) :
    SWl P n all (⟨d, .call ⟨.builtin .append, ⟨[x, y]⟩, ⟨[T, T]⟩⟩, ty, pos, aft, none⟩ :: rest) N w0 σ L := fun w k => by
  have k1 := hL w k
  have hown : s.own w := k1.holds (Own s) List.mem_cons_self
  obtain ⟨q1, q2⟩ := hsrc w k
  obtain ⟨s', w', hrun, e1, e2, e3, e4, e5, e6, e7, e8⟩ := run_app (P := P) (T := T) (ty := ty) hz hsz hty (by simpa [blt_eq] using hpos) (Nat.le_of_ble_eq_true hby) hown ys _ ao c hy q1 q2 hlim
  have hn' : s'.n = s.n + ys.length := by rw [← s'.hn, e1, List.length_append, s.hn]
  refine Wl_val (v := s'.val) (w' := w') ?_ (h s' e1 hn' w' ?_)
  · simp [execOp, resolve, invoke, builtin, hx, hrun]
  · have hfp' : s'.fp = s'.ao.toList.map (·.block) ++ (s.l.flatMap Lod.fp ++ ys.flatMap Lod.fp) := by rw [Sl.fp, e1, List.flatMap_append]
    have hM : fps [Own s, OwnL ys] = s.ao.toList.map (·.block) ++ (s.l.flatMap Lod.fp ++ ys.flatMap Lod.fp) := by
      simp [fps, Own, OwnL, Lod.fp, Sl.fp]
    have hnd := k1.nodup
    have hrg := k1.range
    have eL : fps (Own s :: OwnL ys :: R) = fps [Own s, OwnL ys] ++ fps R := by simp [fps]
    rw [eL] at hnd hrg
    have hnd1 := (List.nodup_append.1 hnd).1
    rw [hM] at hnd1
    have hnd2 := List.nodup_append.1 hnd1
    have hkeep : ∀ b, b ∈ s.l.flatMap (Lod.fp (α := α)) ++ ys.flatMap Lod.fp → w'.heap[b]? = w.heap[b]? := by
      intro b hb
      have hr := hrg b (by rw [hM]; exact List.mem_append_left _ (List.mem_append_right _ hb))
      exact e6 b hr.2 (fun hm => hnd2.2.2 b hm b hb rfl)
    have key := St.redo (M := [Own s, OwnL ys]) (M' := [Own s']) (R := R) (w' := w') k1 e2 e3 e4 e5 ?_ ?_ ?_ ?_
    · exact key
    · intro b hb hnm
      exact e6 b hb (fun hm => hnm (by rw [hM]; exact List.mem_append_left _ hm))
    · intro b hb
      have hb' : b ∈ s'.fp := by simpa [fps, Own, Lod.fp] using hb
      rw [hfp', List.mem_append] at hb'
      rcases hb' with hb' | hb'
      · rcases e7 b hb' with h1 | h1
        · exact .inl (by rw [hM]; exact List.mem_append_left _ h1)
        · exact .inr h1
      · exact .inl (by rw [hM]; exact List.mem_append_right _ hb')
    · have : fps [Own s'] = s'.fp := by simp [fps, Own, Lod.fp]
      rw [this, hfp', List.nodup_append]
      refine ⟨?_, hnd2.2.1, ?_⟩
      · cases s'.ao <;> simp
      · intro a ha b hb hab
        subst hab
        rcases e7 a ha with h1 | h1
        · exact hnd2.2.2 a h1 a hb rfl
        · have hr := hrg a (by rw [hM]; exact List.mem_append_left _ (List.mem_append_right _ hb))
          omega
    · intro A hA
      simp only [List.mem_singleton] at hA
      subst hA
      refine ⟨by rw [hn']; exact hlim, ?_, e8⟩
      intro y hy
      rw [e1, List.mem_append] at hy
      rcases hy with hy | hy
      · exact Lod.own_frame (hown.2.1 y hy) (fun b hb => hkeep b (List.mem_append_left _ (List.mem_flatMap.2 ⟨y, hy, hb⟩)))
      · have := k1.holds (OwnL ys) (List.mem_cons_of_mem _ List.mem_cons_self)
        exact Lod.own_frame (this y hy) (fun b hb => hkeep b (List.mem_append_right _ (List.mem_flatMap.2 ⟨y, hy, hb⟩)))

/-- What is appended lies in a block of the call's own. -/
theorem src_blk {ys : List α} (k2 : Nat) {b c : Nat} {news : List Value} {T' : TypeId} (hk : L[k2]? = some (Blk b news T')) (hnews : ys.flatMap Lod.cells = news) (w : World) (h : St w0 w L) :
    (some (⟨b, 0, none⟩ : Addr) = none → ys = [] ∧ c = 0) ∧ (∀ a, some (⟨b, 0, none⟩ : Addr) = some a → ∀ j u, (ys.flatMap Lod.cells)[j]? = some u → w.cell? (a.add j) = some u) := by
  refine ⟨fun h => (by cases h), fun a ha j u hj => ?_⟩
  obtain rfl := Option.some.inj ha
  rw [Addr.add_eq, cell_of_row w b _ _ _ _ (blk_heap hk h)]
  rw [hnews] at hj
  simpa using hj

theorem src_src {s : Sl α} (hs : Src m w0 L s) (w : World) (h : St w0 w L) :
    (s.ao = none → s.l = [] ∧ s.cap = 0) ∧ (∀ a, s.ao = some a → ∀ j u, (s.l.flatMap Lod.cells)[j]? = some u → w.cell? (a.add j) = some u) := by
  obtain ⟨h1, h2, h3, h4, h5, h6, h7⟩ := hs w h
  refine ⟨fun e => ⟨List.eq_nil_of_length_eq_zero (by rw [s.hn]; have := h4 e; omega), h4 e⟩, fun a ha j u hj => ?_⟩
  have hjl := (List.getElem?_eq_some_iff.1 hj).1
  rw [flatMap_len, s.hn] at hjl
  have hn : s.n ≠ 0 := by intro e; rw [e, Nat.zero_mul] at hjl; omega
  have ha' := h5 hn
  rw [ha] at ha'
  obtain rfl := Option.some.inj ha'
  have hszp : 0 < Lod.sz α := Nat.pos_of_ne_zero (fun e => by rw [e, Nat.mul_zero] at hjl; omega)
  have hi : j / Lod.sz α < s.n := Nat.div_lt_of_lt_mul (by rw [Nat.mul_comm]; exact hjl)
  have hr : j % Lod.sz α < Lod.sz α := Nat.mod_lt _ hszp
  have hjj : j / Lod.sz α * Lod.sz α + j % Lod.sz α = j := Nat.div_add_mod' _ _
  have h8 := h6 _ hi _ hr
  rw [Addr.add_eq]
  rw [← hjj, flatMap_get s.l _ (by rw [s.hn]; exact hi) _ hr] at hj
  rw [Nat.add_assoc, hjj] at h8
  rw [h8]
  exact hj

theorem SWl_appB [Flat α] {T e : TypeId} {sz by_ : Nat} [hT : SlT P T e sz by_] {z : List Value} [hZ : ZeroT P e z] (k : Nat) {s : Sl α} (hk : L[k]? = some (Own s)) {x y : Operand} (hx : ev n σ x = s.val) (k2 : Nat) {b : Nat} {news : List Value} {T' : TypeId} (hk2 : L[k2]? = some (Blk b news T'))
    (ys : List α) {c : Nat} (hy : ev n σ y = .slice (some ⟨b, 0, none⟩) ys.length c) (hnews : ys.flatMap Lod.cells = news) (hlim : s.n + ys.length ≤ lim) (hz : z.length = sz) (hsz : Lod.sz α = sz) (hty : Lod.ty α = e) (hpos : Nat.blt 0 sz = true) (hby : Nat.ble by_ 65536 = true)
    (h : ∀ s' : Sl α, s'.l = s.l ++ ys → s'.n = s.n + ys.length → SWl P n all rest N w0 (upo σ d s'.val) (Own s' :: L.eraseIdx k)) :
    SWl P n all (⟨d, .call ⟨.builtin .append, ⟨[x, y]⟩, ⟨[T, T]⟩⟩, ty, pos, aft, none⟩ :: rest) N w0 σ L :=
  SWl_app0 (ys := ys) (R := L.eraseIdx k) hz hsz hty hpos hby ((Imp.front k hk).trans ((Imp.flat ys).trans Imp.swap)) hx hy (src_blk k2 hk2 hnews) hlim h

theorem SWl_appS [Flat α] {T e : TypeId} {sz by_ : Nat} [hT : SlT P T e sz by_] {z : List Value} [hZ : ZeroT P e z] (k : Nat) {s : Sl α} (hk : L[k]? = some (Own s)) {x y : Operand} (hx : ev n σ x = s.val) {t : Sl α} (ht : Src m w0 L t)
    (hy : ev n σ y = t.val) (hlim : s.n + t.n ≤ lim) (hz : z.length = sz) (hsz : Lod.sz α = sz) (hty : Lod.ty α = e) (hpos : Nat.blt 0 sz = true) (hby : Nat.ble by_ 65536 = true)
    (h : ∀ s' : Sl α, s'.l = s.l ++ t.l → s'.n = s.n + t.n → SWl P n all rest N w0 (upo σ d s'.val) (Own s' :: L.eraseIdx k)) :
    SWl P n all (⟨d, .call ⟨.builtin .append, ⟨[x, y]⟩, ⟨[T, T]⟩⟩, ty, pos, aft, none⟩ :: rest) N w0 σ L :=
  SWl_app0 (ys := t.l) (R := L.eraseIdx k) (ao := t.ao) (c := t.cap) hz hsz hty hpos hby ((Imp.front k hk).trans ((Imp.flat t.l).trans Imp.swap)) hx (by rw [hy, t.hn]; rfl) (src_src ht) (by rw [t.hn]; exact hlim) (by rw [t.hn]; exact h)

/-- One element that owns memory. -/
theorem SWl_appO {T e : TypeId} {sz by_ : Nat} [hT : SlT P T e sz by_] {z : List Value} [hZ : ZeroT P e z] {s : Sl α} {y' : α} (hL : Imp w0 L (Own s :: Own y' :: R)) {x y : Operand} (hx : ev n σ x = s.val) (k2 : Nat) {b : Nat} {T' : TypeId} (hk2 : L[k2]? = some (Blk b (Lod.cells y') T'))
    {c : Nat} (hy : ev n σ y = .slice (some ⟨b, 0, none⟩) 1 c) (hlim : s.n + 1 ≤ lim) (hz : z.length = sz) (hsz : Lod.sz α = sz) (hty : Lod.ty α = e) (hpos : Nat.blt 0 sz = true) (hby : Nat.ble by_ 65536 = true)
    (h : ∀ s' : Sl α, s'.l = s.l ++ [y'] → s'.n = s.n + 1 → SWl P n all rest N w0 (upo σ d s'.val) (Own s' :: R)) :
    SWl P n all (⟨d, .call ⟨.builtin .append, ⟨[x, y]⟩, ⟨[T, T]⟩⟩, ty, pos, aft, none⟩ :: rest) N w0 σ L :=
  SWl_app0 (ys := [y']) (R := R) hz hsz hty hpos hby (hL.trans (Imp.swap.trans ((Imp.own1 y').trans Imp.swap))) hx hy (src_blk k2 hk2 (by simp)) hlim h

end
end Go.Proofs.Ytandadfmmohhhaa.E

namespace Go.Proofs.Ytandadfmmohhhaa.E
open Go Go.RowKit

section
variable {P : Program} {n : Nat} {N : Cont} {w0 : World} {σ : Fr} {L R : List Atom} {all rest : List Oper} {d : Option Tmp} {ty : TypeId} {pos : String} {aft : Array Edge}
variable {α : Type} [Lod α] {m : Nat}

theorem madeCells_replicate (x : α) : ∀ k, (madeCells (Lod.cells x).toArray (k * Lod.sz α)).toList = (List.replicate k x).flatMap Lod.cells := by
  intro k
  apply List.ext_getElem?
  intro j
  have hlx := Lod.len x
  by_cases hj : j < k * Lod.sz α
  · have hpos : 0 < Lod.sz α := Nat.pos_of_ne_zero (fun e => by rw [e] at hj; simp at hj)
    have hi : j / Lod.sz α < k := Nat.div_lt_of_lt_mul (by rw [Nat.mul_comm]; exact hj)
    have hr : j % Lod.sz α < Lod.sz α := Nat.mod_lt _ hpos
    have hjj : j / Lod.sz α * Lod.sz α + j % Lod.sz α = j := Nat.div_add_mod' _ _
    have h2 := flatMap_get (List.replicate k x) (j / Lod.sz α) (by simpa using hi) (j % Lod.sz α) hr
    rw [hjj] at h2
    rw [h2]
    simp only [madeCells, Array.toList_map, Array.toList_range, List.getElem?_map, List.getElem?_range hj, Option.map_some, List.size_toArray, hlx, List.getElem_replicate]
    rw [List.getElem?_eq_getElem (by omega)]
    congr 1
    simp [hlx, hr]
  · rw [List.getElem?_eq_none (by simp [madeCells]; omega), List.getElem?_eq_none (by rw [flatMap_len]; simpa using Nat.le_of_not_lt hj)]

/-- 'make([]T, k)'. -/
theorem SWl_mk {T e : TypeId} {sz by_ : Nat} [hT : SlT P T e sz by_] {z : List Value} [hZ : ZeroT P e z] {x y : Operand} (k : Nat) {c : Int} (hx : ev n σ x = .int .i64 c) (hy : ev n σ y = .int .i64 c) (hc : c = (k : Int)) (hlim : k ≤ lim) (x0 : α) (hz : Lod.cells x0 = z) (hsz : Lod.sz α = sz) (hty : Lod.ty α = e) (hby : Nat.ble by_ 65536 = true)
    (hfp : Lod.fp x0 = []) (how : ∀ w, Lod.own w x0)
    (h : ∀ s' : Sl α, s'.l = List.replicate k x0 → s'.n = k → SWl P n all rest N w0 (upo σ d s'.val) (Own s' :: L)) :
    SWl P n all (⟨d, .makeSlice T x y, ty, pos, aft, none⟩ :: rest) N w0 σ L := fun w st => by
  obtain ⟨inf, hinf, hisz, hiby⟩ := hT.info
  obtain ⟨inf', hinf', hzz⟩ := Option.map_eq_some_iff.1 hZ.zero
  rw [hinf] at hinf'
  obtain rfl := Option.some.inj hinf'
  obtain ⟨zv, hzv, hzc⟩ := Option.map_eq_some_iff.1 hzz
  subst hc
  have hb := Nat.le_of_ble_eq_true hby
  have hbytes : (inf.bytes : Int) * (k : Int) ≤ 281474976710656 := by
    have h1 : inf.bytes * k ≤ 65536 * lim := Nat.mul_le_mul (by omega) hlim
    simp only [lim] at h1
    have h2 : ((inf.bytes * k : Nat) : Int) ≤ ((65536 * 2147483648 : Nat) : Int) := Int.ofNat_le.2 h1
    rw [Int.natCast_mul] at h2
    omega
  have hmax : (k : Int) ≤ 9223372036854775807 := by simp only [lim] at hlim; omega
  have hr := run_make (P := P) w T e inf zv hT.und hinf hzv .i64 .i64 (k : Int) (k : Int) (by omega) (Int.le_refl _) hbytes hmax
  simp only [Int.toNat_natCast] at hr
  have hzcells : zv.cells = (Lod.cells x0).toArray := by rw [hz, ← hzc]
  have hn : (List.replicate k x0).length = k := List.length_replicate
  let s' : Sl α := ⟨some ⟨w.heap.size, 0, none⟩, k, k, List.replicate k x0, hn⟩
  refine Wl_val (v := s'.val) (w' := w.alloc (.cells (madeCells zv.cells (k * inf.size)) e)) ?_ (h s' rfl rfl _ ?_)
  · simp [execOp, hx, hy, hr, s', Sl.val]
  · have hfps : fps [Own s'] = [w.heap.size] := by
      have : (List.replicate k x0).flatMap (Lod.fp (α := α)) = [] := by
        clear hr s' hn hbytes hmax hlim h hx hy
        induction k with
        | zero => rfl
        | succ k ih => rw [List.replicate_succ, List.flatMap_cons, hfp, ih]; rfl
      simp [fps, Own, Lod.fp, Sl.fp, s', this]
    have := St.redo (M := []) (M' := [Own s']) (R := L) (w' := w.alloc (.cells (madeCells zv.cells (k * inf.size)) e)) st rfl rfl rfl (by simp) (fun b hb _ => Below.heap_alloc w _ b hb) ?_ ?_ ?_
    · exact this
    · intro b hb
      rw [hfps] at hb
      simp only [List.mem_singleton] at hb
      subst hb
      exact .inr ⟨Nat.le_refl _, by simp⟩
    · rw [hfps]; simp
    · intro A hA
      simp only [List.mem_singleton] at hA
      subst hA
      refine ⟨hlim, fun y hy => ?_, .inr ⟨w.heap.size, 0, madeCells zv.cells (k * inf.size), rfl, ?_, Nat.le_refl _, Nat.le_trans hlim lim_maxLen, ?_, ?_⟩⟩
      · rw [(List.mem_replicate.1 hy).2]; exact how _
      · rw [hty]; exact heap_alloc_new w _
      · rw [size_madeCells, hisz, ← hsz]; simp [s']
      · show ((madeCells zv.cells (k * inf.size)).toList.drop 0).take (k * Lod.sz α) = (List.replicate k x0).flatMap Lod.cells
        rw [hzcells, hisz, ← hsz, madeCells_replicate, List.drop_zero, List.take_of_length_le (by rw [flatMap_len, hn]; exact Nat.le_refl _)]

/-- 'x[:h]'. -/
theorem SWl_slH {T e : TypeId} {sz by_ : Nat} [hT : SlT P T e sz by_] {s : Sl α} {x y : Operand} (hx : ev n σ x = s.val) {c : Int} (hy : ev n σ y = .int .i64 c) (k : Nat) (hc : c = (k : Int)) (hk : k ≤ s.n) (hcap : Src m w0 L s)
    (h : SWl P n all rest N w0 (upo σ d (s.take k hk).val) L) : SWl P n all (⟨d, .slice T x none (some y) none, ty, pos, aft, none⟩ :: rest) N w0 σ L := fun w st => by
  obtain ⟨inf, hinf, hisz, _⟩ := hT.info
  obtain ⟨h1, h2, _⟩ := hcap w st
  refine Wl_val ?_ (h w st)
  subst hc
  have hsz := size_run (P := P) (T := e) (s := sz) (w := w) (by simp [hinf, hisz])
  have hle : (0 : Int) ≤ (k : Int) ∧ (k : Int) ≤ (s.cap : Int) := by omega
  have hb : (Instr.sliceBound (.int .i64 (k : Int)) s.cap .sliceAcap).run P w = .ok k w := by
    simp [Instr.sliceBound, asIntOf, hle]
  cases hao : s.ao with
  | none =>
    simp [execOp, hx, hy, Sl.val, Sl.take, hao, Instr.sliceAt, run_underlying hT.und, Instr.slice, Instr.sliceBounds, hb, hsz]
  | some a =>
    have ha : a.add 0 = a := by simp [Addr.add]
    simp [execOp, hx, hy, Sl.val, Sl.take, hao, Instr.sliceAt, run_underlying hT.und, Instr.slice, Instr.sliceBounds, hb, hsz, ha]

/-- The first ones of what is owned. -/
theorem Imp.take {s : Sl α} (k : Nat) (hk : k ≤ s.n) : Imp w0 (Own s :: L) (Own (s.take k hk) :: L) := by
  intro w st
  have hsub : (s.take k hk).fp.Sublist s.fp := by
    unfold Sl.fp
    refine List.Sublist.append (List.Sublist.refl _) ?_
    show ((s.l.take k).flatMap Lod.fp).Sublist (s.l.flatMap Lod.fp)
    conv => rhs; rw [← List.take_append_drop k s.l, List.flatMap_append]
    exact List.sublist_append_left _ _
  have hown : s.own w := st.holds (Own s) List.mem_cons_self
  refine St.redo (M := [Own s]) (M' := [Own (s.take k hk)]) (R := L) st rfl rfl rfl (Nat.le_refl _) (fun _ _ _ => rfl) ?_ ?_ ?_
  · intro b hb
    exact .inl (by simpa [fps, Own, Lod.fp] using hsub.subset (by simpa [fps, Own, Lod.fp] using hb))
  · have := st.nodup
    simp only [fps, List.flatMap_cons] at this
    have h1 := (List.nodup_append.1 this).1
    simpa [fps, Own, Lod.fp] using List.Nodup.sublist hsub h1
  · intro A hA
    simp only [List.mem_singleton] at hA
    subst hA
    obtain ⟨h1, h2, h3⟩ := hown
    refine ⟨Nat.le_trans hk h1, fun y hy => h2 y (List.mem_of_mem_take hy), ?_⟩
    rcases h3 with ⟨e2, e3⟩ | ⟨g, o, cur, r1, r2, r3, r4, r5, r6⟩
    · exact .inl ⟨e2, by show k = 0; omega⟩
    · refine .inr ⟨g, o, cur, r1, r2, Nat.le_trans hk r3, r4, r5, ?_⟩
      show (cur.toList.drop o).take (k * Lod.sz α) = (s.l.take k).flatMap Lod.cells
      have e : (s.l.take k).flatMap (Lod.cells (α := α)) = (s.l.flatMap Lod.cells).take (k * Lod.sz α) := by
        conv => rhs; rw [← List.take_append_drop k s.l, List.flatMap_append]
        rw [List.take_left' (by rw [flatMap_len, List.length_take, s.hn]; congr 1; omega)]
      rw [e, ← r6, List.take_take]
      congr 1
      have := Nat.mul_le_mul_right (Lod.sz α) hk
      omega

/-- A block that reads as a list. -/
theorem Imp.ofBlk {b : Nat} {cs : List Value} {T : TypeId} {l : List α} (hcs : l.flatMap Lod.cells = cs) (hty : Lod.ty α = T) (hlim : l.length ≤ lim) : Imp w0 (Blk b cs T :: OwnL l :: L) (Own (⟨some ⟨b, 0, none⟩, l.length, l.length, l, rfl⟩ : Sl α) :: L) := by
  intro w st
  refine St.redo (M := [Blk b cs T, OwnL l]) (M' := [Own (⟨some ⟨b, 0, none⟩, l.length, l.length, l, rfl⟩ : Sl α)]) (R := L) st rfl rfl rfl (Nat.le_refl _) (fun _ _ _ => rfl) ?_ ?_ ?_
  · intro c hc
    exact .inl (by simpa [fps, Own, Lod.fp, Sl.fp, Blk, OwnL] using hc)
  · have := st.nodup
    have e : fps (Blk b cs T :: OwnL l :: L) = fps [Own (⟨some ⟨b, 0, none⟩, l.length, l.length, l, rfl⟩ : Sl α)] ++ fps L := by simp [fps, Own, Lod.fp, Sl.fp, Blk, OwnL]
    rw [e] at this
    exact (List.nodup_append.1 this).1
  · intro A hA
    simp only [List.mem_singleton] at hA
    subst hA
    have h1 : w.heap[b]? = some (.cells cs.toArray T (0, 0)) := st.holds (Blk b cs T) List.mem_cons_self
    have h2 := st.holds (OwnL l) (List.mem_cons_of_mem _ List.mem_cons_self)
    refine ⟨hlim, h2, .inr ⟨b, 0, cs.toArray, rfl, by rw [hty]; exact h1, Nat.le_refl _, Nat.le_trans hlim lim_maxLen, ?_, ?_⟩⟩
    · show cs.toArray.size = 0 + l.length * Lod.sz α
      rw [List.size_toArray, ← hcs, flatMap_len, Nat.zero_add]
    · show (cs.toArray.toList.drop 0).take (l.length * Lod.sz α) = l.flatMap Lod.cells
      rw [hcs, List.drop_zero, List.take_of_length_le (by rw [← hcs, flatMap_len]; exact Nat.le_refl _)]

theorem Imp.ofBlkF [Flat α] {b : Nat} {cs : List Value} {T : TypeId} (l : List α) (hcs : l.flatMap Lod.cells = cs) (hty : Lod.ty α = T) (hlim : l.length ≤ lim) : Imp w0 (Blk b cs T :: L) (Own (⟨some ⟨b, 0, none⟩, l.length, l.length, l, rfl⟩ : Sl α) :: L) :=
  (Imp.flat l).trans (Imp.swap.trans (Imp.ofBlk hcs hty hlim))

/-- A whole element put anew. -/
theorem SWl_stE {T : TypeId} {sz : Nat} [hT : Ag P T sz] {s : Sl α} {y' : α} (hL : Imp w0 L (Own s :: OwnL [y'] :: R)) {x y : Operand} {i : Nat} (hx : ev n σ x = .pointer (some ⟨s.blk, s.off + i * sz, none⟩)) (hsz : Lod.sz α = sz) (hi : i < s.n)
    (hy : ev n σ y = .agg (Lod.cells y').toArray)
    (h : SWl P n all rest N w0 (upo σ d undef) (Own (s.upd i y') :: R)) : SWl P n all (⟨d, .store T x y, ty, pos, aft, none⟩ :: rest) N w0 σ L := fun w st => by
  subst hsz
  have k1 := hL w st
  have hown : s.own w := k1.holds (Own s) List.mem_cons_self
  have hy1 : Lod.own w y' := k1.holds (OwnL [y']) (List.mem_cons_of_mem _ List.mem_cons_self) y' (by simp)
  obtain ⟨g, o, cur, hr, hb, ho⟩ := own_row hown (by omega)
  obtain ⟨r1, r2, r3, r4, r5, r6⟩ := hr
  have hil : i < s.l.length := by rw [s.hn]; exact hi
  have hfit : o + i * Lod.sz α + Lod.sz α ≤ cur.size := by
    have : (i + 1) * Lod.sz α ≤ s.cap * Lod.sz α := Nat.mul_le_mul_right _ (by omega)
    rw [Nat.succ_mul] at this
    omega
  refine Wl_stA (cur := cur) (e := Lod.ty α) hx hy (Lod.len _) (Lod.one _) (by rw [hb]; exact r2) (by rw [ho]; exact hfit) (h _ ?_)
  rw [hb, ho]
  have hM : fps [Own s, OwnL [y']] = s.fp ++ Lod.fp y' := by simp [fps, Own, OwnL, Lod.fp]
  have hM' : fps [Own (s.upd i y')] = s.ao.toList.map (·.block) ++ (s.l.set i y').flatMap Lod.fp := by simp [fps, Own, Lod.fp, Sl.fp, Sl.upd]
  have eL : fps (Own s :: OwnL [y'] :: R) = fps [Own s, OwnL [y']] ++ fps R := by simp [fps]
  have hnd0 := k1.nodup
  rw [eL] at hnd0
  have hnd := (List.nodup_append.1 hnd0).1
  rw [hM] at hnd
  have hset : s.l.set i y' = s.l.take i ++ y' :: s.l.drop (i + 1) := List.set_eq_take_append_cons_drop .. |>.trans (if_pos hil)
  have hl : s.l = s.l.take i ++ s.l[i] :: s.l.drop (i + 1) := by rw [List.getElem_cons_drop, List.take_append_drop]
  have hgn : g ∉ s.l.flatMap (Lod.fp (α := α)) ∧ g ∉ Lod.fp y' := by
    rw [List.nodup_append] at hnd
    have h1 := hnd.1
    rw [Sl.fp, List.nodup_append] at h1
    exact ⟨fun hm => h1.2.2 g (by simp [r1]) g hm rfl, fun hm => hnd.2.2 g (by simp [Sl.fp, r1]) g hm rfl⟩
  have hother : ∀ b, b ≠ g → (w.setRow g (cur.toList.take (o + i * Lod.sz α) ++ Lod.cells y' ++ cur.toList.drop (o + i * Lod.sz α + Lod.sz α)).toArray).heap[b]? = w.heap[b]? := fun b hne => setRow_other w g b _ hne
  refine St.redo (M := [Own s, OwnL [y']]) (M' := [Own (s.upd i y')]) (R := R) k1 rfl rfl rfl (by simp) ?_ ?_ ?_ ?_
  · intro b _ hnm
    exact hother b (fun e => hnm (by rw [hM, e]; exact List.mem_append_left _ (mem_fp_blk r1)))
  · intro b hb'
    rw [hM', List.mem_append] at hb'
    left
    rw [hM, List.mem_append, Sl.fp, List.mem_append]
    rcases hb' with hb' | hb'
    · exact .inl (.inl hb')
    · obtain ⟨y2, hy2, hb2⟩ := List.mem_flatMap.1 hb'
      rcases List.mem_or_eq_of_mem_set hy2 with h3 | rfl
      · exact .inl (.inr (List.mem_flatMap.2 ⟨y2, h3, hb2⟩))
      · exact .inr hb2
  · rw [hM', hset]
    have hp : (s.ao.toList.map (·.block) ++ (s.l.take i ++ y' :: s.l.drop (i + 1)).flatMap Lod.fp).Perm (s.ao.toList.map (·.block) ++ (s.l.take i).flatMap Lod.fp ++ (s.l.drop (i + 1)).flatMap Lod.fp ++ Lod.fp y') := by
      simp only [List.flatMap_append, List.flatMap_cons, List.append_assoc]
      exact List.Perm.append_left _ (List.Perm.append_left _ List.perm_append_comm)
    refine hp.nodup_iff.2 (List.Nodup.sublist ?_ hnd)
    refine List.Sublist.append ?_ (List.Sublist.refl _)
    rw [Sl.fp]
    conv => rhs; rw [hl]
    simp only [List.flatMap_append, List.flatMap_cons, List.append_assoc]
    exact List.Sublist.append (List.Sublist.refl _) (List.Sublist.append (List.Sublist.refl _) (List.sublist_append_right _ _))
  · intro A hA
    simp only [List.mem_singleton] at hA
    subst hA
    refine ⟨hown.1, ?_, .inr ⟨g, o, _, r1, setRow_heap w g _ _ _ _ r2, r3, r4, ?_, ?_⟩⟩
    · intro z hz
      rcases List.mem_or_eq_of_mem_set hz with hz | rfl
      · exact Lod.own_frame (hown.2.1 z hz) (fun b hb' => hother b (fun e => hgn.1 (List.mem_flatMap.2 ⟨z, hz, by rw [← e]; exact hb'⟩)))
      · exact Lod.own_frame hy1 (fun b hb' => hother b (fun e => hgn.2 (by rw [← e]; exact hb')))
    · simp only [List.size_toArray, List.length_append, List.length_take, List.length_drop, Array.length_toList, Lod.len]
      show _ = o + s.cap * Lod.sz α
      omega
    · show List.take (s.n * Lod.sz α) (List.drop o (cur.toList.take (o + i * Lod.sz α) ++ Lod.cells y' ++ cur.toList.drop (o + i * Lod.sz α + Lod.sz α)).toArray.toList) = (s.l.set i y').flatMap Lod.cells
      rw [flatMap_set s.l i hil y', ← r6]
      simp only []
      have hin : i * Lod.sz α + Lod.sz α ≤ s.n * Lod.sz α := by
        have := Nat.mul_le_mul_right (Lod.sz α) (show i + 1 ≤ s.n by omega)
        rw [Nat.succ_mul] at this
        omega
      have hcapn := Nat.mul_le_mul_right (Lod.sz α) r3
      apply List.ext_getElem?
      intro j
      have hcl := Lod.len y'
      simp only [List.getElem?_take, List.getElem?_drop, List.getElem?_append, List.length_append, List.length_take, List.length_drop, Array.length_toList, hcl]
      repeat' split
      all_goals first | rfl | omega | (congr 1; omega)
end
end Go.Proofs.Ytandadfmmohhhaa.E

namespace Go.Proofs.Ytandadfmmohhhaa.E
open Go Go.RowKit

/-! ### a region that draws its order and only reads -/
def SQl (P : Program) (n : Nat) (all l : List Oper) (N : Cont) (w0 : World) (σ : Fr) (L : List Atom) : Prop :=
  wpQuiet P all.toArray (fun w => St w0 w L) (fun a' => ∀ w', St w0 w' L → ∃ σ', a' = mk n σ' ∧ N σ' w') l (mk n σ)

theorem St.drew {w0 w : World} {L : List Atom} (h : St w0 w L) : St w0 { w with drawn := w.drawn + 1 } L :=
  ⟨h.below.trans ⟨rfl, rfl, rfl, Nat.le_refl _, fun _ _ => rfl⟩, h.nodup, h.range, fun A hA => A.frame (h.holds A hA) (fun _ _ => rfl)⟩

/-- Either: q: the region draws its order. -/
def SX (q : Bool) (P : Program) (n : Nat) (all l : List Oper) (N : Cont) (w0 : World) (σ : Fr) (L : List Atom) : Prop :=
  match q with
  | false => SWl P n all l N w0 σ L
  | true => SQl P n all l N w0 σ L

/-- In each world that fits the operation yields v and leaves the world alone. -/
def Val (P : Program) (n : Nat) (w0 : World) (σ : Fr) (L : List Atom) (op : Op) (v : Value) : Prop :=
  ∀ (d : Option Tmp) (ty : TypeId) (pos : String) (aft : Array Edge) (w : World), St w0 w L → (execOp (ev n σ) ⟨d, op, ty, pos, aft, none⟩).run P w = .ok (.value v) w

section
variable {q : Bool} {P : Program} {n : Nat} {N : Cont} {B : List (Nat × Cont)} {R : Cont} {w0 : World} {σ : Fr} {L : List Atom}

theorem SW_regionD {id : Nat} {ops : List Oper} (hm : P.follows .mixedOrders = true) (hB : Region.lexB .any ops.toArray = true) (h : SX true P n ops ops N w0 σ L) : SW P n (.region id ops.toArray true) N B R w0 σ L := by
  intro w k
  exact wp_region_quiet (C := fun w => St w0 w L) hm hB k.drew h

theorem SW_regionX {id : Nat} {ops : List Oper} (h : SX false P n ops ops N w0 σ L) : SW P n (.region id ops.toArray false) N B R w0 σ L := SW_region h

variable {all rest : List Oper} {d : Option Tmp} {op : Op} {ty : TypeId} {pos : String} {aft : Array Edge}

theorem SX_nil (h : SN N w0 σ L) : SX q P n all [] N w0 σ L := by
  cases q with
  | false => exact SWl_nil h
  | true =>
    show SQl P n all [] N w0 σ L
    unfold SQl
    exact wpQuiet_nil (fun w' hw' => ⟨σ, rfl, h w' hw'⟩)

theorem SX_v {v : Value} (hv : Val P n w0 σ L op v) (h : SX q P n all rest N w0 (upo σ d v) L) : SX q P n all (⟨d, op, ty, pos, aft, none⟩ :: rest) N w0 σ L := by
  cases q with
  | false => exact fun w k => Wl_val (hv d ty pos aft w k) (h w k)
  | true =>
    show SQl P n all _ N w0 σ L
    unfold SQl
    refine wpQuiet_step fun K hK => ?_
    rw [if_pos (by simp [Region.wanted])]
    refine ⟨v, fun w k => ?_, ?_⟩
    · unfold Oper.quietAt
      rw [eval_mk, hv d ty pos aft w k]
      exact ⟨rfl, rfl⟩
    · rw [put_mk]; exact hK _ h

theorem SX_guardT {j : Nat} {b : Bool} (hy : yv all n σ j = some (.bool b)) (h : SX q P n all (⟨d, op, ty, pos, aft, none⟩ :: rest) N w0 σ L) :
    SX q P n all (⟨d, op, ty, pos, aft, some (j, b)⟩ :: rest) N w0 σ L := by
  cases q with
  | false => exact SWl_guardT hy h
  | true =>
    have e1 : Region.wanted (⟨d, op, ty, pos, aft, some (j, b)⟩ : Oper) (yielded all.toArray (mk n σ).tmps) = true := by
      simp [Region.wanted, yielded_mk all n σ j b hy]
    have e2 : Region.wanted (⟨d, op, ty, pos, aft, none⟩ : Oper) (yielded all.toArray (mk n σ).tmps) = true := by
      simp [Region.wanted]
    have h' : SQl P n all _ N w0 σ L := h
    unfold SQl wpQuiet at h'
    show SQl P n all _ N w0 σ L
    unfold SQl wpQuiet
    rw [if_pos e2] at h'
    rw [if_pos e1]
    exact h'

theorem SX_guardF {j : Nat} {b c : Bool} (hy : yv all n σ j = some (.bool c)) (hne : (c == b) = false) (h : SX q P n all rest N w0 (upo σ d undef) L) :
    SX q P n all (⟨d, op, ty, pos, aft, some (j, b)⟩ :: rest) N w0 σ L := by
  cases q with
  | false => exact SWl_guardF hy hne h
  | true =>
    show SQl P n all _ N w0 σ L
    unfold SQl
    refine wpQuiet_step fun K hK => ?_
    have e1 : Region.wanted (⟨d, op, ty, pos, aft, some (j, b)⟩ : Oper) (yielded all.toArray (mk n σ).tmps) = false := by
      simp only [Region.wanted, yielded_mk all n σ j c hy]
      cases c <;> cases b <;> first | rfl | cases hne
    rw [e1, if_neg (by simp), put_mk]
    exact hK _ h

theorem SX_split {l : List Oper} (d : Nat) {t : Bool} (hd : σ d = .bool t) (ht : t = true → SX q P n all l N w0 (up σ d (.bool true)) L) (hf : t = false → SX q P n all l N w0 (up σ d (.bool false)) L) :
    SX q P n all l N w0 σ L := by
  cases t with
  | true => have := ht rfl; rwa [up_self _ _ _ hd] at this
  | false => have := hf rfl; rwa [up_self _ _ _ hd] at this

/-- A split at a guard's own slot. -/
theorem SX_gsplit {l : List Oper} {j : Nat} {b : Bool} {dd : Nat} {t : Bool} (_hj : (all[j]?).bind (·.dst) = some dd) (hd : σ dd = .bool t)
    (ht : t = true → SX q P n all (⟨d, op, ty, pos, aft, some (j, b)⟩ :: l) N w0 (up σ dd (.bool true)) L) (hf : t = false → SX q P n all (⟨d, op, ty, pos, aft, some (j, b)⟩ :: l) N w0 (up σ dd (.bool false)) L) :
    SX q P n all (⟨d, op, ty, pos, aft, some (j, b)⟩ :: l) N w0 σ L := SX_split dd hd ht hf
theorem SX_gsplitD {l : List Oper} {j : Nat} {b : Bool} {dd : Nat} {p : Prop} [Decidable p] (_hj : (all[j]?).bind (·.dst) = some dd) (hd : σ dd = .bool (decide p))
    (ht : p → SX q P n all (⟨d, op, ty, pos, aft, some (j, b)⟩ :: l) N w0 (up σ dd (.bool true)) L) (hf : ¬ p → SX q P n all (⟨d, op, ty, pos, aft, some (j, b)⟩ :: l) N w0 (up σ dd (.bool false)) L) :
    SX q P n all (⟨d, op, ty, pos, aft, some (j, b)⟩ :: l) N w0 σ L := SX_split dd hd (fun h => ht (of_decide_eq_true h)) (fun h => hf (of_decide_eq_false h))
theorem SX_gsplitN {l : List Oper} {j : Nat} {b : Bool} {dd : Nat} {p : Prop} [Decidable p] (_hj : (all[j]?).bind (·.dst) = some dd) (hd : σ dd = .bool (!decide p))
    (ht : ¬ p → SX q P n all (⟨d, op, ty, pos, aft, some (j, b)⟩ :: l) N w0 (up σ dd (.bool true)) L) (hf : p → SX q P n all (⟨d, op, ty, pos, aft, some (j, b)⟩ :: l) N w0 (up σ dd (.bool false)) L) :
    SX q P n all (⟨d, op, ty, pos, aft, some (j, b)⟩ :: l) N w0 σ L := SX_split dd hd (fun h => ht (of_decide_eq_false (by simpa using h))) (fun h => hf (of_decide_eq_true (by simpa using h)))

theorem SX_run' {l l' : List Oper} {σ' : Fr} (h : runP n l σ = (l', σ')) (k : SX q P n all l' N w0 σ' L) : SX q P n all l N w0 σ L := by
  induction l generalizing σ with
  | nil => simp only [runP, Prod.mk.injEq] at h; obtain ⟨rfl, rfl⟩ := h; exact k
  | cons o rest ih =>
    obtain ⟨d, op, ty, pos, aft, g⟩ := o
    cases d with
    | none => simp only [runP, Prod.mk.injEq] at h; obtain ⟨rfl, rfl⟩ := h; exact k
    | some d =>
      cases g with
      | some g => simp only [runP, Prod.mk.injEq] at h; obtain ⟨rfl, rfl⟩ := h; exact k
      | none =>
        unfold runP at h
        split at h
        · rename_i v hv
          exact SX_v (fun _ _ _ _ _ _ => pv_run hv) (ih h)
        · simp only [Prod.mk.injEq] at h; obtain ⟨rfl, rfl⟩ := h; exact k

theorem SX_run {d : Nat} {l' : List Oper} {σ' : Fr} {v : Value} (h0 : pv n σ op = some v) (h : runP n rest (up σ d v) = (l', σ')) (k : SX q P n all l' N w0 σ' L) : SX q P n all (⟨some d, op, ty, pos, aft, none⟩ :: rest) N w0 σ L :=
  SX_v (fun _ _ _ _ _ _ => pv_run h0) (SX_run' h k)

/-- A call that hands back one value and leaves nothing behind. -/
theorem SX_callA {f : FuncId} [hf : FnT P f] {xs : List Operand} {tys : Array TypeId} {args : List Value} {v : Value} (ha : xs.map (ev n σ) = args) (hc : ∀ w, St w0 w L → F P f args w (rA v))
    (h : SX q P n all rest N w0 (upo σ d v) L) : SX q P n all (⟨d, .call ⟨.value (.func f), ⟨xs⟩, tys⟩, ty, pos, aft, none⟩ :: rest) N w0 σ L := by
  cases q with
  | false => exact SWl_callA ha hc h
  | true =>
    show SQl P n all _ N w0 σ L
    unfold SQl
    refine wpQuiet_step fun K hK => ?_
    rw [if_pos (by simp [Region.wanted])]
    refine ⟨v, fun w k => ?_, ?_⟩
    · obtain ⟨fn, h1, h2, h3⟩ := hf.ex
      have hn' : ¬ fn.name = "runtime.NumGoroutine" := by simpa using h2
      have hb' : ¬ fn.body = none := by intro e; rw [e] at h3; cases h3
      subst ha
      have hrun : (execOp (ev n σ) (⟨d, .call ⟨.value (.func f), ⟨xs⟩, tys⟩, ty, pos, aft, none⟩ : Oper)).run P w = .ok (.enter f (xs.map (ev n σ)).toArray) w := by
        simp [execOp, resolve, ev, Deferred.ofValue, invoke, callFunc, h1, hn', hb']
      unfold Oper.quietAt
      rw [eval_mk, hrun]
      refine ⟨rfl, Calls.mono (hc w k) ?_⟩
      rintro e w' ⟨v', he, M, ⟨rfl, rfl⟩, hM⟩
      exact ⟨he, by simpa using k.then hM⟩
    · rw [put_mk]; exact hK _ h

/-! the values -/
theorem Val_add {t : TypeId} {x y : Operand} {yt : TypeId} {a b : Int} (hx : ev n σ x = .int .i64 a) (hy : ev n σ y = .int .i64 b) (h1 : -9223372036854775808 ≤ a + b) (h2 : a + b ≤ 9223372036854775807) :
    Val P n w0 σ L (.binOp .add t x y yt) (.int .i64 (a + b)) := fun _ _ _ _ _ _ => by simp [execOp, hx, hy, eqGuard, binOp, Op.intArith, wrap_in h1 h2]
theorem Val_sub {t : TypeId} {x y : Operand} {yt : TypeId} {a b : Int} (hx : ev n σ x = .int .i64 a) (hy : ev n σ y = .int .i64 b) (h1 : -9223372036854775808 ≤ a - b) (h2 : a - b ≤ 9223372036854775807) :
    Val P n w0 σ L (.binOp .sub t x y yt) (.int .i64 (a - b)) := fun _ _ _ _ _ _ => by simp [execOp, hx, hy, eqGuard, binOp, Op.intArith, wrap_in h1 h2]
theorem Val_mul {t : TypeId} {x y : Operand} {yt : TypeId} {a b : Int} (hx : ev n σ x = .int .i64 a) (hy : ev n σ y = .int .i64 b) (h1 : -9223372036854775808 ≤ a * b) (h2 : a * b ≤ 9223372036854775807) :
    Val P n w0 σ L (.binOp .mul t x y yt) (.int .i64 (a * b)) := fun _ _ _ _ _ _ => by simp [execOp, hx, hy, eqGuard, binOp, Op.intArith, wrap_in h1 h2]
theorem Val_addw {t : TypeId} {x y : Operand} {yt : TypeId} {a b : Int} (hx : ev n σ x = .int .i64 a) (hy : ev n σ y = .int .i64 b) :
    Val P n w0 σ L (.binOp .add t x y yt) (.int .i64 (IntKind.i64.wrap (a + b))) := fun _ _ _ _ _ _ => by simp [execOp, hx, hy, eqGuard, binOp, Op.intArith]
theorem Val_subw {t : TypeId} {x y : Operand} {yt : TypeId} {a b : Int} (hx : ev n σ x = .int .i64 a) (hy : ev n σ y = .int .i64 b) :
    Val P n w0 σ L (.binOp .sub t x y yt) (.int .i64 (IntKind.i64.wrap (a - b))) := fun _ _ _ _ _ _ => by simp [execOp, hx, hy, eqGuard, binOp, Op.intArith]
theorem Val_mulw {t : TypeId} {x y : Operand} {yt : TypeId} {a b : Int} (hx : ev n σ x = .int .i64 a) (hy : ev n σ y = .int .i64 b) :
    Val P n w0 σ L (.binOp .mul t x y yt) (.int .i64 (IntKind.i64.wrap (a * b))) := fun _ _ _ _ _ _ => by simp [execOp, hx, hy, eqGuard, binOp, Op.intArith]
theorem Val_quo {t : TypeId} {x y : Operand} {yt : TypeId} {a b : Int} (hx : ev n σ x = .int .i64 a) (hy : ev n σ y = .int .i64 b) (h0 : b ≠ 0) :
    Val P n w0 σ L (.binOp .quo t x y yt) (.int .i64 (IntKind.i64.wrap (a.tdiv b))) := fun _ _ _ _ _ _ => by simp [execOp, hx, hy, eqGuard, binOp, Op.intDiv, h0]
theorem Val_rem {t : TypeId} {x y : Operand} {yt : TypeId} {a b : Int} (hx : ev n σ x = .int .i64 a) (hy : ev n σ y = .int .i64 b) (h0 : b ≠ 0) :
    Val P n w0 σ L (.binOp .rem t x y yt) (.int .i64 (a.tmod b)) := fun _ _ _ _ _ _ => by simp [execOp, hx, hy, eqGuard, binOp, Op.intDiv, h0]
/-- '/' and '%' of what is not below 0. -/
theorem Val_quoN {t : TypeId} {x y : Operand} {yt : TypeId} {a b : Int} (hx : ev n σ x = .int .i64 a) (hy : ev n σ y = .int .i64 b) (h0 : 0 ≤ a) (h1 : 1 ≤ b) (h2 : a ≤ 9223372036854775807) :
    Val P n w0 σ L (.binOp .quo t x y yt) (.int .i64 (a / b)) := fun _ _ _ _ _ _ => by
  have hb : b ≠ 0 := by omega
  have e : a.tdiv b = a / b := Int.tdiv_eq_ediv_of_nonneg h0
  have l1 : 0 ≤ a / b := Int.ediv_nonneg h0 (by omega)
  have l2 : a / b ≤ a := Int.ediv_le_self b h0
  simp [execOp, hx, hy, eqGuard, binOp, Op.intDiv, hb, e, wrap_in (show -9223372036854775808 ≤ a / b by omega) (show a / b ≤ 9223372036854775807 by omega)]
theorem Val_remN {t : TypeId} {x y : Operand} {yt : TypeId} {a b : Int} (hx : ev n σ x = .int .i64 a) (hy : ev n σ y = .int .i64 b) (h0 : 0 ≤ a) (h1 : 1 ≤ b) :
    Val P n w0 σ L (.binOp .rem t x y yt) (.int .i64 (a % b)) := fun _ _ _ _ _ _ => by
  have hb : b ≠ 0 := by omega
  have e : a.tmod b = a % b := Int.tmod_eq_emod_of_nonneg h0
  simp [execOp, hx, hy, eqGuard, binOp, Op.intDiv, hb, e]
theorem Val_beq {t : TypeId} {x y : Operand} {yt : TypeId} {a b : Bool} (hT : P.underlying t = some .bool) (hx : ev n σ x = .bool a) (hy : ev n σ y = .bool b) :
    Val P n w0 σ L (.binOp .eql t x y yt) (.bool (a == b)) := fun _ _ _ _ w _ => by
  have := run_equalIn_bool' (P := P) w 9999 t a b hT
  simp [execOp, hx, hy, eqGuard, binOp, Op.equal, Op.maxDepth, this]
theorem Val_bne {t : TypeId} {x y : Operand} {yt : TypeId} {a b : Bool} (hT : P.underlying t = some .bool) (hx : ev n σ x = .bool a) (hy : ev n σ y = .bool b) :
    Val P n w0 σ L (.binOp .neq t x y yt) (.bool (!(a == b))) := fun _ _ _ _ w _ => by
  have := run_equalIn_bool' (P := P) w 9999 t a b hT
  simp [execOp, hx, hy, eqGuard, binOp, Op.equal, Op.maxDepth, this]
theorem Val_min {x y : Operand} {t1 t2 : TypeId} {a b : Int} (hx : ev n σ x = .int .i64 a) (hy : ev n σ y = .int .i64 b) :
    Val P n w0 σ L (.call ⟨.builtin .min, ⟨[x, y]⟩, ⟨[t1, t2]⟩⟩) (.int .i64 (min a b)) := fun _ _ _ _ w _ => by
  have := run_min_int2 (P := P) w
  simp [execOp, resolve, invoke, builtin, hx, hy, this]
  omega
theorem Val_bits {t : TypeId} {x y : Operand} {yt : TypeId} {op : BinOp} {a b : Int} (hx : ev n σ x = .int .i64 a) (hy : ev n σ y = .int .i64 b) {v : Value} (hv : ∀ w, (Op.intBits op .i64 a b).run P w = .ok v w) (ho : op = .and ∨ op = .xor ∨ op = .or) :
    Val P n w0 σ L (.binOp op t x y yt) v := fun _ _ _ _ w _ => by
  have := hv w
  rcases ho with rfl | rfl | rfl <;> simp [execOp, hx, hy, eqGuard, binOp, this]
theorem Val_shr {t : TypeId} {x y : Operand} {yt : TypeId} {a : Int} {k : IntKind} {b : Int} (hx : ev n σ x = .int .i64 a) (hy : ev n σ y = .int k b) (hb : 0 ≤ b) :
    Val P n w0 σ L (.binOp .shr t x y yt) (.int .i64 (a.fdiv (2 ^ (min b.toNat 64)))) := fun _ _ _ _ _ _ => by
  have : ¬ b < 0 := by omega
  simp [execOp, hx, hy, eqGuard, binOp, Op.shift, this, IntKind.bits]
theorem Val_nilCheck {x : Operand} {a : Addr} (hx : ev n σ x = .pointer (some a)) : Val P n w0 σ L (.nilCheck x) (.pointer (some a)) := fun _ _ _ _ _ _ => by
  simp [execOp, hx]
theorem Val_conv {s t : TypeId} {x : Operand} {k k' : IntKind} {a : Int} (hs : (P.underlying s).isSome = true) (ht : P.underlying t = some (.int k)) (hx : ev n σ x = .int k' a) : Val P n w0 σ L (.convert s t x) (.int k (k.wrap a)) := fun _ _ _ _ _ _ => by
  obtain ⟨d, hd⟩ := Option.isSome_iff_exists.1 hs
  simp [execOp, hx, convert, run_underlying hd, run_underlying ht, Conv.intToInt]
theorem Val_len {T e : TypeId} {sz by_ : Nat} [hT : SlT P T e sz by_] {x : Operand} {ao : Option Addr} {l c : Nat} (hx : ev n σ x = .slice ao l c) : Val P n w0 σ L (.call ⟨.builtin .len, ⟨[x]⟩, ⟨[T]⟩⟩) (.int .i64 l) := fun _ _ _ _ _ _ => by
  simp [execOp, resolve, invoke, builtin, hx, Builtin.len_, run_underlying hT.und, goInt]
theorem Val_fa {S : TypeId} {f off : Nat} [hF : Fld P S f off] {x : Operand} {b o : Nat} (hx : ev n σ x = .pointer (some ⟨b, o, none⟩)) : Val P n w0 σ L (.fieldAddr S x f) (.pointer (some ⟨b, o + off, none⟩)) := fun _ _ _ _ _ _ => by
  simp [execOp, hx, hF.run, Addr.add_eq]
theorem Val_ldB {T : TypeId} [hT : Sc P T] (k : Nat) {b : Nat} {cs : List Value} {T' : TypeId} (hk : L[k]? = some (Blk b cs T')) {x : Operand} {o : Nat} (hx : ev n σ x = .pointer (some ⟨b, o, none⟩)) {v : Value} (hv : cs[o]? = some v) :
    Val P n w0 σ L (.load T x) v := fun _ _ _ _ w s => by
  have : w.cell? ⟨b, o, none⟩ = some v := by rw [cell_of_row w b o _ _ _ (blk_heap hk s)]; simpa using hv
  simp [execOp, hx, Instr.loadAt, Instr.sureAddr, loadVar, hT.isAgg, run_load, this]

theorem Val_agg {T : TypeId} {sz : Nat} [hT : Ag P T sz] {x : Operand} {b o : Nat} {cs : List Value} (hx : ev n σ x = .pointer (some ⟨b, o, none⟩)) (hl : cs.length = sz) (hv : ∀ w, St w0 w L → ∀ j, j < sz → w.cell? ⟨b, o + j, none⟩ = cs[j]?) :
    Val P n w0 σ L (.load T x) (.agg cs.toArray) := fun _ _ _ _ w s => by
  have h2 := size_run (P := P) (T := T) (s := cs.length) (w := w) (by rw [hl]; exact hT.size)
  have h3 := run_loadCells_list (P := P) w ⟨b, o, none⟩ cs (fun j v hj => by
    have hjl : j < cs.length := (List.getElem?_eq_some_iff.1 hj).1
    rw [Addr.add_eq, hv w s j (by omega), hj])
  simp [execOp, hx, Instr.loadAt, Instr.sureAddr, loadVar, hT.isAgg, h2, h3]

theorem Val_ldAB {T : TypeId} {sz : Nat} [hT : Ag P T sz] (k : Nat) {b : Nat} {cs : List Value} {T' : TypeId} (hk : L[k]? = some (Blk b cs T')) {x : Operand} {o : Nat} (hx : ev n σ x = .pointer (some ⟨b, o, none⟩)) {vs : List Value} (hv : (cs.drop o).take sz = vs) (hl : vs.length = sz) :
    Val P n w0 σ L (.load T x) (.agg vs.toArray) :=
  Val_agg hx hl (fun w s j hj => by rw [cell_of_row w b _ _ _ _ (blk_heap hk s), ← hv, List.getElem?_take, if_pos hj]; simp)

variable {α : Type} [Lod α] {m : Nat}
theorem Val_ix {T e : TypeId} {sz by_ : Nat} [hT : SlT P T e sz by_] {s : Sl α} (hs : Src m w0 L s) {x y : Operand} (hx : ev n σ x = s.val) {z : Int} (hy : ev n σ y = .int .i64 z) (i : Nat) (hz : z = (i : Int)) (hi : i < s.n) :
    Val P n w0 σ L (.indexAddr T x y) (.pointer (some ⟨s.blk, s.off + i * sz, none⟩)) := fun _ _ _ _ w k => by
  have h5 := (hs w k).2.2.2.2.1 (by omega)
  obtain ⟨inf, hinf, hisz, _⟩ := hT.info
  subst hz
  have h1 : (0 : Int) ≤ (i : Int) ∧ (i : Int) < (s.n : Int) := by omega
  have h2 := size_run (P := P) (T := e) (s := sz) (w := w) (by simp [hinf, hisz])
  simp only [execOp, hx, hy, Sl.val, h5, Instr.indexAt, asIntOf, Sem.run_bind, Sem.run_pure, Result.andThen_ok, run_underlying hT.und, h2, if_pos h1, Int.toNat_natCast, Addr.add_eq]
theorem Val_ldS {T : TypeId} [hT : Sc P T] {s : Sl α} (hs : Src m w0 L s) {x : Operand} {i j sz : Nat} (hx : ev n σ x = .pointer (some ⟨s.blk, s.off + i * sz + j, none⟩)) (hsz : Lod.sz α = sz) (hj : Nat.blt j sz = true) (hi : i < s.n) {v : Value} (hv : (Lod.cells (s.nth i hi))[j]? = some v) :
    Val P n w0 σ L (.load T x) v := fun _ _ _ _ w k => by
  subst hsz
  have : w.cell? ⟨s.blk, s.off + i * Lod.sz α + j, none⟩ = some v := by rw [(hs w k).2.2.2.2.2.1 i hi j (by simpa [blt_eq] using hj), hv]
  simp [execOp, hx, Instr.loadAt, Instr.sureAddr, loadVar, hT.isAgg, run_load, this]
theorem Val_ldE {T : TypeId} [hT : Sc P T] {s : Sl α} (hs : Src m w0 L s) {x : Operand} {i : Nat} (hx : ev n σ x = .pointer (some ⟨s.blk, s.off + i * 1, none⟩)) (hsz : Lod.sz α = 1) (hi : i < s.n) {v : Value} (hv : (Lod.cells (s.nth i hi))[0]? = some v) :
    Val P n w0 σ L (.load T x) v := Val_ldS hs (j := 0) hx hsz rfl hi hv
theorem Val_ldAE {T : TypeId} {sz : Nat} [hT : Ag P T sz] {s : Sl α} (hs : Src m w0 L s) {x : Operand} {i : Nat} (hx : ev n σ x = .pointer (some ⟨s.blk, s.off + i * sz, none⟩)) (hsz : Lod.sz α = sz) (hi : i < s.n) :
    Val P n w0 σ L (.load T x) (.agg (Lod.cells (s.nth i hi)).toArray) := by
  subst hsz
  exact Val_agg hx (Lod.len _) (fun w k j hj => (hs w k).2.2.2.2.2.1 i hi j hj)
theorem Val_ldAS {T : TypeId} {tz : Nat} [hT : Ag P T tz] {s : Sl α} (hs : Src m w0 L s) {x : Operand} {i j sz : Nat} (hx : ev n σ x = .pointer (some ⟨s.blk, s.off + i * sz + j, none⟩)) (hsz : Lod.sz α = sz) (hj : Nat.ble (j + tz) sz = true) (hi : i < s.n) {vs : List Value} (hv : ((Lod.cells (s.nth i hi)).drop j).take tz = vs) :
    Val P n w0 σ L (.load T x) (.agg vs.toArray) := by
  subst hsz
  have hj' : j + tz ≤ Lod.sz α := Nat.le_of_ble_eq_true hj
  refine Val_agg hx (by rw [← hv, List.length_take, List.length_drop, Lod.len]; omega) (fun w k p hp => ?_)
  rw [Nat.add_assoc, Nat.add_assoc, ← Nat.add_assoc s.off, (hs w k).2.2.2.2.2.1 i hi (j + p) (by omega), ← hv, List.getElem?_take, if_pos hp, List.getElem?_drop]
theorem Val_slH {T e : TypeId} {sz by_ : Nat} [hT : SlT P T e sz by_] {s : Sl α} {x y : Operand} (hx : ev n σ x = s.val) {c : Int} (hy : ev n σ y = .int .i64 c) (k : Nat) (hc : c = (k : Int)) (hk : k ≤ s.n) (hcap : Src m w0 L s) :
    Val P n w0 σ L (.slice T x none (some y) none) (s.take k hk).val := fun _ _ _ _ w st => by
  obtain ⟨inf, hinf, hisz, _⟩ := hT.info
  obtain ⟨h1, h2, _⟩ := hcap w st
  subst hc
  have hsz := size_run (P := P) (T := e) (s := sz) (w := w) (by simp [hinf, hisz])
  have hle : (0 : Int) ≤ (k : Int) ∧ (k : Int) ≤ (s.cap : Int) := by omega
  have hb : (Instr.sliceBound (.int .i64 (k : Int)) s.cap .sliceAcap).run P w = .ok k w := by
    simp [Instr.sliceBound, asIntOf, hle]
  cases hao : s.ao with
  | none =>
    simp [execOp, hx, hy, Sl.val, Sl.take, hao, Instr.sliceAt, run_underlying hT.und, Instr.slice, Instr.sliceBounds, hb, hsz]
  | some a =>
    have ha : a.add 0 = a := by simp [Addr.add]
    simp [execOp, hx, hy, Sl.val, Sl.take, hao, Instr.sliceAt, run_underlying hT.und, Instr.slice, Instr.sliceBounds, hb, hsz, ha]
end
end Go.Proofs.Ytandadfmmohhhaa.E

namespace Go.Proofs.Ytandadfmmohhhaa.E
open Go Go.RowKit

section
variable {P : Program} {n : Nat} {N : Cont} {B : List (Nat × Cont)} {R : Cont} {w0 : World} {σ : Fr} {L : List Atom}

theorem SW_condD {c : Operand} {x y : Code} {p : Prop} [Decidable p] (hc : ev n σ c = .bool (decide p)) (ht : p → SW P n x N B R w0 σ L) (hf : ¬ p → SW P n y N B R w0 σ L) : SW P n (.cond c x y) N B R w0 σ L :=
  SW_cond hc (fun h => ht (of_decide_eq_true h)) (fun h => hf (of_decide_eq_false h))
theorem SW_condN {c : Operand} {x y : Code} {p : Prop} [Decidable p] (hc : ev n σ c = .bool (!decide p)) (ht : ¬ p → SW P n x N B R w0 σ L) (hf : p → SW P n y N B R w0 σ L) : SW P n (.cond c x y) N B R w0 σ L :=
  SW_cond hc (fun h => ht (of_decide_eq_false (by simpa using h))) (fun h => hf (of_decide_eq_true (by simpa using h)))
/-- '!b' at a test. -/
theorem SW_condB {c : Operand} {x y : Code} {b : Bool} (hc : ev n σ c = .bool (!b)) (ht : b = false → SW P n x N B R w0 σ L) (hf : b = true → SW P n y N B R w0 σ L) : SW P n (.cond c x y) N B R w0 σ L :=
  SW_cond hc (fun h => ht (by simpa using h)) (fun h => hf (by simpa using h))

variable {fn : Func} {Φ : Value → List Atom → Prop}
theorem SN_retB {t : Nat} {b : Bool} (hr : fn.results = #[.tmp t]) (he : ev fn.ntmps σ (.tmp t) = .bool b) (h : Φ (.bool b) []) : SN (Ret P fn w0 Φ) w0 σ L := SN_ret1 hr (RV.tmp he) Imp.nil h
theorem SN_retI {t : Nat} {k : IntKind} {z : Int} (hr : fn.results = #[.tmp t]) (he : ev fn.ntmps σ (.tmp t) = .int k z) (h : Φ (.int k z) []) : SN (Ret P fn w0 Φ) w0 σ L := SN_ret1 hr (RV.tmp he) Imp.nil h

/-- A law that turns the world: outside a region that draws. -/
theorem SX_w {all l : List Oper} (h : SWl P n all l N w0 σ L) : SX false P n all l N w0 σ L := h
theorem SWl_x {all l : List Oper} (h : SX false P n all l N w0 σ L) : SWl P n all l N w0 σ L := h
theorem SW_region_w {id : Nat} {ops : List Oper} (h : SX false P n ops ops N w0 σ L) : SW P n (.region id ops.toArray false) N B R w0 σ L := SW_region h
theorem SN_here {I : Fr → List Atom → Prop} {L' : List Atom} (hL : Imp w0 L L') (hI : I σ L') : SN (Mid w0 I) w0 σ L := SN_mid hL hI
end
section
variable {q : Bool} {P : Program} {n : Nat} {N : Cont} {w0 : World} {σ : Fr} {L : List Atom} {all rest : List Oper} {d : Option Tmp} {ty : TypeId} {pos : String} {aft : Array Edge}
/-- Looks at the operation: a call of function f. -/
theorem SX_at (f : FuncId) {xs : List Operand} {tys : Array TypeId} (h : SX q P n all (⟨d, .call ⟨.value (.func f), ⟨xs⟩, tys⟩, ty, pos, aft, none⟩ :: rest) N w0 σ L) :
    SX q P n all (⟨d, .call ⟨.value (.func f), ⟨xs⟩, tys⟩, ty, pos, aft, none⟩ :: rest) N w0 σ L := h
theorem SWl_at (f : FuncId) {xs : List Operand} {tys : Array TypeId} (h : SWl P n all (⟨d, .call ⟨.value (.func f), ⟨xs⟩, tys⟩, ty, pos, aft, none⟩ :: rest) N w0 σ L) :
    SX false P n all (⟨d, .call ⟨.value (.func f), ⟨xs⟩, tys⟩, ty, pos, aft, none⟩ :: rest) N w0 σ L := h
end
end Go.Proofs.Ytandadfmmohhhaa.E

namespace Go.Proofs.Ytandadfmmohhhaa.E
open Go Go.RowKit

/-! ### a region that draws its order and writes: what only reads is taken first, the rest in each order that is left -/
section
variable {P : Program} {ops : Array Oper}

def QF : Exit → Act → World → Prop := fun _ _ _ => False

theorem wpOp_q {Q : Exit → Act → World → Prop} {i : Nat} {K : Act → World → Prop} {a : Act} {w : World} (h : wpOp P ops QF i K a w) : wpOp P ops Q i K a w := by
  unfold wpOp at *
  split
  · rename_i ho; simpa [ho] using h
  · rename_i o ho
    simp only [ho] at h
    split
    · rename_i hw
      simp only [hw, if_true] at h
      rcases h with h | ⟨_, _, _, hf⟩
      · left
        unfold Oper.wp at *
        generalize (execOp a.eval o).run P w = r at *
        cases r with
        | ok n w' =>
          cases n <;> simp only [Oper.upon] at h ⊢ <;> first | exact h | skip
          refine Calls.mono h fun e w'' he => ?_
          cases e with
          | returned u => exact he
          | panicked c => exact he.elim
          | outgrown => obtain ⟨_, _, hf⟩ := he; exact hf.elim
        | halt x w' =>
          cases x <;> simp only [Oper.upon] at h ⊢
          exact h.elim
      · exact hf.elim
    · rename_i hw
      simp only [hw] at h
      exact h

theorem wpOp_putZ {Z : Act → Prop} {j : Nat} {oi oj : Oper} {v : Value} (hj : ops[j]? = some oj) (hap : oi.apart ops oj = true) (hsj : ∀ cs b, oj.op ≠ .select cs b)
    (hz : ∀ a u, Z a → Z (a.put oj.dst u)) (hzd : ∀ a d, Z a → Z { a with defers := d :: a.defers }) {K : Act → World → Prop} {a : Act} {w : World} (hy : Z a) (h : wpOp P ops QF j K (a.put oi.dst v) w) :
    wpOp P ops QF j (fun a' w' => Z a' ∧ K (a'.put oi.dst v) w') a w := by
  obtain ⟨h1, h2, h3⟩ := Oper.apart_spec hap
  unfold wpOp at *
  simp only [hj] at *
  rw [wanted_put oj a oi.dst v h1] at h
  split
  · rename_i hw
    simp only [hw, if_true] at h
    rcases h with h | ⟨_, _, _, hf⟩
    case inr => exact hf.elim
    refine .inl ?_
    unfold Oper.wp at *
    rw [execOp_put oj hsj a oi.dst v h1] at h
    generalize (execOp a.eval oj).run P w = r at *
    cases r with
    | ok n w' =>
      cases n <;> simp only [Oper.upon] at h ⊢
      case value u => exact ⟨hz a u hy, by rw [← Act.put_comm a v u h2]; exact h⟩
      case skip => exact ⟨hz a _ hy, by rw [← Act.put_comm a v undef h2]; exact h⟩
      case defer d =>
        refine ⟨hz _ _ (hzd a d hy), ?_⟩
        rw [← Act.put_comm _ v undef h2, ← Act.put_defers]
        exact h
      case enter f args =>
        refine Calls.mono h fun e w'' he => ?_
        cases e with
        | returned u => exact ⟨hz a u hy, by rw [← Act.put_comm a v u h2]; exact he⟩
        | panicked c => exact he
        | outgrown => exact he
      case row row args => exact Rows.mono h fun u w'' he => ⟨hz a u hy, by rw [← Act.put_comm a v u h2]; exact he⟩
    | halt x w' =>
      cases x <;> simp only [Oper.upon] at h ⊢
      exact h
  · rename_i hw
    simp only [hw] at h
    exact ⟨hz a _ hy, by rw [← Act.put_comm a v undef h2]; exact h⟩

/-- Does operation k wait for each operation that is no mere reckoning (or that one for k)? -/
def asksWorld (o : Oper) : Bool :=
  match o.op with
  | .move _ | .assign _ | .pick .. | .binOp .. | .unOp .. | .extract .. | .convert .. | .fieldAddr .. | .nilCheck _ | .build .. => false
  | _ => true
def waitsB (ops : Array Oper) (k m : Nat) : Bool := match ops[k]? with
  | some ok => ok.after.any fun e => Region.binds .any e && e.on == m
  | none => false
/-- What may be taken first though it asks the world: a look. -/
def isRead (o : Oper) : Bool :=
  match o.op with
  | .load _ _ | .indexAddr .. | .slice .. => true
  | _ => false
def tailB (ops : Array Oper) (k : Nat) : Bool := (List.range ops.size).all fun m => m == k || waitsB ops k m || waitsB ops m k || !(((ops[m]?).map isRead).getD true)

theorem waitsB_spec {k m : Nat} (h : waitsB ops k m = true) : ∃ ok, ops[k]? = some ok ∧ ∃ e ∈ ok.after, Region.binds .any e = true ∧ e.on = m := by
  unfold waitsB at h
  split at h
  · rename_i ok hk
    obtain ⟨e, he, hb⟩ := Array.any_eq_true'.1 h
    simp only [Bool.and_eq_true, beq_iff_eq] at hb
    exact ⟨ok, hk, e, he, hb.1, hb.2⟩
  · cases h

theorem ready_unlisted {m : Nat} {listed : Array Bool} (hr : m ∈ Region.ready .any ops listed) : listed.getD m false = false := by
  have := (mem_ready.1 hr).1
  rcases Nat.lt_or_ge m listed.size with h | h
  · simp [h] at this ⊢; exact this
  · simp [Array.getElem?_eq_none h] at this

theorem not_waits {k m : Nat} {listed : Array Bool} (hk : k ∈ Region.ready .any ops listed) (hm : m ∈ Region.ready .any ops listed) : waitsB ops k m = false := by
  cases h : waitsB ops k m with
  | false => rfl
  | true =>
    obtain ⟨ok, hok, e, he, hb, hon⟩ := waitsB_spec h
    obtain ⟨_, o', ho', hall⟩ := mem_ready.1 hk
    rw [hok] at ho'
    obtain rfl := Option.some.inj ho'
    have h1 := hall e he hb
    rw [hon, ready_unlisted hm] at h1
    cases h1

variable {n : Nat} {N : Cont} {w0 : World}

/-- From here on, whatever is picked. X: what may turn; J: what stays as long as it may be read. -/
def AC (P : Program) (ops : Array Oper) (n : Nat) (N : Cont) (w0 : World) : Nat → Array Bool → Act → List Atom → List Atom → Prop
  | 0, listed, a, X, J => Region.ready .any ops listed = [] ∧ ∃ σ, a = mk n σ ∧ SN N w0 σ (X ++ J)
  | f + 1, listed, a, X, J =>
    (Region.ready .any ops listed = [] ∧ ∃ σ, a = mk n σ ∧ SN N w0 σ (X ++ J)) ∨
    (Region.ready .any ops listed ≠ [] ∧ ∀ i, i ∈ Region.ready .any ops listed →
      ((∀ w, St w0 w (X ++ J) → wpOp P ops QF i (fun a' w' => ∃ X', AC P ops n N w0 f (listed.setIfInBounds i true) a' X' J ∧ St w0 w' (X' ++ J)) a w) ∨
       (tailB ops i = true ∧ ∀ w, St w0 w (X ++ J) → wpOp P ops QF i (fun a' w' => ∃ X' J', AC P ops n N w0 f (listed.setIfInBounds i true) a' X' J' ∧ St w0 w' (X' ++ J')) a w)))

theorem AC_sound {B : List (Nat × Cont)} {R : Cont} : ∀ (f : Nat) (listed : Array Bool) (a : Act) (X J : List Atom) (w : World), AC P ops n N w0 f listed a X J → St w0 w (X ++ J) → wpAny P .any ops (post n N B R) f listed a w
  | 0, _, _, _, _, w, ⟨h1, σ, e, h2⟩, hs => ⟨h1, σ, e, h2 w hs⟩
  | f + 1, _, _, _, _, w, h, hs => by
    rcases h with ⟨h1, σ, e, h2⟩ | ⟨h1, h2⟩
    · exact ⟨fun _ => ⟨σ, e, h2 w hs⟩, fun i hi => by rw [h1] at hi; cases hi⟩
    · refine ⟨fun h => absurd h h1, fun i hi => ?_⟩
      rcases h2 i hi with h3 | ⟨_, h3⟩
      · exact wpOp_q (wpOp_mono (fun a' w' ⟨X', h4, h5⟩ => AC_sound f _ a' X' _ w' h4 h5) (h3 w hs))
      · exact wpOp_q (wpOp_mono (fun a' w' ⟨X', J', h4, h5⟩ => AC_sound f _ a' X' J' w' h4 h5) (h3 w hs))

/-- One value, whatever stands besides J. -/
def Firm (P : Program) (ops : Array Oper) (w0 : World) (pure : Bool) (J : List Atom) (o : Oper) (v : Value) (a : Act) : Prop :=
  match pure with
  | true => ∀ J', ∀ X, YieldsIn P ops (fun w => St w0 w (X ++ J')) o v a
  | false => ∀ X, YieldsIn P ops (fun w => St w0 w (X ++ J)) o v a

theorem Firm.at {p : Bool} {J : List Atom} {o : Oper} {v : Value} {a : Act} (h : Firm P ops w0 p J o v a) (X : List Atom) : YieldsIn P ops (fun w => St w0 w (X ++ J)) o v a := by
  cases p with
  | true => exact h J X
  | false => exact h X

theorem Firm.put {p : Bool} {J : List Atom} {oi oj : Oper} {v : Value} {a : Act} (hsi : ∀ cs b, oi.op ≠ .select cs b) (h3 : ∀ d, oj.dst = some d → d ∉ oi.looksAt ops) (u : Value) (h : Firm P ops w0 p J oi v a) : Firm P ops w0 p J oi v (a.put oj.dst u) := by
  have key : ∀ C : World → Prop, YieldsIn P ops C oi v a → YieldsIn P ops C oi v (a.put oj.dst u) := fun C hy => hy.of_same (execOp_put oi hsi a oj.dst u h3) (wanted_put oi a oj.dst u h3)
  cases p with
  | true => exact fun J' X => key _ (h J' X)
  | false => exact fun X => key _ (h X)

theorem Firm.dfr {p : Bool} {J : List Atom} {oi : Oper} {v : Value} {a : Act} (d : Deferred) (h : Firm P ops w0 p J oi v a) : Firm P ops w0 p J oi v { a with defers := d :: a.defers } := by
  cases p with
  | true => exact fun J' X => (h J' X).of_same rfl rfl
  | false => exact fun X => (h X).of_same rfl rfl

theorem wpOp_of_yields {i : Nat} {o : Oper} {v : Value} {a : Act} {C : World → Prop} {K : Act → World → Prop} {w : World} (hi : ops[i]? = some o) (hy : YieldsIn P ops C o v a) (hw : C w) (h : ∀ w', C w' → K (a.put o.dst v) w') : wpOp P ops QF i K a w := by
  unfold wpOp
  simp only [hi]
  rcases hy with ⟨hwn, hv⟩ | ⟨hwn, rfl⟩
  · simp only [hwn, if_true]
    left
    exact Oper.wp_of_quiet (K := fun a' => a' = a.put o.dst v) (C := C) hw (fun a' w' hw' e => by subst e; exact h w' hw') ⟨v, hv, rfl⟩
  · simp only [hwn, Bool.false_eq_true, if_false]
    exact h w hw

/-- What only reads may be taken first. -/
theorem AC_first {p : Bool} {i : Nat} {oi : Oper} {v : Value} (hi : ops[i]? = some oi) (hsel : ∀ (j : Nat) (o : Oper) cs b, ops[j]? = some o → o.op ≠ .select cs b) :
    ∀ (f : Nat) (listed : Array Bool) (a : Act) (X J : List Atom),
      (∀ j oj, ops[j]? = some oj → j ≠ i → listed.getD j true = false → (∀ e ∈ oj.after, Region.binds .any e = true → e.on ≠ i) → oi.apart ops oj = true) →
      (p = false → isRead oi = true) → i ∈ Region.ready .any ops listed → Firm P ops w0 p J oi v a →
      AC P ops n N w0 f (listed.setIfInBounds i true) (a.put oi.dst v) X J → AC P ops n N w0 (f + 1) listed a X J := by
  intro f
  induction f with
  | zero =>
    intro listed a X J _ _ hr hy H
    refine .inr ⟨fun h => (by rw [h] at hr; cases hr), fun j hj => ?_⟩
    have hji : j = i := Classical.byContradiction fun hne => by
      have := ready_mono hj hne
      rw [H.1] at this
      cases this
    subst hji
    exact .inl fun w hs => wpOp_of_yields hi (hy.at X) hs (fun w' hw' => ⟨X, H, hw'⟩)
  | succ f ih =>
    intro listed a X J hfree hask hr hy H
    refine .inr ⟨fun h => (by rw [h] at hr; cases hr), fun j hj => ?_⟩
    by_cases hji : j = i
    · subst hji
      exact .inl fun w hs => wpOp_of_yields hi (hy.at X) hs (fun w' hw' => ⟨X, H, hw'⟩)
    · have hjr := ready_mono hj hji
      have hnr : Region.ready .any ops (listed.setIfInBounds i true) ≠ [] := fun h => by rw [h] at hjr; cases hjr
      have H2 := H.resolve_left (fun h => hnr h.1)
      have hstep := H2.2 j hjr
      obtain ⟨hjun, oj, hoj, hall⟩ := mem_ready.1 hj
      have hnot : ∀ e ∈ oj.after, Region.binds .any e = true → e.on ≠ i := fun e he hb heq => by
        have h1 := hall e he hb
        rw [heq, ready_unlisted hr] at h1
        cases h1
      have hap := hfree j oj hoj hji hjun hnot
      obtain ⟨h1, h2, h3⟩ := Oper.apart_spec hap
      have hfree' : ∀ k ok, ops[k]? = some ok → k ≠ i → (listed.setIfInBounds j true).getD k true = false →
          (∀ e ∈ ok.after, Region.binds .any e = true → e.on ≠ i) → oi.apart ops ok = true := fun k ok hk hki hun hno => by
        refine hfree k ok hk hki ?_ hno
        by_cases hjk : j = k
        · subst hjk; exact hjun
        · rw [getD_set_ne true hjk] at hun; exact hun
      have hir' : i ∈ Region.ready .any ops (listed.setIfInBounds j true) := ready_mono hr (Ne.symm hji)
      have hz : ∀ a u, Firm P ops w0 p J oi v a → Firm P ops w0 p J oi v (a.put oj.dst u) := fun a u h => h.put (fun cs b => hsel i oi cs b hi) h3 u
      have hzd : ∀ a d, Firm P ops w0 p J oi v a → Firm P ops w0 p J oi v { a with defers := d :: a.defers } := fun a d h => h.dfr d
      have hcomm : (listed.setIfInBounds i true).setIfInBounds j true = (listed.setIfInBounds j true).setIfInBounds i true := by
        rw [Array.setIfInBounds_comm _ _ hji]
      rw [hcomm] at hstep
      rcases hstep with hstep | ⟨htail, hstep⟩
      · refine .inl fun w hs => ?_
        refine wpOp_mono ?_ (wpOp_putZ (Z := Firm P ops w0 p J oi v) hoj hap (fun cs b => hsel j oj cs b hoj) hz hzd hy (hstep w hs))
        rintro a' w' ⟨hZ, X', hAC, hs'⟩
        exact ⟨X', ih _ a' X' J hfree' hask hir' hZ hAC, hs'⟩
      · cases p with
        | false =>
          exfalso
          have ht := List.all_eq_true.1 htail i (List.mem_range.2 (Array.getElem?_eq_some_iff.1 hi).1)
          have e1 : (i == j) = false := by simpa using fun h => hji h.symm
          simp only [e1, not_waits hj hr, not_waits hr hj, hi, Option.map_some, Option.getD_some, hask rfl, Bool.not_true, Bool.or_self] at ht
          cases ht
        | true =>
          refine .inr ⟨htail, fun w hs => ?_⟩
          refine wpOp_mono ?_ (wpOp_putZ (Z := Firm P ops w0 true J oi v) hoj hap (fun cs b => hsel j oj cs b hoj) hz hzd hy (hstep w hs))
          rintro a' w' ⟨hZ, X', J', hAC, hs'⟩
          exact ⟨X', J', ih _ a' X' J' hfree' hask hir' hZ hAC, hs'⟩
end
end Go.Proofs.Ytandadfmmohhhaa.E

namespace Go.Proofs.Ytandadfmmohhhaa.E
open Go Go.RowKit

section
variable {P : Program} {n : Nat} {all : List Oper} {N : Cont} {B : List (Nat × Cont)} {R : Cont} {w0 : World} {σ : Fr} {X J L : List Atom} {f : Nat} {listed : Array Bool}

def SA (P : Program) (n : Nat) (all : List Oper) (N : Cont) (w0 : World) (f : Nat) (listed : Array Bool) (σ : Fr) (X J : List Atom) : Prop := AC P all.toArray n N w0 f listed (mk n σ) X J

theorem SW_regionA {id : Nat} {ops : List Oper} (hm : P.follows .mixedOrders = true) (h : SA P n ops N w0 ops.length (Array.replicate ops.length false) σ [] L) : SW P n (.region id ops.toArray true) N B R w0 σ L := by
  intro w k
  refine wp_region_any hm ?_
  rw [List.size_toArray]
  exact AC_sound _ _ _ _ _ _ h k.drew

def AN (P : Program) (n : Nat) (all : List Oper) (N : Cont) (w0 : World) (f : Nat) (listed : Array Bool) (J : List Atom) : Cont := fun σ w => ∃ X, SA P n all N w0 f listed σ X J ∧ St w0 w (X ++ J)
def AT (P : Program) (n : Nat) (all : List Oper) (N : Cont) (w0 : World) (f : Nat) (listed : Array Bool) : Cont := fun σ w => ∃ X J, SA P n all N w0 f listed σ X J ∧ St w0 w (X ++ J)

theorem SN_AN (X' : List Atom) (hL : Imp w0 L (X' ++ J)) (h : SA P n all N w0 f listed σ X' J) : SN (AN P n all N w0 f listed J) w0 σ L := fun w s => ⟨X', h, hL w s⟩
theorem SN_AT (X' J' : List Atom) (hL : Imp w0 L (X' ++ J')) (h : SA P n all N w0 f listed σ X' J') : SN (AT P n all N w0 f listed) w0 σ L := fun w s => ⟨X', J', h, hL w s⟩

theorem wpOp_of_list {i : Nat} {o : Oper} {K : Cont} {w : World} (ho : all[i]? = some o) (h : Wl P n all [o] K σ w) : wpOp P all.toArray QF i (fun a' w' => ∃ σ', a' = mk n σ' ∧ K σ' w') (mk n σ) w := by
  have h1 := h [] (fun _ _ => False)
  have ho' : all.toArray[i]? = some o := by rw [List.getElem?_toArray]; exact ho
  unfold wpOp
  simp only [ho']
  unfold wpList at h1
  split
  · rename_i hw
    simp only [hw, if_true] at h1
    rcases h1 with h1 | ⟨_, _, _, hf⟩
    · left
      unfold Oper.wp at *
      generalize (execOp (mk n σ).eval o).run P w = r at *
      cases r with
      | ok nx w' =>
        cases nx <;> simp only [Oper.upon] at h1 ⊢
        case value u => exact h1
        case skip => exact h1
        case defer dd => exact h1
        case enter f args =>
          refine Calls.mono h1 fun e w'' he => ?_
          cases e with
          | returned u => exact he
          | panicked c => exact he
          | outgrown => obtain ⟨_, _, hf⟩ := he; exact hf.elim
        case row row args => exact Rows.mono h1 fun u w'' he => he
      | halt x w' =>
        cases x <;> simp only [Oper.upon] at h1 ⊢
        exact h1
    · exact hf.elim
  · rename_i hw
    simp only [hw] at h1
    exact h1

theorem SA_done (hr : Region.ready .any all.toArray listed = []) (h : SN N w0 σ (X ++ J)) : SA P n all N w0 f listed σ X J := by
  cases f with
  | zero => exact ⟨hr, σ, rfl, h⟩
  | succ f => exact .inl ⟨hr, σ, rfl, h⟩

theorem SA_step1 {i : Nat} {o : Oper} (ho : all[i]? = some o) (h : SX false P n all [o] (AN P n all N w0 f (listed.setIfInBounds i true) J) w0 σ (X ++ J)) :
    ∀ w, St w0 w (X ++ J) → wpOp P all.toArray QF i (fun a' w' => ∃ X', AC P all.toArray n N w0 f (listed.setIfInBounds i true) a' X' J ∧ St w0 w' (X' ++ J)) (mk n σ) w := by
  intro w s
  refine wpOp_mono ?_ (wpOp_of_list ho (h w s))
  rintro a' w' ⟨σ', rfl, X', h1, h2⟩
  exact ⟨X', h1, h2⟩

theorem SA_stepT {i : Nat} {o : Oper} (ho : all[i]? = some o) (h : SX false P n all [o] (AT P n all N w0 f (listed.setIfInBounds i true)) w0 σ (X ++ J)) :
    ∀ w, St w0 w (X ++ J) → wpOp P all.toArray QF i (fun a' w' => ∃ X' J', AC P all.toArray n N w0 f (listed.setIfInBounds i true) a' X' J' ∧ St w0 w' (X' ++ J')) (mk n σ) w := by
  intro w s
  refine wpOp_mono ?_ (wpOp_of_list ho (h w s))
  rintro a' w' ⟨σ', rfl, X', J', h1, h2⟩
  exact ⟨X', J', h1, h2⟩

/-- One operation alone may come up. -/
theorem SA_only (i : Nat) {o : Oper} (hr : Region.ready .any all.toArray listed = [i]) (ho : all[i]? = some o) (h : SX false P n all [o] (AN P n all N w0 f (listed.setIfInBounds i true) J) w0 σ (X ++ J)) : SA P n all N w0 (f + 1) listed σ X J := by
  refine .inr ⟨by rw [hr]; simp, fun j hj => ?_⟩
  rw [hr, List.mem_singleton] at hj
  subst hj
  exact .inl (SA_step1 ho h)

/-- One alone, and each that looks at the world is done. -/
theorem SA_tail (i : Nat) {o : Oper} (hr : Region.ready .any all.toArray listed = [i]) (ht : tailB all.toArray i = true) (ho : all[i]? = some o) (h : SX false P n all [o] (AT P n all N w0 f (listed.setIfInBounds i true)) w0 σ (X ++ J)) : SA P n all N w0 (f + 1) listed σ X J := by
  refine .inr ⟨by rw [hr]; simp, fun j hj => ?_⟩
  rw [hr, List.mem_singleton] at hj
  subst hj
  exact .inr ⟨ht, SA_stepT ho h⟩

/-- Either of two. -/
theorem SA_two (i j : Nat) {o o' : Oper} (hr : Region.ready .any all.toArray listed = [i, j]) (ho : all[i]? = some o) (ho' : all[j]? = some o')
    (h : SX false P n all [o] (AN P n all N w0 f (listed.setIfInBounds i true) J) w0 σ (X ++ J)) (h' : SX false P n all [o'] (AN P n all N w0 f (listed.setIfInBounds j true) J) w0 σ (X ++ J)) : SA P n all N w0 (f + 1) listed σ X J := by
  refine .inr ⟨by rw [hr]; simp, fun k hk => ?_⟩
  rw [hr] at hk
  simp only [List.mem_cons, List.not_mem_nil, or_false] at hk
  rcases hk with rfl | rfl
  · exact .inl (SA_step1 ho h)
  · exact .inl (SA_step1 ho' h')

/-- May operation i be taken now? -/
def firstB (all : List Oper) (listed : Array Bool) (i : Nat) : Bool := Region.noSelect all.toArray && ((Region.ready .any all.toArray listed).contains i && Region.free .any all.toArray listed i)

theorem SA_first (p : Bool) (i : Nat) {o : Oper} {v : Value} (hB : firstB all listed i = true) (ho : all[i]? = some o) (hask : p = false → isRead o = true) (hf : Firm P all.toArray w0 p J o v (mk n σ))
    (h : SA P n all N w0 f (listed.setIfInBounds i true) (upo σ o.dst v) X J) : SA P n all N w0 (f + 1) listed σ X J := by
  simp only [firstB, Bool.and_eq_true] at hB
  have ho' : all.toArray[i]? = some o := by rw [List.getElem?_toArray]; exact ho
  refine AC_first ho' (Region.noSelect_spec hB.1) f listed (mk n σ) X J (Region.free_spec ho' hB.2.2) hask (by simpa using hB.2.1) hf ?_
  rw [put_mk]
  exact h

/-- A reckoning. -/
theorem SA_pv (i : Nat) {d : Option Tmp} {op : Op} {ty : TypeId} {pos : String} {aft : Array Edge} {v : Value} (hB : firstB all listed i = true) (ho : all[i]? = some ⟨d, op, ty, pos, aft, none⟩) (hv : ∀ L, Val P n w0 σ L op v)
    (_ : asksWorld ⟨d, op, ty, pos, aft, none⟩ = false) (h : SA P n all N w0 f (listed.setIfInBounds i true) (upo σ d v) X J) : SA P n all N w0 (f + 1) listed σ X J := by
  refine SA_first true i hB ho (fun h => by cases h) (fun J' X' => .inl ⟨by simp [Region.wanted], fun w s => ?_⟩) h
  unfold Oper.quietAt
  rw [eval_mk, hv _ d ty pos aft w s]
  exact ⟨rfl, rfl⟩

/-- A reading of what stays. -/
theorem SA_ld (i : Nat) {d : Option Tmp} {op : Op} {ty : TypeId} {pos : String} {aft : Array Edge} {v : Value} (hB : firstB all listed i = true) (ho : all[i]? = some ⟨d, op, ty, pos, aft, none⟩) (hv : Val P n w0 σ J op v)
    (hp : isRead ⟨d, op, ty, pos, aft, none⟩ = true) (h : SA P n all N w0 f (listed.setIfInBounds i true) (upo σ d v) X J) : SA P n all N w0 (f + 1) listed σ X J := by
  refine SA_first false i hB ho (fun _ => hp) (fun X' => .inl ⟨by simp [Region.wanted], fun w s => ?_⟩) h
  unfold Oper.quietAt
  rw [eval_mk, hv d ty pos aft w (s.sub (List.sublist_append_right _ _))]
  exact ⟨rfl, rfl⟩
end
end Go.Proofs.Ytandadfmmohhhaa.E

namespace Go.Proofs.Ytandadfmmohhhaa.E
open Go Go.RowKit

section
variable {α : Type}
/-- The same slice with other elements. -/
def Sl.put (s : Sl α) (l : List α) (h : l.length = s.n) : Sl α := ⟨s.ao, s.n, s.cap, l, h⟩
theorem Sl.put_self (s : Sl α) : s.put s.l s.hn = s := rfl
theorem Sl.put_upd (s : Sl α) (l : List α) (h : l.length = s.n) (i : Nat) (x : α) : (s.put l h).upd i x = s.put (l.set i x) (by rw [List.length_set, h]) := rfl
theorem Sl.put_eq (s : Sl α) {l l' : List α} (h : l.length = s.n) (h' : l'.length = s.n) (e : l = l') : s.put l h = s.put l' h' := by subst e; rfl
theorem Sl.put_nth (s : Sl α) (l : List α) (h : l.length = s.n) (i : Nat) (hi : i < s.n) : (s.put l h).nth i hi = l[i]'(by omega) := rfl
end

/-- A function that turns what its caller owns. -/
theorem FM_of {P : Program} {f : FuncId} {fn : Func} {c : Code} {args : List Value} {w0 : World} {L : List Atom} {Φ : Value → List Atom → Prop}
    (hf : P.funcs[f]? = some fn) (hb : fn.body = some c) (hle : Nat.ble args.length fn.ntmps = true)
    (h : SW P fn.ntmps c (Ret P fn w0 Φ) [] (Ret P fn w0 Φ) w0 (fr0 0 args) L) (w : World) (hs : St w0 w L) : C P f args.toArray w fun v w' => ∃ M, Φ v M ∧ St w0 w' M := by
  have e : fr0 0 args = fun i => args.getD i undef := by
    funext i
    have := fr0_get args 0 i
    simpa using this
  have h' := h w hs
  rw [e] at h'
  exact C_of_W hf hb (Nat.le_of_ble_eq_true hle) h'
theorem yielded_undef (all : List Oper) (n : Nat) (σ : Fr) (j : Nat) (h : yv all n σ j = some undef) : yielded all.toArray (mk n σ).tmps j = none := by
  unfold yv at h
  unfold yielded
  rw [List.getElem?_toArray]
  cases ho : all[j]? with
  | none => rfl
  | some o =>
    simp only [ho] at h
    cases hd : o.dst with
    | none => simp [hd]
    | some d =>
      simp only [hd] at h
      simp only [Option.bind_some, hd]
      have h' := Option.some.inj h
      simp only [ev] at h'
      by_cases hdn : d < n
      · have e : Nat.blt d n = true := by simpa using hdn
        rw [e, cond_true] at h'
        simp [mk, hdn, h', undef]
      · simp [mk, hdn]
section
variable {P : Program} {n : Nat} {N : Cont} {w0 : World} {σ : Fr} {L : List Atom} {q : Bool}
  {all rest : List Oper} {d : Option Tmp} {op : Op} {ty : TypeId} {pos : String} {aft : Array Edge}
/-- A guard on an operation that was itself left out. -/
theorem SX_guardU {j : Nat} {b : Bool} (hy : yv all n σ j = some undef) (h : SX q P n all rest N w0 (upo σ d undef) L) :
    SX q P n all (⟨d, op, ty, pos, aft, some (j, b)⟩ :: rest) N w0 σ L := by
  have e1 : Region.wanted (⟨d, op, ty, pos, aft, some (j, b)⟩ : Oper) (yielded all.toArray (mk n σ).tmps) = false := by
    simp only [Region.wanted, yielded_undef all n σ j hy]
    cases b <;> rfl
  cases q with
  | false =>
    intro w x B R
    refine wpList_skip e1 ?_
    rw [put_mk]
    exact h w x B R
  | true =>
    show SQl P n all _ N w0 σ L
    unfold SQl
    refine wpQuiet_step fun K hK => ?_
    rw [e1, if_neg (by simp), put_mk]
    exact hK _ h
end
end Go.Proofs.Ytandadfmmohhhaa.E

namespace Go.Proofs.Ytandadfmmohhhaa.E
open Go Go.RowKit
section
variable {P : Program} {n : Nat} {w0 : World} {σ : Fr} {L : List Atom}
theorem Val_pv {op : Op} {v : Value} (h : pv n σ op = some v) : Val P n w0 σ L op v := fun _ _ _ _ _ _ => pv_run h
end
section
variable {P : Program} {n : Nat} {w0 : World} {σ : Fr} {L : List Atom}
/-- A struct out of its fields; the cells are given and looked at by the kernel. -/
theorem Val_build {T : TypeId} {parts : List (Nat × Operand)} {ps : List (Nat × Value)} (hp : parts.map (fun p => (p.1, ev n σ p.2)) = ps) (cs : List Value) (hb : P.built T ps = some cs.toArray) :
    Val P n w0 σ L (.build T ⟨parts⟩) (.agg cs.toArray) := fun _ _ _ _ w _ => by
  have := run_build (P := P) w T ps.toArray cs.toArray (by simpa using hb)
  subst hp
  simp [execOp, this]
end
/-- A value, its head brought out. -/
def nv : Value → Value
  | .int k a => .int k a
  | .bool b => .bool b
  | .slice a l c => .slice a l c
  | .pointer p => .pointer p
  | .agg cs => .agg cs
  | v => v
theorem nv_eq (v : Value) : nv v = v := by cases v <;> rfl
section
variable {P : Program} {n : Nat} {N : Cont} {w0 : World} {σ : Fr} {L : List Atom}
  {all rest : List Oper} {d : Option Tmp} {ty : TypeId} {pos : String} {aft : Array Edge}
theorem SWl_stBn {T : TypeId} [hT : Sc P T] (k : Nat) {b : Nat} {cs : List Value} {T' : TypeId} (hk : L[k]? = some (Blk b cs T')) {x y : Operand} {o : Nat} (hx : ev n σ x = .pointer (some ⟨b, o, none⟩)) {v u : Value} (hy : nv (ev n σ y) = v) (h1 : v.cells = #[v]) (h2 : v.oneCell' = true)
    (hv : cs[o]? = some u) (h : SWl P n all rest N w0 (upo σ d undef) (L.set k (Blk b (cs.set o v) T'))) : SWl P n all (⟨d, .store T x y, ty, pos, aft, none⟩ :: rest) N w0 σ L :=
  SWl_stB k hk hx ((nv_eq _).symm.trans hy) h1 h2 hv h
end
end Go.Proofs.Ytandadfmmohhhaa.E

namespace Go.Proofs.Ytandadfmmohhhaa.E
open Go Go.RowKit
section
variable {α : Type} [Lod α] {w0 : World} {L : List Atom}
/-- What a slice holds of its own: the cells, without what its elements lead to. -/
def Row (s : Sl α) : Atom where
  fp := s.ao.toList.map (·.block)
  holds := fun w => s.n ≤ lim ∧ ((s.cap = 0 ∧ s.n = 0) ∨ ∃ g o cur, s.row w g o cur)
  frame := by
    rintro w w' ⟨h1, h3⟩ hf
    refine ⟨h1, ?_⟩
    rcases h3 with h3 | ⟨g, o, cur, r1, r2, r⟩
    · exact .inl h3
    · refine .inr ⟨g, o, cur, r1, ?_, r⟩
      rw [hf g (by simp [r1]), r2]

theorem swap2 {M N : List Atom} (hp : (fps N).Perm (fps M)) (hh : ∀ w, (∀ A ∈ M, A.holds w) → ∀ A ∈ N, A.holds w) : Imp w0 (M ++ L) (N ++ L) := by
  intro w st
  have e : (fps (N ++ L)).Perm (fps (M ++ L)) := by
    simp only [fps, List.flatMap_append] at hp ⊢
    exact List.Perm.append_right _ hp
  refine ⟨st.below, e.nodup_iff.2 st.nodup, fun b hb => st.range b (e.mem_iff.1 hb), fun A hA => ?_⟩
  rcases List.mem_append.1 hA with hA | hA
  · exact hh w (fun B hB => st.holds B (List.mem_append_left _ hB)) A hA
  · exact st.holds A (List.mem_append_right _ hA)

omit [Lod α] in
theorem split_at (l : List α) (i : Nat) (hi : i < l.length) : l = l.take i ++ l[i] :: l.drop (i + 1) := by
  conv => lhs; rw [← List.take_append_drop i l, List.drop_eq_getElem_cons hi]

theorem Imp.focus (s : Sl α) (i : Nat) (hi : i < s.n) : Imp w0 (Own s :: L) (Own (s.nth i hi) :: Row s :: OwnL (s.l.take i) :: OwnL (s.l.drop (i + 1)) :: L) := by
  have hi' : i < s.l.length := by rw [s.hn]; exact hi
  refine swap2 (M := [Own s]) (N := [Own (s.nth i hi), Row s, OwnL (s.l.take i), OwnL (s.l.drop (i + 1))]) ?_ ?_
  · have e : s.l.flatMap Lod.fp = (s.l.take i).flatMap Lod.fp ++ (Lod.fp (s.nth i hi) ++ (s.l.drop (i + 1)).flatMap Lod.fp) := by
      conv => lhs; rw [split_at s.l i hi', List.flatMap_append, List.flatMap_cons]
      rfl
    simp only [fps, List.flatMap_cons, List.flatMap_nil, List.append_nil, Own, Row, OwnL, Lod.fp, Sl.fp]
    rw [e]
    have p1 : ∀ (a b c d : List Nat), (a ++ (b ++ (c ++ d))).Perm (b ++ (c ++ (a ++ d))) := fun a b c d => by
      refine (List.perm_append_comm_assoc a b _).trans (List.Perm.append_left _ (List.perm_append_comm_assoc a c d))
    exact p1 _ _ _ _
  · intro w h A hA
    obtain ⟨h1, h2, h3⟩ : s.own w := h (Own s) (by simp)
    simp only [List.mem_cons, List.not_mem_nil, or_false] at hA
    rcases hA with rfl | rfl | rfl | rfl
    · exact h2 _ (List.getElem_mem hi')
    · exact ⟨h1, h3⟩
    · exact fun y hy => h2 y (List.mem_of_mem_take hy)
    · exact fun y hy => h2 y (List.mem_of_mem_drop hy)

theorem flatMap_set_same (l : List α) (i : Nat) (hi : i < l.length) (y : α) (hc : Lod.cells y = Lod.cells l[i]) : (l.set i y).flatMap Lod.cells = l.flatMap (Lod.cells (α := α)) := by
  conv => rhs; rw [split_at l i hi]
  rw [List.set_eq_take_append_cons_drop, if_pos hi]
  simp only [List.flatMap_append, List.flatMap_cons, hc]

theorem Imp.unfocus (s : Sl α) (i : Nat) (hi : i < s.n) (y : α) (hc : Lod.cells y = Lod.cells (s.nth i hi)) : Imp w0 (Own y :: Row s :: OwnL (s.l.take i) :: OwnL (s.l.drop (i + 1)) :: L) (Own (s.upd i y) :: L) := by
  have hi' : i < s.l.length := by rw [s.hn]; exact hi
  have es : (s.upd i y).l = s.l.take i ++ y :: s.l.drop (i + 1) := by
    show s.l.set i y = _
    rw [List.set_eq_take_append_cons_drop, if_pos hi']
  refine swap2 (N := [Own (s.upd i y)]) (M := [Own y, Row s, OwnL (s.l.take i), OwnL (s.l.drop (i + 1))]) ?_ ?_
  · have e : (s.upd i y).l.flatMap Lod.fp = (s.l.take i).flatMap Lod.fp ++ (Lod.fp y ++ (s.l.drop (i + 1)).flatMap Lod.fp) := by
      rw [es, List.flatMap_append, List.flatMap_cons]
    have e2 : (s.upd i y).ao = s.ao := rfl
    simp only [fps, List.flatMap_cons, List.flatMap_nil, List.append_nil, Own, Row, OwnL, Lod.fp, Sl.fp]
    rw [e, e2]
    have p1 : ∀ (a b c d : List Nat), (b ++ (c ++ (a ++ d))).Perm (a ++ (b ++ (c ++ d))) := fun a b c d => by
      refine List.Perm.symm ((List.perm_append_comm_assoc a b _).trans (List.Perm.append_left _ (List.perm_append_comm_assoc a c d)))
    exact p1 _ _ _ _
  · intro w h A hA
    rw [List.mem_singleton] at hA
    subst hA
    have hy : Lod.own w y := h (Own y) (by simp)
    obtain ⟨h1, h3⟩ : (Row s).holds w := h (Row s) (by simp)
    have ht : ∀ z ∈ s.l.take i, Lod.own w z := h (OwnL (s.l.take i)) (by simp)
    have hd : ∀ z ∈ s.l.drop (i + 1), Lod.own w z := h (OwnL (s.l.drop (i + 1))) (by simp)
    refine ⟨h1, fun z hz => ?_, ?_⟩
    · rw [es] at hz
      rcases List.mem_append.1 hz with hz | hz
      · exact ht z hz
      · rcases List.mem_cons.1 hz with rfl | hz
        · exact hy
        · exact hd z hz
    · rcases h3 with h3 | ⟨g, o, cur, r1, r2, r3, r4, r5, r6⟩
      · exact .inl h3
      · refine .inr ⟨g, o, cur, r1, r2, r3, r4, r5, ?_⟩
        show (cur.toList.drop o).take (s.n * Lod.sz α) = (s.l.set i y).flatMap Lod.cells
        rw [r6, flatMap_set_same s.l i hi' y hc]
end
end Go.Proofs.Ytandadfmmohhhaa.E

namespace Go.Proofs.Ytandadfmmohhhaa.E
open Go Go.RowKit
section
variable {α : Type}
theorem Sl.upd_nth (s : Sl α) (i : Nat) (x : α) (h : i < (s.upd i x).n) : (s.upd i x).nth i h = x := List.getElem_set_self _
theorem Sl.upd_upd (s : Sl α) (i : Nat) (x y : α) : (s.upd i x).upd i y = s.upd i y := by
  unfold Sl.upd
  simp only [List.set_set]
theorem Sl.upd_self (s : Sl α) (i : Nat) (h : i < s.n) : s.upd i (s.nth i h) = s := by
  obtain ⟨a, n, c, l, hn⟩ := s
  unfold Sl.upd Sl.nth
  simp only [List.set_getElem_self]
theorem Sl.eqPut {s s' : Sl α} {l : List α} (hl : l.length = s.n) (hv : s'.val = s.val) (h : s'.l = l) : s' = s.put l hl := by
  obtain ⟨a, n, c, l', hn⟩ := s
  obtain ⟨a', n', c', l'', hn'⟩ := s'
  simp only [Sl.val, Value.slice.injEq] at hv
  obtain ⟨rfl, rfl, rfl⟩ := hv
  simp only at h
  subst h
  rfl
variable [Lod α] {w0 : World} {L : List Atom}
theorem Imp.updSelf {s : Sl α} (i : Nat) (h : i < s.n) : Imp w0 (Own s :: L) (Own (s.upd i (s.nth i h)) :: L) := by rw [Sl.upd_self]; exact Imp.refl

/-- A field set. -/
class SetF (α : Type) where
  setf : α → Nat → Value → α

variable {P : Program} {n : Nat} {N : Cont} {σ : Fr} {all rest : List Oper} {d : Option Tmp} {ty : TypeId} {pos : String} {aft : Array Edge}
/-- A field put into the element in hand. -/
theorem SWl_stU [SetF α] {T : TypeId} [hT : Sc P T] (k : Nat) {s : Sl α} {i : Nat} {x : α} (hi : i < s.n) (hk : L[k]? = some (Own (s.upd i x))) {p y : Operand} {j sz : Nat} (hp : ev n σ p = .pointer (some ⟨s.blk, s.off + i * sz + j, none⟩)) (hsz : Lod.sz α = sz) (hj : Nat.blt j sz = true)
    {v : Value} (hy : ev n σ y = v) (h1 : v.cells = #[v]) (h2 : v.oneCell' = true) (hc : Lod.cells (SetF.setf x j v) = (Lod.cells x).set j v) (hfp : Lod.fp (SetF.setf x j v) = Lod.fp x) (how : ∀ w, Lod.own w x → Lod.own w (SetF.setf x j v))
    (h : SWl P n all rest N w0 (upo σ d undef) (L.set k (Own (s.upd i (SetF.setf x j v))))) : SWl P n all (⟨d, .store T p y, ty, pos, aft, none⟩ :: rest) N w0 σ L := by
  have hi' : i < (s.upd i x).n := hi
  refine SWl_stS k (s := s.upd i x) hk (i := i) (j := j) hp hsz hj hi' hy h1 h2 (SetF.setf x j v) ?_ ?_ ?_ ?_
  · rw [Sl.upd_nth]; exact hc
  · rw [Sl.upd_nth]; exact hfp
  · rw [Sl.upd_nth]; exact how
  · rw [Sl.upd_upd]; exact h
/-- The same, of the first atom. -/
theorem SWl_stV [SetF α] {T : TypeId} [hT : Sc P T] {s : Sl α} {i : Nat} {x : α} {R : List Atom} (hi : i < s.n) (hk : L = Own (s.upd i x) :: R) {p y : Operand} {j sz : Nat} (hp : ev n σ p = .pointer (some ⟨s.blk, s.off + i * sz + j, none⟩)) (hsz : Lod.sz α = sz) (hj : Nat.blt j sz = true)
    {v : Value} (hy : ev n σ y = v) (h1 : v.cells = #[v]) (h2 : v.oneCell' = true) (hc : Lod.cells (SetF.setf x j v) = (Lod.cells x).set j v) (hfp : Lod.fp (SetF.setf x j v) = Lod.fp x) (how : ∀ w, Lod.own w x → Lod.own w (SetF.setf x j v))
    (h : SWl P n all rest N w0 (upo σ d undef) (Own (s.upd i (SetF.setf x j v)) :: R)) : SWl P n all (⟨d, .store T p y, ty, pos, aft, none⟩ :: rest) N w0 σ L := by
  subst hk
  exact SWl_stU 0 hi rfl hp hsz hj hy h1 h2 hc hfp how h
end

theorem SX_imp {P : Program} {n : Nat} {N : Cont} {w0 : World} {σ : Fr} {L L' : List Atom} {all l : List Oper} (hL : Imp w0 L L') (h : SX false P n all l N w0 σ L') : SX false P n all l N w0 σ L := SWl_imp hL h
theorem C_imp {P : Program} {f : FuncId} {args : Array Value} {w0 w : World} {Φ Ψ : Value → List Atom → Prop} (h : C P f args w fun v w' => ∃ M, Φ v M ∧ St w0 w' M) (hi : ∀ v M, Φ v M → ∃ N, Imp w0 M N ∧ Ψ v N) :
    C P f args w fun v w' => ∃ M, Ψ v M ∧ St w0 w' M := by
  refine C.mono h ?_
  rintro v w' ⟨M, hΦ, hs⟩
  obtain ⟨N, hI, hΨ⟩ := hi v M hΦ
  exact ⟨N, hΨ, hI w' hs⟩

/-! marks: numbers from k on, put into each field -/
class Mkd (α : Type) where
  cnt : α → Nat
  put : Nat → α → α
section
variable {α : Type} [Mkd α]
def cntL (l : List α) : Nat := (l.map Mkd.cnt).sum
def markL : Nat → List α → List α
  | _, [] => []
  | k, x :: l => Mkd.put k x :: markL (k + Mkd.cnt x) l
theorem markL_len (k : Nat) (l : List α) : (markL k l).length = l.length := by
  induction l generalizing k with
  | nil => rfl
  | cons x l ih => simp [markL, ih]
theorem cntL_append (a b : List α) : cntL (a ++ b) = cntL a + cntL b := by simp [cntL]
theorem markL_append (k : Nat) (a b : List α) : markL k (a ++ b) = markL k a ++ markL (k + cntL a) b := by
  induction a generalizing k with
  | nil => simp [markL, cntL]
  | cons x a ih =>
    simp only [List.cons_append, markL, ih, cntL, List.map_cons, List.sum_cons, List.cons.injEq, true_and]
    rw [Nat.add_assoc]
theorem cntL_succ {s : Sl α} {i : Nat} (hi : i < s.n) : cntL (s.l.take (i + 1)) = cntL (s.l.take i) + Mkd.cnt (s.nth i hi) := by
  rw [List.take_succ_eq_append_getElem (by rw [s.hn]; exact hi), cntL_append]
  simp [cntL, Sl.nth]
theorem cntL_le (s : Sl α) (i : Nat) : cntL (s.l.take i) ≤ cntL s.l := by
  conv => rhs; rw [← List.take_append_drop i s.l, cntL_append]
  exact Nat.le_add_right _ _
theorem markL_get (k : Nat) (l : List α) (i : Nat) (h : i < l.length) : (markL k l)[i]'(by rw [markL_len]; exact h) = Mkd.put (k + cntL (l.take i)) l[i] := by
  have e := split_at l i h
  have : markL k l = markL k (l.take i) ++ Mkd.put (k + cntL (l.take i)) l[i] :: markL (k + cntL (l.take i) + Mkd.cnt l[i]) (l.drop (i + 1)) := by
    conv => lhs; rw [e, markL_append]
    rfl
  have hl : (markL k (l.take i)).length = i := by rw [markL_len, List.length_take]; omega
  have h1 : (markL k l)[i]? = some (Mkd.put (k + cntL (l.take i)) l[i]) := by
    rw [this, List.getElem?_append_right (by omega), hl, Nat.sub_self]; rfl
  rw [List.getElem?_eq_getElem (by rw [markL_len]; exact h)] at h1
  exact Option.some.inj h1
instance : Mkd (Sl α) := ⟨fun s => cntL s.l, fun k s => s.put (markL k s.l) ((markL_len _ _).trans s.hn)⟩
theorem mkS_nth (s : Sl α) (k i : Nat) (hi : i < s.n) : (Mkd.put k s).nth i hi = Mkd.put (k + cntL (s.l.take i)) (s.nth i hi) := markL_get k s.l i (by rw [s.hn]; exact hi)
theorem markL_nth {s s' : Sl α} {k i : Nat} (h : s'.l = markL k (s.l.take i) ++ s.l.drop i) (h1 : i < s'.n) (h2 : i < s.n) : s'.nth i h1 = s.nth i h2 := by
  have hl : (markL k (s.l.take i)).length = i := by rw [markL_len, List.length_take, s.hn]; omega
  have : s'.l[i]? = s.l[i]? := by rw [h, List.getElem?_append_right (by omega), hl, Nat.sub_self, List.getElem?_drop, Nat.add_zero]
  rw [List.getElem?_eq_getElem (by rw [s'.hn]; exact h1), List.getElem?_eq_getElem (by rw [s.hn]; exact h2)] at this
  exact Option.some.inj this
theorem markL_step {s s' : Sl α} {k i : Nat} (h : s'.l = markL k (s.l.take i) ++ s.l.drop i) (hi : i < s.n) {x : α} (hx : x = Mkd.put (k + cntL (s.l.take i)) (s.nth i hi)) : (s'.upd i x).l = markL k (s.l.take (i + 1)) ++ s.l.drop (i + 1) := by
  show s'.l.set i x = _
  have hl : (markL k (s.l.take i)).length = i := by rw [markL_len, List.length_take, s.hn]; omega
  rw [h, List.set_append_right _ _ (by omega), hl, Nat.sub_self, List.drop_eq_getElem_cons (by rw [s.hn]; exact hi), List.set_cons_zero,
    List.take_succ_eq_append_getElem (by rw [s.hn]; exact hi), markL_append, List.append_assoc, hx]
  rfl
theorem markL_end {s s' : Sl α} {k : Nat} (hv : s'.val = s.val) (h : s'.l = markL k (s.l.take s.n) ++ s.l.drop s.n) : s' = Mkd.put k s := by
  refine Sl.eqPut _ hv ?_
  rw [h, List.take_of_length_le (by rw [s.hn]; exact Nat.le_refl _), List.drop_of_length_le (by rw [s.hn]; exact Nat.le_refl _), List.append_nil]
theorem cntL_all (s : Sl α) : cntL (s.l.take s.n) = cntL s.l := by rw [List.take_of_length_le (by rw [s.hn]; exact Nat.le_refl _)]
theorem cntL_const {c : Nat} (h : ∀ x : α, Mkd.cnt x = c) (l : List α) : cntL l = c * l.length := by
  induction l with
  | nil => rfl
  | cons x l ih => simp only [cntL, List.map_cons, List.sum_cons, List.length_cons, h] at ih ⊢; rw [ih, Nat.mul_succ, Nat.add_comm]

variable [Lod α]
/-- What a function that marks must do. -/
def MarkF (P : Program) (f : FuncId) (val : α → Value) : Prop := ∀ (x : α) (k : Nat) (R : List Atom) (w0 : World), k + Mkd.cnt x ≤ lim → ∀ w, St w0 w (Own x :: R) →
  C P f #[val x, .int .i64 k] w fun v w' => ∃ M, (v = .int .i64 ((k + Mkd.cnt x : Nat) : Int) ∧ M = Own (Mkd.put k x) :: R) ∧ St w0 w' M
/-- What a function that looks for marks must do. -/
def HeldF (P : Program) (f : FuncId) (val : α → Value) : Prop := ∀ (m : Nat) (x : α) (k : Nat) (w : World), Lod.rd m w (Mkd.put k x) → k + Mkd.cnt x ≤ lim → F P f [val x, .int .i64 k] w (rA (.int .i64 ((k + Mkd.cnt x : Nat) : Int)))
end
end Go.Proofs.Ytandadfmmohhhaa.E

namespace Go.Proofs.Ytandadfmmohhhaa.E
open Go Go.RowKit
/-! '==' of structs -/
section
variable {P : Program}
def eqF (d : Nat) (xs ys : Array Value) : List (Bool × TypeId × Nat) → Sem Bool
  | [] => pure true
  | (u, t, o) :: l =>
    if u = true then eqF d xs ys l else do
      let a ← part t xs o
      let b ← part t ys o
      let r ← Op.equalIn d t a b
      if (!r) = true then pure false else eqF d xs ys l
theorem eqF_of (d : Nat) (xs ys : Array Value) (fs : List Field) : Op.eqFields d xs ys fs = eqF d xs ys (fs.map fun f => (f.name == "_", f.type, f.offset)) := by
  induction fs with
  | nil => rfl
  | cons f fs ih =>
    unfold Op.eqFields
    simp only [List.map_cons, eqF, ih]
    by_cases h : f.name = "_"
    · simp [h]
    · simp [h]
theorem run_part_sc {T : TypeId} [hT : Sc P T] {xs : Array Value} {o : Nat} {v : Value} (w : World) (hx : xs[o]? = some v) : (part T xs o).run P w = .ok v w := by
  simp [part, hT.isAgg, hx]
theorem run_part_ag {T : TypeId} {sz : Nat} [hT : Ag P T sz] {xs : Array Value} {o : Nat} (w : World) : (part T xs o).run P w = .ok (.agg (xs.extract o (o + sz))) w := by
  have h2 := size_run (P := P) (T := T) (s := sz) (w := w) hT.size
  simp [part, hT.isAgg, h2]
/-- A type whose values are compared field by field. -/
class EqV (P : Program) (T : TypeId) (α : Type) [Lod α] [DecidableEq α] : Prop where
  eq : ∀ (d : Nat) (w : World) (x y : α), (Op.equalIn (d + 4) T (.agg (Lod.cells x).toArray) (.agg (Lod.cells y).toArray)).run P w = .ok (decide (x = y)) w
  guard : P.eqGuardType P.depth T = false
theorem eqF_int (d : Nat) (w : World) {ti : TypeId} [Sc P ti] {k' : IntKind} (hi : P.underlying ti = some (.int k')) {xs ys : Array Value} {o : Nat} {a b : Int} (ha : xs[o]? = some (.int .i64 a)) (hb : ys[o]? = some (.int .i64 b)) {l : List (Bool × TypeId × Nat)} {r : Bool}
    (h : (eqF (d + 1) xs ys l).run P w = .ok r w) : (eqF (d + 1) xs ys ((false, ti, o) :: l)).run P w = .ok (decide (a = b) && r) w := by
  have e := run_equalIn_int (P := P) w d ti .i64 k' a b hi
  simp only [eqF, Bool.false_eq_true, if_false, Sem.run_bind, run_part_sc w ha, run_part_sc w hb, Result.andThen_ok, e, Sem.run_ite]
  by_cases hab : a = b
  · simp [hab, h]
  · simp [hab]
theorem eqF_bool (d : Nat) (w : World) {ti : TypeId} [Sc P ti] (hi : P.underlying ti = some .bool) {xs ys : Array Value} {o : Nat} {a b : Bool} (ha : xs[o]? = some (.bool a)) (hb : ys[o]? = some (.bool b)) {l : List (Bool × TypeId × Nat)} {r : Bool}
    (h : (eqF (d + 1) xs ys l).run P w = .ok r w) : (eqF (d + 1) xs ys ((false, ti, o) :: l)).run P w = .ok (decide (a = b) && r) w := by
  have e := run_equalIn_bool' (P := P) w d ti a b hi
  simp only [eqF, Bool.false_eq_true, if_false, Sem.run_bind, run_part_sc w ha, run_part_sc w hb, Result.andThen_ok, e, Sem.run_ite]
  by_cases hab : a = b
  · simp [hab, h]
  · simp [hab]
theorem eqF_str {α : Type} [Lod α] [DecidableEq α] {d : Nat} {w : World} {T : TypeId} {sz : Nat} [hT : Ag P T sz] {xs ys : Array Value} {o : Nat} {a b : α} (e : (Op.equalIn d T (.agg (Lod.cells a).toArray) (.agg (Lod.cells b).toArray)).run P w = .ok (decide (a = b)) w)
    (ha : xs.extract o (o + sz) = (Lod.cells a).toArray) (hb : ys.extract o (o + sz) = (Lod.cells b).toArray) {l : List (Bool × TypeId × Nat)} {r : Bool}
    (h : (eqF d xs ys l).run P w = .ok r w) : (eqF d xs ys ((false, T, o) :: l)).run P w = .ok (decide (a = b) && r) w := by
  simp only [eqF, Bool.false_eq_true, if_false, Sem.run_bind, run_part_ag w, Result.andThen_ok, ha, hb, e, Sem.run_ite]
  by_cases hab : a = b
  · simp [hab, h]
  · simp [hab]
theorem eqV_mk {T : TypeId} {fs : Array Field} (ht : P.underlying T = some (.struct fs)) (hp : P.stoodInHeld T = false) {l : List (Bool × TypeId × Nat)} (hl : fs.toList.map (fun f => (f.name == "_", f.type, f.offset)) = l) {xs ys : Array Value} {d : Nat} {w : World} {r : Bool}
    (h : (eqF d xs ys l).run P w = .ok r w) : (Op.equalIn (d + 1) T (.agg xs) (.agg ys)).run P w = .ok r w := by
  have e : P.fieldsOf T = fs := by unfold Program.fieldsOf; rw [ht]
  rw [run_equalIn_agg w d T xs ys (by rw [e]; exact ht) hp, eqF_of, e, hl, h]
section
variable {n : Nat} {w0 : World} {σ : Fr} {L : List Atom} {α : Type} [Lod α] [DecidableEq α]
theorem Val_seq {T : TypeId} [he : EqV P T α] {x y : Operand} {yt : TypeId} {a b : α} (hx : ev n σ x = .agg (Lod.cells a).toArray) (hy : ev n σ y = .agg (Lod.cells b).toArray) : Val P n w0 σ L (.binOp .eql T x y yt) (.bool (decide (a = b))) := fun _ _ _ _ w _ => by
  have e := he.eq 9996 w a b
  have g := run_eqGuard_agg (P := P) w .eql T x y (Lod.cells a).toArray (Lod.cells b).toArray he.guard
  have q := run_eql_struct (P := P) w T (Lod.cells a).toArray (Lod.cells b).toArray
  rw [e] at q
  simp only [execOp, hx, hy, Sem.run_bind, g, Result.andThen_ok, q]
  rfl
theorem Val_sne {T : TypeId} [he : EqV P T α] {x y : Operand} {yt : TypeId} {a b : α} (hx : ev n σ x = .agg (Lod.cells a).toArray) (hy : ev n σ y = .agg (Lod.cells b).toArray) : Val P n w0 σ L (.binOp .neq T x y yt) (.bool (!decide (a = b))) := fun _ _ _ _ w _ => by
  have e := he.eq 9996 w a b
  have g := run_eqGuard_agg (P := P) w .neq T x y (Lod.cells a).toArray (Lod.cells b).toArray he.guard
  have q := run_neq_struct (P := P) w T (Lod.cells a).toArray (Lod.cells b).toArray
  rw [e] at q
  simp only [execOp, hx, hy, Sem.run_bind, g, Result.andThen_ok, q]
  rfl
end
end
end Go.Proofs.Ytandadfmmohhhaa.E

namespace Go.Proofs.Ytandadfmmohhhaa.E
open Go Go.RowKit
/-! 'x[k:]' -/
section
variable {α : Type} [Lod α] {w0 : World} {L : List Atom} {m : Nat}
def Sl.dropS (s : Sl α) (k : Nat) : Sl α := ⟨if s.cap = k then s.ao else s.ao.map (·.add (k * Lod.sz α)), s.n - k, s.cap - k, s.l.drop k, by rw [List.length_drop, s.hn]⟩
theorem Imp.dropS {s : Sl α} (k : Nat) (hk : k ≤ s.n) : Imp w0 (Own s :: L) (Own (s.dropS k) :: L) := by
  intro w st
  have hblk : (s.dropS k).ao.toList.map (·.block) = s.ao.toList.map (·.block) := by
    show (if s.cap = k then s.ao else s.ao.map (·.add (k * Lod.sz α))).toList.map (·.block) = _
    split
    · rfl
    · cases s.ao with
      | none => rfl
      | some a => obtain ⟨b, o, sp⟩ := a; cases sp <;> simp [Addr.add] <;> split <;> rfl
  have hsub : (s.dropS k).fp.Sublist s.fp := by
    unfold Sl.fp
    rw [hblk]
    refine List.Sublist.append (List.Sublist.refl _) ?_
    show ((s.l.drop k).flatMap Lod.fp).Sublist (s.l.flatMap Lod.fp)
    conv => rhs; rw [← List.take_append_drop k s.l, List.flatMap_append]
    exact List.sublist_append_right _ _
  have hown : s.own w := st.holds (Own s) List.mem_cons_self
  refine St.redo (M := [Own s]) (M' := [Own (s.dropS k)]) (R := L) st rfl rfl rfl (Nat.le_refl _) (fun _ _ _ => rfl) ?_ ?_ ?_
  · intro b hb
    exact .inl (by simpa [fps, Own, Lod.fp] using hsub.subset (by simpa [fps, Own, Lod.fp] using hb))
  · have := st.nodup
    simp only [fps, List.flatMap_cons] at this
    have h1 := (List.nodup_append.1 this).1
    simpa [fps, Own, Lod.fp] using List.Nodup.sublist hsub h1
  · intro A hA
    simp only [List.mem_singleton] at hA
    subst hA
    obtain ⟨h1, h2, h3⟩ := hown
    refine ⟨Nat.le_trans (Nat.sub_le _ _) h1, fun y hy => h2 y (List.mem_of_mem_drop hy), ?_⟩
    rcases h3 with ⟨e2, e3⟩ | ⟨g, o, cur, r1, r2, r3, r4, r5, r6⟩
    · exact .inl ⟨by show s.cap - k = 0; omega, by show s.n - k = 0; omega⟩
    · by_cases hck : s.cap = k
      · exact .inl ⟨by show s.cap - k = 0; omega, by show s.n - k = 0; omega⟩
      · refine .inr ⟨g, o + k * Lod.sz α, cur, ?_, r2, Nat.sub_le_sub_right r3 k, Nat.le_trans (Nat.sub_le _ _) r4, ?_, ?_⟩
        · show (if s.cap = k then s.ao else s.ao.map (·.add (k * Lod.sz α))) = _
          rw [if_neg hck, r1]
          simp [Addr.add_eq]
        · show cur.size = o + k * Lod.sz α + (s.cap - k) * Lod.sz α
          rw [r5, Nat.add_assoc, ← Nat.add_mul]
          congr 2
          omega
        · show (cur.toList.drop (o + k * Lod.sz α)).take ((s.n - k) * Lod.sz α) = (s.l.drop k).flatMap Lod.cells
          have e : (s.l.drop k).flatMap (Lod.cells (α := α)) = (s.l.flatMap Lod.cells).drop (k * Lod.sz α) := by
            conv => rhs; rw [← List.take_append_drop k s.l, List.flatMap_append]
            rw [List.drop_left' (by rw [flatMap_len, List.length_take, s.hn]; congr 1; omega)]
          rw [e, ← r6, ← List.drop_drop, List.drop_take, Nat.sub_mul]
variable {P : Program} {n : Nat} {σ : Fr}
theorem Val_slL {T e : TypeId} {sz by_ : Nat} [hT : SlT P T e sz by_] {s : Sl α} {x y : Operand} (hx : ev n σ x = s.val) {c : Int} (hy : ev n σ y = .int .i64 c) (k : Nat) (hc : c = (k : Int)) (hk : k ≤ s.n) (hsz : Lod.sz α = sz) (hcap : Src m w0 L s) :
    Val P n w0 σ L (.slice T x (some y) none none) (s.dropS k).val := fun _ _ _ _ w st => by
  obtain ⟨inf, hinf, hisz, _⟩ := hT.info
  obtain ⟨h1, h2, _⟩ := hcap w st
  subst hc
  subst hsz
  have hsz := size_run (P := P) (T := e) (s := Lod.sz α) (w := w) (by simp [hinf, hisz])
  have hle : (0 : Int) ≤ (k : Int) ∧ (k : Int) ≤ (s.n : Int) := by omega
  have hb : (Instr.sliceBound (.int .i64 (k : Int)) s.n .sliceB).run P w = .ok k w := by
    simp [Instr.sliceBound, asIntOf, hle]
  cases hao : s.ao with
  | none =>
    simp [execOp, hx, hy, Sl.val, Sl.dropS, hao, Instr.sliceAt, run_underlying hT.und, Instr.slice, Instr.sliceBounds, hb, hsz]
  | some a =>
    simp [execOp, hx, hy, Sl.val, Sl.dropS, hao, Instr.sliceAt, run_underlying hT.und, Instr.slice, Instr.sliceBounds, hb, hsz]
end
end Go.Proofs.Ytandadfmmohhhaa.E

namespace Go.Proofs.Ytandadfmmohhhaa.E
open Go Go.RowKit
section
variable {P : Program} {n : Nat} {N : Cont} {w0 : World} {σ : Fr} {L : List Atom} {all rest : List Oper} {d : Option Tmp} {ty : TypeId} {pos : String} {aft : Array Edge} {α : Type} [Lod α]
/-- A field put into a row, whatever the element owns. -/
theorem SWl_stR {T : TypeId} [hT : Sc P T] (k : Nat) {s : Sl α} (hk : L[k]? = some (Row s)) {x y : Operand} {i j sz : Nat} (hx : ev n σ x = .pointer (some ⟨s.blk, s.off + i * sz + j, none⟩)) (hsz : Lod.sz α = sz) (hj : Nat.blt j sz = true) (hi : i < s.n)
    {v : Value} (hy : ev n σ y = v) (h1 : v.cells = #[v]) (h2 : v.oneCell' = true) (x' : α) (hc : Lod.cells x' = (Lod.cells (s.nth i hi)).set j v)
    (h : SWl P n all rest N w0 (upo σ d undef) (L.set k (Row (s.upd i x')))) : SWl P n all (⟨d, .store T x y, ty, pos, aft, none⟩ :: rest) N w0 σ L := fun w st => by
  subst hsz
  have hj' : j < Lod.sz α := by simpa [blt_eq] using hj
  have hkl : k < L.length := (List.getElem?_eq_some_iff.1 hk).1
  have s1 := Imp.front (w0 := w0) k hk w st
  obtain ⟨hlim, hown⟩ : (Row s).holds w := s1.holds _ List.mem_cons_self
  obtain ⟨g, o, cur, hr⟩ : ∃ g o cur, s.row w g o cur := by
    rcases hown with ⟨_, h3⟩ | h3
    · omega
    · exact h3
  have hb : s.blk = g := by simp [Sl.blk, hr.1]
  have ho : s.off = o := by simp [Sl.off, hr.1]
  have hrow := hr.2.1
  have hget : (Lod.cells (s.nth i hi))[j]? = some ((Lod.cells (s.nth i hi))[j]'(by rw [Lod.len]; exact hj')) := List.getElem?_eq_getElem _
  have hcell : w.cell? ⟨s.blk, s.off + i * Lod.sz α + j, none⟩ = some ((Lod.cells (s.nth i hi))[j]'(by rw [Lod.len]; exact hj')) := by
    rw [hb, ho, cell_of_row w g _ cur _ (0, 0) hrow, hr.cellAt i hi j hj', hget]
  refine Wl_st hx hy h1 h2 hcell (by rw [hb, frozen_of_row w g _ _ _ hrow]) (h _ ?_)
  have hoff : w.setCell ⟨s.blk, s.off + i * Lod.sz α + j, none⟩ v = w.setRow g (cur.setIfInBounds (o + i * Lod.sz α + j) v) := by
    rw [hb, ho, setCell_eq_setRow w g _ _ _ _ v hrow]
  rw [hoff]
  have key : St w0 (w.setRow g (cur.setIfInBounds (o + i * Lod.sz α + j) v)) (Row (s.upd i x') :: L.eraseIdx k) := by
    refine s1.turn (by simp) rfl rfl rfl rfl (fun b hb' => setRow_other w g b _ (fun e => hb' (by subst e; simp [Row, hr.1]))) ?_
    refine ⟨hlim, .inr ⟨g, o, cur.setIfInBounds (o + i * Lod.sz α + j) v, hr.1, setRow_heap w g _ _ _ _ hrow, hr.2.2.1, hr.2.2.2.1, (by rw [Array.size_setIfInBounds]; exact hr.2.2.2.2.1), ?_⟩⟩
    have hb := lt_mul_of hi hj'
    have e := flatMap_cell s.l i (by rw [s.hn]; exact hi) j hj' v x' hc
    show List.take (s.n * Lod.sz α) (List.drop o (cur.setIfInBounds (o + i * Lod.sz α + j) v).toList) = (s.l.set i x').flatMap Lod.cells
    rw [e, ← hr.2.2.2.2.2, Array.toList_setIfInBounds, Nat.add_assoc, take_drop_set hb]
  exact Imp.back k hkl _ key
/-- A call of a function that came as a value. -/
theorem SWl_callF {f : FuncId} [hf : FnT P f] {c : Operand} (hcal : ev n σ c = .func (.func f) #[] #[]) {xs : List Operand} {tys : Array TypeId} {args : List Value} {Φ : Value → List Atom → Prop} (ha : xs.map (ev n σ) = args)
    (hc : ∀ w, St w0 w L → F P f args w Φ) (h : ∀ v M, Φ v M → SWl P n all rest N w0 (upo σ d v) (M ++ L)) : SWl P n all (⟨d, .call ⟨.value c, ⟨xs⟩, tys⟩, ty, pos, aft, none⟩ :: rest) N w0 σ L := fun w s => by
  obtain ⟨fn, h1, h2, h3⟩ := hf.ex
  refine Wl_enter (f := f) (args := args.toArray) (w' := w) ?_ (hc w s) ?_
  · subst ha
    have hn' : ¬ fn.name = "runtime.NumGoroutine" := by simpa using h2
    have hb' : ¬ fn.body = none := by intro e; rw [e] at h3; cases h3
    simp [execOp, resolve, hcal, Deferred.ofValue, invoke, callFunc, h1, hn', hb']
  · rintro v w'' ⟨M, hΦ, hM⟩
    exact h v M hΦ w'' (s.then hM)
theorem SWl_callFA {f : FuncId} [hf : FnT P f] {c : Operand} (hcal : ev n σ c = .func (.func f) #[] #[]) {xs : List Operand} {tys : Array TypeId} {args : List Value} {v : Value} (ha : xs.map (ev n σ) = args)
    (hc : ∀ w, St w0 w L → F P f args w (rA v)) (h : SWl P n all rest N w0 (upo σ d v) L) : SWl P n all (⟨d, .call ⟨.value c, ⟨xs⟩, tys⟩, ty, pos, aft, none⟩ :: rest) N w0 σ L :=
  SWl_callF hcal ha hc (by rintro v' M ⟨rfl, rfl⟩; exact h)
/-- An owned datum, and a plain value beside it. -/
def rP {β : Type} [Lod β] (ret : β → Value) (p : Value) (Q : β → Prop) : Value → List Atom → Prop := fun v M => ∃ y, v = .tuple #[ret y, p] ∧ M = [Own y] ∧ Q y
theorem SWl_callP {f : FuncId} [hf : FnT P f] {xs : List Operand} {tys : Array TypeId} {args : List Value} {β : Type} [Lod β] {ret : β → Value} {p : Value} {Q : β → Prop} (ha : xs.map (ev n σ) = args) (hc : ∀ w, St w0 w L → F P f args w (rP ret p Q))
    (h : ∀ y, Q y → SWl P n all rest N w0 (upo σ d (.tuple #[ret y, p])) (Own y :: L)) : SWl P n all (⟨d, .call ⟨.value (.func f), ⟨xs⟩, tys⟩, ty, pos, aft, none⟩ :: rest) N w0 σ L :=
  SWl_call ha hc (by rintro v M ⟨y, rfl, rfl, hy⟩; exact h y hy)
/-- Two owned data. -/
def rT {β γ : Type} [Lod β] [Lod γ] (ret : β → Value) (ret' : γ → Value) (Q : β → γ → Prop) : Value → List Atom → Prop := fun v M => ∃ y z, v = .tuple #[ret y, ret' z] ∧ M = [Own y, Own z] ∧ Q y z
theorem SWl_callT {f : FuncId} [hf : FnT P f] {xs : List Operand} {tys : Array TypeId} {args : List Value} {β γ : Type} [Lod β] [Lod γ] {ret : β → Value} {ret' : γ → Value} {Q : β → γ → Prop} (ha : xs.map (ev n σ) = args) (hc : ∀ w, St w0 w L → F P f args w (rT ret ret' Q))
    (h : ∀ y z, Q y z → SWl P n all rest N w0 (upo σ d (.tuple #[ret y, ret' z])) (Own y :: Own z :: L)) : SWl P n all (⟨d, .call ⟨.value (.func f), ⟨xs⟩, tys⟩, ty, pos, aft, none⟩ :: rest) N w0 σ L :=
  SWl_call ha hc (by rintro v M ⟨y, z, rfl, rfl, hy⟩; exact h y z hy)
/-- The k-th and the j-th of what is left ahead, the rest gone. -/
theorem Imp.two {A B : Atom} (k j : Nat) (hk : L[k]? = some A) (hj : (L.eraseIdx k)[j]? = some B) : Imp w0 L [A, B] := by
  refine (Imp.front k hk).trans ?_
  refine (Imp.perm (M := A :: B :: (L.eraseIdx k).eraseIdx j) (List.Perm.cons _ (perm_front _ j B hj))).trans ?_
  exact Imp.sub (List.Sublist.cons_cons _ (List.Sublist.cons_cons _ (List.nil_sublist _)))
end
end Go.Proofs.Ytandadfmmohhhaa.E

namespace Go.Proofs.Ytandadfmmohhhaa.E
open Go Go.RowKit
/-! guards in a region that draws its order -/
section
variable {P : Program} {n : Nat} {all : List Oper} {N : Cont} {w0 : World} {σ : Fr} {X J : List Atom} {f : Nat} {listed : Array Bool}
theorem SA_split (dd : Nat) {t : Bool} (hd : σ dd = .bool t) (ht : t = true → SA P n all N w0 f listed (up σ dd (.bool true)) X J) (hf : t = false → SA P n all N w0 f listed (up σ dd (.bool false)) X J) : SA P n all N w0 f listed σ X J := by
  cases t with
  | true => have := ht rfl; rwa [up_self _ _ _ hd] at this
  | false => have := hf rfl; rwa [up_self _ _ _ hd] at this
theorem SA_splitD (dd : Nat) {p : Prop} [Decidable p] (hd : σ dd = .bool (decide p)) (ht : p → SA P n all N w0 f listed (up σ dd (.bool true)) X J) (hf : ¬ p → SA P n all N w0 f listed (up σ dd (.bool false)) X J) : SA P n all N w0 f listed σ X J :=
  SA_split dd hd (fun h => ht (of_decide_eq_true h)) (fun h => hf (of_decide_eq_false h))
theorem SA_splitN (dd : Nat) {p : Prop} [Decidable p] (hd : σ dd = .bool (!decide p)) (ht : ¬ p → SA P n all N w0 f listed (up σ dd (.bool true)) X J) (hf : p → SA P n all N w0 f listed (up σ dd (.bool false)) X J) : SA P n all N w0 f listed σ X J :=
  SA_split dd hd (fun h => ht (of_decide_eq_false (by simpa using h))) (fun h => hf (of_decide_eq_true (by simpa using h)))
variable {d : Option Tmp} {op : Op} {ty : TypeId} {pos : String} {aft : Array Edge} {v : Value} {j : Nat} {b c : Bool}
/-- A reckoning whose guard stands. -/
theorem SA_pvg (i : Nat) (hB : firstB all listed i = true) (ho : all[i]? = some ⟨d, op, ty, pos, aft, some (j, b)⟩) (hy : yv all n σ j = some (.bool b)) (hv : ∀ L, Val P n w0 σ L op v)
    (h : SA P n all N w0 f (listed.setIfInBounds i true) (upo σ d v) X J) : SA P n all N w0 (f + 1) listed σ X J := by
  refine SA_first true i hB ho (fun h => by cases h) (fun J' X' => .inl ⟨by simp [Region.wanted, yielded_mk all n σ j b hy], fun w s => ?_⟩) h
  unfold Oper.quietAt
  have hq : (execOp (mk n σ).eval ⟨d, op, ty, pos, aft, some (j, b)⟩).run P w = .ok (.value v) w := by rw [eval_mk]; exact hv _ d ty pos aft w s
  rw [hq]
  exact ⟨rfl, rfl⟩
/-- A reading whose guard stands. -/
theorem SA_ldg (i : Nat) (hB : firstB all listed i = true) (ho : all[i]? = some ⟨d, op, ty, pos, aft, some (j, b)⟩) (hy : yv all n σ j = some (.bool b)) (hv : Val P n w0 σ J op v)
    (hp : isRead ⟨d, op, ty, pos, aft, some (j, b)⟩ = true) (h : SA P n all N w0 f (listed.setIfInBounds i true) (upo σ d v) X J) : SA P n all N w0 (f + 1) listed σ X J := by
  refine SA_first false i hB ho (fun _ => hp) (fun X' => .inl ⟨by simp [Region.wanted, yielded_mk all n σ j b hy], fun w s => ?_⟩) h
  unfold Oper.quietAt
  have hq : (execOp (mk n σ).eval ⟨d, op, ty, pos, aft, some (j, b)⟩).run P w = .ok (.value v) w := by rw [eval_mk]; exact hv d ty pos aft w (s.sub (List.sublist_append_right _ _))
  rw [hq]
  exact ⟨rfl, rfl⟩
/-- What the guard leaves out. -/
theorem SA_off (i : Nat) (hB : firstB all listed i = true) (ho : all[i]? = some ⟨d, op, ty, pos, aft, some (j, b)⟩) (hy : yv all n σ j = some (.bool c)) (hne : (c == b) = false)
    (h : SA P n all N w0 f (listed.setIfInBounds i true) (upo σ d undef) X J) : SA P n all N w0 (f + 1) listed σ X J := by
  refine SA_first true i hB ho (fun h => by cases h) (fun J' X' => .inr ⟨?_, rfl⟩) h
  simp only [Region.wanted, yielded_mk all n σ j c hy]
  cases c <;> cases b <;> first | rfl | cases hne
theorem SA_offU (i : Nat) (hB : firstB all listed i = true) (ho : all[i]? = some ⟨d, op, ty, pos, aft, some (j, b)⟩) (hy : yv all n σ j = some undef)
    (h : SA P n all N w0 f (listed.setIfInBounds i true) (upo σ d undef) X J) : SA P n all N w0 (f + 1) listed σ X J := by
  refine SA_first true i hB ho (fun h => by cases h) (fun J' X' => .inr ⟨?_, rfl⟩) h
  simp only [Region.wanted, yielded_undef all n σ j hy]
  rfl
end
attribute [irreducible] SN SW SWl SX SQl W Wl Val SA
end Go.Proofs.Ytandadfmmohhhaa.E
