/-
  How many marks a datum takes.
-/
import Derived.Test.YtandadfmmohhhaaMa
import Derived.Test.YtandadfmmohhhaaHx
namespace Go.Proofs.Ytandadfmmohhhaa.E
open Go Go.RowKit

theorem cnt_ints (s : Sl Int) : Mkd.cnt s = s.n := (cntL_const (fun _ => rfl) s.l).trans (by rw [s.hn, Nat.one_mul])
theorem cnt_bools (s : Sl Bool) : Mkd.cnt s = s.n := (cntL_const (fun _ => rfl) s.l).trans (by rw [s.hn, Nat.one_mul])
theorem cnt_times (s : Sl Timer) : Mkd.cnt s = 2 * s.n := (cntL_const (fun _ => rfl) s.l).trans (by rw [s.hn])
theorem cnt_msgs (s : Sl Msg) : Mkd.cnt s = 2 * s.n := (cntL_const (fun _ => rfl) s.l).trans (by rw [s.hn])
theorem cnt_ress (s : Sl Res) : Mkd.cnt s = 5 * s.n := (cntL_const (fun _ => rfl) s.l).trans (by rw [s.hn])
def cO (o : Obj) : Nat := 10 + (o.links.length + o.data.length + 2 * o.queue.length)
def cA (l : List Obj) : Nat := (l.map cO).sum
def tO (o : Obj) : Nat := o.links.length + o.data.length + o.queue.length
def tA (l : List Obj) : Nat := l.length + (l.map tO).sum
theorem cnt_obj (x : ObjL) : Mkd.cnt x = cO x.pl := by
  show 10 + (Mkd.cnt x.links + Mkd.cnt x.data + Mkd.cnt x.queue) = _
  rw [cnt_ints, cnt_ints, cnt_msgs]
  unfold cO ObjL.pl
  simp only [Sl.hn]
theorem cnt_arena (s : Sl ObjL) : Mkd.cnt s = cA (s.l.map ObjL.pl) := by
  show cntL s.l = _
  unfold cntL cA
  rw [List.map_map]
  congr 1
  exact List.map_congr_left fun x _ => cnt_obj x
theorem tot_obj (x : ObjL) : x.tot = tO x.pl := by
  unfold ObjL.tot tO ObjL.pl
  simp only [Sl.hn]
theorem tot_arena (s : Sl ObjL) : s.tot ObjL.tot = tA (s.l.map ObjL.pl) := by
  unfold Sl.tot tA
  rw [List.length_map, s.hn, List.map_map]
  congr 2
  exact List.map_congr_left fun x _ => tot_obj x
theorem cA_le (l : List Obj) : cA l ≤ 10 * tA l := by
  unfold cA tA
  induction l with
  | nil => simp
  | cons o l ih =>
    simp only [List.map_cons, List.sum_cons, List.length_cons]
    unfold cO tO at *
    omega
theorem eqBoolS {m : Nat} (a b : Sl Bool) (w : World) (ha : Lod.rd m w a) (hb : Lod.rd m w b) : FB 45 [a.val, b.val] w (decide (a.l = b.l)) := by
  have hcap : a.n ≤ maxLen := Nat.le_trans ha.2.1 ha.2.2.1
  unfold maxLen at hcap
  have sa : ∀ L, Src m w L a := fun L => Src.arg ha
  have sb : ∀ L, Src m w L b := fun L => Src.arg hb
  refine F_of Try.func45 rfl rfl ?_
  repeat' (first | refine SX_run rfl rfl ?_ | refine SX_nil ?_ | refine SN_W ?_ | refine SW_seq ?_ | refine SW_regionX ?_ | refine SX_guardT rfl ?_ | refine SX_guardF rfl rfl ?_ | refine SX_guardU rfl ?_ | refine SX_gsplitD rfl rfl (fun h => ?_) (fun h => ?_) | refine SX_gsplitN rfl rfl (fun h => ?_) (fun h => ?_) | refine SX_gsplit rfl rfl (fun h => ?_) (fun h => ?_) | refine SW_condT rfl ?_ | refine SW_condF rfl ?_ | refine SW_condD rfl (fun h => ?_) (fun h => ?_) | refine SW_condN rfl (fun h => ?_) (fun h => ?_) | refine SW_condB rfl (fun h => ?_) (fun h => ?_) | refine SW_cond rfl (fun h => ?_) (fun h => ?_) | refine SW_block ?_ | refine SW_skip ?_ | refine SW_exit ?_ | refine SN_bl0 ?_ | refine SN_blS rfl ?_ | refine SW_ret ?_ | refine SX_v (Val_len rfl) ?_ | refine SX_v (Val_fa rfl) ?_ | refine SX_v (Val_add rfl rfl (by omega) (by omega)) ?_ | refine SX_v (Val_sub rfl rfl (by omega) (by omega)) ?_ | refine SX_v (Val_mul rfl rfl (by omega) (by omega)) ?_ | refine SX_v (Val_quoN rfl rfl (by omega) (by omega) (by omega)) ?_ | refine SX_v (Val_remN rfl rfl (by omega) (by omega)) ?_ | refine SX_v (Val_min rfl rfl) ?_ | refine SX_v (Val_beq und_bool rfl rfl) ?_ | refine SX_v (Val_bne und_bool rfl rfl) ?_)
  · refine SN_retB rfl rfl ⟨?_, rfl⟩
    congr 1
    have : a.l ≠ b.l := fun e => h (by have := a.hn; have := b.hn; rw [e] at *; omega)
    simp [this]
  · have hab : a.n = b.n := by omega
    clear h
    refine SW_loop (fun k σ L => ∃ i : Nat, k = a.n - i ∧ i ≤ a.n ∧ L = [] ∧ a.l.take i = b.l.take i ∧ ∃ τ, σ = ups τ [(5, .int .i64 i), (0, a.val), (1, b.val)]) a.n Imp.refl ⟨0, rfl, Nat.zero_le _, rfl, rfl, ups_ex ⟨rfl, rfl, rfl, trivial⟩⟩ ?_
    rintro k σ L ⟨i, rfl, hi, rfl, hpre, τ, rfl⟩
    repeat' (first | refine SX_v (Val_ix (sa _) rfl rfl i rfl (by omega)) ?_ | refine SX_v (Val_ix (sb _) rfl rfl i rfl (by omega)) ?_ | refine SX_v (Val_ldE (sa _) rfl rfl (by omega) rfl) ?_ | refine SX_v (Val_ldE (sb _) rfl rfl (by omega) rfl) ?_ | refine SX_run rfl rfl ?_ | refine SX_nil ?_ | refine SN_W ?_ | refine SW_seq ?_ | refine SW_regionX ?_ | refine SX_guardT rfl ?_ | refine SX_guardF rfl rfl ?_ | refine SX_guardU rfl ?_ | refine SX_gsplitD rfl rfl (fun h => ?_) (fun h => ?_) | refine SX_gsplitN rfl rfl (fun h => ?_) (fun h => ?_) | refine SX_gsplit rfl rfl (fun h => ?_) (fun h => ?_) | refine SW_condT rfl ?_ | refine SW_condF rfl ?_ | refine SW_condD rfl (fun h => ?_) (fun h => ?_) | refine SW_condN rfl (fun h => ?_) (fun h => ?_) | refine SW_condB rfl (fun h => ?_) (fun h => ?_) | refine SW_cond rfl (fun h => ?_) (fun h => ?_) | refine SW_block ?_ | refine SW_skip ?_ | refine SW_exit ?_ | refine SN_bl0 ?_ | refine SN_blS rfl ?_ | refine SW_ret ?_ | refine SX_v (Val_len rfl) ?_ | refine SX_v (Val_fa rfl) ?_ | refine SX_v (Val_add rfl rfl (by omega) (by omega)) ?_ | refine SX_v (Val_sub rfl rfl (by omega) (by omega)) ?_ | refine SX_v (Val_mul rfl rfl (by omega) (by omega)) ?_ | refine SX_v (Val_quoN rfl rfl (by omega) (by omega) (by omega)) ?_ | refine SX_v (Val_remN rfl rfl (by omega) (by omega)) ?_ | refine SX_v (Val_min rfl rfl) ?_ | refine SX_v (Val_beq und_bool rfl rfl) ?_ | refine SX_v (Val_bne und_bool rfl rfl) ?_ | refine SW_regionD mixed (by kernel_rfl) ?_)
    · refine SN_retB rfl rfl ⟨?_, rfl⟩
      congr 1
      refine (decide_eq_false (take_ne (i := i) (by have := a.hn; omega) (by have := b.hn; omega) fun e => ?_)).symm
      have e' : a.nth i (by omega) = b.nth i (by omega) := e
      rw [e'] at h
      simp at h
    · refine SN_back (a.n - (i + 1)) (by omega) Imp.refl ⟨i + 1, rfl, by omega, rfl, take_step (by have := a.hn; omega) (by have := b.hn; omega) hpre ?_, ups_ex ⟨rfl, rfl, rfl, trivial⟩⟩
      show a.nth i (by omega) = b.nth i (by omega)
      simpa using h
    · have : i = a.n := by omega
      subst this
      refine SN_retB rfl rfl ⟨?_, rfl⟩
      congr 1
      exact (decide_eq_true (eqS_end a.hn (by have := b.hn; omega) hpre)).symm
theorem limObjS {x y : Sl ObjL} (h : y.l.map ObjL.pl = x.l.map ObjL.pl) (hx : ((x.tot ObjL.tot : Nat) : Int) ≤ 1048576) : 1 + Mkd.cnt y ≤ lim := by
  have h1 := cA_le (y.l.map ObjL.pl)
  rw [cnt_arena, h]
  rw [h] at h1
  rw [tot_arena] at hx
  unfold lim
  omega
theorem tot_ge_arena {x y : Sl ObjL} (h : y.l.map ObjL.pl = x.l.map ObjL.pl) : y.tot ObjL.tot = x.tot ObjL.tot := by rw [tot_arena, tot_arena, h]
theorem lim_int {r : Sl Int} {n : Nat} (h : r.l.length ≤ n) (hn : n ≤ 2147483000) : 1 + Mkd.cnt r ≤ lim := by
  rw [cnt_ints, ← r.hn]; unfold lim; omega
theorem lim_bool {r : Sl Bool} {n : Nat} (h : r.l.length ≤ n) (hn : n ≤ 2147483000) : 1 + Mkd.cnt r ≤ lim := by
  rw [cnt_bools, ← r.hn]; unfold lim; omega
theorem cnt_spoke (x : SpokeL) : Mkd.cnt x = 2 * x.tot := cnt_times x.list
theorem cnt_wheelT (x : WheelL) : Mkd.cnt x ≤ 2 * x.tot := by
  show cntL x.spokes.l ≤ 2 * (x.spokes.n + (x.spokes.l.map SpokeL.tot).sum)
  have : cntL x.spokes.l = 2 * (x.spokes.l.map SpokeL.tot).sum := by
    unfold cntL
    generalize x.spokes.l = l
    induction l with
    | nil => rfl
    | cons a l ih => simp only [List.map_cons, List.sum_cons, ih, cnt_spoke, Nat.mul_add]
  omega
end Go.Proofs.Ytandadfmmohhhaa.E
