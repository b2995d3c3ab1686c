/-
  How many marks a datum takes.
-/
import Derived.Test.YtjjmjfoejpjopaaMa
import Derived.Test.YtjjmjfoejpjopaaHx
namespace Go.Proofs.Ytjjmjfoejpjopaa.E
open Go Go.RowKit

theorem cnt_ints (s : Sl Int) : Mkd.cnt s = s.n := (cntL_const (fun _ => rfl) s.l).trans (by rw [s.hn, Nat.one_mul])
theorem cnt_bools (s : Sl Bool) : Mkd.cnt s = s.n := (cntL_const (fun _ => rfl) s.l).trans (by rw [s.hn, Nat.one_mul])
theorem cnt_times (s : Sl Timer) : Mkd.cnt s = 2 * s.n := (cntL_const (fun _ => rfl) s.l).trans (by rw [s.hn])
theorem cnt_msgs (s : Sl Msg) : Mkd.cnt s = 2 * s.n := (cntL_const (fun _ => rfl) s.l).trans (by rw [s.hn])
theorem cnt_ress (s : Sl Res) : Mkd.cnt s = 5 * s.n := (cntL_const (fun _ => rfl) s.l).trans (by rw [s.hn])
def cO (o : Obj) : Nat := 10 + (o.links.length + o.data.length + 2 * o.queue.length)
def cA (l : List Obj) : Nat := (l.map cO).sum
def tO (o : Obj) : Nat := o.links.length + o.data.length + o.queue.length
def tA (l : List Obj) : Nat := l.length + (l.map tO).sum
theorem cnt_obj (x : ObjL) : Mkd.cnt x = cO x.pl := by
  show 10 + (Mkd.cnt x.links + Mkd.cnt x.data + Mkd.cnt x.queue) = _
  rw [cnt_ints, cnt_ints, cnt_msgs]
  unfold cO ObjL.pl
  simp only [Sl.hn]
theorem cnt_arena (s : Sl ObjL) : Mkd.cnt s = cA (s.l.map ObjL.pl) := by
  show cntL s.l = _
  unfold cntL cA
  rw [List.map_map]
  congr 1
  exact List.map_congr_left fun x _ => cnt_obj x
theorem tot_obj (x : ObjL) : x.tot = tO x.pl := by
  unfold ObjL.tot tO ObjL.pl
  simp only [Sl.hn]
theorem tot_arena (s : Sl ObjL) : s.tot ObjL.tot = tA (s.l.map ObjL.pl) := by
  unfold Sl.tot tA
  rw [List.length_map, s.hn, List.map_map]
  congr 2
  exact List.map_congr_left fun x _ => tot_obj x
theorem cA_le (l : List Obj) : cA l ≤ 10 * tA l := by
  unfold cA tA
  induction l with
  | nil => simp
  | cons o l ih =>
    simp only [List.map_cons, List.sum_cons, List.length_cons]
    unfold cO tO at *
    omega
theorem limObjS {x y : Sl ObjL} (h : y.l.map ObjL.pl = x.l.map ObjL.pl) (hx : ((x.tot ObjL.tot : Nat) : Int) ≤ 1048576) : 1 + Mkd.cnt y ≤ lim := by
  have h1 := cA_le (y.l.map ObjL.pl)
  rw [cnt_arena, h]
  rw [h] at h1
  rw [tot_arena] at hx
  unfold lim
  omega
theorem tot_ge_arena {x y : Sl ObjL} (h : y.l.map ObjL.pl = x.l.map ObjL.pl) : y.tot ObjL.tot = x.tot ObjL.tot := by rw [tot_arena, tot_arena, h]
theorem lim_int {r : Sl Int} {n : Nat} (h : r.l.length ≤ n) (hn : n ≤ 2147483000) : 1 + Mkd.cnt r ≤ lim := by
  rw [cnt_ints, ← r.hn]; unfold lim; omega
theorem lim_bool {r : Sl Bool} {n : Nat} (h : r.l.length ≤ n) (hn : n ≤ 2147483000) : 1 + Mkd.cnt r ≤ lim := by
  rw [cnt_bools, ← r.hn]; unfold lim; omega
theorem cnt_spoke (x : SpokeL) : Mkd.cnt x = 2 * x.tot := cnt_times x.list
theorem cnt_wheelT (x : WheelL) : Mkd.cnt x ≤ 2 * x.tot := by
  show cntL x.spokes.l ≤ 2 * (x.spokes.n + (x.spokes.l.map SpokeL.tot).sum)
  have : cntL x.spokes.l = 2 * (x.spokes.l.map SpokeL.tot).sum := by
    unfold cntL
    generalize x.spokes.l = l
    induction l with
    | nil => rfl
    | cons a l ih => simp only [List.map_cons, List.sum_cons, ih, cnt_spoke, Nat.mul_add]
  omega
end Go.Proofs.Ytjjmjfoejpjopaa.E
