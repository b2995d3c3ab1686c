/-
  A thing freed.
-/
import Derived.Test.YtandadfmmohhhaaHp
import Derived.Test.YtandadfmmohhhaaCp
import Derived.Test.YtandadfmmohhhaaEy
import Derived.Test.YtandadfmmohhhaaMa
namespace Go.Proofs.Ytandadfmmohhhaa.E
open Go Go.RowKit
set_option maxRecDepth 100000
set_option maxHeartbeats 4000000

/-- f of the first k. -/
def part {α : Type} (f : α → α) (l : List α) (k : Nat) : List α := (l.take k).map f ++ l.drop k
theorem part_len {α : Type} (f : α → α) (l : List α) (k : Nat) : (part f l k).length = l.length := by
  unfold part
  rw [List.length_append, List.length_map, ← List.length_append, List.take_append_drop]
theorem part_get {α : Type} {f : α → α} {l : List α} {k : Nat} (hk : k < l.length) (h : k < (part f l k).length) : (part f l k)[k] = l[k] := by
  have hlen : ((l.take k).map f).length = k := by rw [List.length_map, List.length_take]; omega
  have : (part f l k)[k]? = l[k]? := by
    unfold part
    rw [List.getElem?_append_right (by omega), hlen, Nat.sub_self, List.getElem?_drop, Nat.add_zero]
  rw [List.getElem?_eq_getElem h, List.getElem?_eq_getElem hk] at this
  exact Option.some.inj this
theorem part_set {α : Type} {f : α → α} {l : List α} {k : Nat} (hk : k < l.length) {y : α} (hy : y = f l[k]) : (part f l k).set k y = part f l (k + 1) := by
  unfold part
  have hlen : ((l.take k).map f).length = k := by rw [List.length_map, List.length_take]; omega
  rw [List.set_append_right _ _ (by omega), hlen, Nat.sub_self, List.drop_eq_getElem_cons hk, List.set_cons_zero, List.take_succ_eq_append_getElem hk, List.map_append, List.append_assoc, hy]
  rfl
theorem part_same {α : Type} {f : α → α} {l : List α} {k : Nat} (hk : k < l.length) (hy : f l[k] = l[k]) : part f l (k + 1) = part f l k := by
  rw [← part_set hk rfl, hy]
  conv => lhs; rw [← part_get (f := f) hk (by rw [part_len]; exact hk)]
  exact List.set_getElem_self _
theorem part_all {α : Type} {f : α → α} {l : List α} {k : Nat} (hk : l.length ≤ k) : part f l k = l.map f := by
  unfold part
  rw [List.take_of_length_le hk, List.drop_of_length_le hk, List.append_nil]
theorem nthL_of {α : Type} {s : Sl α} {l : List α} (h : s.l = l) (i : Nat) (hi : i < s.n) : l[i]'(by rw [← h, s.hn]; exact hi) = s.nth i hi := by subst h; rfl
theorem Imp.addBare {w0 : World} {L : List Atom} (g : Int) : Imp w0 L (OwnL [ObjL.bare g] :: L) := by
  intro w st
  have e : (OwnL [ObjL.bare g]).fp = [] := rfl
  refine ⟨st.below, ?_, fun b hb => ?_, fun A hA => ?_⟩
  · simp only [fps, List.flatMap_cons, e, List.nil_append]; exact st.nodup
  · simp only [fps, List.flatMap_cons, e, List.nil_append] at hb; exact st.range b hb
  · rcases List.mem_cons.1 hA with rfl | hA
    · intro y hy
      rw [List.mem_singleton] at hy
      subst hy
      exact ObjL.bare_own g w
    · exact st.holds A hA
/-- Not in i any more. -/
def ObjL.leave (x : ObjL) (i : Int) : ObjL := { x with inn := if x.inn = i then -1 else x.inn }
def ObjL.setLinks (x : ObjL) (l : Sl Int) : ObjL := { x with links := l }
def noLink (i : Int) (k : Int) : Int := if k = i then -1 else k
theorem unlink_pl {x : ObjL} {i : Int} {l : Sl Int} (hk : x.kind ≠ 0) (hl : l.l = x.links.l.map (noLink i)) : ((x.leave i).setLinks l).pl = unlink i x.pl := by
  unfold unlink
  rw [if_neg (show ¬ x.pl.kind = 0 from hk)]
  show (⟨x.gen, x.kind, if x.inn = i then -1 else x.inn, x.res, x.til, x.pages, x.wait, x.got, x.ran, x.mark, l.l, x.data.l, x.queue.l⟩ : Obj) = _
  rw [hl]
  rfl
theorem freedU {l : List Obj} {i : Nat} : freed l i = (l.set i (bareOf (oat l i).gen)).map (unlink i) := rfl
theorem iArenaFree (a : Sl ObjL) (i : Int) (w : World) (ha : Lod.rd lim w a) (hr : RgA (a.l.map ObjL.pl)) : F Try.prog 52 [a.val, .int .i64 i] w (rP Sl.val (.bool (decide (CanFree (a.l.map ObjL.pl) i))) (fun r : Sl ObjL => r.l.map ObjL.pl = arenaFree (a.l.map ObjL.pl) i)) := by
  have sa : ∀ L, Src lim w L a := fun L => Src.arg ha
  refine F_of Try.func52 rfl rfl ?_
  repeat' (first | refine SX_run rfl rfl ?_ | refine SX_nil ?_ | refine SN_W ?_ | refine SW_seq ?_ | refine SW_regionX ?_ | refine SX_guardT rfl ?_ | refine SX_guardF rfl rfl ?_ | refine SX_guardU rfl ?_ | refine SX_gsplitD rfl rfl (fun h => ?_) (fun h => ?_) | refine SX_gsplitN rfl rfl (fun h => ?_) (fun h => ?_) | refine SX_gsplit rfl rfl (fun h => ?_) (fun h => ?_) | refine SW_condT rfl ?_ | refine SW_condF rfl ?_ | refine SW_condD rfl (fun h => ?_) (fun h => ?_) | refine SW_condN rfl (fun h => ?_) (fun h => ?_) | refine SW_condB rfl (fun h => ?_) (fun h => ?_) | refine SW_cond rfl (fun h => ?_) (fun h => ?_) | refine SW_block ?_ | refine SW_skip ?_ | refine SW_exit ?_ | refine SN_bl0 ?_ | refine SN_blS rfl ?_ | refine SW_ret ?_ | refine SX_v (Val_len rfl) ?_ | refine SX_v (Val_fa rfl) ?_ | refine SX_v (Val_add rfl rfl (by omega) (by omega)) ?_ | refine SX_v (Val_sub rfl rfl (by omega) (by omega)) ?_ | refine SX_v (Val_mul rfl rfl (by omega) (by omega)) ?_ | refine SX_v (Val_quoN rfl rfl (by omega) (by omega) (by omega)) ?_ | refine SX_v (Val_remN rfl rfl (by omega) (by omega)) ?_ | refine SX_v (Val_min rfl rfl) ?_ | refine SX_v (Val_beq und_bool rfl rfl) ?_ | refine SX_v (Val_bne und_bool rfl rfl) ?_)
  (refine SWl_at 94 ?_; refine SWl_callB rfl (fun w hw => copyArena a w (Src.arg ha w hw)) (fun y hy => SWl_x ?_))
  repeat' (first | (refine SX_at 22 ?_; refine SX_callA rfl (fun w hw => iArenaOk a w (Src.arg ha w hw) hr) ?_) | (refine SX_at 66 ?_; refine SX_callA rfl (fun w _ => within _ _ _ w) ?_) | refine SX_run rfl rfl ?_ | refine SX_nil ?_ | refine SN_W ?_ | refine SW_seq ?_ | refine SW_regionX ?_ | refine SX_guardT rfl ?_ | refine SX_guardF rfl rfl ?_ | refine SX_guardU rfl ?_ | refine SX_gsplitD rfl rfl (fun h => ?_) (fun h => ?_) | refine SX_gsplitN rfl rfl (fun h => ?_) (fun h => ?_) | refine SX_gsplit rfl rfl (fun h => ?_) (fun h => ?_) | refine SW_condT rfl ?_ | refine SW_condF rfl ?_ | refine SW_condD rfl (fun h => ?_) (fun h => ?_) | refine SW_condN rfl (fun h => ?_) (fun h => ?_) | refine SW_condB rfl (fun h => ?_) (fun h => ?_) | refine SW_cond rfl (fun h => ?_) (fun h => ?_) | refine SW_block ?_ | refine SW_skip ?_ | refine SW_exit ?_ | refine SN_bl0 ?_ | refine SN_blS rfl ?_ | refine SW_ret ?_ | refine SX_v (Val_len rfl) ?_ | refine SX_v (Val_fa rfl) ?_ | refine SX_v (Val_add rfl rfl (by omega) (by omega)) ?_ | refine SX_v (Val_sub rfl rfl (by omega) (by omega)) ?_ | refine SX_v (Val_mul rfl rfl (by omega) (by omega)) ?_ | refine SX_v (Val_quoN rfl rfl (by omega) (by omega) (by omega)) ?_ | refine SX_v (Val_remN rfl rfl (by omega) (by omega)) ?_ | refine SX_v (Val_min rfl rfl) ?_ | refine SX_v (Val_beq und_bool rfl rfl) ?_ | refine SX_v (Val_bne und_bool rfl rfl) ?_)
  · have e : ¬ CanFree (a.l.map ObjL.pl) i := fun e => h e.1
    exact SN_ret2 rfl (RV.tmp rfl) (RV.tmp rfl) (Imp.one 0 rfl) ⟨y, by rw [decide_eq_false e]; rfl, rfl, hy.trans (if_neg e).symm⟩
  · have e : ¬ CanFree (a.l.map ObjL.pl) i := fun e => h e.2.1
    exact SN_ret2 rfl (RV.tmp rfl) (RV.tmp rfl) (Imp.one 0 rfl) ⟨y, by rw [decide_eq_false e]; rfl, rfl, hy.trans (if_neg e).symm⟩
  rename_i hA
  obtain ⟨j, rfl⟩ : ∃ j : Nat, i = j := ⟨i.toNat, by omega⟩
  have hn := arenaOk_n hA
  have hj : j < a.n := by omega
  have hyn : y.n = 10 := by rw [← y.hn, ← List.length_map (f := ObjL.pl), hy, List.length_map, a.hn, hn]
  have hjy : j < y.n := by omega
  have hoj := oat_nth a j hj
  repeat' (first | refine SX_v (Val_ix (sa _) rfl rfl j rfl hj) ?_ | refine SX_v (Val_ldS (sa _) rfl rfl rfl hj rfl) ?_ | refine SX_v (Val_build rfl (Lod.cells (ObjL.bare (a.nth j hj).gen)) (by kernel_rfl)) ?_ | refine SX_v (Val_ix (s := y) (Src.own 0 rfl) rfl rfl j rfl hjy) ?_ | refine SX_w (SWl_stE (s := y) (i := j) (y' := ObjL.bare (a.nth j hj).gen) ((Imp.addBare _).trans Imp.swap) rfl rfl hjy rfl (SWl_x ?_)) | refine SX_run rfl rfl ?_ | refine SX_nil ?_ | refine SN_W ?_ | refine SW_seq ?_ | refine SW_regionX ?_ | refine SX_guardT rfl ?_ | refine SX_guardF rfl rfl ?_ | refine SX_guardU rfl ?_ | refine SX_gsplitD rfl rfl (fun h => ?_) (fun h => ?_) | refine SX_gsplitN rfl rfl (fun h => ?_) (fun h => ?_) | refine SX_gsplit rfl rfl (fun h => ?_) (fun h => ?_) | refine SW_condT rfl ?_ | refine SW_condF rfl ?_ | refine SW_condD rfl (fun h => ?_) (fun h => ?_) | refine SW_condN rfl (fun h => ?_) (fun h => ?_) | refine SW_condB rfl (fun h => ?_) (fun h => ?_) | refine SW_cond rfl (fun h => ?_) (fun h => ?_) | refine SW_block ?_ | refine SW_skip ?_ | refine SW_exit ?_ | refine SN_bl0 ?_ | refine SN_blS rfl ?_ | refine SW_ret ?_ | refine SX_v (Val_len rfl) ?_ | refine SX_v (Val_fa rfl) ?_ | refine SX_v (Val_add rfl rfl (by omega) (by omega)) ?_ | refine SX_v (Val_sub rfl rfl (by omega) (by omega)) ?_ | refine SX_v (Val_mul rfl rfl (by omega) (by omega)) ?_ | refine SX_v (Val_quoN rfl rfl (by omega) (by omega) (by omega)) ?_ | refine SX_v (Val_remN rfl rfl (by omega) (by omega)) ?_ | refine SX_v (Val_min rfl rfl) ?_ | refine SX_v (Val_beq und_bool rfl rfl) ?_ | refine SX_v (Val_bne und_bool rfl rfl) ?_)
  · have e : ¬ CanFree (a.l.map ObjL.pl) j := fun e => e.2.2 (by rw [Int.toNat_natCast, hoj]; exact h)
    exact SN_ret2 rfl (RV.tmp rfl) (RV.tmp rfl) (Imp.one 0 rfl) ⟨y, by rw [decide_eq_false e]; rfl, rfl, hy.trans (if_neg e).symm⟩
  have hcf : CanFree (a.l.map ObjL.pl) j := ⟨hA, by omega, by rw [Int.toNat_natCast, hoj]; exact h⟩
  have hl0 : (y.upd j (ObjL.bare (a.nth j hj).gen)).l.map ObjL.pl = (a.l.map ObjL.pl).set j (bareOf (oat (a.l.map ObjL.pl) j).gen) := by
    show (y.l.set j _).map ObjL.pl = _
    rw [List.map_set, hy, hoj]
    rfl
  obtain ⟨l', hl'⟩ : ∃ l', (a.l.map ObjL.pl).set j (bareOf (oat (a.l.map ObjL.pl) j).gen) = l' := ⟨_, rfl⟩
  have hlen : l'.length = 10 := by rw [← hl', List.length_set, List.length_map, a.hn, hn]
  refine SW_loop (fun m σ L => ∃ (k : Nat) (r : Sl ObjL), m = 10 - k ∧ k ≤ 10 ∧ L = [Own r] ∧ r.l.map ObjL.pl = part (unlink j) l' k ∧ ∃ τ, σ = ups τ [(1, .int .i64 j), (6, r.val), (39, .int .i64 10), (40, .int .i64 k)]) 10 (Imp.one 0 rfl) ⟨0, y.upd j (ObjL.bare (a.nth j hj).gen), rfl, Nat.zero_le _, rfl, hl0.trans hl', ups_ex ⟨rfl, rfl, ?_, rfl, trivial⟩⟩ ?_
  · show _ = Value.int .i64 10
    rw [show (10 : Int) = (y.n : Int) by omega]
    rfl
  rintro m σ L ⟨k, r, rfl, hk, rfl, hrl, τ, rfl⟩
  have hrn : r.n = 10 := by rw [← r.hn, ← List.length_map (f := ObjL.pl), hrl, part_len, hlen]
  by_cases hlt : k < 10
  · have hkr : k < r.n := by omega
    have hkl : k < l'.length := by omega
    have hpk : (r.nth k hkr).pl = l'[k] := by
      rw [← part_get (f := unlink j) hkl (by rw [part_len]; exact hkl)]
      have := oat_nth r k hkr
      rw [hrl] at this
      rw [← this]
      unfold oat
      rw [List.getD_eq_getElem?_getD, List.getElem?_eq_getElem (by rw [part_len]; exact hkl)]
      rfl
    repeat' (first | refine SX_v (Val_ix (s := r) (Src.own 0 rfl) rfl rfl k rfl hkr) ?_ | refine SX_v (Val_ldS (s := r) (Src.own 0 rfl) rfl rfl rfl hkr rfl) ?_ | refine SX_w (SWl_stS 0 (s := r) rfl (i := k) (j := 2) rfl rfl rfl hkr rfl rfl rfl { r.nth k hkr with inn := -1 } rfl rfl (fun _ h => h) (SWl_x ?_)) | refine SX_run rfl rfl ?_ | refine SX_nil ?_ | refine SN_W ?_ | refine SW_seq ?_ | refine SW_regionX ?_ | refine SX_guardT rfl ?_ | refine SX_guardF rfl rfl ?_ | refine SX_guardU rfl ?_ | refine SX_gsplitD rfl rfl (fun h => ?_) (fun h => ?_) | refine SX_gsplitN rfl rfl (fun h => ?_) (fun h => ?_) | refine SX_gsplit rfl rfl (fun h => ?_) (fun h => ?_) | refine SW_condT rfl ?_ | refine SW_condF rfl ?_ | refine SW_condD rfl (fun h => ?_) (fun h => ?_) | refine SW_condN rfl (fun h => ?_) (fun h => ?_) | refine SW_condB rfl (fun h => ?_) (fun h => ?_) | refine SW_cond rfl (fun h => ?_) (fun h => ?_) | refine SW_block ?_ | refine SW_skip ?_ | refine SW_exit ?_ | refine SN_bl0 ?_ | refine SN_blS rfl ?_ | refine SW_ret ?_ | refine SX_v (Val_len rfl) ?_ | refine SX_v (Val_fa rfl) ?_ | refine SX_v (Val_add rfl rfl (by omega) (by omega)) ?_ | refine SX_v (Val_sub rfl rfl (by omega) (by omega)) ?_ | refine SX_v (Val_mul rfl rfl (by omega) (by omega)) ?_ | refine SX_v (Val_quoN rfl rfl (by omega) (by omega) (by omega)) ?_ | refine SX_v (Val_remN rfl rfl (by omega) (by omega)) ?_ | refine SX_v (Val_min rfl rfl) ?_ | refine SX_v (Val_beq und_bool rfl rfl) ?_ | refine SX_v (Val_bne und_bool rfl rfl) ?_)
    · refine SN_back (10 - (k + 1)) (by omega) Imp.refl ⟨k + 1, r, rfl, by omega, rfl, ?_, ups_ex ⟨rfl, rfl, rfl, rfl, trivial⟩⟩
      rw [hrl, part_same hkl]
      unfold unlink
      exact if_pos (by rw [← hpk]; exact h)
    all_goals try (exfalso; omega)
    all_goals
      have hku : ∀ y, k < (r.upd k y).n := fun _ => hkr
      have hkind : (r.nth k hkr).kind ≠ 0 := by first | (rename_i hk0 _; exact hk0) | (rename_i hk0; exact hk0)
      first
        | refine SX_imp (L' := [Own (r.upd k (((r.nth k hkr).leave j).setLinks (r.nth k hkr).links))]) (by unfold ObjL.leave; first | (rw [if_pos h]; exact Imp.refl) | (rw [if_neg h]; exact Imp.updSelf k hkr)) ?_
        | refine SW_imp (L' := [Own (r.upd k (((r.nth k hkr).leave j).setLinks (r.nth k hkr).links))]) (by unfold ObjL.leave; first | (rw [if_pos h]; exact Imp.refl) | (rw [if_neg h]; exact Imp.updSelf k hkr)) ?_
      repeat' (first | refine SX_v (Val_ix (s := r.upd k (((r.nth k hkr).leave j).setLinks (r.nth k hkr).links)) (Src.own 0 rfl) rfl rfl k rfl hkr) ?_ | refine SX_v (Val_ldS (s := r.upd k (((r.nth k hkr).leave j).setLinks (r.nth k hkr).links)) (Src.own 0 rfl) rfl rfl rfl (hku _) (v := (r.nth k hkr).links.val) (by rw [Sl.upd_nth]; rfl)) ?_ | refine SX_run rfl rfl ?_ | refine SX_nil ?_ | refine SN_W ?_ | refine SW_seq ?_ | refine SW_regionX ?_ | refine SX_guardT rfl ?_ | refine SX_guardF rfl rfl ?_ | refine SX_guardU rfl ?_ | refine SX_gsplitD rfl rfl (fun h => ?_) (fun h => ?_) | refine SX_gsplitN rfl rfl (fun h => ?_) (fun h => ?_) | refine SX_gsplit rfl rfl (fun h => ?_) (fun h => ?_) | refine SW_condT rfl ?_ | refine SW_condF rfl ?_ | refine SW_condD rfl (fun h => ?_) (fun h => ?_) | refine SW_condN rfl (fun h => ?_) (fun h => ?_) | refine SW_condB rfl (fun h => ?_) (fun h => ?_) | refine SW_cond rfl (fun h => ?_) (fun h => ?_) | refine SW_block ?_ | refine SW_skip ?_ | refine SW_exit ?_ | refine SN_bl0 ?_ | refine SN_blS rfl ?_ | refine SW_ret ?_ | refine SX_v (Val_len rfl) ?_ | refine SX_v (Val_fa rfl) ?_ | refine SX_v (Val_add rfl rfl (by omega) (by omega)) ?_ | refine SX_v (Val_sub rfl rfl (by omega) (by omega)) ?_ | refine SX_v (Val_mul rfl rfl (by omega) (by omega)) ?_ | refine SX_v (Val_quoN rfl rfl (by omega) (by omega) (by omega)) ?_ | refine SX_v (Val_remN rfl rfl (by omega) (by omega)) ?_ | refine SX_v (Val_min rfl rfl) ?_ | refine SX_v (Val_beq und_bool rfl rfl) ?_ | refine SX_v (Val_bne und_bool rfl rfl) ?_)
      refine SW_fact (p := (r.nth k hkr).links.n ≤ lim) (fun w hw => ?_) fun hln => ?_
      · have h1 := (Src.links (Src.elem (Src.own 0 rfl : Src lim _ _ (r.upd k (((r.nth k hkr).leave j).setLinks (r.nth k hkr).links))) k (hku _))) w hw
        rw [Sl.upd_nth] at h1
        exact h1.1
      have hln' := hln
      unfold lim at hln'
      refine SW_loop (fun m σ L => ∃ (n : Nat) (ls : Sl Int), m = (r.nth k hkr).links.n - n ∧ n ≤ (r.nth k hkr).links.n ∧ L = [Own (r.upd k (((r.nth k hkr).leave j).setLinks ls))] ∧ ls.val = (r.nth k hkr).links.val ∧ ls.n = (r.nth k hkr).links.n ∧ ls.l = part (noLink j) (r.nth k hkr).links.l n ∧ ∃ τ, σ = ups τ [(1, .int .i64 j), (6, r.val), (7, .int .i64 k), (39, .int .i64 10), (40, .int .i64 k), (64, (r.nth k hkr).links.val), (65, .int .i64 (r.nth k hkr).links.n), (66, .int .i64 n)]) (r.nth k hkr).links.n Imp.refl ⟨0, (r.nth k hkr).links, rfl, Nat.zero_le _, rfl, rfl, rfl, rfl, ups_ex ⟨rfl, rfl, rfl, rfl, rfl, rfl, rfl, rfl, trivial⟩⟩ ?_
      rintro m σ L ⟨n, ls, rfl, hn1, rfl, hv, hlsn, hls, τ, rfl⟩
      by_cases hnl : n < (r.nth k hkr).links.n
      · have hnls : n < ls.n := by omega
        have hnl' : n < (r.nth k hkr).links.l.length := by rw [Sl.hn]; exact hnl
        have hsl : ∀ L : List Atom, L[0]? = some (Own (r.upd k (((r.nth k hkr).leave j).setLinks ls))) → Src lim w L ls := fun L hL => by
          have h1 := Src.links (Src.elem (Src.own 0 hL : Src lim w L _) k (hku _))
          rw [Sl.upd_nth] at h1
          exact h1
        have hget : ls.nth n hnls = (r.nth k hkr).links.l[n] := by
          rw [← part_get (f := noLink j) hnl' (by rw [part_len]; exact hnl')]
          exact (nthL_of hls n hnls).symm
        repeat' (first | refine SX_v (Val_ix (s := r.upd k (((r.nth k hkr).leave j).setLinks ls)) (Src.own 0 rfl) rfl rfl k rfl hkr) ?_ | refine SX_v (Val_ldS (s := r.upd k (((r.nth k hkr).leave j).setLinks ls)) (Src.own 0 rfl) rfl rfl rfl (hku _) (v := ls.val) (by rw [Sl.upd_nth]; rfl)) ?_ | refine SX_v (Val_ix (s := ls) (by exact hsl _ rfl) rfl rfl n rfl hnls) ?_ | refine SX_v (Val_ix (s := ls) (by exact hsl _ rfl) (by exact hv.symm) rfl n rfl hnls) ?_ | refine SX_v (Val_ldE (s := ls) (by exact hsl _ rfl) rfl rfl hnls rfl) ?_ | (refine SX_imp ((Imp.focusU r k hkr (((r.nth k hkr).leave j).setLinks ls)).trans (Imp.openObjL _)) ?_; refine SX_w (SWl_stS 0 (s := ls) rfl (i := n) (j := 0) rfl rfl rfl hnls rfl rfl rfl (-1 : Int) rfl rfl (fun _ _ => trivial) (SWl_x ?_))) | refine SX_run rfl rfl ?_ | refine SX_nil ?_ | refine SN_W ?_ | refine SW_seq ?_ | refine SW_regionX ?_ | refine SX_guardT rfl ?_ | refine SX_guardF rfl rfl ?_ | refine SX_guardU rfl ?_ | refine SX_gsplitD rfl rfl (fun h => ?_) (fun h => ?_) | refine SX_gsplitN rfl rfl (fun h => ?_) (fun h => ?_) | refine SX_gsplit rfl rfl (fun h => ?_) (fun h => ?_) | refine SW_condT rfl ?_ | refine SW_condF rfl ?_ | refine SW_condD rfl (fun h => ?_) (fun h => ?_) | refine SW_condN rfl (fun h => ?_) (fun h => ?_) | refine SW_condB rfl (fun h => ?_) (fun h => ?_) | refine SW_cond rfl (fun h => ?_) (fun h => ?_) | refine SW_block ?_ | refine SW_skip ?_ | refine SW_exit ?_ | refine SN_bl0 ?_ | refine SN_blS rfl ?_ | refine SW_ret ?_ | refine SX_v (Val_len rfl) ?_ | refine SX_v (Val_fa rfl) ?_ | refine SX_v (Val_add rfl rfl (by omega) (by omega)) ?_ | refine SX_v (Val_sub rfl rfl (by omega) (by omega)) ?_ | refine SX_v (Val_mul rfl rfl (by omega) (by omega)) ?_ | refine SX_v (Val_quoN rfl rfl (by omega) (by omega) (by omega)) ?_ | refine SX_v (Val_remN rfl rfl (by omega) (by omega)) ?_ | refine SX_v (Val_min rfl rfl) ?_ | refine SX_v (Val_beq und_bool rfl rfl) ?_ | refine SX_v (Val_bne und_bool rfl rfl) ?_)
        all_goals try (exfalso; omega)
        · refine SN_back ((r.nth k hkr).links.n - (n + 1)) (by omega) ((Imp.joinObjL (((r.nth k hkr).leave j).setLinks (ls.upd n (-1)))).trans (Imp.unfocusU r k hkr (((r.nth k hkr).leave j).setLinks ls) _ rfl)) ⟨n + 1, ls.upd n (-1), rfl, hnl, rfl, hv, hlsn, ?_, ups_ex ⟨rfl, rfl, rfl, rfl, rfl, rfl, rfl, rfl, trivial⟩⟩
          show ls.l.set n (-1) = _
          rw [hls]
          exact part_set hnl' (by rw [← hget]; exact (if_pos h).symm)
        · refine SN_back ((r.nth k hkr).links.n - (n + 1)) (by omega) Imp.refl ⟨n + 1, ls, rfl, hnl, rfl, hv, hlsn, ?_, ups_ex ⟨rfl, rfl, rfl, rfl, rfl, rfl, rfl, rfl, trivial⟩⟩
          rw [hls, part_same hnl']
          rw [← hget]
          exact if_neg h
      · repeat' (first | refine SX_run rfl rfl ?_ | refine SX_nil ?_ | refine SN_W ?_ | refine SW_seq ?_ | refine SW_regionX ?_ | refine SX_guardT rfl ?_ | refine SX_guardF rfl rfl ?_ | refine SX_guardU rfl ?_ | refine SX_gsplitD rfl rfl (fun h => ?_) (fun h => ?_) | refine SX_gsplitN rfl rfl (fun h => ?_) (fun h => ?_) | refine SX_gsplit rfl rfl (fun h => ?_) (fun h => ?_) | refine SW_condT rfl ?_ | refine SW_condF rfl ?_ | refine SW_condD rfl (fun h => ?_) (fun h => ?_) | refine SW_condN rfl (fun h => ?_) (fun h => ?_) | refine SW_condB rfl (fun h => ?_) (fun h => ?_) | refine SW_cond rfl (fun h => ?_) (fun h => ?_) | refine SW_block ?_ | refine SW_skip ?_ | refine SW_exit ?_ | refine SN_bl0 ?_ | refine SN_blS rfl ?_ | refine SW_ret ?_ | refine SX_v (Val_len rfl) ?_ | refine SX_v (Val_fa rfl) ?_ | refine SX_v (Val_add rfl rfl (by omega) (by omega)) ?_ | refine SX_v (Val_sub rfl rfl (by omega) (by omega)) ?_ | refine SX_v (Val_mul rfl rfl (by omega) (by omega)) ?_ | refine SX_v (Val_quoN rfl rfl (by omega) (by omega) (by omega)) ?_ | refine SX_v (Val_remN rfl rfl (by omega) (by omega)) ?_ | refine SX_v (Val_min rfl rfl) ?_ | refine SX_v (Val_beq und_bool rfl rfl) ?_ | refine SX_v (Val_bne und_bool rfl rfl) ?_)
        all_goals try (exfalso; omega)
        refine SN_back (10 - (k + 1)) (by omega) Imp.refl ⟨k + 1, r.upd k (((r.nth k hkr).leave j).setLinks ls), rfl, by omega, rfl, ?_, ups_ex ⟨rfl, rfl, rfl, rfl, trivial⟩⟩
        show (r.l.set k _).map ObjL.pl = _
        rw [List.map_set, hrl]
        exact part_set hkl (by rw [unlink_pl hkind (by rw [hls, part_all (by rw [Sl.hn]; omega)]), hpk])
  · repeat' (first | refine SX_run rfl rfl ?_ | refine SX_nil ?_ | refine SN_W ?_ | refine SW_seq ?_ | refine SW_regionX ?_ | refine SX_guardT rfl ?_ | refine SX_guardF rfl rfl ?_ | refine SX_guardU rfl ?_ | refine SX_gsplitD rfl rfl (fun h => ?_) (fun h => ?_) | refine SX_gsplitN rfl rfl (fun h => ?_) (fun h => ?_) | refine SX_gsplit rfl rfl (fun h => ?_) (fun h => ?_) | refine SW_condT rfl ?_ | refine SW_condF rfl ?_ | refine SW_condD rfl (fun h => ?_) (fun h => ?_) | refine SW_condN rfl (fun h => ?_) (fun h => ?_) | refine SW_condB rfl (fun h => ?_) (fun h => ?_) | refine SW_cond rfl (fun h => ?_) (fun h => ?_) | refine SW_block ?_ | refine SW_skip ?_ | refine SW_exit ?_ | refine SN_bl0 ?_ | refine SN_blS rfl ?_ | refine SW_ret ?_ | refine SX_v (Val_len rfl) ?_ | refine SX_v (Val_fa rfl) ?_ | refine SX_v (Val_add rfl rfl (by omega) (by omega)) ?_ | refine SX_v (Val_sub rfl rfl (by omega) (by omega)) ?_ | refine SX_v (Val_mul rfl rfl (by omega) (by omega)) ?_ | refine SX_v (Val_quoN rfl rfl (by omega) (by omega) (by omega)) ?_ | refine SX_v (Val_remN rfl rfl (by omega) (by omega)) ?_ | refine SX_v (Val_min rfl rfl) ?_ | refine SX_v (Val_beq und_bool rfl rfl) ?_ | refine SX_v (Val_bne und_bool rfl rfl) ?_)
    all_goals try (exfalso; omega)
    have hk10 : k = 10 := by omega
    refine SN_ret2 rfl (RV.tmp rfl) (RV.tmp rfl) Imp.refl ⟨r, by rw [decide_eq_true hcf]; rfl, rfl, ?_⟩
    refine Eq.trans ?_ (if_pos hcf).symm
    rw [hrl, part_all (by omega), ← hl', Int.toNat_natCast]
    rfl
theorem ObjOk.two {o : Obj} (h : ObjOk o) (hk : o.kind ≠ 0) : o.links.length = 2 := by
  unfold ObjOk at h
  obtain ⟨_, h⟩ := h
  rw [if_neg hk] at h
  exact h.2.2.2.2.2.1.2.2.2.1
theorem free_links {l l' : List Obj} (hA : ArenaOk l) (j k : Nat) (hl : l.set j (bareOf (oat l j).gen) = l') (hkl : k < l'.length) (hkind : l'[k].kind ≠ 0) : l'[k].links.length = 2 := by
  subst hl
  by_cases e : j = k
  · subst e
    rw [List.getElem_set_self] at hkind
    exact absurd rfl hkind
  · rw [List.getElem_set_ne e] at hkind ⊢
    have hk' : k < l.length := by simpa using hkl
    have h1 := (hA.2.2.2.2 k hk').1
    have e2 : oat l k = l[k] := by unfold oat; simp [hk']
    rw [e2] at h1
    exact h1.two hkind
theorem sArenaFree (a : Sl ObjL) (i : Int) (w : World) (ha : Lod.rd lim w a) (hr : RgA (a.l.map ObjL.pl)) : F Try.prog 55 [a.val, .int .i64 i] w (rP Sl.val (.bool (decide (CanFree (a.l.map ObjL.pl) i))) (fun r : Sl ObjL => r.l.map ObjL.pl = arenaFree (a.l.map ObjL.pl) i)) := by
  have sa : ∀ L, Src lim w L a := fun L => Src.arg ha
  refine F_of Try.func55 rfl rfl ?_
  repeat' (first | refine SX_run rfl rfl ?_ | refine SX_nil ?_ | refine SN_W ?_ | refine SW_seq ?_ | refine SW_regionX ?_ | refine SX_guardT rfl ?_ | refine SX_guardF rfl rfl ?_ | refine SX_guardU rfl ?_ | refine SX_gsplitD rfl rfl (fun h => ?_) (fun h => ?_) | refine SX_gsplitN rfl rfl (fun h => ?_) (fun h => ?_) | refine SX_gsplit rfl rfl (fun h => ?_) (fun h => ?_) | refine SW_condT rfl ?_ | refine SW_condF rfl ?_ | refine SW_condD rfl (fun h => ?_) (fun h => ?_) | refine SW_condN rfl (fun h => ?_) (fun h => ?_) | refine SW_condB rfl (fun h => ?_) (fun h => ?_) | refine SW_cond rfl (fun h => ?_) (fun h => ?_) | refine SW_block ?_ | refine SW_skip ?_ | refine SW_exit ?_ | refine SN_bl0 ?_ | refine SN_blS rfl ?_ | refine SW_ret ?_ | refine SX_v (Val_len rfl) ?_ | refine SX_v (Val_fa rfl) ?_ | refine SX_v (Val_add rfl rfl (by omega) (by omega)) ?_ | refine SX_v (Val_sub rfl rfl (by omega) (by omega)) ?_ | refine SX_v (Val_mul rfl rfl (by omega) (by omega)) ?_ | refine SX_v (Val_quoN rfl rfl (by omega) (by omega) (by omega)) ?_ | refine SX_v (Val_remN rfl rfl (by omega) (by omega)) ?_ | refine SX_v (Val_min rfl rfl) ?_ | refine SX_v (Val_beq und_bool rfl rfl) ?_ | refine SX_v (Val_bne und_bool rfl rfl) ?_)
  (refine SWl_at 97 ?_; refine SWl_callB rfl (fun w hw => l8Copy a w (Src.arg ha w hw)) (fun y hy => SWl_x ?_))
  repeat' (first | (refine SX_at 20 ?_; refine SX_callA rfl (fun w hw => sArenaOk a w (Src.arg ha w hw) hr) ?_) | (refine SX_at 61 ?_; refine SX_callA rfl (fun w _ => l1In _ _ _ w) ?_) | refine SX_run rfl rfl ?_ | refine SX_nil ?_ | refine SN_W ?_ | refine SW_seq ?_ | refine SW_regionX ?_ | refine SX_guardT rfl ?_ | refine SX_guardF rfl rfl ?_ | refine SX_guardU rfl ?_ | refine SX_gsplitD rfl rfl (fun h => ?_) (fun h => ?_) | refine SX_gsplitN rfl rfl (fun h => ?_) (fun h => ?_) | refine SX_gsplit rfl rfl (fun h => ?_) (fun h => ?_) | refine SW_condT rfl ?_ | refine SW_condF rfl ?_ | refine SW_condD rfl (fun h => ?_) (fun h => ?_) | refine SW_condN rfl (fun h => ?_) (fun h => ?_) | refine SW_condB rfl (fun h => ?_) (fun h => ?_) | refine SW_cond rfl (fun h => ?_) (fun h => ?_) | refine SW_block ?_ | refine SW_skip ?_ | refine SW_exit ?_ | refine SN_bl0 ?_ | refine SN_blS rfl ?_ | refine SW_ret ?_ | refine SX_v (Val_len rfl) ?_ | refine SX_v (Val_fa rfl) ?_ | refine SX_v (Val_add rfl rfl (by omega) (by omega)) ?_ | refine SX_v (Val_sub rfl rfl (by omega) (by omega)) ?_ | refine SX_v (Val_mul rfl rfl (by omega) (by omega)) ?_ | refine SX_v (Val_quoN rfl rfl (by omega) (by omega) (by omega)) ?_ | refine SX_v (Val_remN rfl rfl (by omega) (by omega)) ?_ | refine SX_v (Val_min rfl rfl) ?_ | refine SX_v (Val_beq und_bool rfl rfl) ?_ | refine SX_v (Val_bne und_bool rfl rfl) ?_)
  · have e : ¬ CanFree (a.l.map ObjL.pl) i := fun e => h e.1
    exact SN_ret2 rfl (RV.tmp rfl) (RV.tmp rfl) (Imp.one 0 rfl) ⟨y, by rw [decide_eq_false e]; rfl, rfl, hy.trans (if_neg e).symm⟩
  · have e : ¬ CanFree (a.l.map ObjL.pl) i := fun e => h e.2.1
    exact SN_ret2 rfl (RV.tmp rfl) (RV.tmp rfl) (Imp.one 0 rfl) ⟨y, by rw [decide_eq_false e]; rfl, rfl, hy.trans (if_neg e).symm⟩
  rename_i hA
  obtain ⟨j, rfl⟩ : ∃ j : Nat, i = j := ⟨i.toNat, by omega⟩
  have hn := arenaOk_n hA
  have hj : j < a.n := by omega
  have hyn : y.n = 10 := by rw [← y.hn, ← List.length_map (f := ObjL.pl), hy, List.length_map, a.hn, hn]
  have hjy : j < y.n := by omega
  have hoj := oat_nth a j hj
  repeat' (first | refine SX_v (Val_ix (sa _) rfl rfl j rfl hj) ?_ | refine SX_v (Val_ldS (sa _) rfl rfl rfl hj rfl) ?_ | refine SX_v (Val_build rfl (Lod.cells (ObjL.bare (a.nth j hj).gen)) (by kernel_rfl)) ?_ | refine SX_v (Val_ix (s := y) (Src.own 0 rfl) rfl rfl j rfl hjy) ?_ | refine SX_w (SWl_stE (s := y) (i := j) (y' := ObjL.bare (a.nth j hj).gen) ((Imp.addBare _).trans Imp.swap) rfl rfl hjy rfl (SWl_x ?_)) | refine SX_run rfl rfl ?_ | refine SX_nil ?_ | refine SN_W ?_ | refine SW_seq ?_ | refine SW_regionX ?_ | refine SX_guardT rfl ?_ | refine SX_guardF rfl rfl ?_ | refine SX_guardU rfl ?_ | refine SX_gsplitD rfl rfl (fun h => ?_) (fun h => ?_) | refine SX_gsplitN rfl rfl (fun h => ?_) (fun h => ?_) | refine SX_gsplit rfl rfl (fun h => ?_) (fun h => ?_) | refine SW_condT rfl ?_ | refine SW_condF rfl ?_ | refine SW_condD rfl (fun h => ?_) (fun h => ?_) | refine SW_condN rfl (fun h => ?_) (fun h => ?_) | refine SW_condB rfl (fun h => ?_) (fun h => ?_) | refine SW_cond rfl (fun h => ?_) (fun h => ?_) | refine SW_block ?_ | refine SW_skip ?_ | refine SW_exit ?_ | refine SN_bl0 ?_ | refine SN_blS rfl ?_ | refine SW_ret ?_ | refine SX_v (Val_len rfl) ?_ | refine SX_v (Val_fa rfl) ?_ | refine SX_v (Val_add rfl rfl (by omega) (by omega)) ?_ | refine SX_v (Val_sub rfl rfl (by omega) (by omega)) ?_ | refine SX_v (Val_mul rfl rfl (by omega) (by omega)) ?_ | refine SX_v (Val_quoN rfl rfl (by omega) (by omega) (by omega)) ?_ | refine SX_v (Val_remN rfl rfl (by omega) (by omega)) ?_ | refine SX_v (Val_min rfl rfl) ?_ | refine SX_v (Val_beq und_bool rfl rfl) ?_ | refine SX_v (Val_bne und_bool rfl rfl) ?_)
  · have e : ¬ CanFree (a.l.map ObjL.pl) j := fun e => e.2.2 (by rw [Int.toNat_natCast, hoj]; exact h)
    exact SN_ret2 rfl (RV.tmp rfl) (RV.tmp rfl) (Imp.one 0 rfl) ⟨y, by rw [decide_eq_false e]; rfl, rfl, hy.trans (if_neg e).symm⟩
  have hcf : CanFree (a.l.map ObjL.pl) j := ⟨hA, by omega, by rw [Int.toNat_natCast, hoj]; exact h⟩
  have hl0 : (y.upd j (ObjL.bare (a.nth j hj).gen)).l.map ObjL.pl = (a.l.map ObjL.pl).set j (bareOf (oat (a.l.map ObjL.pl) j).gen) := by
    show (y.l.set j _).map ObjL.pl = _
    rw [List.map_set, hy, hoj]
    rfl
  obtain ⟨l', hl'⟩ : ∃ l', (a.l.map ObjL.pl).set j (bareOf (oat (a.l.map ObjL.pl) j).gen) = l' := ⟨_, rfl⟩
  have hlen : l'.length = 10 := by rw [← hl', List.length_set, List.length_map, a.hn, hn]
  refine SW_loop (fun m σ L => ∃ (k : Nat) (r : Sl ObjL), m = 10 - k ∧ k ≤ 10 ∧ L = [Own r] ∧ r.l.map ObjL.pl = part (unlink j) l' k ∧ ∃ τ, σ = ups τ [(1, .int .i64 j), (6, r.val), (7, .int .i64 k)]) 10 (Imp.one 0 rfl) ⟨0, y.upd j (ObjL.bare (a.nth j hj).gen), rfl, Nat.zero_le _, rfl, hl0.trans hl', ups_ex ⟨rfl, rfl, rfl, trivial⟩⟩ ?_
  rintro m σ L ⟨k, r, rfl, hk, rfl, hrl, τ, rfl⟩
  have hrn : r.n = 10 := by rw [← r.hn, ← List.length_map (f := ObjL.pl), hrl, part_len, hlen]
  by_cases hlt : k < 10
  · have hkr : k < r.n := by omega
    have hkl : k < l'.length := by omega
    have hpk : (r.nth k hkr).pl = l'[k] := by
      rw [← part_get (f := unlink j) hkl (by rw [part_len]; exact hkl)]
      have := oat_nth r k hkr
      rw [hrl] at this
      rw [← this]
      unfold oat
      rw [List.getD_eq_getElem?_getD, List.getElem?_eq_getElem (by rw [part_len]; exact hkl)]
      rfl
    repeat' (first | refine SX_v (Val_ix (s := r) (Src.own 0 rfl) rfl rfl k rfl hkr) ?_ | refine SX_v (Val_ldS (s := r) (Src.own 0 rfl) rfl rfl rfl hkr rfl) ?_ | refine SX_w (SWl_stS 0 (s := r) rfl (i := k) (j := 2) rfl rfl rfl hkr rfl rfl rfl { r.nth k hkr with inn := -1 } rfl rfl (fun _ h => h) (SWl_x ?_)) | refine SX_run rfl rfl ?_ | refine SX_nil ?_ | refine SN_W ?_ | refine SW_seq ?_ | refine SW_regionX ?_ | refine SX_guardT rfl ?_ | refine SX_guardF rfl rfl ?_ | refine SX_guardU rfl ?_ | refine SX_gsplitD rfl rfl (fun h => ?_) (fun h => ?_) | refine SX_gsplitN rfl rfl (fun h => ?_) (fun h => ?_) | refine SX_gsplit rfl rfl (fun h => ?_) (fun h => ?_) | refine SW_condT rfl ?_ | refine SW_condF rfl ?_ | refine SW_condD rfl (fun h => ?_) (fun h => ?_) | refine SW_condN rfl (fun h => ?_) (fun h => ?_) | refine SW_condB rfl (fun h => ?_) (fun h => ?_) | refine SW_cond rfl (fun h => ?_) (fun h => ?_) | refine SW_block ?_ | refine SW_skip ?_ | refine SW_exit ?_ | refine SN_bl0 ?_ | refine SN_blS rfl ?_ | refine SW_ret ?_ | refine SX_v (Val_len rfl) ?_ | refine SX_v (Val_fa rfl) ?_ | refine SX_v (Val_add rfl rfl (by omega) (by omega)) ?_ | refine SX_v (Val_sub rfl rfl (by omega) (by omega)) ?_ | refine SX_v (Val_mul rfl rfl (by omega) (by omega)) ?_ | refine SX_v (Val_quoN rfl rfl (by omega) (by omega) (by omega)) ?_ | refine SX_v (Val_remN rfl rfl (by omega) (by omega)) ?_ | refine SX_v (Val_min rfl rfl) ?_ | refine SX_v (Val_beq und_bool rfl rfl) ?_ | refine SX_v (Val_bne und_bool rfl rfl) ?_)
    · refine SN_back (10 - (k + 1)) (by omega) Imp.refl ⟨k + 1, r, rfl, by omega, rfl, ?_, ups_ex ⟨rfl, rfl, rfl, trivial⟩⟩
      rw [hrl, part_same hkl]
      unfold unlink
      exact if_pos (by rw [← hpk]; exact h)
    all_goals try (exfalso; omega)
    all_goals
      have hku : ∀ y, k < (r.upd k y).n := fun _ => hkr
      have hkind : (r.nth k hkr).kind ≠ 0 := by first | (rename_i hk0 _; exact hk0) | (rename_i hk0; exact hk0)
      first
        | refine SX_imp (L' := [Own (r.upd k (((r.nth k hkr).leave j).setLinks (r.nth k hkr).links))]) (by unfold ObjL.leave; first | (rw [if_pos h]; exact Imp.refl) | (rw [if_neg h]; exact Imp.updSelf k hkr)) ?_
        | refine SW_imp (L' := [Own (r.upd k (((r.nth k hkr).leave j).setLinks (r.nth k hkr).links))]) (by unfold ObjL.leave; first | (rw [if_pos h]; exact Imp.refl) | (rw [if_neg h]; exact Imp.updSelf k hkr)) ?_
      repeat' (first | refine SX_v (Val_ix (s := r.upd k (((r.nth k hkr).leave j).setLinks (r.nth k hkr).links)) (Src.own 0 rfl) rfl rfl k rfl hkr) ?_ | refine SX_v (Val_ldS (s := r.upd k (((r.nth k hkr).leave j).setLinks (r.nth k hkr).links)) (Src.own 0 rfl) rfl rfl rfl (hku _) (v := (r.nth k hkr).links.val) (by rw [Sl.upd_nth]; rfl)) ?_ | refine SX_run rfl rfl ?_ | refine SX_nil ?_ | refine SN_W ?_ | refine SW_seq ?_ | refine SW_regionX ?_ | refine SX_guardT rfl ?_ | refine SX_guardF rfl rfl ?_ | refine SX_guardU rfl ?_ | refine SX_gsplitD rfl rfl (fun h => ?_) (fun h => ?_) | refine SX_gsplitN rfl rfl (fun h => ?_) (fun h => ?_) | refine SX_gsplit rfl rfl (fun h => ?_) (fun h => ?_) | refine SW_condT rfl ?_ | refine SW_condF rfl ?_ | refine SW_condD rfl (fun h => ?_) (fun h => ?_) | refine SW_condN rfl (fun h => ?_) (fun h => ?_) | refine SW_condB rfl (fun h => ?_) (fun h => ?_) | refine SW_cond rfl (fun h => ?_) (fun h => ?_) | refine SW_block ?_ | refine SW_skip ?_ | refine SW_exit ?_ | refine SN_bl0 ?_ | refine SN_blS rfl ?_ | refine SW_ret ?_ | refine SX_v (Val_len rfl) ?_ | refine SX_v (Val_fa rfl) ?_ | refine SX_v (Val_add rfl rfl (by omega) (by omega)) ?_ | refine SX_v (Val_sub rfl rfl (by omega) (by omega)) ?_ | refine SX_v (Val_mul rfl rfl (by omega) (by omega)) ?_ | refine SX_v (Val_quoN rfl rfl (by omega) (by omega) (by omega)) ?_ | refine SX_v (Val_remN rfl rfl (by omega) (by omega)) ?_ | refine SX_v (Val_min rfl rfl) ?_ | refine SX_v (Val_beq und_bool rfl rfl) ?_ | refine SX_v (Val_bne und_bool rfl rfl) ?_)
      refine SW_fact (p := (r.nth k hkr).links.n ≤ lim) (fun w hw => ?_) fun hln => ?_
      · have h1 := (Src.links (Src.elem (Src.own 0 rfl : Src lim _ _ (r.upd k (((r.nth k hkr).leave j).setLinks (r.nth k hkr).links))) k (hku _))) w hw
        rw [Sl.upd_nth] at h1
        exact h1.1
      have hl2 : (r.nth k hkr).links.n = 2 := by
        have h2 := free_links hA j k hl' hkl (by rw [← hpk]; exact hkind)
        rw [← hpk] at h2
        exact (Sl.hn _).symm.trans h2
      have hln' := hln
      unfold lim at hln'
      refine SW_loop (fun m σ L => ∃ (n : Nat) (ls : Sl Int), m = (r.nth k hkr).links.n - n ∧ n ≤ (r.nth k hkr).links.n ∧ L = [Own (r.upd k (((r.nth k hkr).leave j).setLinks ls))] ∧ ls.val = (r.nth k hkr).links.val ∧ ls.n = (r.nth k hkr).links.n ∧ ls.l = part (noLink j) (r.nth k hkr).links.l n ∧ ∃ τ, σ = ups τ [(1, .int .i64 j), (6, r.val), (7, .int .i64 k), (8, .int .i64 n)]) (r.nth k hkr).links.n Imp.refl ⟨0, (r.nth k hkr).links, rfl, Nat.zero_le _, rfl, rfl, rfl, rfl, ups_ex ⟨rfl, rfl, rfl, rfl, trivial⟩⟩ ?_
      rintro m σ L ⟨n, ls, rfl, hn1, rfl, hv, hlsn, hls, τ, rfl⟩
      by_cases hnl : n < (r.nth k hkr).links.n
      · have hnls : n < ls.n := by omega
        have hnl' : n < (r.nth k hkr).links.l.length := by rw [Sl.hn]; exact hnl
        have hsl : ∀ L : List Atom, L[0]? = some (Own (r.upd k (((r.nth k hkr).leave j).setLinks ls))) → Src lim w L ls := fun L hL => by
          have h1 := Src.links (Src.elem (Src.own 0 hL : Src lim w L _) k (hku _))
          rw [Sl.upd_nth] at h1
          exact h1
        have hget : ls.nth n hnls = (r.nth k hkr).links.l[n] := by
          rw [← part_get (f := noLink j) hnl' (by rw [part_len]; exact hnl')]
          exact (nthL_of hls n hnls).symm
        repeat' (first | refine SX_v (Val_ix (s := r.upd k (((r.nth k hkr).leave j).setLinks ls)) (Src.own 0 rfl) rfl rfl k rfl hkr) ?_ | refine SX_v (Val_ldS (s := r.upd k (((r.nth k hkr).leave j).setLinks ls)) (Src.own 0 rfl) rfl rfl rfl (hku _) (v := ls.val) (by rw [Sl.upd_nth]; rfl)) ?_ | refine SX_v (Val_ix (s := ls) (by exact hsl _ rfl) rfl rfl n rfl hnls) ?_ | refine SX_v (Val_ix (s := ls) (by exact hsl _ rfl) (by exact hv.symm) rfl n rfl hnls) ?_ | refine SX_v (Val_ldE (s := ls) (by exact hsl _ rfl) rfl rfl hnls rfl) ?_ | (refine SX_imp ((Imp.focusU r k hkr (((r.nth k hkr).leave j).setLinks ls)).trans (Imp.openObjL _)) ?_; refine SX_w (SWl_stS 0 (s := ls) rfl (i := n) (j := 0) rfl rfl rfl hnls rfl rfl rfl (-1 : Int) rfl rfl (fun _ _ => trivial) (SWl_x ?_))) | refine SX_run rfl rfl ?_ | refine SX_nil ?_ | refine SN_W ?_ | refine SW_seq ?_ | refine SW_regionX ?_ | refine SX_guardT rfl ?_ | refine SX_guardF rfl rfl ?_ | refine SX_guardU rfl ?_ | refine SX_gsplitD rfl rfl (fun h => ?_) (fun h => ?_) | refine SX_gsplitN rfl rfl (fun h => ?_) (fun h => ?_) | refine SX_gsplit rfl rfl (fun h => ?_) (fun h => ?_) | refine SW_condT rfl ?_ | refine SW_condF rfl ?_ | refine SW_condD rfl (fun h => ?_) (fun h => ?_) | refine SW_condN rfl (fun h => ?_) (fun h => ?_) | refine SW_condB rfl (fun h => ?_) (fun h => ?_) | refine SW_cond rfl (fun h => ?_) (fun h => ?_) | refine SW_block ?_ | refine SW_skip ?_ | refine SW_exit ?_ | refine SN_bl0 ?_ | refine SN_blS rfl ?_ | refine SW_ret ?_ | refine SX_v (Val_len rfl) ?_ | refine SX_v (Val_fa rfl) ?_ | refine SX_v (Val_add rfl rfl (by omega) (by omega)) ?_ | refine SX_v (Val_sub rfl rfl (by omega) (by omega)) ?_ | refine SX_v (Val_mul rfl rfl (by omega) (by omega)) ?_ | refine SX_v (Val_quoN rfl rfl (by omega) (by omega) (by omega)) ?_ | refine SX_v (Val_remN rfl rfl (by omega) (by omega)) ?_ | refine SX_v (Val_min rfl rfl) ?_ | refine SX_v (Val_beq und_bool rfl rfl) ?_ | refine SX_v (Val_bne und_bool rfl rfl) ?_)
        all_goals try (exfalso; omega)
        · refine SN_back ((r.nth k hkr).links.n - (n + 1)) (by omega) ((Imp.joinObjL (((r.nth k hkr).leave j).setLinks (ls.upd n (-1)))).trans (Imp.unfocusU r k hkr (((r.nth k hkr).leave j).setLinks ls) _ rfl)) ⟨n + 1, ls.upd n (-1), rfl, hnl, rfl, hv, hlsn, ?_, ups_ex ⟨rfl, rfl, rfl, rfl, trivial⟩⟩
          show ls.l.set n (-1) = _
          rw [hls]
          exact part_set hnl' (by rw [← hget]; exact (if_pos h).symm)
        · refine SN_back ((r.nth k hkr).links.n - (n + 1)) (by omega) Imp.refl ⟨n + 1, ls, rfl, hnl, rfl, hv, hlsn, ?_, ups_ex ⟨rfl, rfl, rfl, rfl, trivial⟩⟩
          rw [hls, part_same hnl']
          rw [← hget]
          exact if_neg h
      · repeat' (first | refine SX_run rfl rfl ?_ | refine SX_nil ?_ | refine SN_W ?_ | refine SW_seq ?_ | refine SW_regionX ?_ | refine SX_guardT rfl ?_ | refine SX_guardF rfl rfl ?_ | refine SX_guardU rfl ?_ | refine SX_gsplitD rfl rfl (fun h => ?_) (fun h => ?_) | refine SX_gsplitN rfl rfl (fun h => ?_) (fun h => ?_) | refine SX_gsplit rfl rfl (fun h => ?_) (fun h => ?_) | refine SW_condT rfl ?_ | refine SW_condF rfl ?_ | refine SW_condD rfl (fun h => ?_) (fun h => ?_) | refine SW_condN rfl (fun h => ?_) (fun h => ?_) | refine SW_condB rfl (fun h => ?_) (fun h => ?_) | refine SW_cond rfl (fun h => ?_) (fun h => ?_) | refine SW_block ?_ | refine SW_skip ?_ | refine SW_exit ?_ | refine SN_bl0 ?_ | refine SN_blS rfl ?_ | refine SW_ret ?_ | refine SX_v (Val_len rfl) ?_ | refine SX_v (Val_fa rfl) ?_ | refine SX_v (Val_add rfl rfl (by omega) (by omega)) ?_ | refine SX_v (Val_sub rfl rfl (by omega) (by omega)) ?_ | refine SX_v (Val_mul rfl rfl (by omega) (by omega)) ?_ | refine SX_v (Val_quoN rfl rfl (by omega) (by omega) (by omega)) ?_ | refine SX_v (Val_remN rfl rfl (by omega) (by omega)) ?_ | refine SX_v (Val_min rfl rfl) ?_ | refine SX_v (Val_beq und_bool rfl rfl) ?_ | refine SX_v (Val_bne und_bool rfl rfl) ?_)
        all_goals try (exfalso; omega)
        refine SN_back (10 - (k + 1)) (by omega) Imp.refl ⟨k + 1, r.upd k (((r.nth k hkr).leave j).setLinks ls), rfl, by omega, rfl, ?_, ups_ex ⟨rfl, rfl, rfl, trivial⟩⟩
        show (r.l.set k _).map ObjL.pl = _
        rw [List.map_set, hrl]
        exact part_set hkl (by rw [unlink_pl hkind (by rw [hls, part_all (by rw [Sl.hn]; omega)]), hpk])
  · repeat' (first | refine SX_run rfl rfl ?_ | refine SX_nil ?_ | refine SN_W ?_ | refine SW_seq ?_ | refine SW_regionX ?_ | refine SX_guardT rfl ?_ | refine SX_guardF rfl rfl ?_ | refine SX_guardU rfl ?_ | refine SX_gsplitD rfl rfl (fun h => ?_) (fun h => ?_) | refine SX_gsplitN rfl rfl (fun h => ?_) (fun h => ?_) | refine SX_gsplit rfl rfl (fun h => ?_) (fun h => ?_) | refine SW_condT rfl ?_ | refine SW_condF rfl ?_ | refine SW_condD rfl (fun h => ?_) (fun h => ?_) | refine SW_condN rfl (fun h => ?_) (fun h => ?_) | refine SW_condB rfl (fun h => ?_) (fun h => ?_) | refine SW_cond rfl (fun h => ?_) (fun h => ?_) | refine SW_block ?_ | refine SW_skip ?_ | refine SW_exit ?_ | refine SN_bl0 ?_ | refine SN_blS rfl ?_ | refine SW_ret ?_ | refine SX_v (Val_len rfl) ?_ | refine SX_v (Val_fa rfl) ?_ | refine SX_v (Val_add rfl rfl (by omega) (by omega)) ?_ | refine SX_v (Val_sub rfl rfl (by omega) (by omega)) ?_ | refine SX_v (Val_mul rfl rfl (by omega) (by omega)) ?_ | refine SX_v (Val_quoN rfl rfl (by omega) (by omega) (by omega)) ?_ | refine SX_v (Val_remN rfl rfl (by omega) (by omega)) ?_ | refine SX_v (Val_min rfl rfl) ?_ | refine SX_v (Val_beq und_bool rfl rfl) ?_ | refine SX_v (Val_bne und_bool rfl rfl) ?_)
    all_goals try (exfalso; omega)
    have hk10 : k = 10 := by omega
    refine SN_ret2 rfl (RV.tmp rfl) (RV.tmp rfl) Imp.refl ⟨r, by rw [decide_eq_true hcf]; rfl, rfl, ?_⟩
    refine Eq.trans ?_ (if_pos hcf).symm
    rw [hrl, part_all (by omega), ← hl', Int.toNat_natCast]
    rfl
end Go.Proofs.Ytandadfmmohhhaa.E
