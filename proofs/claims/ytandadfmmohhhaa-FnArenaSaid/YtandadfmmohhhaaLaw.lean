/-
  From a contract 'the law returns true and leaves what was there alone' to the law's statement.
-/
import Derived.Test.YtandadfmmohhhaaRead
import Derived.Test.YtandadfmmohhhaaRows
namespace Go.Proofs.Ytandadfmmohhhaa.E
open Go Go.RowKit Go.ChangeShapes Go.WideShapes Go.ChangeAt
set_option maxRecDepth 100000

theorem own_knob : ownKnob Try.prog.godebug = none := by kernel_rfl
theorem laid_out : laidOutB Try.prog = true := by kernel_rfl

section
variable {H : Type} {enc : TypeId × Value → H} {W W' : World}

theorem readInt {v : Value} {d : DataW H} {p : List MemPlace} {base : Nat} (hv : Value.okWide Try.prog W .any base tyInt v) (h : DataW.Trod enc Try.prog W 0 (fun _ => true) true tyInt v d p) : ∃ z : Int, v = .int .i64 z := by
  obtain ⟨z, rfl, _⟩ := open_int und_int hv h
  exact ⟨z, rfl⟩

theorem readSl {T e : TypeId} {sz by_ : Nat} {α : Type} [Lod α] [Rg α] [hT : SlT Try.prog T e sz by_] [hR : RdC Try.prog T (Sl α)] {v : Value} {d : DataW H} {p : List MemPlace} {base : Nat} (hv : Value.okWide Try.prog W .any base T v) (h : DataW.Trod enc Try.prog W 0 (fun _ => true) true T v d p) :
    ∃ s : Sl α, v = s.val ∧ Lod.rd maxLen W s ∧ Rg.rg s := by
  obtain ⟨a0, len, cap, rfl⟩ := okWide_slice hT.und hv
  obtain ⟨fuel, hf⟩ := h
  obtain ⟨s, hs, hr⟩ := hR.rd hf
  refine ⟨s, ?_, hr⟩
  have : [Value.slice a0 len cap] = [s.val] := hs
  simpa using this

theorem readAg {T : TypeId} {fs : Array Field} {α : Type} [Lod α] [Rg α] (hT : Try.prog.underlying T = some (.struct fs)) [hR : RdC Try.prog T α] {v : Value} {d : DataW H} {p : List MemPlace} {base : Nat} (hv : Value.okWide Try.prog W .any base T v) (h : DataW.Trod enc Try.prog W 0 (fun _ => true) true T v d p) :
    ∃ x : α, v = .agg (Lod.cells x).toArray ∧ Lod.rd maxLen W x ∧ Rg.rg x := by
  unfold Value.okWide at hv
  rw [hT] at hv
  obtain ⟨cs, rfl, _, _⟩ := hv
  obtain ⟨fuel, hf⟩ := h
  obtain ⟨x, hx, hr⟩ := hR.rd hf
  refine ⟨x, ?_, hr⟩
  rw [← hx]
  rfl

theorem trodAll_below : ∀ {ts : List TypeId} {vs : List Value} {ds : List (DataW H)} {ps : List MemPlace}, (∀ t, t ∈ ts → Try.prog.readableRec t = true ∧ t < Try.prog.types.size) → DataW.TrodAll enc Try.prog W 0 (fun _ => true) true ts vs ds ps → Below W.heap.size W W' →
    (∀ x, x ∈ ps → x.block < W.heap.size) → DataW.TrodAll enc Try.prog W' 0 (fun b => decide (b < W.heap.size)) true ts vs ds ps
  | [], [], [], _, _, h, _, _ => h
  | t :: ts, v :: vs, d :: ds, ps, ht, h, hb, hlt => by
    obtain ⟨p, q, h1, h2, rfl⟩ := h
    exact ⟨p, q, Below.trod laid_out (ht t (by simp)).1 (ht t (by simp)).2 h1 hb (fun x hx => hlt x (by simp [hx])), trodAll_below (fun t ht' => ht t (by simp [ht'])) h2 hb (fun x hx => hlt x (by simp [hx])), rfl⟩
  | [], _ :: _, _, _, _, h, _, _ => h.elim
  | [], [], _ :: _, _, _, h, _, _ => h.elim
  | _ :: _, [], _, _, _, h, _, _ => h.elim
  | _ :: _, _ :: _, [], _, _, h, _, _ => h.elim

theorem law_post {fn : Func} {s : ChangeSpec} {args : Array Value} {ds gs : List (DataW H)} {before : List MemPlace} (hvars : s.vars = []) (hrt : fn.resultTypes = #[tyBool])
    (hts : (fn.params.toList.all fun t => Try.prog.readableRec t && decide (t < Try.prog.types.size)) = true) (hW : DataW.Whole enc Try.prog fn.params.toList s.vars false W args.toList ds gs before)
    (hfn : s.fn H (ds ++ gs) = { results := [.lit (.bool true)], args := ds }) (hb : Below W.heap.size W W') : s.post enc Try.prog fn false true false false W args (.bool true) W' := by
  have hlt := hW.lt
  have hW0 := hW
  obtain ⟨p, q, hA, hV, rfl, _, _⟩ := hW
  rw [hvars] at hV
  obtain ⟨rfl, rfl⟩ := trodVars_none hV
  have hr : ∀ t, t ∈ fn.params.toList → Try.prog.readableRec t = true ∧ t < Try.prog.types.size := by
    intro t ht
    have := List.all_eq_true.1 hts t ht
    simpa using this
  have hA' := trodAll_below hr hA hb (fun x hx => hlt x (by simp [hx]))
  refine ⟨ds, [], p ++ [], [], p, [], hW0, ?_, ?_, ?_, ?_, fun h => by cases h⟩
  · rw [hfn, hrt]
    exact trodAll_cons_mk (shut_bool und_bool _) trodAll_mk0
  · rw [hfn]
    exact hA'
  · rw [hfn, hvars]
    rfl
  · exact hb.frame _
end
end Go.Proofs.Ytandadfmmohhhaa.E
