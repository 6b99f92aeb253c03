/- Contract of the law's example, by hand. -/
import Derived.Test.YtiendnnbflooeaaVH4
namespace Go.Proofs.Ytiendnnbflooeaa.V
open Go.RowKit Go.Proofs.YtiendnnbflooeaaW.PrintWords Go.Proofs.YtiendnnbflooeaaW.PrintLast Go.Proofs.YtiendnnbflooeaaW.PrintMore
attribute [local go_sem] max2_int min2_int max_two min_two max_three min_three max_four min_four
set_option linter.unusedVariables false
set_option linter.unusedSimpArgs false

/-- A block written out is a row of sorts. -/
theorem R24_block {w : World} {base g : Nat} {ok : Nat → Prop} {xs : List S24} {cells : List Value} (hb : w.heap[g]? = some (.cells cells.toArray 24 (0, 0))) (hbase : base ≤ g) (hok : ok g) (hl : cells.length = xs.length) (hm : xs.length ≤ 9223372036854775807)
    (hM : ∀ (j : Nat) (x : S24), xs[j]? = some x → ∃ c, cells[j]? = some c ∧ Kd.R k24 24 w base (fun k => ok k ∧ k ≠ g) c x.f0) : Kd.R k24 24 w base ok (.slice (some ⟨g, 0, none⟩) xs.length xs.length) xs := by
  refine ⟨fun k hk => by have : g = k := by simpa [Value.ownBlock] using hk
                         subst this; exact hok, cells, ⟨by rw [hl]; exact (Nat.mul_one _).symm, .inr ⟨g, xs.length, cells.toArray, rfl, hbase, hb, Nat.le_refl _, by simp only [maxLen]; omega, ?_, ?_⟩⟩, ?_, ?_⟩
  · show cells.toArray.size = xs.length * 1; simp [hl]
  · show cells.toArray.toList.take (xs.length * 1) = cells; simp [← hl]
  · show cells.length = xs.length * 1; rw [hl, Nat.mul_one]
  · intro j x hj
    obtain ⟨c, hc, hr⟩ := hM j x hj
    have hlt : j < cells.length := (List.getElem?_eq_some_iff.1 hc).1
    have e1 : (cells.drop (j * k24.sz)).take k24.sz = [c] := by
      show (cells.drop (j * 1)).take 1 = [c]
      rw [Nat.mul_one, List.drop_eq_getElem_cons hlt, List.take_succ_cons, List.take_zero]
      rw [List.getElem?_eq_getElem hlt] at hc
      injection hc with hc
      rw [hc]
    rw [e1]
    refine k24_mkM w base _ x (Kd.R_mono hr (fun k hk => ⟨hk.1, ?_⟩))
    simp only [Value.ownBlock]
    intro he
    injection he with he
    exact hk.2 he

/-! ### virgationlaw01_example: function 37 -/
def virgationlaw01_example.f : Option (List S24) := some [⟨[⟨[]⟩]⟩, ⟨[]⟩]
theorem virgationlaw01_example.calls (r : List S24) (w : World) (h : virgationlaw01_example.f = some r) :
    Calls Try.prog 37 #[] w fun e w' => ∃ v0_ : Value, e = .returned (.agg #[v0_]) ∧ Kd.R k24 24 w' w.heap.size (fun _ => True) v0_ r ∧ Below w.heap.size w w' := by
  have hu24 := Try.underlying24
  obtain rfl := Option.some.inj h
  clear h
  go_enter Try.func37, Try.ntmps37
  go_wp2_with fail
  have h0 := blk_new w (.cells #[.slice (some ⟨w.heap.size + 1 + 1 + 1, 0, none⟩) 2 2] 24)
  have HB1 := below_alloc (Below.refl w.heap.size w) (.cells #[.slice (some ⟨w.heap.size + 1 + 1 + 1, 0, none⟩) 2 2] 24)
  have s1 : (w.alloc (.cells #[.slice (some ⟨w.heap.size + 1 + 1 + 1, 0, none⟩) 2 2] 24)).heap.size = w.heap.size + 1 := by simp
  generalize w.alloc (.cells #[.slice (some ⟨w.heap.size + 1 + 1 + 1, 0, none⟩) 2 2] 24) = w1 at *
  have h1 := blk_alloc h0 (.cells #[.slice none 0 0] 24)
  have HB2 := below_alloc HB1 (.cells #[.slice none 0 0] 24)
  have s2 : (w1.alloc (.cells #[.slice none 0 0] 24)).heap.size = w.heap.size + 1 + 1 := by simp [s1]
  generalize w1.alloc (.cells #[.slice none 0 0] 24) = w2 at *
  have h2 := blk_alloc h1 (.cells #[.slice none 0 0] 24)
  have i2 := blk_new w2 (.cells #[.slice none 0 0] 24)
  have HB3 := below_alloc HB2 (.cells #[.slice none 0 0] 24)
  have s3 : (w2.alloc (.cells #[.slice none 0 0] 24)).heap.size = w.heap.size + 1 + 1 + 1 := by simp [s2]
  rw [s2] at i2
  generalize w2.alloc (.cells #[.slice none 0 0] 24) = w3 at *
  have h3 := blk_alloc h2 (.cells #[.slice (some ⟨w.heap.size + 1 + 1, 0, none⟩) 1 1, .slice none 0 0] 24)
  have i3 := blk_alloc i2 (.cells #[.slice (some ⟨w.heap.size + 1 + 1, 0, none⟩) 1 1, .slice none 0 0] 24)
  have j3 := blk_new w3 (.cells #[.slice (some ⟨w.heap.size + 1 + 1, 0, none⟩) 1 1, .slice none 0 0] 24)
  have HB4 := below_alloc HB3 (.cells #[.slice (some ⟨w.heap.size + 1 + 1, 0, none⟩) 1 1, .slice none 0 0] 24)
  rw [s3] at j3
  generalize w3.alloc (.cells #[.slice (some ⟨w.heap.size + 1 + 1, 0, none⟩) 1 1, .slice none 0 0] 24) = w4 at *
  refine bodyPost_ret (results_cell_row rfl _ _ w.heap.size 24 #[.slice (some ⟨w.heap.size + 1 + 1 + 1, 0, none⟩) 2 2] (0, 0) _ rfl h3 Try.underlying24 rfl (by kernel_rfl)) rfl ?_
  refine ⟨_, rfl, ?_, HB4⟩
  refine R24_block (cells := [.slice (some ⟨w.heap.size + 1 + 1, 0, none⟩) 1 1, .slice none 0 0]) j3 (by omega) trivial rfl (by simp) ?_
  intro j x hj
  match j, hj with
  | 0, hj =>
    injection hj with hj
    subst hj
    refine ⟨_, rfl, R24_block (cells := [.slice none 0 0]) i3 (by omega) ⟨trivial, by omega⟩ rfl (by simp) ?_⟩
    intro j x hj
    match j, hj with
    | 0, hj =>
      injection hj with hj
      subst hj
      exact ⟨_, rfl, Kd.R_nil _ _ _ _ _⟩
  | 1, hj =>
    injection hj with hj
    subst hj
    exact ⟨_, rfl, Kd.R_nil _ _ _ _ _⟩
end Go.Proofs.Ytiendnnbflooeaa.V
