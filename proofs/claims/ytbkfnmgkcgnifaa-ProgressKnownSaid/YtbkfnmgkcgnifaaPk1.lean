/- ProgressKnown: what is said of single plans holds (a closed statement: there is no input). -/
import Derived.Test.YtbkfnmgkcgnifaaU5
import Derived.Deep.DeepCutAuto
import Derived.SizedLaws
import Derived.ChangeSlices
import Derived.Test.YtbkfnmgkcgnifaaRows
import Derived.WalkKit
import Derived.ProofKit
import Derived.OpenShut
import Derived.ChangeOld
import Derived.Below
set_option linter.all false
namespace Go.Proofs.Ytbkfnmgkcgnifaa
open Go.RowKit Go.Shelf Go.Proofs.YtbkfnmgkcgnifaaW.PrintWords Go.Proofs.YtbkfnmgkcgnifaaW.PrintLast Mdl
theorem is_run (a b c x y z : Int) (w : World) : (binOp .eql 57 (.agg #[.int .i64 a, .int .i64 b, .int .i64 c]) (.agg #[.int .i64 x, .int .i64 y, .int .i64 z])).run Try.prog w = .ok (.bool ((a == x) && ((b == y) && (c == z)))) w := by
 have h := run_eql_struct (P := Try.prog) (w := w) 57 #[.int .i64 a, .int .i64 b, .int .i64 c] #[.int .i64 x, .int .i64 y, .int .i64 z]
 rw [h, eq_run 9997 a b c x y z w]; rfl
end Go.Proofs.Ytbkfnmgkcgnifaa
namespace Go.Proofs.Ytbkfnmgkcgnifaa
open Go.RowKit Go.Shelf Go.Proofs.YtbkfnmgkcgnifaaW.PrintWords Go.Proofs.YtbkfnmgkcgnifaaW.PrintLast Mdl
def LitsM {α : Type} (d : Kd α) (w : World) (base : Nat) (ok : Nat → Prop) : List α → List (List Value) → Prop
 | [], [] => True
 | x :: xs, c :: cs => d.M w base ok x c ∧ LitsM d w base ok xs cs
 | _, _ => False
theorem LitsM.reps {α : Type} {d : Kd α} {w : World} {base : Nat} {ok : Nat → Prop} : ∀ {xs : List α} {css : List (List Value)}, LitsM d w base ok xs css → Reps (d.M w base ok) d.sz xs css.flatten
 | [], [], _ => Reps.none _ _
 | x :: xs, c :: cs, h => by
  have hl := d.K_len (d.K_of_M h.1)
  obtain ⟨h1, h2⟩ := h.2.reps
  refine ⟨by rw [List.flatten_cons, List.length_append, h1, hl, List.length_cons, Nat.succ_mul]; omega, fun j p hj => ?_⟩
  rw [List.flatten_cons]
  cases j with
  | zero => simp only [List.getElem?_cons_zero, Option.some.injEq] at hj; subst hj; rw [Nat.zero_mul, List.drop_zero, ← hl, List.take_left' rfl]; exact h.1
  | succ j =>
   have := h2 j p (by simpa using hj)
   rwa [Nat.succ_mul, Nat.add_comm, ← hl, ← List.drop_drop, List.drop_left' rfl, hl]
theorem R_lits {α : Type} {d : Kd α} {w : World} {e base g : Nat} {xs : List α} {ok : Nat → Prop} (css : List (List Value)) (hb : w.heap[g]? = some (.cells css.flatten.toArray e (0, 0))) (hg : base ≤ g) (hok : ok g) (hl : LitsM d w base (fun k => ok k ∧ k ≠ g) xs css) (hm : xs.length ≤ 1000000) : d.R e w base ok (.slice (some ⟨g, 0, none⟩) xs.length xs.length) xs := by
 have hr := hl.reps
 refine ⟨fun k hk => by simp only [Value.ownBlock, Option.some.injEq] at hk; subst hk; exact hok, css.flatten, ⟨hr.1, .inr ⟨g, xs.length, css.flatten.toArray, rfl, hg, hb, Nat.le_refl _, Nat.le_trans hm (by decide), by simpa using hr.1, ?_⟩⟩, hr.1, fun j p hj => d.M_mono (fun k hk => ⟨hk.1, fun he => hk.2 (by simpa [Value.ownBlock] using he)⟩) (hr.2 j p hj)⟩
 rw [← hr.1]
 exact List.take_length
theorem lit_two {w : World} {g base : Nat} {a b : Int} (h : w.heap[g]? = some (.cells #[.int .i64 a, .int .i64 b] 3 (0, 0))) (hg : base ≤ g) : kI.R 3 w base (fun _ => True) (.slice (some ⟨g, 0, none⟩) 2 2) [a, b] :=
 R_lits (d := kI) (xs := [a, b]) [[.int .i64 a], [.int .i64 b]] h hg trivial ⟨rfl, rfl, trivial⟩ (by simp)
theorem off_int {w : World} {base g t : Nat} {v : Value} {l : List Int} (h : kI.R 3 w base (fun _ => True) v l) (ht : Typed w g t) (hne : (t == 3) = false) : kI.R 3 w base (fun k => True ∧ k ≠ g) v l := Kd.R_mono (R_typedI h) (fun k hk => ⟨trivial, fun he => not_typed ht hne (he ▸ hk)⟩)
set_option maxRecDepth 8000 in
set_option maxHeartbeats 2000000 in
theorem plan_anyR (w : World) : Calls Try.prog 18 #[] w fun e w' => ∃ eA mA, e = .returned (planV planP eA 4 mA 1) ∧ (kE.R 41 w' w.heap.size (fun _ => True) (.slice eA 4 4) planP.E ∧ kMs.R 51 w' w.heap.size (fun _ => True) (.slice mA 1 1) planP.start) ∧ Below w.heap.size w w' := by
 have HE := fun a b A len cap w => Lib.hid (edge_any a b A len cap w)
 go_enter Try.func18, Try.ntmps18
 have hz1 : (w.alloc (.cells #[.int .i64 0, .int .i64 0, .slice none 0 0, .int .i64 0, .slice none 0 0] 29)).heap.size = w.heap.size + 1 := by simp
 have hp0 : (w.alloc (.cells #[.int .i64 0, .int .i64 0, .slice none 0 0, .int .i64 0, .slice none 0 0] 29)).heap[w.heap.size]? = some (.cells #[.int .i64 0, .int .i64 0, .slice none 0 0, .int .i64 0, .slice none 0 0] 29 (0, 0)) := heap_alloc_new w _
 have HB0 := Aside0.mk (And.intro (below_new w (.cells #[.int .i64 0, .int .i64 0, .slice none 0 0, .int .i64 0, .slice none 0 0] 29)) hp0)
 clear hp0
 go_upto_region 1 with fail
 generalize w.alloc (.cells #[.int .i64 0, .int .i64 0, .slice none 0 0, .int .i64 0, .slice none 0 0] 29) = v0 at *
 clear hz1
 go_wp2_with fail
 have hs0 : w.heap.size ≤ v0.heap.size := HB0.out.1.size
 have bN0 := below_new v0 (.cells #[.int .i64 0, .int .i64 0] 3)
 have hI0 := heap_alloc_new v0 (.cells #[.int .i64 0, .int .i64 0] 3)
 refine (HE 0 1 _ 2 2 _).out.mono ?_
 rintro e v1 ⟨rfl, hc0⟩
 have HB1 := Aside0.mk (And.intro (below_then (below_then HB0.out.1 HB0.out.1.size bN0) (below_then HB0.out.1 HB0.out.1.size bN0).size hc0) (And.intro (blk_below (blk_below HB0.out.2 bN0) hc0) (blk_below hI0 hc0)))
 have HGg0 := Lib.hid (show w.heap.size ≤ v0.heap.size from hs0)
 clear hs0
 generalize v0.heap.size = g0 at *
 clear bN0 hI0 hc0 HB0
 go_wp2_with fail
 have hs1 : w.heap.size ≤ v1.heap.size := HB1.out.1.size
 have bN1 := below_new v1 (.cells #[.int .i64 0, .int .i64 1] 3)
 have hI1 := heap_alloc_new v1 (.cells #[.int .i64 0, .int .i64 1] 3)
 refine (HE 1 2 _ 2 2 _).out.mono ?_
 rintro e v2 ⟨rfl, hc1⟩
 have HB2 := Aside0.mk (And.intro (below_then (below_then HB1.out.1 HB1.out.1.size bN1) (below_then HB1.out.1 HB1.out.1.size bN1).size hc1) (And.intro (blk_below (blk_below HB1.out.2.1 bN1) hc1) ( And.intro (blk_below (blk_below HB1.out.2.2 bN1) hc1) (blk_below hI1 hc1))))
 have HGg1 := Lib.hid (show w.heap.size ≤ v1.heap.size from hs1)
 clear hs1
 generalize v1.heap.size = g1 at *
 clear bN1 hI1 hc1 HB1
 go_wp2_with fail
 have hs2 : w.heap.size ≤ v2.heap.size := HB2.out.1.size
 have bN2 := below_new v2 (.cells #[.int .i64 0, .int .i64 0] 3)
 have hI2 := heap_alloc_new v2 (.cells #[.int .i64 0, .int .i64 0] 3)
 refine (HE 2 1 _ 2 2 _).out.mono ?_
 rintro e v3 ⟨rfl, hc2⟩
 have HB3 := Aside0.mk (And.intro (below_then (below_then HB2.out.1 HB2.out.1.size bN2) (below_then HB2.out.1 HB2.out.1.size bN2).size hc2) (And.intro (blk_below (blk_below HB2.out.2.1 bN2) hc2) ( And.intro (blk_below (blk_below HB2.out.2.2.1 bN2) hc2) ( And.intro (blk_below (blk_below HB2.out.2.2.2 bN2) hc2) (blk_below hI2 hc2)))))
 have HGg2 := Lib.hid (show w.heap.size ≤ v2.heap.size from hs2)
 clear hs2
 generalize v2.heap.size = g2 at *
 clear bN2 hI2 hc2 HB2
 go_wp2_with fail
 have hs3 : w.heap.size ≤ v3.heap.size := HB3.out.1.size
 have bN3 := below_new v3 (.cells #[.int .i64 1, .int .i64 0] 3)
 have hI3 := heap_alloc_new v3 (.cells #[.int .i64 1, .int .i64 0] 3)
 refine (HE 1 0 _ 2 2 _).out.mono ?_
 rintro e v4 ⟨rfl, hc3⟩
 have HB4 := Aside0.mk (And.intro (below_then (below_then HB3.out.1 HB3.out.1.size bN3) (below_then HB3.out.1 HB3.out.1.size bN3).size hc3) (And.intro (blk_below (blk_below HB3.out.2.1 bN3) hc3) ( And.intro (blk_below (blk_below HB3.out.2.2.1 bN3) hc3) ( And.intro (blk_below (blk_below HB3.out.2.2.2.1 bN3) hc3) ( And.intro (blk_below (blk_below HB3.out.2.2.2.2 bN3) hc3) (blk_below hI3 hc3))))))
 have HGg3 := Lib.hid (show w.heap.size ≤ v3.heap.size from hs3)
 clear hs3
 generalize v3.heap.size = g3 at *
 clear bN3 hI3 hc3 HB3
 go_upto_region 2 with fail
 have HGeb := Lib.hid (show w.heap.size ≤ v4.heap.size from HB4.out.1.size)
 have bN4 := below_new v4 (.cells #[.int .i64 0, .int .i64 1, .slice (some ⟨g0, 0, none⟩) 2 2, .int .i64 1, .int .i64 2, .slice (some ⟨g1, 0, none⟩) 2 2, .int .i64 2, .int .i64 1, .slice (some ⟨g2, 0, none⟩) 2 2, .int .i64 1, .int .i64 0, .slice (some ⟨g3, 0, none⟩) 2 2] 41)
 have hE4 := heap_alloc_new v4 (.cells #[.int .i64 0, .int .i64 1, .slice (some ⟨g0, 0, none⟩) 2 2, .int .i64 1, .int .i64 2, .slice (some ⟨g1, 0, none⟩) 2 2, .int .i64 2, .int .i64 1, .slice (some ⟨g2, 0, none⟩) 2 2, .int .i64 1, .int .i64 0, .slice (some ⟨g3, 0, none⟩) 2 2] 41)
 have hz5 : (v4.alloc (.cells #[.int .i64 0, .int .i64 1, .slice (some ⟨g0, 0, none⟩) 2 2, .int .i64 1, .int .i64 2, .slice (some ⟨g1, 0, none⟩) 2 2, .int .i64 2, .int .i64 1, .slice (some ⟨g2, 0, none⟩) 2 2, .int .i64 1, .int .i64 0, .slice (some ⟨g3, 0, none⟩) 2 2] 41)).heap.size = v4.heap.size + 1 := by simp
 have bN5 := below_new (v4.alloc (.cells #[.int .i64 0, .int .i64 1, .slice (some ⟨g0, 0, none⟩) 2 2, .int .i64 1, .int .i64 2, .slice (some ⟨g1, 0, none⟩) 2 2, .int .i64 2, .int .i64 1, .slice (some ⟨g2, 0, none⟩) 2 2, .int .i64 1, .int .i64 0, .slice (some ⟨g3, 0, none⟩) 2 2] 41)) (.cells #[.int .i64 3, .int .i64 2, .slice (some ⟨v4.heap.size, 0, none⟩) 4 4] 26)
 have hG5 := heap_alloc_new (v4.alloc (.cells #[.int .i64 0, .int .i64 1, .slice (some ⟨g0, 0, none⟩) 2 2, .int .i64 1, .int .i64 2, .slice (some ⟨g1, 0, none⟩) 2 2, .int .i64 2, .int .i64 1, .slice (some ⟨g2, 0, none⟩) 2 2, .int .i64 1, .int .i64 0, .slice (some ⟨g3, 0, none⟩) 2 2] 41)) (.cells #[.int .i64 3, .int .i64 2, .slice (some ⟨v4.heap.size, 0, none⟩) 4 4] 26)
 rw [hz5] at hG5
 have hb45 := below_then bN4 bN4.size bN5
 have HB5 := Aside0.mk (And.intro (below_then HB4.out.1 HB4.out.1.size hb45) (And.intro (blk_below HB4.out.2.1 hb45) (And.intro (blk_below HB4.out.2.2.1 hb45) (And.intro (blk_below HB4.out.2.2.2.1 hb45) (And.intro (blk_below HB4.out.2.2.2.2.1 hb45) (And.intro (blk_below HB4.out.2.2.2.2.2 hb45) (blk_below hE4 bN5)))))))
 have c0 : ((v4.alloc (.cells #[.int .i64 0, .int .i64 1, .slice (some ⟨g0, 0, none⟩) 2 2, .int .i64 1, .int .i64 2, .slice (some ⟨g1, 0, none⟩) 2 2, .int .i64 2, .int .i64 1, .slice (some ⟨g2, 0, none⟩) 2 2, .int .i64 1, .int .i64 0, .slice (some ⟨g3, 0, none⟩) 2 2] 41)).alloc (.cells #[.int .i64 3, .int .i64 2, .slice (some ⟨v4.heap.size, 0, none⟩) 4 4] 26)).cell? ⟨v4.heap.size + 1, 0, none⟩ = some (.int .i64 3) := (blk_cell hG5 0).trans rfl
 have c1 : ((v4.alloc (.cells #[.int .i64 0, .int .i64 1, .slice (some ⟨g0, 0, none⟩) 2 2, .int .i64 1, .int .i64 2, .slice (some ⟨g1, 0, none⟩) 2 2, .int .i64 2, .int .i64 1, .slice (some ⟨g2, 0, none⟩) 2 2, .int .i64 1, .int .i64 0, .slice (some ⟨g3, 0, none⟩) 2 2] 41)).alloc (.cells #[.int .i64 3, .int .i64 2, .slice (some ⟨v4.heap.size, 0, none⟩) 4 4] 26)).cell? ⟨v4.heap.size + 1, 1, none⟩ = some (.int .i64 2) := (blk_cell hG5 1).trans rfl
 have c2 : ((v4.alloc (.cells #[.int .i64 0, .int .i64 1, .slice (some ⟨g0, 0, none⟩) 2 2, .int .i64 1, .int .i64 2, .slice (some ⟨g1, 0, none⟩) 2 2, .int .i64 2, .int .i64 1, .slice (some ⟨g2, 0, none⟩) 2 2, .int .i64 1, .int .i64 0, .slice (some ⟨g3, 0, none⟩) 2 2] 41)).alloc (.cells #[.int .i64 3, .int .i64 2, .slice (some ⟨v4.heap.size, 0, none⟩) 4 4] 26)).cell? ⟨v4.heap.size + 1, 2, none⟩ = some (.slice (some ⟨v4.heap.size, 0, none⟩) 4 4) := (blk_cell hG5 2).trans rfl
 clear bN4 hE4 hz5 bN5 hG5 hb45 HB4
 generalize (v4.alloc (.cells #[.int .i64 0, .int .i64 1, .slice (some ⟨g0, 0, none⟩) 2 2, .int .i64 1, .int .i64 2, .slice (some ⟨g1, 0, none⟩) 2 2, .int .i64 2, .int .i64 1, .slice (some ⟨g2, 0, none⟩) 2 2, .int .i64 1, .int .i64 0, .slice (some ⟨g3, 0, none⟩) 2 2] 41)).alloc (.cells #[.int .i64 3, .int .i64 2, .slice (some ⟨v4.heap.size, 0, none⟩) 4 4] 26) = v5 at *
 generalize v4.heap.size = eb at *
 refine start_ (n := 7) (S := fun V => V.cell? ⟨eb + 1, 0, none⟩ = some (.int .i64 3) ∧ V.cell? ⟨eb + 1, 1, none⟩ = some (.int .i64 2) ∧ V.cell? ⟨eb + 1, 2, none⟩ = some (.slice (some ⟨eb, 0, none⟩) 4 4)) (ds := [6]) (bs 7 0) (by kernel_rfl) rfl (by kernel_rfl) ⟨c0, c1, c2⟩ (fun hHeld => ?_)
 have HD := Aside0.mk (below_drew1 (Below.refl v5.heap.size v5))
 have HSH := Lib.hid (fun V (hb : Below v5.heap.size v5 V) => (And.intro (pw_cell_below hb c0) (And.intro (pw_cell_below hb c1) (pw_cell_below hb c2))))
 clear c0 c1 c2
 generalize v5.drew = wd at *
 refine tk3 0 12 (bs 7 1) hHeld ?_
 refine on0 1 13 (bs 7 3) fun K hK => ?_
 refine va0 ?_
 have bN6 := below_new wd (.cells #[.int .i64 0, .int .i64 0] 3)
 have hI6 := heap_alloc_new wd (.cells #[.int .i64 0, .int .i64 0] 3)
 have hB6 := below_then HD.out HD.out.size bN6
 refine hK.out _ _ (HSH.out _ hB6) (fun hHeld => ?_)
 clear hK K
 refine nm0 (some 13) ?_
 refine on0 2 14 (bs 7 7) fun K hK => ?_
 refine gs0 Try.func19 #[.int .i64 0, .slice (some ⟨wd.heap.size, 0, none⟩) 2 2] ?_
 refine (at_any 0 (some ⟨wd.heap.size, 0, none⟩) 2 2 _).mono ?_
 rintro e v7 ⟨rfl, hb7⟩
 have hB7 := below_then hB6 hB6.size hb7
 have HI7 := Aside0.mk (And.intro hB7 (blk_below hI6 hb7))
 refine ⟨_, rfl, hK.out _ _ (HSH.out _ hB7) (fun hHeld => ?_)⟩
 clear hK K
 refine nm0 (some 14) ?_
 clear bN6 hI6 hB6 hb7 hB7
 have HGib := Lib.hid (show w.heap.size ≤ wd.heap.size from Nat.le_trans HB5.out.1.size HD.out.size)
 generalize wd.heap.size = ib at *
 refine pu 3 15 (bs 7 15) ?_
 refine on0 4 16 (bs 7 31) fun K hK => ?_
 refine va0 ?_
 have bN8 := below_new v7 (.cells #[.int .i64 0, .slice (some ⟨ib, 0, none⟩) 2 2, .int .i64 0] 51)
 have hM8 := heap_alloc_new v7 (.cells #[.int .i64 0, .slice (some ⟨ib, 0, none⟩) 2 2, .int .i64 0] 51)
 have hB8 := below_then HI7.out.1 HI7.out.1.size bN8
 have HI8 := Aside0.mk (And.intro hB8 (And.intro (blk_below HI7.out.2 bN8) hM8))
 refine hK.out _ _ (HSH.out _ hB8) (fun hHeld => ?_)
 clear hK K
 refine nm0 (some 16) ?_
 have HGsb := Lib.hid (show w.heap.size ≤ v7.heap.size from Nat.le_trans (Nat.le_trans HB5.out.1.size HI7.out.1.size) (Nat.le_refl _))
 clear bN8 hM8 HI7
 generalize v7.alloc (.cells #[.int .i64 0, .slice (some ⟨ib, 0, none⟩) 2 2, .int .i64 0] 51) = v8 at *
 generalize v7.heap.size = sb at *
 refine pu 5 17 (bs 7 63) ?_
 have HB8 := Aside0.mk (And.intro (below_then HB5.out.1 HB5.out.1.size hB8) (And.intro (blk_below HB5.out.2.1 hB8) (And.intro (blk_below HB5.out.2.2.1 hB8) (And.intro (blk_below HB5.out.2.2.2.1 hB8) (And.intro (blk_below HB5.out.2.2.2.2.1 hB8) (And.intro (blk_below HB5.out.2.2.2.2.2.1 hB8) (blk_below HB5.out.2.2.2.2.2.2 hB8)))))))
 clear hB8
 have z0 := (blk_cell HB8.out.2.1 0).trans rfl
 have z1 := (blk_cell HB8.out.2.1 1).trans rfl
 have z2 := (blk_cell HB8.out.2.1 2).trans rfl
 have z3 := (blk_cell HB8.out.2.1 3).trans rfl
 have z4 := (blk_cell HB8.out.2.1 4).trans rfl
 have y0 := blk_frozen HB8.out.2.1 0
 have y1 := blk_frozen HB8.out.2.1 1
 have y2 := blk_frozen HB8.out.2.1 2
 have y3 := blk_frozen HB8.out.2.1 3
 have y4 := blk_frozen HB8.out.2.1 4
 refine la0 6 (bs 7 127) (N := none) fun K hK => ?_
 refine sk0 ?_
 refine hK.out _ _ ?_
 clear hK K hHeld
 refine dn0 ?_
 have hfin := blk_put (blk_put (blk_put (blk_put (blk_put HB8.out.2.1 0 (.int .i64 3) rfl) 1 (.int .i64 2) rfl) 2 (.slice (some ⟨eb, 0, none⟩) 4 4) rfl) 3 (.int .i64 2) rfl) 4 (.slice (some ⟨sb, 0, none⟩) 1 1) rfl
 have hg := setCells_grown w.heap.size [.int .i64 3, .int .i64 2, .slice (some ⟨eb, 0, none⟩) 4 4, .int .i64 2, .slice (some ⟨sb, 0, none⟩) 1 1] 0 v8
 simp only [World.setCells] at hg
 generalize ((((v8.setCell ⟨w.heap.size, 0, none⟩ (.int .i64 3)).setCell ⟨w.heap.size, 1, none⟩ (.int .i64 2)).setCell ⟨w.heap.size, 2, none⟩ (.slice (some ⟨eb, 0, none⟩) 4 4)).setCell ⟨w.heap.size, 3, none⟩ (.int .i64 2)).setCell ⟨w.heap.size, 4, none⟩ (.slice (some ⟨sb, 0, none⟩) 1 1) = vF at *
 have hk : Kept v8 vF (fun b => b = w.heap.size) := ⟨hg.size, fun i hi hn => hg.block i hi (fun he => hn (by injection he))⟩
 have hwt : Typed v8 w.heap.size 29 := ⟨_, HB8.out.2.1⟩
 have hne : ∀ {b t : Nat} {cs : Array Value}, v8.heap[b]? = some (.cells cs t (0, 0)) → (29 == t) = false → ¬ b = w.heap.size := fun hb ht he => not_typed hwt ht (he ▸ ⟨_, hb⟩)
 have kE0 := blk_kept HB8.out.2.2.2.2.2.2 hk (hne HB8.out.2.2.2.2.2.2 rfl)
 have kM0 := blk_kept HI8.out.2.2 hk (hne HI8.out.2.2 rfl)
 have k0 := lit_two (blk_kept HB8.out.2.2.1 hk (hne HB8.out.2.2.1 rfl)) HGg0.out
 have k1 := lit_two (blk_kept HB8.out.2.2.2.1 hk (hne HB8.out.2.2.2.1 rfl)) HGg1.out
 have k2 := lit_two (blk_kept HB8.out.2.2.2.2.1 hk (hne HB8.out.2.2.2.2.1 rfl)) HGg2.out
 have k3 := lit_two (blk_kept HB8.out.2.2.2.2.2.1 hk (hne HB8.out.2.2.2.2.2.1 rfl)) HGg3.out
 have k4 := lit_two (blk_kept HI8.out.2.1 hk (hne HI8.out.2.1 rfl)) HGib.out
 have hP : kE.R 41 vF w.heap.size (fun _ => True) (.slice (some ⟨eb, 0, none⟩) 4 4) planP.E ∧ kMs.R 51 vF w.heap.size (fun _ => True) (.slice (some ⟨sb, 0, none⟩) 1 1) planP.start := ⟨R_lits (d := kE) (xs := planP.E) [[.int .i64 0, .int .i64 1, .slice (some ⟨g0, 0, none⟩) 2 2], [.int .i64 1, .int .i64 2, .slice (some ⟨g1, 0, none⟩) 2 2], [.int .i64 2, .int .i64 1, .slice (some ⟨g2, 0, none⟩) 2 2], [.int .i64 1, .int .i64 0, .slice (some ⟨g3, 0, none⟩) 2 2]] kE0 HGeb.out trivial
   ⟨kE_M (off_int k0 ⟨_, kE0⟩ rfl), kE_M (off_int k1 ⟨_, kE0⟩ rfl), kE_M (off_int k2 ⟨_, kE0⟩ rfl), kE_M (off_int k3 ⟨_, kE0⟩ rfl), trivial⟩ (by decide),
  R_lits (d := kMs) (xs := planP.start) [[.int .i64 0, .slice (some ⟨ib, 0, none⟩) 2 2, .int .i64 0]] kM0 HGsb.out trivial ⟨kMs_M (off_int k4 ⟨_, kM0⟩ rfl), trivial⟩ (by decide)⟩
 have hB : Below w.heap.size w vF := below_of_grown HB8.out.1 hg (Nat.le_refl _)
 have p0 := (blk_cell hfin 0).trans rfl
 have p1 := (blk_cell hfin 1).trans rfl
 have p2 := (blk_cell hfin 2).trans rfl
 have p3 := (blk_cell hfin 3).trans rfl
 have p4 := (blk_cell hfin 4).trans rfl
 have HF := Lib.hid (And.intro hP hB)
 clear hfin hg hk hwt hne k0 k1 k2 k3 kE0 k4 kM0 hP hB z0 z1 z2 z3 z4 y0 y1 y2 y3 y4
 go_wp2_with fail
 exact bodyPost_ret (v := planV planP (some ⟨eb, 0, none⟩) 4 (some ⟨sb, 0, none⟩) 1) (by simp [results, Try.results18, go_sem, p0, p1, p2, p3, p4]; rfl) rfl ⟨_, _, rfl, HF.out⟩
end Go.Proofs.Ytbkfnmgkcgnifaa
namespace Go.Proofs.Ytbkfnmgkcgnifaa
open Go.RowKit Go.Shelf Go.Proofs.YtbkfnmgkcgnifaaW.PrintWords Go.Proofs.YtbkfnmgkcgnifaaW.PrintLast Mdl
namespace Mdl
def badP (i : Nat) : Plan := match i with
 | 0 => { planP with N := 0 }
 | 1 => { planP with N := 9 }
 | 2 => { planP with Wd := 4 }
 | 3 => { planP with E := planP.E.set 0 (0, 3, [0, 0]) }
 | 4 => { planP with E := planP.E.set 1 (1, 2, [0, 101]) }
 | 5 => { planP with E := planP.E.set 1 (1, 2, [0]) }
 | 6 => { planP with E := planP.E.set 1 (1, 2, [0, 0]) }
 | 7 => { planP with E := List.replicate 17 (0, 0, []) }
 | 8 => { planP with workers := 5 }
 | 9 => { planP with start := List.replicate 9 ((0, []), 0) }
 | 10 => { planP with start := [((3, [0, 0]), 0)] }
 | 11 => { planP with start := [((0, [0, 1048577]), 0)] }
 | _ => { planP with start := [((0, [0, 0]), 2)] }
theorem bad_none : ∀ i, plannedP (badP i) = none
 | 0 => by kernel_rfl
 | 1 => by kernel_rfl
 | 2 => by kernel_rfl
 | 3 => by kernel_rfl
 | 4 => by kernel_rfl
 | 5 => by kernel_rfl
 | 6 => by kernel_rfl
 | 7 => by kernel_rfl
 | 8 => by kernel_rfl
 | 9 => by kernel_rfl
 | 10 => by kernel_rfl
 | 11 => by kernel_rfl
 | _ + 12 => by kernel_rfl
theorem bad_paths : ∀ i, pathsP (badP i).N (badP i).Wd (badP i).E 0 (-1) = .error (if i < 8 then 1 else 2)
 | 0 => by kernel_rfl
 | 1 => by kernel_rfl
 | 2 => by kernel_rfl
 | 3 => by kernel_rfl
 | 4 => by kernel_rfl
 | 5 => by kernel_rfl
 | 6 => by kernel_rfl
 | 7 => by kernel_rfl
 | 8 => by kernel_rfl
 | 9 => by kernel_rfl
 | 10 => by kernel_rfl
 | 11 => by kernel_rfl
 | n + 12 => by rw [if_neg (by omega)]; kernel_rfl
theorem bad_begun {p : Plan} (h : plannedP p = none) (s : List Int) (n w : Int) : begunP p s n w = .error 1 := by unfold begunP; rw [h]
abbrev PT : Type := (((Int × Int) × List Ed) × Int) × List Msg
def planT (p : Plan) : PT := ((((p.N, p.Wd), p.E), p.workers), p.start)
end Mdl
def kPl : Kd PT := Kd.pair (Kd.pair (Kd.pair (Kd.pair kI kI) (Kd.slice 41 kE)) kI) (Kd.slice 51 kMs)
theorem kPl_M {W : World} {base : Nat} {ok : Nat → Prop} {p : Plan} {eA mA : Option Addr} {eC mC : Nat} (hE : kE.R 41 W base ok (.slice eA p.E.length eC) p.E) (hS : kMs.R 51 W base ok (.slice mA p.start.length mC) p.start) : kPl.M W base ok (planT p) [.int .i64 p.N, .int .i64 p.Wd, .slice eA p.E.length eC, .int .i64 p.workers, .slice mA p.start.length mC] :=
 ⟨[_, _, _, _], [_], rfl, ⟨[_, _, _], [_], rfl, ⟨[_, _], [_], rfl, ⟨[_], [_], rfl, rfl, rfl⟩, ⟨_, rfl, hE⟩⟩, rfl⟩, ⟨_, rfl, hS⟩⟩
theorem at_planC {w : World} {A : Option Addr} {l : List Plan} (h : kPl.C w A l.length (l.map planT)) {k : Nat} (hk : k < l.length) :
  ∃ ad eA eC mA mC, A = some ad ∧ (w.cell? (ad.add (k * 5)) = some (.int .i64 l[k].N) ∧ w.cell? ⟨(ad.add (k * 5)).block, (ad.add (k * 5)).off + 1, none⟩ = some (.int .i64 l[k].Wd) ∧ w.cell? ⟨(ad.add (k * 5)).block, (ad.add (k * 5)).off + 2, none⟩ = some (.slice eA l[k].E.length eC) ∧ w.cell? ⟨(ad.add (k * 5)).block, (ad.add (k * 5)).off + 3, none⟩ = some (.int .i64 l[k].workers) ∧ w.cell? ⟨(ad.add (k * 5)).block, (ad.add (k * 5)).off + 4, none⟩ = some (.slice mA l[k].start.length mC)) ∧ PlanAt w l[k] eA mA := by
 obtain ⟨ad, c, e, hl, hK, hc⟩ := Kd.C_get h ((((0, 0), []), 0), []) (k : Int) (by omega) (by omega)
 rw [Int.toNat_natCast, List.getD_eq_getElem?_getD, List.getElem?_map, List.getElem?_eq_getElem hk] at hK
 rw [Int.toNat_natCast] at hc
 obtain ⟨_, c5, rfl, ⟨_, c4, rfl, ⟨_, c3, rfl, ⟨c0, c1, rfl, h0, h1⟩, h2⟩, h3⟩, h4⟩ := hK
 have h0 : c0 = [.int .i64 l[k].N] := h0
 have h1 : c1 = [.int .i64 l[k].Wd] := h1
 have h3 : c4 = [.int .i64 l[k].workers] := h3
 subst h0 h1 h3
 obtain ⟨eA, eC, rfl, hle, hE⟩ := h2
 obtain ⟨mA, mC, rfl, hlm, hS⟩ := h4
 have hg := fun (i : Nat) (u : Value) (hi : 0 < i) (hu : _) => (show w.cell? ⟨(ad.add (k * 5)).block, (ad.add (k * 5)).off + i, none⟩ = some u by
  have := hc i u hu
  rwa [show kPl.sz = 5 from rfl, add_field _ _ _ hi] at this)
 refine ⟨ad, eA, eC, mA, mC, e, ⟨?_, ?_, ?_, ?_, ?_⟩, ⟨hE, hS⟩⟩
 ·have := hc 0 _ rfl
  rwa [show kPl.sz = 5 from rfl, Nat.add_zero] at this
 ·exact hg 1 _ (by omega) rfl
 ·exact hg 2 _ (by omega) rfl
 ·exact hg 3 _ (by omega) rfl
 ·exact hg 4 _ (by omega) rfl
theorem Try.infoPlan : (Try.prog.info? 29).map (fun i => (i.zero, i.size, i.bytes)) = some (some (.agg #[.int .i64 0, .int .i64 0, .slice none 0 0, .int .i64 0, .slice none 0 0]), 5, 72) := by kernel_rfl
def BadAt (p : Plan) (base pb : Nat) (wx : World) : Prop := ∃ (eA mA : Option Addr) (eC mC : Nat), wx.heap[pb]? = some (.cells #[.int .i64 p.N, .int .i64 p.Wd, .slice eA p.E.length eC, .int .i64 p.workers, .slice mA p.start.length mC] 29 (0, 0)) ∧ kE.R 41 wx base (fun _ => True) (.slice eA p.E.length eC) p.E ∧ kMs.R 51 wx base (fun _ => True) (.slice mA p.start.length mC) p.start
theorem lit_one {w : World} {g base : Nat} {a : Int} (h : w.heap[g]? = some (.cells #[.int .i64 a] 3 (0, 0))) (hg : base ≤ g) : kI.R 3 w base (fun _ => True) (.slice (some ⟨g, 0, none⟩) 1 1) [a] :=
 R_lits (d := kI) (xs := [a]) [[.int .i64 a]] h hg trivial ⟨rfl, trivial⟩ (by simp)
theorem kE_off : ∀ q, q ∈ 41 :: kE.E → q ≠ 51 := by decide
theorem kMs_off : ∀ q, q ∈ 51 :: kMs.E → q ≠ 41 := by decide
theorem kE_to {W : World} {g n cap k base : Nat} {xs : List Ed} (HO : kE.R 41 W base (fun _ => True) (.slice (some ⟨g, 0, none⟩) n cap) xs) (hk : k < n) (t : Int) : ∃ t0 : Int, W.cell? ⟨g, k * 3 + 1, none⟩ = some (.int .i64 t0) ∧ W.frozen? ⟨g, k * 3 + 1, none⟩ = false ∧ kE.R 41 (W.setCell ⟨g, k * 3 + 1, none⟩ (.int .i64 t)) base (fun _ => True) (.slice (some ⟨g, 0, none⟩) n cap) (xs.set k ((xs.getD k (0, 0, [])).1, t, (xs.getD k (0, 0, [])).2.2)) ∧ W.grownBy (W.setCell ⟨g, k * 3 + 1, none⟩ (.int .i64 t)) (some g) := by
 obtain ⟨c, hcl, hM, hcc, hfr⟩ := Kd.R_elem HO (0, 0, []) (k : Int) (by omega) (by omega)
 rw [Int.toNat_natCast] at hM hcc hfr
 obtain ⟨ca, cb, rfl, h1, ⟨cd, ce, rfl, h2, ⟨v, rfl, hR⟩⟩⟩ := hM
 have hca : ca = [.int .i64 (xs.getD k (0, 0, [])).1] := h1
 have hcd : cd = [.int .i64 (xs.getD k (0, 0, [])).2.1] := h2
 subst hca hcd
 obtain ⟨A, c', rfl⟩ := Kd.R_slice hR
 have hs := Kd.R_seg HO (k : Int) (by omega) (by omega) (j := 1) (seg := [.int .i64 t]) (x' := ((xs.getD k (0, 0, [])).1, t, (xs.getD k (0, 0, [])).2.2)) hcl (by rw [Int.toNat_natCast]; exact hcc) (show (2 : Nat) ≤ 3 by decide) (kE_M hR) (fun _ h => h)
 rw [Int.toNat_natCast] at hs
 exact ⟨_, hcc 1 _ rfl, hfr 1, hs⟩
theorem kE_add {W : World} {g n cap k base m c2 : Nat} {A2 : Option Addr} {l : List Int} {xs : List Ed} (HO : kE.R 41 W base (fun _ => True) (.slice (some ⟨g, 0, none⟩) n cap) xs) (hk : k < n) (hl : kI.R 3 W base (fun _ => True) (.slice A2 m c2) l) : ∃ (A0 : Option Addr) (n0 c0 : Nat), W.cell? ⟨g, k * 3 + 2, none⟩ = some (.slice A0 n0 c0) ∧ W.frozen? ⟨g, k * 3 + 2, none⟩ = false ∧ kE.R 41 (W.setCell ⟨g, k * 3 + 2, none⟩ (.slice A2 m c2)) base (fun _ => True) (.slice (some ⟨g, 0, none⟩) n cap) (xs.set k ((xs.getD k (0, 0, [])).1, (xs.getD k (0, 0, [])).2.1, l)) ∧ W.grownBy (W.setCell ⟨g, k * 3 + 2, none⟩ (.slice A2 m c2)) (some g) := by
 obtain ⟨c, hcl, hM, hcc, hfr⟩ := Kd.R_elem HO (0, 0, []) (k : Int) (by omega) (by omega)
 rw [Int.toNat_natCast] at hM hcc hfr
 obtain ⟨ca, cb, rfl, h1, ⟨cd, ce, rfl, h2, ⟨v, rfl, hR⟩⟩⟩ := hM
 have hca : ca = [.int .i64 (xs.getD k (0, 0, [])).1] := h1
 have hcd : cd = [.int .i64 (xs.getD k (0, 0, [])).2.1] := h2
 subst hca hcd
 obtain ⟨A, c', rfl⟩ := Kd.R_slice hR
 have hs := Kd.R_seg HO (k : Int) (by omega) (by omega) (j := 2) (seg := [.slice A2 m c2]) (x' := ((xs.getD k (0, 0, [])).1, (xs.getD k (0, 0, [])).2.1, l)) hcl (by rw [Int.toNat_natCast]; exact hcc) (show (3 : Nat) ≤ 3 by decide) (kE_M (off_int hl (Kd.R_typed HO g rfl) rfl)) (fun _ h => h)
 rw [Int.toNat_natCast] at hs
 exact ⟨_, _, _, hcc 2 _ rfl, hfr 2, hs⟩
theorem kMs_who {W : World} {g n cap k base : Nat} {xs : List Msg} (HO : kMs.R 51 W base (fun _ => True) (.slice (some ⟨g, 0, none⟩) n cap) xs) (hk : k < n) (t : Int) : ∃ wk : Int, W.cell? ⟨g, k * 3 + 2, none⟩ = some (.int .i64 wk) ∧ W.frozen? ⟨g, k * 3 + 2, none⟩ = false ∧ kMs.R 51 (W.setCell ⟨g, k * 3 + 2, none⟩ (.int .i64 t)) base (fun _ => True) (.slice (some ⟨g, 0, none⟩) n cap) (xs.set k ((xs.getD k ((0, []), 0)).1, t)) ∧ W.grownBy (W.setCell ⟨g, k * 3 + 2, none⟩ (.int .i64 t)) (some g) := by
 obtain ⟨c, hcl, hM, hcc, hfr⟩ := Kd.R_elem HO ((0, []), 0) (k : Int) (by omega) (by omega)
 rw [Int.toNat_natCast] at hM hcc hfr
 obtain ⟨ca, cb, rfl, ⟨cd, ce, rfl, h1, ⟨v, rfl, hR⟩⟩, h2⟩ := hM
 have hcb : cb = [.int .i64 (xs.getD k ((0, []), 0)).snd] := h2
 have hcd : cd = [.int .i64 (xs.getD k ((0, []), 0)).fst.fst] := h1
 subst hcb hcd
 obtain ⟨A, c', rfl⟩ := Kd.R_slice hR
 have hs := Kd.R_seg HO (k : Int) (by omega) (by omega) (j := 2) (seg := [.int .i64 t]) (x' := ((xs.getD k ((0, []), 0)).fst, t)) hcl (by rw [Int.toNat_natCast]; exact hcc) (show (3 : Nat) ≤ 3 by decide) (kMs_M hR) (fun _ h => h)
 rw [Int.toNat_natCast] at hs
 exact ⟨_, hcc 2 _ rfl, hfr 2, hs⟩
theorem kMs_mark {W : World} {g n cap k base m c2 : Nat} {A2 : Option Addr} {nd : Int} {l : List Int} {xs : List Msg} (HO : kMs.R 51 W base (fun _ => True) (.slice (some ⟨g, 0, none⟩) n cap) xs) (hk : k < n) (hl : kI.R 3 W base (fun _ => True) (.slice A2 m c2) l) : ∃ (m0 : Int) (A0 : Option Addr) (n0 c0 : Nat), (W.cell? ⟨g, k * 3 + 0, none⟩ = some (.int .i64 m0) ∧ W.frozen? ⟨g, k * 3 + 0, none⟩ = false ∧ W.cell? ⟨g, k * 3 + 1, none⟩ = some (.slice A0 n0 c0) ∧ W.frozen? ⟨g, k * 3 + 1, none⟩ = false) ∧ kMs.R 51 ((W.setCell ⟨g, k * 3 + 0, none⟩ (.int .i64 nd)).setCell ⟨g, k * 3 + 0 + 1, none⟩ (.slice A2 m c2)) base (fun _ => True) (.slice (some ⟨g, 0, none⟩) n cap) (xs.set k ((nd, l), (xs.getD k ((0, []), 0)).2)) ∧ W.grownBy ((W.setCell ⟨g, k * 3 + 0, none⟩ (.int .i64 nd)).setCell ⟨g, k * 3 + 0 + 1, none⟩ (.slice A2 m c2)) (some g) := by
 obtain ⟨c, hcl, hM, hcc, hfr⟩ := Kd.R_elem HO ((0, []), 0) (k : Int) (by omega) (by omega)
 rw [Int.toNat_natCast] at hM hcc hfr
 obtain ⟨ca, cb, rfl, ⟨cd, ce, rfl, h1, ⟨v, rfl, hR⟩⟩, h2⟩ := hM
 have hcb : cb = [.int .i64 (xs.getD k ((0, []), 0)).snd] := h2
 have hcd : cd = [.int .i64 (xs.getD k ((0, []), 0)).fst.fst] := h1
 subst hcb hcd
 obtain ⟨A, c', rfl⟩ := Kd.R_slice hR
 have hs := Kd.R_seg HO (k : Int) (by omega) (by omega) (j := 0) (seg := [.int .i64 nd, .slice A2 m c2]) (x' := ((nd, l), (xs.getD k ((0, []), 0)).2)) hcl (by rw [Int.toNat_natCast]; exact hcc) (show (2 : Nat) ≤ 3 by decide) (kMs_M (off_int hl (Kd.R_typed HO g rfl) rfl)) (fun _ h => h)
 rw [Int.toNat_natCast] at hs
 exact ⟨_, _, _, _, ⟨hcc 0 _ rfl, hfr 0, hcc 1 _ rfl, hfr 1⟩, hs⟩
theorem C_madeN {w : World} {g m t : Nat} (h : w.heap[g]? = some (.cells (madeCells #[.int .i64 0] m) t (0, 0))) (hm : m ≤ 1000) : kI.C w (some ⟨g, 0, none⟩) (List.replicate m (0 : Int)).length (List.replicate m 0) := by
 refine ⟨rfl, by rw [List.length_replicate]; omega, fun _ => ⟨_, rfl, fun j p hj => ?_⟩⟩
 obtain ⟨h1, rfl⟩ := List.getElem?_eq_some_iff.1 hj
 rw [List.getElem_replicate]
 rw [List.length_replicate] at h1
 refine ⟨[.int .i64 0], rfl, rfl, fun i u hu => ?_⟩
 rw [Addr.add_lit, blk_cell h, Nat.zero_add]
 cases i with
 | zero => rw [show kI.sz = 1 from rfl, Nat.mul_one, Nat.add_zero, made_cell h1]; exact hu
 | succ i => simp at hu
theorem res_err {α β : Type} {d : Kd β} {t : Nat} {f : List α → List β} {r : Except Int (List α)} {k : Int} {P : Program} {fn : FuncId} {args : Array Value} {w : World} (hr : r = .error k) (hf : f [] = [])
  (h : Calls P fn args w fun e w' => ∃ v, e = .returned (.tuple #[v, .int .i64 (resOf r).2]) ∧ d.R t w' w.heap.size (fun _ => True) v (f (resOf r).1) ∧ Below w.heap.size w w') :
  Calls P fn args w fun e w' => ∃ A c, e = .returned (.tuple #[.slice A 0 c, .int .i64 k]) ∧ Below w.heap.size w w' := by
 refine h.mono ?_
 rintro e w' ⟨v, rfl, h1, hb⟩
 subst hr
 have h1 : d.R t w' w.heap.size (fun _ => True) v (f []) := h1
 rw [hf] at h1
 obtain ⟨A, c, rfl⟩ := Kd.R_slice h1
 exact ⟨A, c, rfl, hb⟩
section
variable {p : Plan} {eA mA sA : Option Addr} {eC mC sC : Nat} {sc : List Int} {w : World}
theorem truth_bad (h : plannedP p = none) (n : Int) (hn : n ≤ 9000) (hp : PlanAt w p eA mA) (hc : kI.C w sA sc.length sc) (hl : sc.length ≤ sC) : Calls Try.prog 20 #[planV p eA eC mA mC, .slice sA sc.length sC, .int .i64 n] w fun e w' => ∃ A c, e = .returned (.tuple #[.slice A 0 c, .int .i64 1]) ∧ Below w.heap.size w w' :=
 res_err (f := fun r => r.map (List.map (numsT p.Wd.toNat))) (by unfold truthX; rw [bad_begun h]) rfl (truth_any p eA mA sA eC mC sC sc n (by omega) w hp hc hl)
theorem belief_bad (h : plannedP p = none) (n who : Int) (hn : n ≤ 9000) (hp : PlanAt w p eA mA) (hc : kI.C w sA sc.length sc) (hl : sc.length ≤ sC) : Calls Try.prog 21 #[planV p eA eC mA mC, .slice sA sc.length sC, .int .i64 n, .int .i64 who] w fun e w' => ∃ A c, e = .returned (.tuple #[.slice A 0 c, .int .i64 1]) ∧ Below w.heap.size w w' :=
 res_err (f := fun r => r.map (List.map (numsT p.Wd.toNat))) (by unfold beliefX; rw [bad_begun h]) rfl (belief_any p eA mA sA eC mC sC sc n who (by omega) w hp hc hl)
theorem run_bad (h : plannedP p = none) (hp : PlanAt w p eA mA) (hc : kI.C w sA sc.length sc) (hl : sc.length ≤ sC) : Calls Try.prog 22 #[planV p eA eC mA mC, .slice sA sc.length sC] w fun e w' => e = .returned (.tuple #[.agg #[.int .i64 0, .int .i64 0, .int .i64 0], .int .i64 1]) ∧ Below w.heap.size w w' := by
 have hr : runX p sc = .error 1 := by unfold runX; rw [bad_begun h]
 refine (run_any p eA mA sA eC mC sC sc w hp hc hl).mono ?_
 rintro e w' ⟨rfl, hb⟩
 rw [hr]; exact ⟨rfl, hb⟩
theorem told_bad (h : plannedP p = none) (who nd : Int) {xA : Option Addr} {xC : Nat} {tl : List Int} (hp : PlanAt w p eA mA) (hc : kI.C w sA sc.length sc) (hl : sc.length ≤ sC) (hx : kI.C w xA tl.length tl) : Calls Try.prog 23 #[planV p eA eC mA mC, .slice sA sc.length sC, .int .i64 who, .agg #[.int .i64 nd, .slice xA tl.length xC]] w fun e w' => e = .returned (.tuple #[.int .i64 0, .int .i64 1]) ∧ Below w.heap.size w w' := by
 have hr : toldX p sc who (nd, tl) = .error 1 := by unfold toldX; rw [bad_begun h]
 refine (toldE_any p eA mA sA xA eC mC sC xC sc who nd tl w hp hc hl hx).mono ?_
 rintro e w' ⟨rfl, hb⟩
 rw [hr]; exact ⟨rfl, hb⟩
theorem check_bad (h : plannedP p = none) (hp : PlanAt w p eA mA) : Calls Try.prog 24 #[planV p eA eC mA mC] w fun e w' => e = .returned (.int .i64 1) ∧ Below w.heap.size w w' := by
 have hr : checkP p = 1 := by unfold checkP; rw [h]
 exact (check_any p eA mA eC mC w hp).mono fun e w' hh => ⟨by rw [hh.1, hr], hh.2⟩
theorem paths_bad {k x y : Int} (h : pathsP p.N p.Wd p.E x y = .error k) (hE : kE.C w eA p.E.length p.E) : Calls Try.prog 11 #[.agg #[.int .i64 p.N, .int .i64 p.Wd, .slice eA p.E.length eC], .int .i64 x, .int .i64 y] w fun e w' => ∃ A c, e = .returned (.tuple #[.slice A 0 c, .int .i64 k]) ∧ Below w.heap.size w w' :=
 res_err (f := fun r => r.map (numsT p.Wd.toNat)) h rfl (paths_any p.N p.Wd p.E eA eC x y w hE)
end
namespace Mdl
theorem kn_t : truthX planP (List.replicate 301 0) (-1) = .error 3 := by kernel_rfl
theorem kn_b : beliefX planP [] (-1) 0 = .error 2 := by kernel_rfl
theorem kn_l : ledgerX planP [] 0 2 = .error 2 := by kernel_rfl
theorem kn_h : heldX planP [] 0 (-1) = .error 2 := by kernel_rfl
theorem kn_o1 : toldX planP [] 2 (9, []) = .error 2 := by kernel_rfl
theorem kn_o2 : toldX planP [] 0 (3, [0, 0]) = .error 1 := by kernel_rfl
theorem kn_o3 : toldX planP [] 0 (0, [0]) = .error 1 := by kernel_rfl
theorem kn_o4 : toldX planP [] 0 (0, [-1, 0]) = .error 1 := by kernel_rfl
theorem kn_p : pathsP planP.N planP.Wd planP.E 3 0 = .error 2 := by kernel_rfl
theorem kn_r : runX ⟨1, 1, [], 4, []⟩ [5, 6] = .ok (0, 0, 0) := by kernel_rfl
theorem kn_p2 : pathsP 2 1 [] 0 1 = .ok [] := by kernel_rfl
theorem iter_stop (E : List Ed) (W n : Nat) (st : St) (h : stepS E W (iterS E W n st) = none) : ∀ m, iterS E W (n + m) st = iterS E W n st
 | 0 => rfl
 | m + 1 => by rw [show n + (m + 1) = n + m + 1 from rfl, iterS_snoc, iter_stop E W n st h m, h]
theorem kn_far : truthX planP [] 4611686018427387904 = .ok [[], [], []] := by
 unfold truthX
 rw [show (4611686018427387904 : Int).toNat = 30 + 4611686018427387874 from rfl, iter_stop _ _ _ _ (by kernel_rfl)]
 kernel_rfl
end Mdl
section
variable {p : Plan} {eA mA : Option Addr} {eC mC g t : Nat} {w : World}
theorem truth_bad301 (h : plannedP p = none) (n : Int) (hn : n ≤ 9000) (hp : PlanAt w p eA mA) (hk : w.heap[g]? = some (.cells (madeCells #[.int .i64 0] 301) t (0, 0))) : Calls Try.prog 20 #[planV p eA eC mA mC, .slice (some ⟨g, 0, none⟩) 301 301, .int .i64 n] w fun e w' => ∃ A c, e = .returned (.tuple #[.slice A 0 c, .int .i64 1]) ∧ Below w.heap.size w w' := by
 have hh := truth_bad (eC := eC) (mC := mC) (sC := 301) (sc := List.replicate 301 0) h n hn hp (C_madeN hk (by decide)) (by rw [List.length_replicate]; exact Nat.le_refl _)
 rwa [List.length_replicate] at hh
theorem run_bad301 (h : plannedP p = none) (hp : PlanAt w p eA mA) (hk : w.heap[g]? = some (.cells (madeCells #[.int .i64 0] 301) t (0, 0))) : Calls Try.prog 22 #[planV p eA eC mA mC, .slice (some ⟨g, 0, none⟩) 301 301] w fun e w' => e = .returned (.tuple #[.agg #[.int .i64 0, .int .i64 0, .int .i64 0], .int .i64 1]) ∧ Below w.heap.size w w' := by
 have hh := run_bad (eC := eC) (mC := mC) (sC := 301) (sc := List.replicate 301 0) h hp (C_madeN hk (by decide)) (by rw [List.length_replicate]; exact Nat.le_refl _)
 rwa [List.length_replicate] at hh
theorem truth_long (hp : PlanAt w planP eA mA) (hk : w.heap[g]? = some (.cells (madeCells #[.int .i64 0] 301) t (0, 0))) : Calls Try.prog 20 #[planV planP eA eC mA mC, .slice (some ⟨g, 0, none⟩) 301 301, .int .i64 (-1)] w fun e w' => ∃ A c, e = .returned (.tuple #[.slice A 0 c, .int .i64 3]) ∧ Below w.heap.size w w' := by
 have hh := res_err (f := fun r => r.map (List.map (numsT planP.Wd.toNat))) kn_t rfl (truth_any planP eA mA (some ⟨g, 0, none⟩) eC mC 301 (List.replicate 301 0) (-1) (by decide) w hp (C_madeN hk (by decide)) (by rw [List.length_replicate]; exact Nat.le_refl _))
 rwa [List.length_replicate] at hh
end
end Go.Proofs.Ytbkfnmgkcgnifaa
namespace Go.Proofs.Ytbkfnmgkcgnifaa
open Go.RowKit Go.Shelf Go.Proofs.YtbkfnmgkcgnifaaW.PrintWords Go.Proofs.YtbkfnmgkcgnifaaW.PrintLast Mdl
namespace Mdl
def knReg (n : Nat) : Code → Bool
 | .region m _ _ => m == n
 | .seq a _ => knReg n a
 | _ => false
def knFrom (n : Nat) : Code → Option Code
 | .seq a b => if knReg n a then some (.seq a b) else match knFrom n a with
  | some c => some c
  | none => knFrom n b
 | .block _ c => knFrom n c
 | .loop c => knFrom n c
 | .scope c => knFrom n c
 | .cond _ a b => match knFrom n a with
  | some c => some c
  | none => knFrom n b
 | _ => none
def knLoop (n : Nat) : Code → Option Code
 | .seq a b => match knLoop n a with
  | some c => some c
  | none => knLoop n b
 | .block _ c => knLoop n c
 | .loop c => match knFrom n c with
  | some _ => some (.loop c)
  | none => none
 | .scope c => knLoop n c
 | .cond _ a b => match knLoop n a with
  | some c => some c
  | none => knLoop n b
 | _ => none
end Mdl
noncomputable def known45 : Code := ((Try.f4.body.bind (knFrom 45)).getD .skip)
noncomputable def knownLoop2 : Code := ((Try.f4.body.bind (knLoop 38)).getD .skip)
end Go.Proofs.Ytbkfnmgkcgnifaa
namespace Go.Proofs.Ytbkfnmgkcgnifaa
open Go.RowKit Go.Shelf Go.Proofs.YtbkfnmgkcgnifaaW.PrintWords Go.Proofs.YtbkfnmgkcgnifaaW.PrintLast Mdl
set_option maxRecDepth 1000000 in
set_option maxHeartbeats 8000000 in
theorem known_tail (x0 x1 x2 x3 x4 x5 x6 x7 x8 x9 x10 x11 x12 x13 x14 x15 x16 x17 x18 x19 x20 x21 x22 x23 x24 x25 x26 x27 x28 x29 x30 x31 x32 x33 x34 x35 x36 x37 x38 x39 x40 x41 x42 x43 x44 x45 x46 x47 x48 x49 x50 x51 x52 x53 x54 x55 x56 x57 x58 x59 x60 x61 x62 x63 x64 x65 x66 x67 x68 x69 x70 x71 x72 x73 x74 x75 x76 x77 x78 x79 x80 x81 x82 x83 x84 x85 x86 x87 x88 x89 x90 x91 x92 x93 x94 x95 x96 x97 x98 x99 x100 x101 x102 x103 x104 x105 x106 x107 x108 x109 x110 x111 x112 x113 x114 x115 x116 x117 x118 x119 x120 x121 x122 x123 x124 x125 x126 x127 x128 x129 x130 x131 x132 x133 x134 x135 x136 x137 x138 x139 x140 x141 x142 x143 x144 x145 x146 x147 x148 x149 x150 x151 x152 x153 x154 x155 x156 x157 x158 x159 x160 x161 x162 x163 x164 x165 x166 x167 x168 x169 x170 x171 x172 x173 x174 x175 x176 x177 x178 x179 x180 x181 x182 x183 x184 x185 x186 x187 x188 x189 x190 x191 x192 x193 x194 x195 x196 x197 x198 x199 x200 x201 x202 x203 x204 x205 x206 x207 x208 x209 x210 x211 x212 x213 x214 x215 x216 x217 x218 x219 x220 x221 x222 x223 x224 x225 x226 x227 x228 x229 x230 x231 x232 x233 x234 x235 x236 x237 x238 x239 x240 x241 x242 x243 x244 x245 x246 x247 x248 x249 x250 x251 x252 x253 x254 x255 x256 x257 x258 x259 x260 x261 x262 x263 x264 x265 x266 x267 x268 x269 x270 x271 x272 x273 x274 x275 x276 x277 x278 x279 x280 x281 x282 x283 x284 x285 x286 x287 x288 x289 x290 x291 x292 x293 x294 x295 x296 x297 x298 x299 x300 x301 x302 x303 x304 x305 x306 x307 x308 x309 x310 x311 x312 x313 x314 x315 x316 x317 x318 x319 x320 x321 x322 x323 x324 x325 x326 x327 x328 x329 x330 x331 x332 x333 x334 x335 x336 x337 x338 x339 x340 x341 x342 x343 x344 x345 x346 x347 x348 x349 x350 x351 x352 x353 x354 x355 x356 x357 x358 x359 : Value) (w wr : World) (hbw : Below w.heap.size w wr) : Code.wp Try.prog known45 (bodyPost Try.prog Try.f4 fun e w' => e = .returned (.bool true) ∧ Below w.heap.size w w') ⟨#[x0, x1, x2, x3, x4, x5, x6, x7, x8, x9, x10, x11, x12, x13, x14, x15, x16, x17, x18, x19, x20, x21, x22, x23, x24, x25, x26, x27, x28, x29, x30, x31, x32, x33, x34, x35, x36, x37, x38, x39, x40, x41, x42, x43, x44, x45, x46, x47, x48, x49, x50, x51, x52, x53, x54, x55, x56, x57, x58, x59, x60, x61, x62, x63, x64, x65, x66, x67, x68, x69, x70, x71, x72, x73, x74, x75, x76, x77, x78, x79, x80, x81, x82, x83, x84, x85, x86, x87, x88, x89, x90, x91, x92, x93, x94, x95, x96, x97, x98, x99, x100, x101, x102, x103, x104, x105, x106, x107, x108, x109, x110, x111, x112, x113, x114, x115, x116, x117, x118, x119, x120, x121, x122, x123, x124, x125, x126, x127, x128, x129, x130, x131, x132, x133, x134, x135, x136, x137, x138, x139, x140, x141, x142, x143, x144, x145, x146, x147, x148, x149, x150, x151, x152, x153, x154, x155, x156, x157, x158, x159, x160, x161, x162, x163, x164, x165, x166, x167, x168, x169, x170, x171, x172, x173, x174, x175, x176, x177, x178, x179, x180, x181, x182, x183, x184, x185, x186, x187, x188, x189, x190, x191, x192, x193, x194, x195, x196, x197, x198, x199, x200, x201, x202, x203, x204, x205, x206, x207, x208, x209, x210, x211, x212, x213, x214, x215, x216, x217, x218, x219, x220, x221, x222, x223, x224, x225, x226, x227, x228, x229, x230, x231, x232, x233, x234, x235, x236, x237, x238, x239, x240, x241, x242, x243, x244, x245, x246, x247, x248, x249, x250, x251, x252, x253, x254, x255, x256, x257, x258, x259, x260, x261, x262, x263, x264, x265, x266, x267, x268, x269, x270, x271, x272, x273, x274, x275, x276, x277, x278, x279, x280, x281, x282, x283, x284, x285, x286, x287, x288, x289, x290, x291, x292, x293, x294, x295, x296, x297, x298, x299, x300, x301, x302, x303, x304, x305, x306, x307, x308, x309, x310, x311, x312, x313, x314, x315, x316, x317, x318, x319, x320, x321, x322, x323, x324, x325, x326, x327, x328, x329, x330, x331, x332, x333, x334, x335, x336, x337, x338, x339, x340, x341, x342, x343, x344, x345, x346, x347, x348, x349, x350, x351, x352, x353, x354, x355, x356, x357, x358, x359], []⟩ wr := by
 dsimp only
 conv => arg 2; whnf
 have HM : ∀ W : World, (Instr.makeSlice 22 (.int .i64 301) (.int .i64 301)).run Try.prog W = .ok (.slice (some ⟨W.heap.size, 0, none⟩) 301 301) (W.alloc (.cells (madeCells #[.int .i64 0] 301) 3)) := print_make_of (P := Try.prog) 22 3 (.int .i64 0) 8 Try.underlying22 Try.infoInt rfl (by decide) 301 (by decide)
 have H0 := Aside0.mk ((Al.start w).up hbw)
 clear hbw
 go_upto_region 45 with fail
 go_cut [15, 16] (fun s15 s16 wx => (∃ A c, s15 = .slice A 0 c) ∧ s16 = .int .i64 3 ∧ Aside0 (Below wr.heap.size wr wx))
 case first =>
  have HBV := Aside0.mk (below_drew1 (Below.refl wr.heap.size wr))
  refine start_ (n := 8) (S := fun V => True) (ds := []) (bs 8 0) (by kernel_rfl) rfl (by kernel_rfl) trivial (fun hHeld => ?_)
  have H1 := Aside0.mk (H0.out.up (below_drew1 (Below.refl wr.heap.size wr)))
  clear H0
  generalize wr.drew = we at *
  refine two_ (i := 0) (j := 1) (Ni := some 226) (Nj := some 227) (bs 8 1) (bs 8 2) rfl rfl rfl rfl (by kernel_rfl) (by decide) (by decide) (fun K hK => ?_) (fun K hK => ?_)
  ·skip
   refine gs0 Try.func18 #[] ?_
   refine (plan_any we).mono ?_
   rintro e v1 ⟨eA, mA, rfl, hp, hb⟩
   have H2 := Aside0.mk (H1.out.up hb)
   clear H1
   have H3 := Aside0.mk (H2.out.plan hp)
   clear H2
   have hbp := hb
   refine ⟨_, rfl, hK.out _ _ trivial (fun hHeld => ?_)⟩
   clear hK K
   refine nm0 (some 226) ?_
   clear hb hp
   refine on0 1 227 (bs 8 3) fun K hK => ?_
   refine va0 ?_
   have H4 := Aside0.mk (H3.out.new (.cells (madeCells #[.int .i64 0] 301) 3) (b := v1.heap.size) rfl)
   clear H3
   have hbm := below_then hbp hbp.size (below_new v1 (.cells (madeCells #[.int .i64 0] 301) 3))
   refine hK.out _ _ trivial (fun hHeld => ?_)
   clear hK K
   refine nm0 (some 227) ?_
   simp only [planV]
   refine on0 2 228 (bs 8 7) fun K hK => ?_
   refine gs0 Try.func20 #[planV planP eA 4 mA 1, .slice (some ⟨v1.heap.size, 0, none⟩) 301 301, .int .i64 (-1)] ?_
   refine (truth_long H4.out.2.1.1 H4.out.1.1).mono ?_
   rintro e v2 ⟨A9, c9, rfl, hb⟩
   refine ⟨_, rfl, hK.out _ _ trivial (fun hHeld => ?_)⟩
   clear hK K
   refine nm0 (some 228) ?_
   refine pu 3 225 (bs 8 15) ?_
   refine pu 4 229 (bs 8 31) ?_
   refine pu 5 230 (bs 8 63) ?_
   refine pu 6 15 (bs 8 127) ?_
   refine pu 7 16 (bs 8 255) ?_
   refine dn0 ?_
   go_wp2_with fail
   go_meet
   exact ⟨⟨_, _, rfl⟩, rfl, ⟨below_then HBV.out HBV.out.size (below_then hbm hbm.size hb)⟩⟩
  ·skip
   refine va0 ?_
   have H5 := Aside0.mk (H1.out.new (.cells (madeCells #[.int .i64 0] 301) 3) (b := we.heap.size) rfl)
   clear H1
   have hbm := below_new we (.cells (madeCells #[.int .i64 0] 301) 3)
   refine hK.out _ _ trivial (fun hHeld => ?_)
   clear hK K
   refine nm0 (some 227) ?_
   refine on0 0 226 (bs 8 3) fun K hK => ?_
   refine gs0 Try.func18 #[] ?_
   refine (plan_any (we.alloc (.cells (madeCells #[.int .i64 0] 301) 3))).mono ?_
   rintro e v3 ⟨eA, mA, rfl, hp, hb⟩
   have H6 := Aside0.mk (H5.out.up hb)
   clear H5
   have H7 := Aside0.mk (H6.out.plan hp)
   clear H6
   have hbp := below_then hbm hbm.size hb
   refine ⟨_, rfl, hK.out _ _ trivial (fun hHeld => ?_)⟩
   clear hK K
   refine nm0 (some 226) ?_
   clear hb hp
   simp only [planV]
   refine on0 2 228 (bs 8 7) fun K hK => ?_
   refine gs0 Try.func20 #[planV planP eA 4 mA 1, .slice (some ⟨we.heap.size, 0, none⟩) 301 301, .int .i64 (-1)] ?_
   refine (truth_long H7.out.1.1 H7.out.2.1.1).mono ?_
   rintro e v4 ⟨A9, c9, rfl, hb⟩
   refine ⟨_, rfl, hK.out _ _ trivial (fun hHeld => ?_)⟩
   clear hK K
   refine nm0 (some 228) ?_
   refine pu 3 225 (bs 8 15) ?_
   refine pu 4 229 (bs 8 31) ?_
   refine pu 5 230 (bs 8 63) ?_
   refine pu 6 15 (bs 8 127) ?_
   refine pu 7 16 (bs 8 255) ?_
   refine dn0 ?_
   go_wp2_with fail
   go_meet
   exact ⟨⟨_, _, rfl⟩, rfl, ⟨below_then HBV.out HBV.out.size (below_then hbp hbp.size hb)⟩⟩
 case rest =>
  obtain ⟨⟨A9, c9, rfl⟩, rfl, hbq⟩ := hcut
  have H8 := Aside0.mk (H0.out.up hbq.out)
  clear H0
  clear hbq HM
  go_wp2_with fail
  refine (plan_any wc).mono ?_
  rintro e v5 ⟨eA46, mA46, rfl, hp, hb⟩
  have H9 := Aside0.mk (H8.out.up hb)
  clear H8
  have H10 := Aside0.mk (H9.out.plan hp)
  clear H9
  clear hb hp
  simp only [planV]
  go_wp2_with fail
  refine (res_err (f := fun r => r.map (List.map (numsT planP.Wd.toNat))) kn_b rfl (belief_any planP eA46 mA46 none 4 1 0 [] (-1) 0 (by decide) _ H10.out.1.1 (Kd.C_nil kI _) (Nat.le_refl _))).mono ?_
  rintro e v6 ⟨B46, b46, rfl, hb⟩
  have H11 := Aside0.mk (H10.out.up hb)
  clear H10
  clear hb
  go_wp2_with fail
  refine (plan_any v6).mono ?_
  rintro e v7 ⟨eA47, mA47, rfl, hp, hb⟩
  have H12 := Aside0.mk (H11.out.up hb)
  clear H11
  have H13 := Aside0.mk (H12.out.plan hp)
  clear H12
  clear hb hp
  simp only [planV]
  go_wp2_with fail
  refine (res_err (f := fun r => r) kn_l rfl (ledger_any planP eA47 mA47 none 4 1 0 [] 0 2 (by decide) _ H13.out.1.1 (Kd.C_nil kI _) (Nat.le_refl _))).mono ?_
  rintro e v8 ⟨B47, b47, rfl, hb⟩
  have H14 := Aside0.mk (H13.out.up hb)
  clear H13
  clear hb
  go_wp2_with fail
  refine (plan_any v8).mono ?_
  rintro e v9 ⟨eA48, mA48, rfl, hp, hb⟩
  have H15 := Aside0.mk (H14.out.up hb)
  clear H14
  have H16 := Aside0.mk (H15.out.plan hp)
  clear H15
  clear hb hp
  simp only [planV]
  go_wp2_with fail
  refine (res_err (f := fun r => r) kn_h rfl (held_any planP eA48 mA48 none 4 1 0 [] 0 (-1) (by decide) _ H16.out.1.1 (Kd.C_nil kI _) (Nat.le_refl _))).mono ?_
  rintro e v10 ⟨B48, b48, rfl, hb⟩
  have H17 := Aside0.mk (H16.out.up hb)
  clear H16
  clear hb
  go_wp2_with fail
  refine (plan_any v10).mono ?_
  rintro e v11 ⟨eA49, mA49, rfl, hp, hb⟩
  have H18 := Aside0.mk (H17.out.up hb)
  clear H17
  have H19 := Aside0.mk (H18.out.plan hp)
  clear H18
  clear hb hp
  simp only [planV]
  go_wp2_with fail
  refine (at_any 9 none 0 0 _).mono ?_
  rintro e v12 ⟨rfl, hb⟩
  have H20 := Aside0.mk (H19.out.up hb)
  clear H19
  clear hb
  go_wp2_with fail
  refine (toldE_any planP eA49 mA49 none none 4 1 0 0 [] 2 9 [] _ H20.out.1.1 (Kd.C_nil kI _) (Nat.le_refl _) (Kd.C_nil kI _)).mono ?_
  rintro e v13 ⟨rfl, hb⟩
  rw [kn_o1]
  simp only [toldR]
  have H21 := Aside0.mk (H20.out.up hb)
  clear H20
  clear hb
  go_wp2_with fail
  refine (plan_any v13).mono ?_
  rintro e v14 ⟨eA50, mA50, rfl, hp, hb⟩
  have H22 := Aside0.mk (H21.out.up hb)
  clear H21
  have H23 := Aside0.mk (H22.out.plan hp)
  clear H22
  clear hb hp
  simp only [planV]
  go_wp2_with fail
  have H24 := Aside0.mk (H23.out.new (.cells #[.int .i64 0, .int .i64 0] 3) (b := v14.heap.size) rfl)
  clear H23
  refine (at_any 3 (some ⟨v14.heap.size, 0, none⟩) 2 2 _).mono ?_
  rintro e v15 ⟨rfl, hb⟩
  have H25 := Aside0.mk (H24.out.up hb)
  clear H24
  clear hb
  go_wp2_with fail
  refine (toldE_any planP eA50 mA50 none (some ⟨v14.heap.size, 0, none⟩) 4 1 0 2 [] 0 3 [0, 0] _ H25.out.2.1.1 (Kd.C_nil kI _) (Nat.le_refl _) (lit_int2 H25.out.1.1)).mono ?_
  rintro e v16 ⟨rfl, hb⟩
  rw [kn_o2]
  simp only [toldR]
  have H26 := Aside0.mk (H25.out.up hb)
  clear H25
  clear hb
  go_wp2_with fail
  refine (plan_any v16).mono ?_
  rintro e v17 ⟨eA51, mA51, rfl, hp, hb⟩
  have H27 := Aside0.mk (H26.out.up hb)
  clear H26
  have H28 := Aside0.mk (H27.out.plan hp)
  clear H27
  clear hb hp
  simp only [planV]
  go_wp2_with fail
  have H29 := Aside0.mk (H28.out.new (.cells #[.int .i64 0] 3) (b := v17.heap.size) rfl)
  clear H28
  refine (at_any 0 (some ⟨v17.heap.size, 0, none⟩) 1 1 _).mono ?_
  rintro e v18 ⟨rfl, hb⟩
  have H30 := Aside0.mk (H29.out.up hb)
  clear H29
  clear hb
  go_wp2_with fail
  refine (toldE_any planP eA51 mA51 none (some ⟨v17.heap.size, 0, none⟩) 4 1 0 1 [] 0 0 [0] _ H30.out.2.1.1 (Kd.C_nil kI _) (Nat.le_refl _) ((Kd.R_reads' (lit_one (base := 0) H30.out.1.1 (Nat.zero_le _))).2.2)).mono ?_
  rintro e v19 ⟨rfl, hb⟩
  rw [kn_o3]
  simp only [toldR]
  have H31 := Aside0.mk (H30.out.up hb)
  clear H30
  clear hb
  go_wp2_with fail
  refine (plan_any v19).mono ?_
  rintro e v20 ⟨eA52, mA52, rfl, hp, hb⟩
  have H32 := Aside0.mk (H31.out.up hb)
  clear H31
  have H33 := Aside0.mk (H32.out.plan hp)
  clear H32
  clear hb hp
  simp only [planV]
  go_wp2_with fail
  have H34 := Aside0.mk (H33.out.new (.cells #[.int .i64 (-1), .int .i64 0] 3) (b := v20.heap.size) rfl)
  clear H33
  refine (at_any 0 (some ⟨v20.heap.size, 0, none⟩) 2 2 _).mono ?_
  rintro e v21 ⟨rfl, hb⟩
  have H35 := Aside0.mk (H34.out.up hb)
  clear H34
  clear hb
  go_wp2_with fail
  refine (toldE_any planP eA52 mA52 none (some ⟨v20.heap.size, 0, none⟩) 4 1 0 2 [] 0 0 [-1, 0] _ H35.out.2.1.1 (Kd.C_nil kI _) (Nat.le_refl _) (lit_int2 H35.out.1.1)).mono ?_
  rintro e v22 ⟨rfl, hb⟩
  rw [kn_o4]
  simp only [toldR]
  have H36 := Aside0.mk (H35.out.up hb)
  clear H35
  clear hb
  go_wp2_with fail
  refine (plan_any v22).mono ?_
  rintro e v23 ⟨eA53, mA53, rfl, hp, hb⟩
  have H37 := Aside0.mk (H36.out.up hb)
  clear H36
  have H38 := Aside0.mk (H37.out.plan hp)
  clear H37
  clear hb hp
  simp only [planV]
  have HF : ∀ W : World, (Instr.field 29 (.agg #[.int .i64 planP.N, .int .i64 planP.Wd, .slice eA53 planP.E.length 4, .int .i64 planP.workers, .slice mA53 planP.start.length 1]) 0).run Try.prog W = .ok (.agg #[.int .i64 planP.N, .int .i64 planP.Wd, .slice eA53 planP.E.length 4]) W := fun W => rfl
  go_wp2_with fail
  refine (res_err (f := fun r => r.map (numsT planP.Wd.toNat)) kn_p rfl (paths_any planP.N planP.Wd planP.E eA53 4 3 0 _ H38.out.1.1.hE)).mono ?_
  rintro e v24 ⟨B53, b53, rfl, hb⟩
  have H39 := Aside0.mk (H38.out.up hb)
  clear H38
  clear hb
  clear HF
  go_wp2_with fail
  have H40 := Aside0.mk (H39.out.new (.cells #[.int .i64 5, .int .i64 6] 3) (b := v24.heap.size) rfl)
  clear H39
  refine (run_any ⟨1, 1, [], 4, []⟩ none none (some ⟨v24.heap.size, 0, none⟩) 0 0 2 [5, 6] _ ⟨Kd.C_nil kE _, Kd.C_nil kMs _⟩ (lit_int2 H40.out.1.1) (Nat.le_refl _)).mono ?_
  rintro e v25 ⟨rfl, hb⟩
  rw [kn_r]
  simp only [runOf]
  have H41 := Aside0.mk (H40.out.up hb)
  clear H40
  clear hb
  have H42 := Aside0.mk (H41.out.new (.cells #[.int .i64 0, .int .i64 0, .int .i64 0] 57) (b := v25.heap.size) rfl)
  clear H41
  go_upto_region 55 with fail
  generalize hrb : v25.heap.size = rb at *
  generalize v25.alloc (.cells #[.int .i64 0, .int .i64 0, .int .i64 0] 57) = v26 at *
  go_wp2_with fail
  refine (res_ok kn_p2 (m := ([] : List (List Int))) rfl (paths_any 2 1 [] none 0 0 1 _ (Kd.C_nil kE _))).mono ?_
  rintro e v27 ⟨B55, b55, rfl, -, -, hb⟩
  have H43 := Aside0.mk (H42.out.up hb)
  clear H42
  clear hb
  go_upto_region 56 with fail
  go_wp2_with fail
  refine (plan_any v27).mono ?_
  rintro e v28 ⟨eA56, mA56, rfl, hp, hb⟩
  have H44 := Aside0.mk (H43.out.up hb)
  clear H43
  have H45 := Aside0.mk (H44.out.plan hp)
  clear H44
  clear hb hp
  simp only [planV]
  go_wp2_with fail
  refine (res_ok kn_far (m := ([[], [], []] : List (List (List Int)))) rfl (truth_any planP eA56 mA56 none 4 1 0 [] 4611686018427387904 (by decide) _ H45.out.1.1 (Kd.C_nil kI _) (Nat.le_refl _))).mono ?_
  rintro e v29 ⟨B56, b56, rfl, h1, -, hb⟩
  have H46 := Aside0.mk (H45.out.up hb)
  clear H45
  have H47 := Aside0.mk (H46.out.row h1)
  clear H46
  clear hb h1
  go_upto_region 57 with fail
  go_upto_region 59 with fail
  have q0 : v29.cell? ⟨rb, 0, none⟩ = some (.int .i64 0) := (blk_cell H47.out.2.2.1.1 0).trans rfl
  have q1 : v29.cell? ⟨rb, 1, none⟩ = some (.int .i64 0) := (blk_cell H47.out.2.2.1.1 1).trans rfl
  have q2 : v29.cell? ⟨rb, 2, none⟩ = some (.int .i64 0) := (blk_cell H47.out.2.2.1.1 2).trans rfl
  have HQ : ∀ w, (binOp .eql 57 (.agg #[.int .i64 0, .int .i64 0, .int .i64 0]) (.agg #[.int .i64 0, .int .i64 0, .int .i64 0])).run Try.prog w = .ok (.bool true) w := is_run 0 0 0 0 0 0
  have HM : ∀ w : World, (Instr.makeSlice 52 (.int .i64 3) (.int .i64 3)).run Try.prog w = .ok (.slice (some ⟨w.heap.size, 0, none⟩) 3 3) (w.alloc (.cells (madeCells #[.slice none 0 0] 3) 32)) := made_fronts 3 (by decide)
  go_wp2_with fail
  have H48 := Aside0.mk (H47.out.new (.cells (madeCells #[.slice none 0 0] 3) 32) (b := v29.heap.size) rfl)
  clear H47
  refine (fronts_same _ _ _ _ _ [[], [], []] H48.out.2.1.1 (C_made H48.out.1.1 (by decide))).mono ?_
  rintro e v30 ⟨rfl, hb⟩
  have H49 := Aside0.mk (H48.out.up hb)
  clear H48
  clear hb q0 q1 q2 HQ HM
  go_wp2_with fail
  refine progressed_fin H49.out.2.2.2.2.2.2.2.2.2.2.2.2.2.2.2.2.1.1 (fun w' hb => ?_)
  go_wp2_with fail
  go_ret
  exact ⟨rfl, hb⟩
end Go.Proofs.Ytbkfnmgkcgnifaa
namespace Go.Proofs.Ytbkfnmgkcgnifaa
open Go.RowKit Go.Shelf Go.Proofs.YtbkfnmgkcgnifaaW.PrintWords Go.Proofs.YtbkfnmgkcgnifaaW.PrintLast Mdl
set_option maxRecDepth 1000000 in
set_option maxHeartbeats 8000000 in
theorem known_loop2 (x0 x2 x3 x5 x6 x7 x8 x9 x10 x11 x12 x13 x14 x15 x16 x17 x18 x19 x20 x21 x22 x23 x24 x25 x26 x27 x28 x29 x30 x31 x32 x33 x34 x35 x36 x37 x38 x39 x40 x41 x42 x43 x44 x45 x46 x47 x48 x49 x50 x51 x52 x53 x54 x55 x56 x57 x58 x59 x60 x61 x62 x63 x64 x65 x66 x67 x68 x69 x70 x71 x72 x73 x74 x75 x76 x77 x78 x79 x80 x81 x82 x83 x84 x85 x86 x87 x88 x89 x90 x91 x92 x93 x94 x95 x96 x97 x98 x99 x100 x101 x102 x103 x104 x105 x106 x107 x108 x109 x110 x111 x112 x113 x114 x115 x116 x117 x118 x119 x120 x121 x122 x123 x124 x125 x126 x127 x128 x129 x130 x131 x132 x133 x134 x135 x136 x137 x138 x139 x140 x141 x142 x143 x144 x145 x146 x147 x148 x149 x150 x151 x152 x153 x154 x155 x156 x157 x158 x159 x160 x161 x162 x163 x164 x165 x166 x167 x168 x169 x170 x171 x172 x173 x174 x175 x176 x177 x178 x179 x180 x181 x182 x183 x184 x185 x186 x187 x188 x189 x190 x191 x192 x193 x194 x195 x196 x197 x198 x199 x200 x201 x202 x203 x204 x205 x206 x207 x208 x209 x210 x211 x212 x213 x214 x215 x216 x217 x218 x219 x220 x221 x222 x223 x224 x225 x226 x227 x228 x229 x230 x231 x232 x233 x234 x235 x236 x237 x238 x239 x240 x241 x242 x243 x244 x245 x246 x247 x248 x249 x250 x251 x252 x253 x254 x255 x256 x257 x258 x259 x260 x261 x262 x263 x264 x265 x266 x267 x268 x269 x270 x271 x272 x273 x274 x275 x276 x277 x278 x279 x280 x281 x282 x283 x284 x285 x286 x287 x288 x289 x290 x291 x292 x293 x294 x295 x296 x297 x298 x299 x300 x301 x302 x303 x304 x305 x306 x307 x308 x309 x310 x311 x312 x313 x314 x315 x316 x317 x318 x319 x320 x321 x322 x323 x324 x325 x326 x327 x328 x329 x330 x331 x332 x333 x334 x335 x336 x337 x338 x339 x340 x341 x342 x343 x344 x345 x346 x347 x348 x349 x350 x351 x352 x353 x354 x355 x356 x357 x358 x359 : Value) (oA : Option Addr) (oC : Nat) (l : List Plan) (w wo : World) (HL : Hid (l.length = 13 ∧ ∀ (j : Nat) (h : j < l.length), l[j] = badP j)) (hC : kPl.C wo oA l.length (l.map planT)) (hbw : Below w.heap.size w wo) (K : Act → World → Prop)
  (hK : ∀ (x0 x1 x2 x3 x4 x5 x6 x7 x8 x9 x10 x11 x12 x13 x14 x15 x16 x17 x18 x19 x20 x21 x22 x23 x24 x25 x26 x27 x28 x29 x30 x31 x32 x33 x34 x35 x36 x37 x38 x39 x40 x41 x42 x43 x44 x45 x46 x47 x48 x49 x50 x51 x52 x53 x54 x55 x56 x57 x58 x59 x60 x61 x62 x63 x64 x65 x66 x67 x68 x69 x70 x71 x72 x73 x74 x75 x76 x77 x78 x79 x80 x81 x82 x83 x84 x85 x86 x87 x88 x89 x90 x91 x92 x93 x94 x95 x96 x97 x98 x99 x100 x101 x102 x103 x104 x105 x106 x107 x108 x109 x110 x111 x112 x113 x114 x115 x116 x117 x118 x119 x120 x121 x122 x123 x124 x125 x126 x127 x128 x129 x130 x131 x132 x133 x134 x135 x136 x137 x138 x139 x140 x141 x142 x143 x144 x145 x146 x147 x148 x149 x150 x151 x152 x153 x154 x155 x156 x157 x158 x159 x160 x161 x162 x163 x164 x165 x166 x167 x168 x169 x170 x171 x172 x173 x174 x175 x176 x177 x178 x179 x180 x181 x182 x183 x184 x185 x186 x187 x188 x189 x190 x191 x192 x193 x194 x195 x196 x197 x198 x199 x200 x201 x202 x203 x204 x205 x206 x207 x208 x209 x210 x211 x212 x213 x214 x215 x216 x217 x218 x219 x220 x221 x222 x223 x224 x225 x226 x227 x228 x229 x230 x231 x232 x233 x234 x235 x236 x237 x238 x239 x240 x241 x242 x243 x244 x245 x246 x247 x248 x249 x250 x251 x252 x253 x254 x255 x256 x257 x258 x259 x260 x261 x262 x263 x264 x265 x266 x267 x268 x269 x270 x271 x272 x273 x274 x275 x276 x277 x278 x279 x280 x281 x282 x283 x284 x285 x286 x287 x288 x289 x290 x291 x292 x293 x294 x295 x296 x297 x298 x299 x300 x301 x302 x303 x304 x305 x306 x307 x308 x309 x310 x311 x312 x313 x314 x315 x316 x317 x318 x319 x320 x321 x322 x323 x324 x325 x326 x327 x328 x329 x330 x331 x332 x333 x334 x335 x336 x337 x338 x339 x340 x341 x342 x343 x344 x345 x346 x347 x348 x349 x350 x351 x352 x353 x354 x355 x356 x357 x358 x359 : Value) (wz : World), Below w.heap.size w wz → K ⟨#[x0, x1, x2, x3, x4, x5, x6, x7, x8, x9, x10, x11, x12, x13, x14, x15, x16, x17, x18, x19, x20, x21, x22, x23, x24, x25, x26, x27, x28, x29, x30, x31, x32, x33, x34, x35, x36, x37, x38, x39, x40, x41, x42, x43, x44, x45, x46, x47, x48, x49, x50, x51, x52, x53, x54, x55, x56, x57, x58, x59, x60, x61, x62, x63, x64, x65, x66, x67, x68, x69, x70, x71, x72, x73, x74, x75, x76, x77, x78, x79, x80, x81, x82, x83, x84, x85, x86, x87, x88, x89, x90, x91, x92, x93, x94, x95, x96, x97, x98, x99, x100, x101, x102, x103, x104, x105, x106, x107, x108, x109, x110, x111, x112, x113, x114, x115, x116, x117, x118, x119, x120, x121, x122, x123, x124, x125, x126, x127, x128, x129, x130, x131, x132, x133, x134, x135, x136, x137, x138, x139, x140, x141, x142, x143, x144, x145, x146, x147, x148, x149, x150, x151, x152, x153, x154, x155, x156, x157, x158, x159, x160, x161, x162, x163, x164, x165, x166, x167, x168, x169, x170, x171, x172, x173, x174, x175, x176, x177, x178, x179, x180, x181, x182, x183, x184, x185, x186, x187, x188, x189, x190, x191, x192, x193, x194, x195, x196, x197, x198, x199, x200, x201, x202, x203, x204, x205, x206, x207, x208, x209, x210, x211, x212, x213, x214, x215, x216, x217, x218, x219, x220, x221, x222, x223, x224, x225, x226, x227, x228, x229, x230, x231, x232, x233, x234, x235, x236, x237, x238, x239, x240, x241, x242, x243, x244, x245, x246, x247, x248, x249, x250, x251, x252, x253, x254, x255, x256, x257, x258, x259, x260, x261, x262, x263, x264, x265, x266, x267, x268, x269, x270, x271, x272, x273, x274, x275, x276, x277, x278, x279, x280, x281, x282, x283, x284, x285, x286, x287, x288, x289, x290, x291, x292, x293, x294, x295, x296, x297, x298, x299, x300, x301, x302, x303, x304, x305, x306, x307, x308, x309, x310, x311, x312, x313, x314, x315, x316, x317, x318, x319, x320, x321, x322, x323, x324, x325, x326, x327, x328, x329, x330, x331, x332, x333, x334, x335, x336, x337, x338, x339, x340, x341, x342, x343, x344, x345, x346, x347, x348, x349, x350, x351, x352, x353, x354, x355, x356, x357, x358, x359], []⟩ wz) : Code.wp Try.prog knownLoop2 (Exit.inBlock 3 (Exit.then K (bodyPost Try.prog Try.f4 fun e w' => e = .returned (.bool true) ∧ Below w.heap.size w w'))) ⟨#[x0, .slice oA 13 oC, x2, x3, .int .i64 0, x5, x6, x7, x8, x9, x10, x11, x12, x13, x14, x15, x16, x17, x18, x19, x20, x21, x22, x23, x24, x25, x26, x27, x28, x29, x30, x31, x32, x33, x34, x35, x36, x37, x38, x39, x40, x41, x42, x43, x44, x45, x46, x47, x48, x49, x50, x51, x52, x53, x54, x55, x56, x57, x58, x59, x60, x61, x62, x63, x64, x65, x66, x67, x68, x69, x70, x71, x72, x73, x74, x75, x76, x77, x78, x79, x80, x81, x82, x83, x84, x85, x86, x87, x88, x89, x90, x91, x92, x93, x94, x95, x96, x97, x98, x99, x100, x101, x102, x103, x104, x105, x106, x107, x108, x109, x110, x111, x112, x113, x114, x115, x116, x117, x118, x119, x120, x121, x122, x123, x124, x125, x126, x127, x128, x129, x130, x131, x132, x133, x134, x135, x136, x137, x138, x139, x140, x141, x142, x143, x144, x145, x146, x147, x148, x149, x150, x151, x152, x153, x154, x155, x156, x157, x158, x159, x160, x161, x162, x163, x164, x165, x166, x167, x168, x169, x170, x171, x172, x173, x174, x175, x176, x177, x178, x179, x180, x181, x182, x183, x184, x185, x186, x187, x188, x189, x190, x191, x192, x193, x194, x195, x196, x197, x198, x199, x200, x201, x202, x203, x204, x205, x206, x207, x208, x209, x210, x211, x212, x213, x214, x215, x216, x217, x218, x219, x220, x221, x222, x223, x224, x225, x226, x227, x228, x229, x230, x231, x232, x233, x234, x235, x236, x237, x238, x239, x240, x241, x242, x243, x244, x245, x246, x247, x248, x249, x250, x251, x252, x253, x254, x255, x256, x257, x258, x259, x260, x261, x262, x263, x264, x265, x266, x267, x268, x269, x270, x271, x272, x273, x274, x275, x276, x277, x278, x279, x280, x281, x282, x283, x284, x285, x286, x287, x288, x289, x290, x291, x292, x293, x294, x295, x296, x297, x298, x299, x300, x301, x302, x303, x304, x305, x306, x307, x308, x309, x310, x311, x312, x313, x314, x315, x316, x317, x318, x319, x320, x321, x322, x323, x324, x325, x326, x327, x328, x329, x330, x331, x332, x333, x334, x335, x336, x337, x338, x339, x340, x341, x342, x343, x344, x345, x346, x347, x348, x349, x350, x351, x352, x353, x354, x355, x356, x357, x358, x359], []⟩ wo := by
 dsimp only at hK ⊢
 conv => arg 2; whnf
 have HM : ∀ W : World, (Instr.makeSlice 22 (.int .i64 301) (.int .i64 301)).run Try.prog W = .ok (.slice (some ⟨W.heap.size, 0, none⟩) 301 301) (W.alloc (.cells (madeCells #[.int .i64 0] 301) 3)) := print_make_of (P := Try.prog) 22 3 (.int .i64 0) 8 Try.underlying22 Try.infoInt rfl (by decide) 301 (by decide)
 have H1 := Aside0.mk (((Al.start w).up hbw).row hC)
 clear hC hbw
 go_loopw [4] (fun i wr => ∃ j : Nat, i = .int .i64 j ∧ j ≤ 13 ∧ Aside0 (Below wo.heap.size wo wr)) (fun i _ => 13 - (intOf i).toNat)
 case atStart => exact ⟨0, rfl, Nat.zero_le _, ⟨Below.refl _ _⟩⟩
 case round =>
  obtain ⟨j, rfl, hj, hX⟩ := hrel
  have H20 := Aside0.mk ((H1.out.up hX.out).since hX.out)
  clear hX
  by_cases hjt : j < 13
  ·have hjE : (j : Int) < 13 := by omega
   have hj0 : (0 : Int) ≤ j := by omega
   obtain ⟨ad, eA, eC, mA, mC, rfl, ⟨f0, f1, f2, f3, f4⟩, hpl⟩ := at_planC H20.out.2.1.1 (k := j) (by rw [HL.out.1]; exact hjt)
   have HBP := Lib.hid (HL.out.2 j (by rw [HL.out.1]; exact hjt))
   generalize l[j]'(by rw [HL.out.1]; exact hjt) = bp at *
   have HPN := Lib.hid (show plannedP bp = none by rw [HBP.out]; exact bad_none j)
   have H21 := Aside0.mk (H20.out.plan hpl)
   clear H20
   clear hpl
   have HF := Aside0.mk (show _ ∧ _ ∧ _ ∧ _ ∧ _ from ⟨f0, f1, f2, f3, f4⟩)
   clear f0 f1 f2 f3 f4
   have H22 := Aside0.mk (H21.out.since (Below.refl wr.heap.size wr))
   clear H21
   have HF := Lib.hid (fun V (hb : Below wr.heap.size wr V) => (And.intro (pw_cell_below hb HF.out.1) (And.intro (pw_cell_below hb HF.out.2.1) (And.intro (pw_cell_below hb HF.out.2.2.1) (And.intro (pw_cell_below hb HF.out.2.2.2.1) (pw_cell_below hb HF.out.2.2.2.2))))))
   go_upto_region 38 with fail
   obtain ⟨f0, f1, f2, f3, f4⟩ := HF.out wr H22.out.1.1
   refine start_ (n := 11) (S := fun V => V.cell? (ad.add (j * 5)) = some (.int .i64 bp.N) ∧ V.cell? ⟨(ad.add (j * 5)).block, (ad.add (j * 5)).off + 1, none⟩ = some (.int .i64 bp.Wd) ∧ V.cell? ⟨(ad.add (j * 5)).block, (ad.add (j * 5)).off + 2, none⟩ = some (.slice eA bp.E.length eC) ∧ V.cell? ⟨(ad.add (j * 5)).block, (ad.add (j * 5)).off + 3, none⟩ = some (.int .i64 bp.workers) ∧ V.cell? ⟨(ad.add (j * 5)).block, (ad.add (j * 5)).off + 4, none⟩ = some (.slice mA bp.start.length mC)) (ds := []) (bs 11 0) (by kernel_rfl) rfl (by kernel_rfl) ⟨f0, f1, f2, f3, f4⟩ (fun hHeld => ?_)
   have H23 := Aside0.mk (H22.out.up (below_drew1 (Below.refl wr.heap.size wr)))
   clear H22
   generalize wr.drew = we at *
   clear f0 f1 f2 f3 f4
   have HSH := Lib.hid (fun V (hb : Below we.heap.size we V) => (And.intro (pw_cell_below hb hHeld.1) (And.intro (pw_cell_below hb hHeld.2.1) (And.intro (pw_cell_below hb hHeld.2.2.1) (And.intro (pw_cell_below hb hHeld.2.2.2.1) (pw_cell_below hb hHeld.2.2.2.2))))))
   refine pu 0 144 (bs 11 1) ?_
   refine pu 1 145 (bs 11 3) ?_
   refine pu 2 146 (bs 11 7) ?_
   refine tk5 3 147 (bs 11 15) hHeld ?_
   refine on0 4 148 (bs 11 31) fun K hK => ?_
   refine va0 ?_
   have H24 := Aside0.mk (H23.out.new (.cells (madeCells #[.int .i64 0] 301) 3) (b := we.heap.size) rfl)
   clear H23
   have hb1 := below_new we (.cells (madeCells #[.int .i64 0] 301) 3)
   refine hK.out _ _ (HSH.out _ hb1) (fun hHeld => ?_)
   clear hK K
   refine nm0 (some 148) ?_
   refine on0 5 149 (bs 11 63) fun K hK => ?_
   refine gs0 Try.func20 #[.agg #[.int .i64 bp.N, .int .i64 bp.Wd, .slice eA bp.E.length eC, .int .i64 bp.workers, .slice mA bp.start.length mC], .slice (some ⟨we.heap.size, 0, none⟩) 301 301, .int .i64 (-1)] ?_
   refine (truth_bad301 HPN.out (-1) (by decide) H24.out.2.2.1.1 H24.out.1.1).mono ?_
   rintro e v1 ⟨A0, c0, rfl, hb⟩
   have H25 := Aside0.mk (H24.out.up hb)
   clear H24
   have hb := below_then hb1 hb1.size hb
   refine ⟨_, rfl, hK.out _ _ (HSH.out _ hb) (fun hHeld => ?_)⟩
   clear hK K
   refine nm0 (some 149) ?_
   clear hb hb1 HSH hHeld
   refine pu 6 143 (bs 11 127) ?_
   refine pu 7 150 (bs 11 255) ?_
   refine pu 8 151 (bs 11 511) ?_
   refine pu 9 5 (bs 11 1023) ?_
   refine pu 10 6 (bs 11 2047) ?_
   refine dn0 ?_
   go_upto_region 39 with fail
   obtain ⟨f0, f1, f2, f3, f4⟩ := HF.out v1 H25.out.2.1.1
   go_wp2_with fail
   refine (belief_bad (sc := []) HPN.out (-1) 9 (by decide) H25.out.2.2.1.1 (Kd.C_nil kI _) (Nat.le_refl _)).mono ?_
   rintro e v2 ⟨A1, c1, rfl, hb⟩
   have H26 := Aside0.mk (H25.out.up hb)
   clear H25
   clear hb
   clear f0 f1 f2 f3 f4
   go_upto_region 40 with fail
   go_cut [9, 10] (fun s9 s10 wx => (∃ g, s9 = .pointer (some ⟨g, 0, none⟩)) ∧ s10 = .int .i64 1 ∧ Aside0 (Below v2.heap.size v2 wx))
   case first =>
    have HBV := Aside0.mk (below_drew1 (Below.refl v2.heap.size v2))
    obtain ⟨f0, f1, f2, f3, f4⟩ := HF.out v2 H26.out.2.1.1
    refine start_ (n := 12) (S := fun V => V.cell? (ad.add (j * 5)) = some (.int .i64 bp.N) ∧ V.cell? ⟨(ad.add (j * 5)).block, (ad.add (j * 5)).off + 1, none⟩ = some (.int .i64 bp.Wd) ∧ V.cell? ⟨(ad.add (j * 5)).block, (ad.add (j * 5)).off + 2, none⟩ = some (.slice eA bp.E.length eC) ∧ V.cell? ⟨(ad.add (j * 5)).block, (ad.add (j * 5)).off + 3, none⟩ = some (.int .i64 bp.workers) ∧ V.cell? ⟨(ad.add (j * 5)).block, (ad.add (j * 5)).off + 4, none⟩ = some (.slice mA bp.start.length mC)) (ds := [10]) (bs 12 0) (by kernel_rfl) rfl (by kernel_rfl) ⟨f0, f1, f2, f3, f4⟩ (fun hHeld => ?_)
    have H27 := Aside0.mk (H26.out.up (below_drew1 (Below.refl v2.heap.size v2)))
    clear H26
    generalize v2.drew = we at *
    clear f0 f1 f2 f3 f4
    have HSH := Lib.hid (fun V (hb : Below we.heap.size we V) => (And.intro (pw_cell_below hb hHeld.1) (And.intro (pw_cell_below hb hHeld.2.1) (And.intro (pw_cell_below hb hHeld.2.2.1) (And.intro (pw_cell_below hb hHeld.2.2.2.1) (pw_cell_below hb hHeld.2.2.2.2))))))
    refine pu 0 161 (bs 12 1) ?_
    refine pu 1 162 (bs 12 3) ?_
    refine pu 2 163 (bs 12 7) ?_
    refine tk5 3 164 (bs 12 15) hHeld ?_
    refine two_ (i := 4) (j := 9) (Ni := some 165) (Nj := some 9) (bs 12 31) (bs 12 527) rfl rfl rfl rfl (by kernel_rfl) (by decide) (by decide) (fun K hK => ?_) (fun K hK => ?_)
    ·skip
     refine va0 ?_
     have H28 := Aside0.mk (H27.out.new (.cells (madeCells #[.int .i64 0] 301) 3) (b := we.heap.size) (by simp))
     clear H27
     have hbm := below_new we (.cells (madeCells #[.int .i64 0] 301) 3)
     refine hK.out _ _ (HSH.out _ hbm) (fun hHeld => ?_)
     clear hK K
     refine nm0 (some 165) ?_
     refine two_ (i := 5) (j := 9) (Ni := some 166) (Nj := some 9) (bs 12 63) (bs 12 543) rfl rfl rfl rfl (by kernel_rfl) (by decide) (by decide) (fun K hK => ?_) (fun K hK => ?_)
     ·skip
      refine gs0 Try.func22 #[.agg #[.int .i64 bp.N, .int .i64 bp.Wd, .slice eA bp.E.length eC, .int .i64 bp.workers, .slice mA bp.start.length mC], .slice (some ⟨we.heap.size, 0, none⟩) 301 301] ?_
      refine (run_bad301 HPN.out H28.out.2.2.2.1.1 H28.out.1.1).mono ?_
      rintro e v3 ⟨rfl, hb⟩
      have H29 := Aside0.mk (H28.out.up hb)
      clear H28
      have hbc := below_then hbm hbm.size hb
      refine ⟨_, rfl, hK.out _ _ (HSH.out _ hbc) (fun hHeld => ?_)⟩
      clear hK K
      refine nm0 (some 166) ?_
      refine pu 6 160 (bs 12 127) ?_
      refine pu 7 167 (bs 12 255) ?_
      refine pu 8 168 (bs 12 511) ?_
      refine on0 9 9 (bs 12 1023) fun K hK => ?_
      refine va0 ?_
      have H30 := Aside0.mk (H29.out.new (.cells #[.int .i64 0, .int .i64 0, .int .i64 0] 57) (b := v3.heap.size) (by simp))
      clear H29
      have hbr := below_then hbc hbc.size (below_new v3 (.cells #[.int .i64 0, .int .i64 0, .int .i64 0] 57))
      refine hK.out _ _ (HSH.out _ hbr) (fun hHeld => ?_)
      clear hK K
      refine nm0 (some 9) ?_
      refine la0 10 (bs 12 2047) (N := none) fun K hK => ?_
      refine sk0 ?_
      refine hK.out _ _ ?_
      clear hK K hHeld
      refine pu 11 10 (bs 12 4095) ?_
      refine dn0 ?_
      have hbf := below_then HBV.out HBV.out.size hbr
      go_wp2_with fail
      go_meet
      exact ⟨⟨_, rfl⟩, rfl, ⟨hbf⟩⟩
     ·skip
      have HRB := Lib.hid (show we.heap.size ≤ we.heap.size + 1 from Nat.le_succ _)
      refine va0 ?_
      have H31 := Aside0.mk (H28.out.new (.cells #[.int .i64 0, .int .i64 0, .int .i64 0] 57) (b := we.heap.size + 1) (by simp))
      clear H28
      have hbr := below_then hbm hbm.size (below_new (we.alloc (.cells (madeCells #[.int .i64 0] 301) 3)) (.cells #[.int .i64 0, .int .i64 0, .int .i64 0] 57))
      refine hK.out _ _ (HSH.out _ hbr) (fun hHeld => ?_)
      clear hK K
      refine nm0 (some 9) ?_
      refine on0 5 166 (bs 12 575) fun K hK => ?_
      refine gs0 Try.func22 #[.agg #[.int .i64 bp.N, .int .i64 bp.Wd, .slice eA bp.E.length eC, .int .i64 bp.workers, .slice mA bp.start.length mC], .slice (some ⟨we.heap.size, 0, none⟩) 301 301] ?_
      refine (run_bad301 HPN.out H31.out.2.2.2.2.1.1 H31.out.2.1.1).mono ?_
      rintro e v4 ⟨rfl, hb⟩
      have H32 := Aside0.mk (H31.out.up hb)
      clear H31
      have hbc := below_then hbr hbr.size hb
      refine ⟨_, rfl, hK.out _ _ (HSH.out _ hbc) (fun hHeld => ?_)⟩
      clear hK K
      refine nm0 (some 166) ?_
      refine pu 6 160 (bs 12 639) ?_
      refine pu 7 167 (bs 12 767) ?_
      refine pu 8 168 (bs 12 1023) ?_
      have z0 : v4.cell? ⟨we.heap.size + 1, 0, none⟩ = some (.int .i64 0) := (blk_cell H32.out.1.1 0).trans rfl
      have y0 := blk_frozen H32.out.1.1 0
      have z1 : v4.cell? ⟨we.heap.size + 1, 1, none⟩ = some (.int .i64 0) := (blk_cell H32.out.1.1 1).trans rfl
      have y1 := blk_frozen H32.out.1.1 1
      have z2 : v4.cell? ⟨we.heap.size + 1, 2, none⟩ = some (.int .i64 0) := (blk_cell H32.out.1.1 2).trans rfl
      have y2 := blk_frozen H32.out.1.1 2
      refine la0 10 (bs 12 2047) (N := none) fun K hK => ?_
      refine sk0 ?_
      refine hK.out _ _ ?_
      clear hK K hHeld
      refine pu 11 10 (bs 12 4095) ?_
      refine dn0 ?_
      have hbf := below_then HBV.out HBV.out.size hbc
      go_wp2_with fail
      go_meet
      exact ⟨⟨_, rfl⟩, rfl, ⟨((hbf.setCell (Nat.le_trans HBV.out.size HRB.out) _).setCell (Nat.le_trans HBV.out.size HRB.out) _).setCell (Nat.le_trans HBV.out.size HRB.out) _⟩⟩
    ·skip
     have HRB := Lib.hid (Nat.le_refl we.heap.size)
     refine va0 ?_
     have H33 := Aside0.mk (H27.out.new (.cells #[.int .i64 0, .int .i64 0, .int .i64 0] 57) (b := we.heap.size) (by simp))
     clear H27
     have hbr := below_new we (.cells #[.int .i64 0, .int .i64 0, .int .i64 0] 57)
     refine hK.out _ _ (HSH.out _ hbr) (fun hHeld => ?_)
     clear hK K
     refine nm0 (some 9) ?_
     refine on0 4 165 (bs 12 543) fun K hK => ?_
     refine va0 ?_
     have H34 := Aside0.mk (H33.out.new (.cells (madeCells #[.int .i64 0] 301) 3) (b := we.heap.size + 1) (by simp))
     clear H33
     have hbm := below_then hbr hbr.size (below_new (we.alloc (.cells #[.int .i64 0, .int .i64 0, .int .i64 0] 57)) (.cells (madeCells #[.int .i64 0] 301) 3))
     refine hK.out _ _ (HSH.out _ hbm) (fun hHeld => ?_)
     clear hK K
     refine nm0 (some 165) ?_
     refine on0 5 166 (bs 12 575) fun K hK => ?_
     refine gs0 Try.func22 #[.agg #[.int .i64 bp.N, .int .i64 bp.Wd, .slice eA bp.E.length eC, .int .i64 bp.workers, .slice mA bp.start.length mC], .slice (some ⟨we.heap.size + 1, 0, none⟩) 301 301] ?_
     refine (run_bad301 HPN.out H34.out.2.2.2.2.1.1 H34.out.1.1).mono ?_
     rintro e v5 ⟨rfl, hb⟩
     have H35 := Aside0.mk (H34.out.up hb)
     clear H34
     have hbc := below_then hbm hbm.size hb
     refine ⟨_, rfl, hK.out _ _ (HSH.out _ hbc) (fun hHeld => ?_)⟩
     clear hK K
     refine nm0 (some 166) ?_
     refine pu 6 160 (bs 12 639) ?_
     refine pu 7 167 (bs 12 767) ?_
     refine pu 8 168 (bs 12 1023) ?_
     have z0 : v5.cell? ⟨we.heap.size, 0, none⟩ = some (.int .i64 0) := (blk_cell H35.out.2.1.1 0).trans rfl
     have y0 := blk_frozen H35.out.2.1.1 0
     have z1 : v5.cell? ⟨we.heap.size, 1, none⟩ = some (.int .i64 0) := (blk_cell H35.out.2.1.1 1).trans rfl
     have y1 := blk_frozen H35.out.2.1.1 1
     have z2 : v5.cell? ⟨we.heap.size, 2, none⟩ = some (.int .i64 0) := (blk_cell H35.out.2.1.1 2).trans rfl
     have y2 := blk_frozen H35.out.2.1.1 2
     refine la0 10 (bs 12 2047) (N := none) fun K hK => ?_
     refine sk0 ?_
     refine hK.out _ _ ?_
     clear hK K hHeld
     refine pu 11 10 (bs 12 4095) ?_
     refine dn0 ?_
     have hbf := below_then HBV.out HBV.out.size hbc
     go_wp2_with fail
     go_meet
     exact ⟨⟨_, rfl⟩, rfl, ⟨((hbf.setCell (Nat.le_trans HBV.out.size HRB.out) _).setCell (Nat.le_trans HBV.out.size HRB.out) _).setCell (Nat.le_trans HBV.out.size HRB.out) _⟩⟩
   case rest =>
    obtain ⟨⟨rg, rfl⟩, rfl, hbq⟩ := hcut
    have H36 := Aside0.mk (H26.out.up hbq.out)
    clear H26
    clear hbq
    go_upto_region 41 with fail
    obtain ⟨f0, f1, f2, f3, f4⟩ := HF.out wc H36.out.2.1.1
    refine start_ (n := 11) (S := fun V => V.cell? (ad.add (j * 5)) = some (.int .i64 bp.N) ∧ V.cell? ⟨(ad.add (j * 5)).block, (ad.add (j * 5)).off + 1, none⟩ = some (.int .i64 bp.Wd) ∧ V.cell? ⟨(ad.add (j * 5)).block, (ad.add (j * 5)).off + 2, none⟩ = some (.slice eA bp.E.length eC) ∧ V.cell? ⟨(ad.add (j * 5)).block, (ad.add (j * 5)).off + 3, none⟩ = some (.int .i64 bp.workers) ∧ V.cell? ⟨(ad.add (j * 5)).block, (ad.add (j * 5)).off + 4, none⟩ = some (.slice mA bp.start.length mC)) (ds := []) (bs 11 0) (by kernel_rfl) rfl (by kernel_rfl) ⟨f0, f1, f2, f3, f4⟩ (fun hHeld => ?_)
    have H37 := Aside0.mk (H36.out.up (below_drew1 (Below.refl wc.heap.size wc)))
    clear H36
    generalize wc.drew = we at *
    clear f0 f1 f2 f3 f4
    have HSH := Lib.hid (fun V (hb : Below we.heap.size we V) => (And.intro (pw_cell_below hb hHeld.1) (And.intro (pw_cell_below hb hHeld.2.1) (And.intro (pw_cell_below hb hHeld.2.2.1) (And.intro (pw_cell_below hb hHeld.2.2.2.1) (pw_cell_below hb hHeld.2.2.2.2))))))
    refine pu 0 170 (bs 11 1) ?_
    refine pu 1 171 (bs 11 3) ?_
    refine pu 2 172 (bs 11 7) ?_
    refine tk5 3 173 (bs 11 15) hHeld ?_
    refine on0 4 174 (bs 11 31) fun K hK => ?_
    refine gs0 Try.func19 #[.int .i64 9, .slice none 0 0] ?_
    refine (at_any 9 none 0 0 _).mono ?_
    rintro e v6 ⟨rfl, hb⟩
    have H38 := Aside0.mk (H37.out.up hb)
    clear H37
    refine ⟨_, rfl, hK.out _ _ (HSH.out _ hb) (fun hHeld => ?_)⟩
    clear hK K
    refine nm0 (some 174) ?_
    have hb1 := hb
    clear hb
    refine on0 5 175 (bs 11 63) fun K hK => ?_
    refine gs0 Try.func23 #[.agg #[.int .i64 bp.N, .int .i64 bp.Wd, .slice eA bp.E.length eC, .int .i64 bp.workers, .slice mA bp.start.length mC], .slice none 0 0, .int .i64 (-1), .agg #[.int .i64 9, .slice none 0 0]] ?_
    refine (told_bad (sc := []) (tl := []) HPN.out (-1) 9 H38.out.2.2.1.1 (Kd.C_nil kI _) (Nat.le_refl _) (Kd.C_nil kI _)).mono ?_
    rintro e v7 ⟨rfl, hb⟩
    have H39 := Aside0.mk (H38.out.up hb)
    clear H38
    have hb := below_then hb1 hb1.size hb
    refine ⟨_, rfl, hK.out _ _ (HSH.out _ hb) (fun hHeld => ?_)⟩
    clear hK K
    refine nm0 (some 175) ?_
    clear hb hb1 HSH hHeld
    refine pu 6 169 (bs 11 127) ?_
    refine pu 7 176 (bs 11 255) ?_
    refine pu 8 177 (bs 11 511) ?_
    refine pu 9 11 (bs 11 1023) ?_
    refine pu 10 12 (bs 11 2047) ?_
    refine dn0 ?_
    go_upto_region 42 with fail
    obtain ⟨pe, hpe⟩ : ∃ pe : Int, pe = if j < 8 then 1 else 2 := ⟨_, rfl⟩
    have HPE := Lib.hid hpe
    clear hpe
    obtain ⟨f0, f1, f2, f3, f4⟩ := HF.out v7 H39.out.2.1.1
    go_wp2_with fail
    refine (paths_bad (k := pe) (by rw [HBP.out, HPE.out]; exact bad_paths j) H39.out.2.2.1.1.hE).mono ?_
    rintro e v8 ⟨A2, c2, rfl, hb⟩
    have H40 := Aside0.mk (H39.out.up hb)
    clear H39
    clear hb
    clear f0 f1 f2 f3 f4
    go_upto_region 43 with fail
    obtain ⟨f0, f1, f2, f3, f4⟩ := HF.out v8 H40.out.2.1.1
    have hbx := H40.out.2.2.1.1
    go_wp2_with fail
    refine (check_bad HPN.out H40.out.2.2.1.1).mono ?_
    rintro e v9 ⟨rfl, hb⟩
    have H41 := Aside0.mk (H40.out.up hb)
    clear H40
    clear hb
    clear f0 f1 f2 f3 f4 hbx
    have HR := Aside0.mk H41.out.2.2.2.1.1
    have hpe := HPE.out
    by_cases h8 : j < 8
    ·rw [if_pos h8] at hpe
     have h8E : ((j : Int) < 8) := by omega
     subst hpe
     go_wp2_with fail
     exact ⟨⟨j + 1, by go_num, by omega, HR⟩, by simp [intOf]; omega⟩
    ·rw [if_neg h8] at hpe
     have h8E : ¬ ((j : Int) < 8) := by omega
     have h8F : (8 : Int) ≤ j := by omega
     subst hpe
     go_wp2_with fail
     exact ⟨⟨j + 1, by go_num, by omega, HR⟩, by simp [intOf]; omega⟩
  ·have hjE : ¬ (j : Int) < 13 := by omega
   clear H1
   go_wp2_with fail
   exact H20.out.2.2.1.1
end Go.Proofs.Ytbkfnmgkcgnifaa
namespace Go.Proofs.Ytbkfnmgkcgnifaa
open Go.RowKit Go.Shelf Go.Proofs.YtbkfnmgkcgnifaaW.PrintWords Go.Proofs.YtbkfnmgkcgnifaaW.PrintLast Mdl
set_option maxRecDepth 1000000 in
set_option maxHeartbeats 8000000 in
theorem known_walk (w : World) : Calls Try.prog 4 #[] w fun e w' => e = .returned (.bool true) ∧ Below w.heap.size w w' := by
 go_enter Try.func4, Try.ntmps4
 have HO := Aside0.mk (show kPl.R 29 (w.alloc (.cells #[] 29)) w.heap.size (fun _ => True) (.slice (some ⟨w.heap.size, 0, none⟩) 0 0) ((List.range 0).map (fun i => planT (badP i))) ∧ Below w.heap.size w (w.alloc (.cells #[] 29)) from ⟨R_empty kPl 29 w.heap.size w (Nat.le_refl _), below_new w _⟩)
 go_wp2_with fail
 generalize w.alloc (.cells #[] 29) = v0 at *
 go_loopw [1, 2] (fun o i wr => ∃ k : Nat, i = .int .i64 k ∧ k ≤ 13 ∧ Aside0 (kPl.R 29 wr w.heap.size (fun _ => True) o ((List.range k).map (fun i => planT (badP i))) ∧ Below w.heap.size w wr)) (fun _ i _ => 13 - (intOf i).toNat)
 case atStart => exact ⟨0, rfl, Nat.zero_le _, HO⟩
 case round =>
  clear HO
  obtain ⟨k, rfl, hk, hX⟩ := hrel
  by_cases hkt : k < 13
  ·have hkE : (k : Int) < 13 := by omega
   go_wp2_with fail
   refine (plan_anyR wr).mono ?_
   rintro e v1 ⟨eA, mA, rfl, hR, hb⟩
   rw [show planV planP eA 4 mA 1 = .agg #[.int .i64 3, .int .i64 2, .slice eA 4 4, .int .i64 2, .slice mA 1 1] from rfl]
   have HR := Aside0.mk (And.intro hR hb)
   clear hR hb
   have HP := Aside0.mk (And.intro (heap_alloc_new v1 (.cells #[.int .i64 3, .int .i64 2, .slice eA 4 4, .int .i64 2, .slice mA 1 1] 29)) (below_new v1 (.cells #[.int .i64 3, .int .i64 2, .slice eA 4 4, .int .i64 2, .slice mA 1 1] 29)))
   go_upto_region 6 with fail
   generalize v1.alloc (.cells #[.int .i64 3, .int .i64 2, .slice eA 4 4, .int .i64 2, .slice mA 1 1] 29) = v2 at *
   have HE := Aside0.mk (And.intro (Kd.R_below HR.out.1.1 HP.out.2) (And.intro (Kd.R_below HR.out.1.2 HP.out.2) (below_then HR.out.2 HR.out.2.size HP.out.2)))
   obtain ⟨pb, hpb⟩ : ∃ pb, pb = v1.heap.size := ⟨_, rfl⟩
   have HPB := Lib.hid (show wr.heap.size ≤ pb ∧ v2.heap[pb]? = some (.cells #[.int .i64 3, .int .i64 2, .slice eA 4 4, .int .i64 2, .slice mA 1 1] 29 (0, 0)) from ⟨by rw [hpb]; exact HR.out.2.size, by rw [hpb]; exact HP.out.1⟩)
   rw [← hpb]
   clear hpb HP HR
   have p2 : (v2.alloc (.cells #[] 41)).cell? ⟨pb, 2, none⟩ = some (.slice eA 4 4) := pw_cell_below (below_new v2 _) ((blk_cell HPB.out.2 2).trans rfl)
   have HZ := Aside0.mk (And.intro (R_empty kE 41 wr.heap.size v2 HE.out.2.2.size) (And.intro (below_then HE.out.2.2 HE.out.2.2.size (below_new v2 (.cells #[] 41))) (below_new v2 (.cells #[] 41))))
   go_upto_region 7 with (at_builtin; go_must (refine Kd.R_append_rows kE (Rr := kE.M (v2.alloc (.cells #[] 41)) wr.heap.size (fun q => q < v2.heap.size)) (w0 := wr) wr.heap.size rfl (.tmp 45) (.tmp 48) 24 41 _ 40 rfl Try.underlying24 Try.infoEdge rfl (by decide) (by decide) (.slice (some ⟨v2.heap.size, 0, none⟩) 0 0) [] planP.E eA 4 4 (fun _ => True) (fun q => q < v2.heap.size) rfl rfl HZ.out.1 (copy_rd HE.out.1 (below_new v2 _)) (fun _ _ h => h) (fun q hq => ⟨trivial, ne_own (Nat.ne_of_lt hq)⟩) (fun _ _ => trivial) HZ.out.2.1 HZ.out.2.1.size (by simp) ?_); intro u6 w6 hR6 hb6 hg6 hat6; have hbw6 := HZ.out.2.2.grown hg6 HZ.out.2.2.size (fun q hq => by injection hq with hq; subst hq; exact Nat.le_refl _); have hpb6 := blk_below HPB.out.2 hbw6; have y2 := blk_frozen hpb6 2; have z2 := (blk_cell hpb6 2).trans rfl; obtain ⟨A5, c5, hv6⟩ : ∃ A c, u6 = .slice A 4 c := Kd.R_slice hR6; rw [List.nil_append] at hR6; subst hv6; have HX6 := Aside0.mk (And.intro hR6 (And.intro hb6 (And.intro hpb6 hbw6))); clear hR6 hb6 hg6 hat6 hbw6 hpb6)
   have HY := Aside0.mk (And.intro (Kd.R_set HX6.out.1 HX6.out.2.2.1 kE_types 2 (.slice A5 4 c5)) (And.intro (Kd.R_set (Kd.R_below HE.out.2.1 HX6.out.2.2.2) HX6.out.2.2.1 kMs_types 2 (.slice A5 4 c5)) (And.intro (blk_put HX6.out.2.2.1 2 (.slice A5 4 c5) rfl) (HX6.out.2.1.setCell HPB.out.1 (p := ⟨pb, 2, none⟩) (.slice A5 4 c5)))))
   clear HE HX6 HZ p2 y2 z2
   generalize w6.setCell ⟨pb, 2, none⟩ (.slice A5 4 c5) = v3 at *
   have p4 : (v3.alloc (.cells #[] 51)).cell? ⟨pb, 4, none⟩ = some (.slice mA 1 1) := pw_cell_below (below_new v3 _) ((blk_cell HY.out.2.2.1 4).trans rfl)
   have HZ := Aside0.mk (And.intro (R_empty kMs 51 wr.heap.size v3 HY.out.2.2.2.size) (And.intro (below_then HY.out.2.2.2 HY.out.2.2.2.size (below_new v3 (.cells #[] 51))) (below_new v3 (.cells #[] 51))))
   go_upto_region 8 with (at_builtin; go_must (refine Kd.R_append_rows kMs (Rr := kMs.M (v3.alloc (.cells #[] 51)) wr.heap.size (fun q => q < v3.heap.size)) (w0 := wr) wr.heap.size rfl (.tmp 52) (.tmp 54) 27 51 _ 40 rfl Try.underlying27 Try.infoMsg rfl (by decide) (by decide) (.slice (some ⟨v3.heap.size, 0, none⟩) 0 0) [] planP.start mA 1 1 (fun _ => True) (fun q => q < v3.heap.size) rfl rfl HZ.out.1 (copy_rd HY.out.2.1 (below_new v3 _)) (fun _ _ h => h) (fun q hq => ⟨trivial, ne_own (Nat.ne_of_lt hq)⟩) (fun _ _ => trivial) HZ.out.2.1 HZ.out.2.1.size (by simp) ?_); intro u6 w6 hR6 hb6 hg6 hat6; have hbw6 := HZ.out.2.2.grown hg6 HZ.out.2.2.size (fun q hq => by injection hq with hq; subst hq; exact Nat.le_refl _); have hpb6 := blk_below HY.out.2.2.1 hbw6; have y4 := blk_frozen hpb6 4; have z4 := (blk_cell hpb6 4).trans rfl; obtain ⟨A6, c6, hv6⟩ : ∃ A c, u6 = .slice A 1 c := Kd.R_slice hR6; rw [List.nil_append] at hR6; subst hv6; have HX6 := Aside0.mk (And.intro hR6 (And.intro hb6 (And.intro hpb6 hbw6))); clear hR6 hb6 hg6 hat6 hbw6 hpb6)
   have HV := Aside0.mk (And.intro (Kd.R_set (Kd.R_below HY.out.1 HX6.out.2.2.2) HX6.out.2.2.1 kE_types 4 (.slice A6 1 c6)) (And.intro (Kd.R_set HX6.out.1 HX6.out.2.2.1 kMs_types 4 (.slice A6 1 c6)) (And.intro (blk_put HX6.out.2.2.1 4 (.slice A6 1 c6) rfl) (HX6.out.2.1.setCell HPB.out.1 (p := ⟨pb, 4, none⟩) (.slice A6 1 c6)))))
   clear HY HX6 HZ p4 y4 z4
   generalize w6.setCell ⟨pb, 4, none⟩ (.slice A6 1 c6) = v4 at *
   obtain ⟨eg, _, he, heg, _, cse, hce⟩ := Kd.R_form HV.out.1 (by decide)
   injection he with he1 he2 he3
   subst he1 he3
   obtain ⟨sg, _, hs, hsg, _, css, hcs⟩ := Kd.R_form HV.out.2.1 (by decide)
   injection hs with hs1 hs2 hs3
   subst hs1 hs3
   clear he2 hs2
   have HG := Lib.hid (And.intro heg (And.intro hsg (And.intro hce hcs)))
   have HG := Lib.hid (And.intro heg hsg)
   have HCE := Lib.hid hce
   have HCS := Lib.hid hcs
   clear heg hsg hce hcs
   go_upto_block 2 with fail
   go_cut [62] (fun s62 wx => BadAt (badP k) wr.heap.size pb wx ∧ Aside0 (Below wr.heap.size wr wx))
   case first =>
    clear hk hkE
    have h13 : k = 0 ∨ k = 1 ∨ k = 2 ∨ k = 3 ∨ k = 4 ∨ k = 5 ∨ k = 6 ∨ k = 7 ∨ k = 8 ∨ k = 9 ∨ k = 10 ∨ k = 11 ∨ k = 12 := by omega
    rcases h13 with rfl | rfl | rfl | rfl | rfl | rfl | rfl | rfl | rfl | rfl | rfl | rfl | rfl
    ·skip
     have y0 := blk_frozen HV.out.2.2.1 0
     have z0 := (blk_cell HV.out.2.2.1 0).trans rfl
     go_wp2_with fail
     go_meet
     exact ⟨⟨_, _, _, _, blk_put HV.out.2.2.1 0 (.int .i64 0) rfl, Kd.R_set HV.out.1 HV.out.2.2.1 kE_types 0 _, Kd.R_set HV.out.2.1 HV.out.2.2.1 kMs_types 0 _⟩, ⟨HV.out.2.2.2.setCell HPB.out.1 _⟩⟩
    ·skip
     have y0 := blk_frozen HV.out.2.2.1 0
     have z0 := (blk_cell HV.out.2.2.1 0).trans rfl
     go_wp2_with fail
     go_meet
     exact ⟨⟨_, _, _, _, blk_put HV.out.2.2.1 0 (.int .i64 9) rfl, Kd.R_set HV.out.1 HV.out.2.2.1 kE_types 0 _, Kd.R_set HV.out.2.1 HV.out.2.2.1 kMs_types 0 _⟩, ⟨HV.out.2.2.2.setCell HPB.out.1 _⟩⟩
    ·skip
     have y0 := blk_frozen HV.out.2.2.1 1
     have z0 := (blk_cell HV.out.2.2.1 1).trans rfl
     go_wp2_with fail
     go_meet
     exact ⟨⟨_, _, _, _, blk_put HV.out.2.2.1 1 (.int .i64 4) rfl, Kd.R_set HV.out.1 HV.out.2.2.1 kE_types 1 _, Kd.R_set HV.out.2.1 HV.out.2.2.1 kMs_types 1 _⟩, ⟨HV.out.2.2.2.setCell HPB.out.1 _⟩⟩
    ·skip
     have p2 : v4.cell? ⟨pb, 2, none⟩ = some (.slice (some ⟨eg, 0, none⟩) 4 c5) := (blk_cell HV.out.2.2.1 2).trans rfl
     obtain ⟨t0, z, y, hR, hg⟩ := kE_to HV.out.1 (k := 0) (by decide) 3
     have z0 : v4.cell? ⟨eg, 1, none⟩ = some (.int .i64 t0) := z
     have y0 : v4.frozen? ⟨eg, 1, none⟩ = false := y
     have HN := Aside0.mk (And.intro hR hg)
     clear hR hg z y
     go_wp2_with fail
     go_meet
     have HE9 := HV.out.1
     have HCE9 := HCE.out
     exact ⟨⟨_, _, _, _, (HN.out.2.block pb (blk_lt HV.out.2.2.1) (Kd.R_ne HE9 HV.out.2.2.1 (by decide))).trans HV.out.2.2.1, HN.out.1, R_overB HV.out.2.1 (HCE9) kMs_off HN.out.2⟩, ⟨HV.out.2.2.2.grown HN.out.2 HV.out.2.2.2.size (fun q hq => by injection hq with hq; subst hq; exact HG.out.1)⟩⟩
    ·skip
     have hbl := below_new v4 (.cells #[.int .i64 0, .int .i64 101] 3)
     have hkk := blk_below HV.out.2.2.1 hbl
     have HE9 := Kd.R_below HV.out.1 hbl
     have HS9 := Kd.R_below HV.out.2.1 hbl
     obtain ⟨A0, n0, d0, z, y, hR, hg⟩ := kE_add HE9 (k := 1) (by decide) (lit_two (heap_alloc_new v4 (.cells #[.int .i64 0, .int .i64 101] 3)) HV.out.2.2.2.size)
     have p2 : v4.cell? ⟨pb, 2, none⟩ = some (.slice (some ⟨eg, 0, none⟩) 4 c5) := (blk_cell HV.out.2.2.1 2).trans rfl
     have z0 : (v4.alloc (.cells #[.int .i64 0, .int .i64 101] 3)).cell? ⟨eg, 5, none⟩ = some (.slice A0 n0 d0) := z
     have y0 : (v4.alloc (.cells #[.int .i64 0, .int .i64 101] 3)).frozen? ⟨eg, 5, none⟩ = false := y
     have HN := Aside0.mk (And.intro hR (And.intro hg (And.intro hkk (And.intro HE9 (And.intro HS9 (And.intro (below_then HV.out.2.2.2 HV.out.2.2.2.size hbl) (blk_below HCE.out hbl)))))))
     clear hR hg z y hbl hkk HE9 HS9
     go_wp2_with fail
     go_meet
     rw [← World.setCell_alloc_past (.cells #[.int .i64 0, .int .i64 101] 3) eg 5 _ (blk_lt HCE.out)]
     have HE9 := HN.out.2.2.2.1
     have HCE9 := HN.out.2.2.2.2.2.2
     exact ⟨⟨_, _, _, _, (HN.out.2.1.block pb (blk_lt HN.out.2.2.1) (Kd.R_ne HE9 HN.out.2.2.1 (by decide))).trans HN.out.2.2.1, HN.out.1, R_overB HN.out.2.2.2.2.1 (HCE9) kMs_off HN.out.2.1⟩, ⟨HN.out.2.2.2.2.2.1.grown HN.out.2.1 HN.out.2.2.2.2.2.1.size (fun q hq => by injection hq with hq; subst hq; exact HG.out.1)⟩⟩
    ·skip
     have hbl := below_new v4 (.cells #[.int .i64 0] 3)
     have hkk := blk_below HV.out.2.2.1 hbl
     have HE9 := Kd.R_below HV.out.1 hbl
     have HS9 := Kd.R_below HV.out.2.1 hbl
     obtain ⟨A0, n0, d0, z, y, hR, hg⟩ := kE_add HE9 (k := 1) (by decide) (lit_one (heap_alloc_new v4 (.cells #[.int .i64 0] 3)) HV.out.2.2.2.size)
     have p2 : v4.cell? ⟨pb, 2, none⟩ = some (.slice (some ⟨eg, 0, none⟩) 4 c5) := (blk_cell HV.out.2.2.1 2).trans rfl
     have z0 : (v4.alloc (.cells #[.int .i64 0] 3)).cell? ⟨eg, 5, none⟩ = some (.slice A0 n0 d0) := z
     have y0 : (v4.alloc (.cells #[.int .i64 0] 3)).frozen? ⟨eg, 5, none⟩ = false := y
     have HN := Aside0.mk (And.intro hR (And.intro hg (And.intro hkk (And.intro HE9 (And.intro HS9 (And.intro (below_then HV.out.2.2.2 HV.out.2.2.2.size hbl) (blk_below HCE.out hbl)))))))
     clear hR hg z y hbl hkk HE9 HS9
     go_wp2_with fail
     go_meet
     rw [← World.setCell_alloc_past (.cells #[.int .i64 0] 3) eg 5 _ (blk_lt HCE.out)]
     have HE9 := HN.out.2.2.2.1
     have HCE9 := HN.out.2.2.2.2.2.2
     exact ⟨⟨_, _, _, _, (HN.out.2.1.block pb (blk_lt HN.out.2.2.1) (Kd.R_ne HE9 HN.out.2.2.1 (by decide))).trans HN.out.2.2.1, HN.out.1, R_overB HN.out.2.2.2.2.1 (HCE9) kMs_off HN.out.2.1⟩, ⟨HN.out.2.2.2.2.2.1.grown HN.out.2.1 HN.out.2.2.2.2.2.1.size (fun q hq => by injection hq with hq; subst hq; exact HG.out.1)⟩⟩
    ·skip
     have hbl := below_new v4 (.cells #[.int .i64 0, .int .i64 0] 3)
     have hkk := blk_below HV.out.2.2.1 hbl
     have HE9 := Kd.R_below HV.out.1 hbl
     have HS9 := Kd.R_below HV.out.2.1 hbl
     obtain ⟨A0, n0, d0, z, y, hR, hg⟩ := kE_add HE9 (k := 1) (by decide) (lit_two (heap_alloc_new v4 (.cells #[.int .i64 0, .int .i64 0] 3)) HV.out.2.2.2.size)
     have p2 : v4.cell? ⟨pb, 2, none⟩ = some (.slice (some ⟨eg, 0, none⟩) 4 c5) := (blk_cell HV.out.2.2.1 2).trans rfl
     have z0 : (v4.alloc (.cells #[.int .i64 0, .int .i64 0] 3)).cell? ⟨eg, 5, none⟩ = some (.slice A0 n0 d0) := z
     have y0 : (v4.alloc (.cells #[.int .i64 0, .int .i64 0] 3)).frozen? ⟨eg, 5, none⟩ = false := y
     have HN := Aside0.mk (And.intro hR (And.intro hg (And.intro hkk (And.intro HE9 (And.intro HS9 (And.intro (below_then HV.out.2.2.2 HV.out.2.2.2.size hbl) (blk_below HCE.out hbl)))))))
     clear hR hg z y hbl hkk HE9 HS9
     go_wp2_with fail
     go_meet
     rw [← World.setCell_alloc_past (.cells #[.int .i64 0, .int .i64 0] 3) eg 5 _ (blk_lt HCE.out)]
     have HE9 := HN.out.2.2.2.1
     have HCE9 := HN.out.2.2.2.2.2.2
     exact ⟨⟨_, _, _, _, (HN.out.2.1.block pb (blk_lt HN.out.2.2.1) (Kd.R_ne HE9 HN.out.2.2.1 (by decide))).trans HN.out.2.2.1, HN.out.1, R_overB HN.out.2.2.2.2.1 (HCE9) kMs_off HN.out.2.1⟩, ⟨HN.out.2.2.2.2.2.1.grown HN.out.2.1 HN.out.2.2.2.2.2.1.size (fun q hq => by injection hq with hq; subst hq; exact HG.out.1)⟩⟩
    ·skip
     go_wp2_with (at_make; go_must (refine Kd.R_make kE (w0 := wr) wr.heap.size 41 rfl (N := 107) rfl _ _ _ rfl 17 rfl rfl Try.underlying24 _ 40 Try.infoEdge rfl (by decide) (by decide) (0, 0, []) (ok := fun _ => True) (okp := fun _ => False) ⟨[_], [_, _], rfl, rfl, ⟨[_], [_], rfl, rfl, ⟨_, rfl, Kd.R_nil _ _ _ _ _⟩⟩⟩ (fun _ h => h.elim) trivial (by decide) (by decide) HV.out.2.2.2 HV.out.2.2.2.size ?_); intro u7 w7 hR7 hb7 hg7 hown7; have hbw7 : Below v4.heap.size v4 w7 := ⟨hg7.os, hg7.tape, hg7.output, hg7.size, fun i hi => hg7.block i hi (by simp)⟩; have hpb7 := blk_below HV.out.2.2.1 hbw7; have y7 := blk_frozen hpb7 2; have z7 := (blk_cell hpb7 2).trans rfl; obtain ⟨A7, c7, hv7⟩ : ∃ A c, u7 = .slice A 17 c := Kd.R_slice hR7; subst hv7; have HX7 := Aside0.mk (And.intro hR7 (And.intro hb7 (And.intro hpb7 hbw7))); clear hR7 hb7 hg7 hbw7 hpb7 hown7)
     go_meet
     exact ⟨⟨_, _, _, _, blk_put HX7.out.2.2.1 2 (.slice A7 17 c7) rfl, Kd.R_set HX7.out.1 HX7.out.2.2.1 kE_types 2 _, Kd.R_set (Kd.R_below HV.out.2.1 HX7.out.2.2.2) HX7.out.2.2.1 kMs_types 2 _⟩, ⟨HX7.out.2.1.setCell HPB.out.1 _⟩⟩
    ·skip
     have y0 := blk_frozen HV.out.2.2.1 3
     have z0 := (blk_cell HV.out.2.2.1 3).trans rfl
     go_wp2_with fail
     go_meet
     exact ⟨⟨_, _, _, _, blk_put HV.out.2.2.1 3 (.int .i64 5) rfl, Kd.R_set HV.out.1 HV.out.2.2.1 kE_types 3 _, Kd.R_set HV.out.2.1 HV.out.2.2.1 kMs_types 3 _⟩, ⟨HV.out.2.2.2.setCell HPB.out.1 _⟩⟩
    ·skip
     go_wp2_with (at_make; go_must (refine Kd.R_make kMs (w0 := wr) wr.heap.size 51 rfl (N := 115) rfl _ _ _ rfl 9 rfl rfl Try.underlying27 _ 40 Try.infoMsg rfl (by decide) (by decide) ((0, []), 0) (ok := fun _ => True) (okp := fun _ => False) ⟨[_, _], [_], rfl, ⟨[_], [_], rfl, rfl, ⟨_, rfl, Kd.R_nil _ _ _ _ _⟩⟩, rfl⟩ (fun _ h => h.elim) trivial (by decide) (by decide) HV.out.2.2.2 HV.out.2.2.2.size ?_); intro u7 w7 hR7 hb7 hg7 hown7; have hbw7 : Below v4.heap.size v4 w7 := ⟨hg7.os, hg7.tape, hg7.output, hg7.size, fun i hi => hg7.block i hi (by simp)⟩; have hpb7 := blk_below HV.out.2.2.1 hbw7; have y7 := blk_frozen hpb7 4; have z7 := (blk_cell hpb7 4).trans rfl; obtain ⟨A7, c7, hv7⟩ : ∃ A c, u7 = .slice A 9 c := Kd.R_slice hR7; subst hv7; have HX7 := Aside0.mk (And.intro hR7 (And.intro hb7 (And.intro hpb7 hbw7))); clear hR7 hb7 hg7 hbw7 hpb7 hown7)
     go_meet
     exact ⟨⟨_, _, _, _, blk_put HX7.out.2.2.1 4 (.slice A7 9 c7) rfl, Kd.R_set (Kd.R_below HV.out.1 HX7.out.2.2.2) HX7.out.2.2.1 kE_types 4 _, Kd.R_set HX7.out.1 HX7.out.2.2.1 kMs_types 4 _⟩, ⟨HX7.out.2.1.setCell HPB.out.1 _⟩⟩
    ·skip
     go_upto_region 31 with fail
     have p4 : v4.cell? ⟨pb, 4, none⟩ = some (.slice (some ⟨sg, 0, none⟩) 1 c6) := (blk_cell HV.out.2.2.1 4).trans rfl
     refine start_ (n := 7) (S := fun V => V.cell? ⟨pb, 4, none⟩ = some (.slice (some ⟨sg, 0, none⟩) 1 c6)) (ds := [6]) (bs 7 0) (by kernel_rfl) rfl (by kernel_rfl) p4 (fun hHeld => ?_)
     have hd := below_drew1 (Below.refl v4.heap.size v4)
     generalize v4.drew = wd at *
     refine pu 0 119 (bs 7 1) ?_
     refine tk1 1 120 (bs 7 3) hHeld ?_
     refine on0 2 121 (bs 7 7) fun K hK => ?_
     refine va0 ?_
     refine hK.out _ _ (pw_cell_below (below_new wd _) hHeld) (fun hHeld => ?_)
     clear hK K
     refine nm0 (some 121) ?_
     refine on0 3 122 (bs 7 15) fun K hK => ?_
     refine gs0 Try.func19 #[.int .i64 3, .slice (some ⟨wd.heap.size, 0, none⟩) 2 2] ?_
     refine (at_any 3 (some ⟨wd.heap.size, 0, none⟩) 2 2 _).mono ?_
     rintro e v9 ⟨rfl, hb⟩
     refine ⟨_, rfl, hK.out _ _ (pw_cell_below hb hHeld) (fun hHeld => ?_)⟩
     clear hK K
     refine nm0 (some 122) ?_
     have hdb := below_then hd hd.size (below_then (below_new wd (.cells #[.int .i64 0, .int .i64 0] 3)) (below_new wd (.cells #[.int .i64 0, .int .i64 0] 3)).size hb)
     have hkk := blk_below HV.out.2.2.1 hdb
     have hE9 := Kd.R_below HV.out.1 hdb
     have hS9 := Kd.R_below HV.out.2.1 hdb
     have hlr := Kd.R_below (lit_two (heap_alloc_new wd (.cells #[.int .i64 0, .int .i64 0] 3)) (Nat.le_trans HV.out.2.2.2.size hd.size)) hb
     obtain ⟨m0, A0, n0, d0, ⟨z, y, zz, yy⟩, hR, hg⟩ := kMs_mark (nd := 3) hS9 (k := 0) (by decide) hlr
     have z0 : v9.cell? ⟨sg, 0, none⟩ = some (.int .i64 m0) := z
     have y0 : v9.frozen? ⟨sg, 0, none⟩ = false := y
     have z1 : v9.cell? ⟨sg, 1, none⟩ = some (.slice A0 n0 d0) := zz
     have y1 : v9.frozen? ⟨sg, 1, none⟩ = false := yy
     have HN := Aside0.mk (And.intro hR (And.intro hg (And.intro hkk (And.intro hE9 (And.intro hS9 (And.intro (below_then HV.out.2.2.2 HV.out.2.2.2.size hdb) (blk_below HCS.out hdb)))))))
     clear hR hg z y zz yy hkk hE9 hS9 hdb hd hb hlr
     refine pu 4 123 (bs 7 31) ?_
     refine pu 5 124 (bs 7 63) ?_
     refine la0 6 (bs 7 127) (N := none) fun K hK => ?_
     refine sk0 ?_
     refine hK.out _ _ ?_
     clear hK K hHeld
     refine dn0 ?_
     go_wp2_with fail
     go_meet
     exact ⟨⟨_, _, _, _, (HN.out.2.1.block pb (blk_lt HN.out.2.2.1) (Kd.R_ne HN.out.2.2.2.2.1 HN.out.2.2.1 (by decide))).trans HN.out.2.2.1, R_overB HN.out.2.2.2.1 (HN.out.2.2.2.2.2.2) kE_off HN.out.2.1, HN.out.1⟩, ⟨HN.out.2.2.2.2.2.1.grown HN.out.2.1 HN.out.2.2.2.2.2.1.size (fun q hq => by injection hq with hq; subst hq; exact HG.out.2)⟩⟩
    ·skip
     go_upto_region 33 with fail
     have p4 : v4.cell? ⟨pb, 4, none⟩ = some (.slice (some ⟨sg, 0, none⟩) 1 c6) := (blk_cell HV.out.2.2.1 4).trans rfl
     refine start_ (n := 7) (S := fun V => V.cell? ⟨pb, 4, none⟩ = some (.slice (some ⟨sg, 0, none⟩) 1 c6)) (ds := [6]) (bs 7 0) (by kernel_rfl) rfl (by kernel_rfl) p4 (fun hHeld => ?_)
     have hd := below_drew1 (Below.refl v4.heap.size v4)
     generalize v4.drew = wd at *
     refine pu 0 127 (bs 7 1) ?_
     refine tk1 1 128 (bs 7 3) hHeld ?_
     refine on0 2 129 (bs 7 7) fun K hK => ?_
     refine va0 ?_
     refine hK.out _ _ (pw_cell_below (below_new wd _) hHeld) (fun hHeld => ?_)
     clear hK K
     refine nm0 (some 129) ?_
     refine on0 3 130 (bs 7 15) fun K hK => ?_
     refine gs0 Try.func19 #[.int .i64 0, .slice (some ⟨wd.heap.size, 0, none⟩) 2 2] ?_
     refine (at_any 0 (some ⟨wd.heap.size, 0, none⟩) 2 2 _).mono ?_
     rintro e v9 ⟨rfl, hb⟩
     refine ⟨_, rfl, hK.out _ _ (pw_cell_below hb hHeld) (fun hHeld => ?_)⟩
     clear hK K
     refine nm0 (some 130) ?_
     have hdb := below_then hd hd.size (below_then (below_new wd (.cells #[.int .i64 0, .int .i64 1048577] 3)) (below_new wd (.cells #[.int .i64 0, .int .i64 1048577] 3)).size hb)
     have hkk := blk_below HV.out.2.2.1 hdb
     have hE9 := Kd.R_below HV.out.1 hdb
     have hS9 := Kd.R_below HV.out.2.1 hdb
     have hlr := Kd.R_below (lit_two (heap_alloc_new wd (.cells #[.int .i64 0, .int .i64 1048577] 3)) (Nat.le_trans HV.out.2.2.2.size hd.size)) hb
     obtain ⟨m0, A0, n0, d0, ⟨z, y, zz, yy⟩, hR, hg⟩ := kMs_mark (nd := 0) hS9 (k := 0) (by decide) hlr
     have z0 : v9.cell? ⟨sg, 0, none⟩ = some (.int .i64 m0) := z
     have y0 : v9.frozen? ⟨sg, 0, none⟩ = false := y
     have z1 : v9.cell? ⟨sg, 1, none⟩ = some (.slice A0 n0 d0) := zz
     have y1 : v9.frozen? ⟨sg, 1, none⟩ = false := yy
     have HN := Aside0.mk (And.intro hR (And.intro hg (And.intro hkk (And.intro hE9 (And.intro hS9 (And.intro (below_then HV.out.2.2.2 HV.out.2.2.2.size hdb) (blk_below HCS.out hdb)))))))
     clear hR hg z y zz yy hkk hE9 hS9 hdb hd hb hlr
     refine pu 4 131 (bs 7 31) ?_
     refine pu 5 132 (bs 7 63) ?_
     refine la0 6 (bs 7 127) (N := none) fun K hK => ?_
     refine sk0 ?_
     refine hK.out _ _ ?_
     clear hK K hHeld
     refine dn0 ?_
     go_wp2_with fail
     go_meet
     exact ⟨⟨_, _, _, _, (HN.out.2.1.block pb (blk_lt HN.out.2.2.1) (Kd.R_ne HN.out.2.2.2.2.1 HN.out.2.2.1 (by decide))).trans HN.out.2.2.1, R_overB HN.out.2.2.2.1 (HN.out.2.2.2.2.2.2) kE_off HN.out.2.1, HN.out.1⟩, ⟨HN.out.2.2.2.2.2.1.grown HN.out.2.1 HN.out.2.2.2.2.2.1.size (fun q hq => by injection hq with hq; subst hq; exact HG.out.2)⟩⟩
    ·skip
     have p4 : v4.cell? ⟨pb, 4, none⟩ = some (.slice (some ⟨sg, 0, none⟩) 1 c6) := (blk_cell HV.out.2.2.1 4).trans rfl
     obtain ⟨t0, z, y, hR, hg⟩ := kMs_who HV.out.2.1 (k := 0) (by decide) 2
     have z0 : v4.cell? ⟨sg, 2, none⟩ = some (.int .i64 t0) := z
     have y0 : v4.frozen? ⟨sg, 2, none⟩ = false := y
     have HN := Aside0.mk (And.intro hR hg)
     clear hR hg z y
     go_wp2_with fail
     go_meet
     exact ⟨⟨_, _, _, _, (HN.out.2.block pb (blk_lt HV.out.2.2.1) (Kd.R_ne HV.out.2.1 HV.out.2.2.1 (by decide))).trans HV.out.2.2.1, R_overB HV.out.1 (HCS.out) kE_off HN.out.2, HN.out.1⟩, ⟨HV.out.2.2.2.grown HN.out.2 HV.out.2.2.2.size (fun q hq => by injection hq with hq; subst hq; exact HG.out.2)⟩⟩
   case rest =>
    obtain ⟨⟨eA7, mA7, eC7, mC7, hblk, hE, hS⟩, hbl⟩ := hcut
    have hW := hX.out.2.size
    have hE := Kd.R_lower hE hW
    have hS := Kd.R_lower hS hW
    have q0 := (blk_cell hblk 0).trans rfl
    have q1 := (blk_cell hblk 1).trans rfl
    have q2 := (blk_cell hblk 2).trans rfl
    have q3 := (blk_cell hblk 3).trans rfl
    have q4 := (blk_cell hblk 4).trans rfl
    have hE := Kd.R_mono (ok' := (fun q => ∃ t, (29 == t) = false ∧ Typed wc q t)) (Kd.R_bound hE) (fun q hq => by obtain ⟨_, _, _, t, ht, hc⟩ := hq; exact ⟨t, by have := kE_types t ht; simpa using (fun h => this h.symm), hc⟩)
    have hS := Kd.R_mono (ok' := (fun q => ∃ t, (29 == t) = false ∧ Typed wc q t)) (Kd.R_bound hS) (fun q hq => by obtain ⟨_, _, _, t, ht, hc⟩ := hq; exact ⟨t, by have := kMs_types t ht; simpa using (fun h => this h.symm), hc⟩)
    have HB := Aside0.mk (And.intro (Kd.R_below hX.out.1 hbl.out) (And.intro (below_then hX.out.2 hW hbl.out) (kPl_M hE hS)))
    clear hX hbl hE hS hblk HV HG HCE HCS HPB hW
    go_wp2_with (at_builtin; go_must (refine Kd.R_append kPl (w0 := w) w.heap.size rfl (.tmp 133) (.tmp 135) _ 29 _ 72 rfl Try.underlying45 Try.infoPlan rfl (by decide) (by decide) _ ((List.range k).map (fun i => planT (badP i))) (planT (badP k)) _ (fun _ => True) (fun q => ∃ t, (29 == t) = false ∧ Typed wc q t) rfl rfl HB.out.2.2 (fun q hq => ⟨trivial, fun he => by obtain ⟨t, h1, h2⟩ := hq; exact not_typed (own_typed (Kd.R_own HB.out.1).choose_spec q he.symm) h1 h2⟩) (fun _ _ => trivial) HB.out.1 HB.out.2.1 HB.out.2.1.size (by rw [List.length_map, List.length_range]; omega) ?_); intro v6 w6 hR6 hb6 hg6 hat6)
    have HS := Aside0.mk (show kPl.R 29 w6 w.heap.size (fun _ => True) v6 ((List.range (k + 1)).map (fun i => planT (badP i))) ∧ Below w.heap.size w w6 from ⟨by rw [List.range_succ, List.map_append]; exact hR6, hb6⟩)
    clear hR6 hb6 hg6 hat6 HB
    exact ⟨⟨k + 1, by go_num, by omega, HS⟩, by simp [intOf]; omega⟩
  ·have hkE : ¬ (k : Int) < 13 := by omega
   have hZ := hX.out.1
   rw [show k = 13 by omega] at hZ
   obtain ⟨oA, oC, hoe⟩ : ∃ A c, u1 = .slice A 13 c := by have := Kd.R_slice hZ; rwa [List.length_map, List.length_range] at this
   subst hoe
   obtain ⟨l, hl, hlk, hC⟩ : ∃ l : List Plan, l.length = 13 ∧ (∀ (j : Nat) (h : j < l.length), l[j] = badP j) ∧ kPl.C wr oA l.length (l.map planT) := ⟨(List.range 13).map badP, by simp, fun j h => by simp, by have := (Kd.R_reads' hZ).2.2; rw [List.length_map, List.length_range] at this; rw [List.length_map, List.length_range, List.map_map]; exact this⟩
   have HL := Lib.hid (And.intro hl hlk)
   clear hZ hl hlk
   have H1 := Aside0.mk (((Al.start w).up hX.out.2).row hC)
   clear hC hX hkt hk
   go_wp2_with fail
   generalize wr = wo at *
   rename_i hKt
   exact known_loop2 _ _ _ _ _ _ _ _ _ _ _ _ _ _ _ _ _ _ _ _ _ _ _ _ _ _ _ _ _ _ _ _ _ _ _ _ _ _ _ _ _ _ _ _ _ _ _ _ _ _ _ _ _ _ _ _ _ _ _ _ _ _ _ _ _ _ _ _ _ _ _ _ _ _ _ _ _ _ _ _ _ _ _ _ _ _ _ _ _ _ _ _ _ _ _ _ _ _ _ _ _ _ _ _ _ _ _ _ _ _ _ _ _ _ _ _ _ _ _ _ _ _ _ _ _ _ _ _ _ _ _ _ _ _ _ _ _ _ _ _ _ _ _ _ _ _ _ _ _ _ _ _ _ _ _ _ _ _ _ _ _ _ _ _ _ _ _ _ _ _ _ _ _ _ _ _ _ _ _ _ _ _ _ _ _ _ _ _ _ _ _ _ _ _ _ _ _ _ _ _ _ _ _ _ _ _ _ _ _ _ _ _ _ _ _ _ _ _ _ _ _ _ _ _ _ _ _ _ _ _ _ _ _ _ _ _ _ _ _ _ _ _ _ _ _ _ _ _ _ _ _ _ _ _ _ _ _ _ _ _ _ _ _ _ _ _ _ _ _ _ _ _ _ _ _ _ _ _ _ _ _ _ _ _ _ _ _ _ _ _ _ _ _ _ _ _ _ _ _ _ _ _ _ _ _ _ _ _ _ _ _ _ _ _ _ _ _ _ _ _ _ _ _ _ _ _ _ _ _ _ _ _ _ _ _ _ _ _ _ _ _ _ _ _ _ _ _ _ _ _ _ _ _ _ _ _ _ _ oA oC l w wo HL H1.out.1.1 H1.out.2.1.1 _ (fun x0 x1 x2 x3 x4 x5 x6 x7 x8 x9 x10 x11 x12 x13 x14 x15 x16 x17 x18 x19 x20 x21 x22 x23 x24 x25 x26 x27 x28 x29 x30 x31 x32 x33 x34 x35 x36 x37 x38 x39 x40 x41 x42 x43 x44 x45 x46 x47 x48 x49 x50 x51 x52 x53 x54 x55 x56 x57 x58 x59 x60 x61 x62 x63 x64 x65 x66 x67 x68 x69 x70 x71 x72 x73 x74 x75 x76 x77 x78 x79 x80 x81 x82 x83 x84 x85 x86 x87 x88 x89 x90 x91 x92 x93 x94 x95 x96 x97 x98 x99 x100 x101 x102 x103 x104 x105 x106 x107 x108 x109 x110 x111 x112 x113 x114 x115 x116 x117 x118 x119 x120 x121 x122 x123 x124 x125 x126 x127 x128 x129 x130 x131 x132 x133 x134 x135 x136 x137 x138 x139 x140 x141 x142 x143 x144 x145 x146 x147 x148 x149 x150 x151 x152 x153 x154 x155 x156 x157 x158 x159 x160 x161 x162 x163 x164 x165 x166 x167 x168 x169 x170 x171 x172 x173 x174 x175 x176 x177 x178 x179 x180 x181 x182 x183 x184 x185 x186 x187 x188 x189 x190 x191 x192 x193 x194 x195 x196 x197 x198 x199 x200 x201 x202 x203 x204 x205 x206 x207 x208 x209 x210 x211 x212 x213 x214 x215 x216 x217 x218 x219 x220 x221 x222 x223 x224 x225 x226 x227 x228 x229 x230 x231 x232 x233 x234 x235 x236 x237 x238 x239 x240 x241 x242 x243 x244 x245 x246 x247 x248 x249 x250 x251 x252 x253 x254 x255 x256 x257 x258 x259 x260 x261 x262 x263 x264 x265 x266 x267 x268 x269 x270 x271 x272 x273 x274 x275 x276 x277 x278 x279 x280 x281 x282 x283 x284 x285 x286 x287 x288 x289 x290 x291 x292 x293 x294 x295 x296 x297 x298 x299 x300 x301 x302 x303 x304 x305 x306 x307 x308 x309 x310 x311 x312 x313 x314 x315 x316 x317 x318 x319 x320 x321 x322 x323 x324 x325 x326 x327 x328 x329 x330 x331 x332 x333 x334 x335 x336 x337 x338 x339 x340 x341 x342 x343 x344 x345 x346 x347 x348 x349 x350 x351 x352 x353 x354 x355 x356 x357 x358 x359 wz hb => hKt _ _ (known_tail x0 x1 x2 x3 x4 x5 x6 x7 x8 x9 x10 x11 x12 x13 x14 x15 x16 x17 x18 x19 x20 x21 x22 x23 x24 x25 x26 x27 x28 x29 x30 x31 x32 x33 x34 x35 x36 x37 x38 x39 x40 x41 x42 x43 x44 x45 x46 x47 x48 x49 x50 x51 x52 x53 x54 x55 x56 x57 x58 x59 x60 x61 x62 x63 x64 x65 x66 x67 x68 x69 x70 x71 x72 x73 x74 x75 x76 x77 x78 x79 x80 x81 x82 x83 x84 x85 x86 x87 x88 x89 x90 x91 x92 x93 x94 x95 x96 x97 x98 x99 x100 x101 x102 x103 x104 x105 x106 x107 x108 x109 x110 x111 x112 x113 x114 x115 x116 x117 x118 x119 x120 x121 x122 x123 x124 x125 x126 x127 x128 x129 x130 x131 x132 x133 x134 x135 x136 x137 x138 x139 x140 x141 x142 x143 x144 x145 x146 x147 x148 x149 x150 x151 x152 x153 x154 x155 x156 x157 x158 x159 x160 x161 x162 x163 x164 x165 x166 x167 x168 x169 x170 x171 x172 x173 x174 x175 x176 x177 x178 x179 x180 x181 x182 x183 x184 x185 x186 x187 x188 x189 x190 x191 x192 x193 x194 x195 x196 x197 x198 x199 x200 x201 x202 x203 x204 x205 x206 x207 x208 x209 x210 x211 x212 x213 x214 x215 x216 x217 x218 x219 x220 x221 x222 x223 x224 x225 x226 x227 x228 x229 x230 x231 x232 x233 x234 x235 x236 x237 x238 x239 x240 x241 x242 x243 x244 x245 x246 x247 x248 x249 x250 x251 x252 x253 x254 x255 x256 x257 x258 x259 x260 x261 x262 x263 x264 x265 x266 x267 x268 x269 x270 x271 x272 x273 x274 x275 x276 x277 x278 x279 x280 x281 x282 x283 x284 x285 x286 x287 x288 x289 x290 x291 x292 x293 x294 x295 x296 x297 x298 x299 x300 x301 x302 x303 x304 x305 x306 x307 x308 x309 x310 x311 x312 x313 x314 x315 x316 x317 x318 x319 x320 x321 x322 x323 x324 x325 x326 x327 x328 x329 x330 x331 x332 x333 x334 x335 x336 x337 x338 x339 x340 x341 x342 x343 x344 x345 x346 x347 x348 x349 x350 x351 x352 x353 x354 x355 x356 x357 x358 x359 w wz hb))
end Go.Proofs.Ytbkfnmgkcgnifaa
namespace Go.Proofs.Ytbkfnmgkcgnifaa.progressKnown
open Go.ChangeShapes Go.WideShapes Go.ChangeAt Go.RowKit Go.Proofs.YtbkfnmgkcgnifaaW.PrintWords
set_option linter.unusedVariables false
theorem own : ownKnob Try.prog.godebug = none := by kernel_rfl
set_option maxRecDepth 100000 in
theorem lifted (os : Os) (started : os.Started) (H : Type) (enc : TypeId × Value → H) :
  ReturnsInHanded {} Try.checked os 4 .any (Rows.progressKnownSpec.pre6 enc Try.prog Try.f4 Rows.progressKnownRow.domain false) (Rows.progressKnownSpec.post enc Try.prog Try.f4 false true false false) := by
 refine returnsInHanded_of_change_sized (C := Try.checked) own started (by kernel_rfl) Try.func4
  (ChangeSpec.witness6 (enc := enc) (C := Try.checked) false ⟨#[], #[], []⟩ 8 (by kernel_rfl) (by kernel_rfl) (by kernel_rfl) (by kernel_rfl)) ?_
 intro W base args ds gs before hval0 hW hcnd hsz0 _
 have hsz : (DataW.weightsEach Try.prog (Try.f4.params.toList ++ Rows.progressKnownSpec.plain.varTypes Try.prog) (ds ++ gs)).all (· ≤ reachBytes) = true := hsz0
 have hval : ∀ (j : Nat) t v, Try.f4.params[j]? = some t → args[j]? = some v → Value.okWide Try.prog W .any base t v := hval0
 have hW' := hW
 obtain ⟨p, q, hA0, hV, rfl, hfz, hnd⟩ := hW
 have hA : DataW.TrodAll enc Try.prog W 0 (fun _ => true) true Try.f4.params.toList args.toList ds p := hA0
 rw [Try.params4] at hA hval hsz
 obtain ⟨rfl, rfl, rfl⟩ := trodAll_none hA
 obtain ⟨rfl, rfl⟩ := trodVars_none hV
 clear hA0 hval0 hsz0 hsz
 refine (known_walk W).mono fun e W' ⟨he, bel⟩ => ?_
 subst he
 exact ⟨_, rfl, _, _, _, [], _, [], hW', trodAll_mk1 (shut_bool Try.underlying4 _), rfl, rfl, bel.frame _, fun h => by cases h⟩
theorem over : Rows.progressKnownRow.holds Try.pinned (OpenSpec.ofChange Rows.progressKnownSpec) :=
 OpenClaim.holds_of_wide 4 Try.f4 rfl rfl rfl rfl rfl rfl rfl ⟨rfl, rfl, rfl, rfl, rfl⟩ rfl rfl rfl rfl rfl (by kernel_rfl) Try.func4 (by kernel_rfl)
  (of_decide_eq_true (by kernel_rfl)) (by unfold Func.isWrapper; first | (rw [if_pos (by decide +kernel)]; kernel_rfl) | (rw [if_neg (by decide +kernel)]; exact ⟨rfl, rfl⟩))
  (fun os started H enc _ => lifted os started H enc)
theorem proved : Rows.ProgressKnownSaid := over
#print axioms proved
end Go.Proofs.Ytbkfnmgkcgnifaa.progressKnown
