/- Part 5 of the proof of ProgressChecks. -/
import Derived.Test.YtbkfnmgkcgnifaaGreatV4
import Derived.ChangeSlices
import Derived.Deep.Strs
import Derived.ProofKit
import Derived.OpenShut
import Derived.ChangeOld
import Derived.SizedLaws
set_option linter.all false
namespace Go.Proofs.YtbkfnmgkcgnifaaGreat
open Go.RowKit Go.Shelf Go.Proofs.YtbkfnmgkcgnifaaGreatW.PrintWords Go.Proofs.YtbkfnmgkcgnifaaGreatW.PrintLast Mdl
set_option maxRecDepth 4000 in
theorem at_any (n : Int) (A : Option Addr) (len cap : Nat) (w : World) : Calls Tryz.prog 41 #[.int .i64 n, .slice A len cap] w fun e w' => e = .returned (.agg #[.int .i64 n, .slice A len cap]) ∧ Below w.heap.size w w' := by
 go_enter Tryz.func41, Tryz.ntmps41
 go_wp2_with fail
 exact bodyPost_ret (v := .agg #[.int .i64 n, .slice A len cap]) (by simp [results, Tryz.results41, go_sem]) rfl ⟨rfl, below_new _ _⟩
set_option maxRecDepth 4000 in
theorem edge_any (a b : Int) (A : Option Addr) (len cap : Nat) (w : World) : Calls Tryz.prog 74 #[.int .i64 a, .int .i64 b, .slice A len cap] w fun e w' => e = .returned (.agg #[.int .i64 a, .int .i64 b, .slice A len cap]) ∧ Below w.heap.size w w' := by
 go_enter Tryz.func74, Tryz.ntmps74
 go_wp2_with fail
 exact bodyPost_ret (v := .agg #[.int .i64 a, .int .i64 b, .slice A len cap]) (by simp [results, Tryz.results74, go_sem]) rfl ⟨rfl, below_new _ _⟩
def Lits {α : Type} (d : Kd α) (w : World) : List α → List (List Value) → Prop
 | [], [] => True
 | x :: xs, c :: cs => d.K w x c ∧ Lits d w xs cs
 | _, _ => False
theorem Lits.at_ {α : Type} {d : Kd α} {w : World} : ∀ {xs : List α} {css : List (List Value)}, Lits d w xs css → ∀ (j : Nat) (p : α), xs[j]? = some p → ∃ c, d.K w p c ∧ ∀ (i : Nat) (u : Value), c[i]? = some u → css.flatten[j * d.sz + i]? = some u
 | [], [], _, j, p, hj => by simp at hj
 | x :: xs, c :: cs, h, 0, p, hj => by
  simp at hj; subst hj
  refine ⟨c, h.1, fun i u hu => ?_⟩
  rw [Nat.zero_mul, Nat.zero_add, List.flatten_cons, List.getElem?_append_left (by
   have := (List.getElem?_eq_some_iff.1 hu).1; exact this)]
  exact hu
 | x :: xs, c :: cs, h, j + 1, p, hj => by
  obtain ⟨c', h1, h2⟩ := h.2.at_ j p (by simpa using hj)
  refine ⟨c', h1, fun i u hu => ?_⟩
  have hl := d.K_len h.1
  rw [List.flatten_cons, List.getElem?_append_right (by rw [hl, Nat.succ_mul]; omega), show (j + 1) * d.sz + i - c.length = j * d.sz + i by rw [hl, Nat.succ_mul]; omega]
  exact h2 i u hu
theorem C_lits {α : Type} {d : Kd α} {w : World} {g t : Nat} {xs : List α} (css : List (List Value)) (hb : w.heap[g]? = some (.cells css.flatten.toArray t (0, 0))) (hl : Lits d w xs css) (hm : xs.length ≤ 1000000) : d.C w (some ⟨g, 0, none⟩) xs.length xs := by
 refine ⟨rfl, by omega, fun _ => ⟨_, rfl, fun j p hj => ?_⟩⟩
 obtain ⟨c, h2, h3⟩ := hl.at_ j p hj
 refine ⟨c, d.K_len h2, h2, fun i u hu => ?_⟩
 rw [Addr.add_lit, blk_cell hb, Nat.zero_add]
 simpa using h3 i u hu
theorem lit_int2 {w : World} {g t : Nat} {a b : Int} (hb : w.heap[g]? = some (.cells #[.int .i64 a, .int .i64 b] t (0, 0))) : kI.C w (some ⟨g, 0, none⟩) 2 [a, b] :=
 C_lits (xs := [a, b]) [[.int .i64 a], [.int .i64 b]] hb ⟨rfl, rfl, trivial⟩ (by simp)
theorem K_li {w : World} {g : Nat} {l : List Int} {n c : Nat} (h : kI.C w (some ⟨g, 0, none⟩) n l) (hn : n = l.length) (hc : n ≤ c) : kLI.K w l [.slice (some ⟨g, 0, none⟩) n c] := by subst hn; exact ⟨_, _, rfl, hc, h⟩
def Mdl.planP : Plan := ⟨3, 2, [(0, 1, [0, 0]), (1, 2, [0, 1]), (2, 1, [0, 0]), (1, 0, [1, 0])], 2, [((0, [0, 0]), 0)]⟩
set_option maxRecDepth 8000 in
set_option maxHeartbeats 2000000 in
theorem plan_any (w : World) : Calls Tryz.prog 40 #[] w fun e w' => ∃ eA mA, e = .returned (planV planP eA 4 mA 1) ∧ PlanAt w' planP eA mA ∧ Below w.heap.size w w' := by
 have HE := fun a b A len cap w => Lib.hid (edge_any a b A len cap w)
 go_enter Tryz.func40, Tryz.ntmps40
 have hz1 : (w.alloc (.cells #[.int .i64 0, .int .i64 0, .slice none 0 0, .int .i64 0, .slice none 0 0] 27)).heap.size = w.heap.size + 1 := by simp
 have hp0 : (w.alloc (.cells #[.int .i64 0, .int .i64 0, .slice none 0 0, .int .i64 0, .slice none 0 0] 27)).heap[w.heap.size]? = some (.cells #[.int .i64 0, .int .i64 0, .slice none 0 0, .int .i64 0, .slice none 0 0] 27 (0, 0)) := heap_alloc_new w _
 have HB0 := Aside0.mk (And.intro (below_new w (.cells #[.int .i64 0, .int .i64 0, .slice none 0 0, .int .i64 0, .slice none 0 0] 27)) hp0)
 clear hp0
 go_upto_region 1 with fail
 generalize w.alloc (.cells #[.int .i64 0, .int .i64 0, .slice none 0 0, .int .i64 0, .slice none 0 0] 27) = v0 at *
 clear hz1
 go_wp2_with fail
 have bN0 := below_new v0 (.cells #[.int .i64 0, .int .i64 0] 3)
 have hI0 := heap_alloc_new v0 (.cells #[.int .i64 0, .int .i64 0] 3)
 refine (HE 0 1 _ 2 2 _).out.mono ?_
 rintro e v1 ⟨rfl, hc0⟩
 have HB1 := Aside0.mk (And.intro (below_then (below_then HB0.out.1 HB0.out.1.size bN0) (below_then HB0.out.1 HB0.out.1.size bN0).size hc0) (And.intro (blk_below (blk_below HB0.out.2 bN0) hc0) (blk_below hI0 hc0)))
 generalize v0.heap.size = g0 at *
 clear bN0 hI0 hc0 HB0
 go_wp2_with fail
 have bN1 := below_new v1 (.cells #[.int .i64 0, .int .i64 1] 3)
 have hI1 := heap_alloc_new v1 (.cells #[.int .i64 0, .int .i64 1] 3)
 refine (HE 1 2 _ 2 2 _).out.mono ?_
 rintro e v2 ⟨rfl, hc1⟩
 have HB2 := Aside0.mk (And.intro (below_then (below_then HB1.out.1 HB1.out.1.size bN1) (below_then HB1.out.1 HB1.out.1.size bN1).size hc1) (And.intro (blk_below (blk_below HB1.out.2.1 bN1) hc1) ( And.intro (blk_below (blk_below HB1.out.2.2 bN1) hc1) (blk_below hI1 hc1))))
 generalize v1.heap.size = g1 at *
 clear bN1 hI1 hc1 HB1
 go_wp2_with fail
 have bN2 := below_new v2 (.cells #[.int .i64 0, .int .i64 0] 3)
 have hI2 := heap_alloc_new v2 (.cells #[.int .i64 0, .int .i64 0] 3)
 refine (HE 2 1 _ 2 2 _).out.mono ?_
 rintro e v3 ⟨rfl, hc2⟩
 have HB3 := Aside0.mk (And.intro (below_then (below_then HB2.out.1 HB2.out.1.size bN2) (below_then HB2.out.1 HB2.out.1.size bN2).size hc2) (And.intro (blk_below (blk_below HB2.out.2.1 bN2) hc2) ( And.intro (blk_below (blk_below HB2.out.2.2.1 bN2) hc2) ( And.intro (blk_below (blk_below HB2.out.2.2.2 bN2) hc2) (blk_below hI2 hc2)))))
 generalize v2.heap.size = g2 at *
 clear bN2 hI2 hc2 HB2
 go_wp2_with fail
 have bN3 := below_new v3 (.cells #[.int .i64 1, .int .i64 0] 3)
 have hI3 := heap_alloc_new v3 (.cells #[.int .i64 1, .int .i64 0] 3)
 refine (HE 1 0 _ 2 2 _).out.mono ?_
 rintro e v4 ⟨rfl, hc3⟩
 have HB4 := Aside0.mk (And.intro (below_then (below_then HB3.out.1 HB3.out.1.size bN3) (below_then HB3.out.1 HB3.out.1.size bN3).size hc3) (And.intro (blk_below (blk_below HB3.out.2.1 bN3) hc3) ( And.intro (blk_below (blk_below HB3.out.2.2.1 bN3) hc3) ( And.intro (blk_below (blk_below HB3.out.2.2.2.1 bN3) hc3) ( And.intro (blk_below (blk_below HB3.out.2.2.2.2 bN3) hc3) (blk_below hI3 hc3))))))
 generalize v3.heap.size = g3 at *
 clear bN3 hI3 hc3 HB3
 go_upto_region 2 with fail
 have bN4 := below_new v4 (.cells #[.int .i64 0, .int .i64 1, .slice (some ⟨g0, 0, none⟩) 2 2, .int .i64 1, .int .i64 2, .slice (some ⟨g1, 0, none⟩) 2 2, .int .i64 2, .int .i64 1, .slice (some ⟨g2, 0, none⟩) 2 2, .int .i64 1, .int .i64 0, .slice (some ⟨g3, 0, none⟩) 2 2] 129)
 have hE4 := heap_alloc_new v4 (.cells #[.int .i64 0, .int .i64 1, .slice (some ⟨g0, 0, none⟩) 2 2, .int .i64 1, .int .i64 2, .slice (some ⟨g1, 0, none⟩) 2 2, .int .i64 2, .int .i64 1, .slice (some ⟨g2, 0, none⟩) 2 2, .int .i64 1, .int .i64 0, .slice (some ⟨g3, 0, none⟩) 2 2] 129)
 have hz5 : (v4.alloc (.cells #[.int .i64 0, .int .i64 1, .slice (some ⟨g0, 0, none⟩) 2 2, .int .i64 1, .int .i64 2, .slice (some ⟨g1, 0, none⟩) 2 2, .int .i64 2, .int .i64 1, .slice (some ⟨g2, 0, none⟩) 2 2, .int .i64 1, .int .i64 0, .slice (some ⟨g3, 0, none⟩) 2 2] 129)).heap.size = v4.heap.size + 1 := by simp
 have bN5 := below_new (v4.alloc (.cells #[.int .i64 0, .int .i64 1, .slice (some ⟨g0, 0, none⟩) 2 2, .int .i64 1, .int .i64 2, .slice (some ⟨g1, 0, none⟩) 2 2, .int .i64 2, .int .i64 1, .slice (some ⟨g2, 0, none⟩) 2 2, .int .i64 1, .int .i64 0, .slice (some ⟨g3, 0, none⟩) 2 2] 129)) (.cells #[.int .i64 3, .int .i64 2, .slice (some ⟨v4.heap.size, 0, none⟩) 4 4] 24)
 have hG5 := heap_alloc_new (v4.alloc (.cells #[.int .i64 0, .int .i64 1, .slice (some ⟨g0, 0, none⟩) 2 2, .int .i64 1, .int .i64 2, .slice (some ⟨g1, 0, none⟩) 2 2, .int .i64 2, .int .i64 1, .slice (some ⟨g2, 0, none⟩) 2 2, .int .i64 1, .int .i64 0, .slice (some ⟨g3, 0, none⟩) 2 2] 129)) (.cells #[.int .i64 3, .int .i64 2, .slice (some ⟨v4.heap.size, 0, none⟩) 4 4] 24)
 rw [hz5] at hG5
 have hb45 := below_then bN4 bN4.size bN5
 have HB5 := Aside0.mk (And.intro (below_then HB4.out.1 HB4.out.1.size hb45) (And.intro (blk_below HB4.out.2.1 hb45) (And.intro (blk_below HB4.out.2.2.1 hb45) (And.intro (blk_below HB4.out.2.2.2.1 hb45) (And.intro (blk_below HB4.out.2.2.2.2.1 hb45) (And.intro (blk_below HB4.out.2.2.2.2.2 hb45) (blk_below hE4 bN5)))))))
 have c0 : ((v4.alloc (.cells #[.int .i64 0, .int .i64 1, .slice (some ⟨g0, 0, none⟩) 2 2, .int .i64 1, .int .i64 2, .slice (some ⟨g1, 0, none⟩) 2 2, .int .i64 2, .int .i64 1, .slice (some ⟨g2, 0, none⟩) 2 2, .int .i64 1, .int .i64 0, .slice (some ⟨g3, 0, none⟩) 2 2] 129)).alloc (.cells #[.int .i64 3, .int .i64 2, .slice (some ⟨v4.heap.size, 0, none⟩) 4 4] 24)).cell? ⟨v4.heap.size + 1, 0, none⟩ = some (.int .i64 3) := (blk_cell hG5 0).trans rfl
 have c1 : ((v4.alloc (.cells #[.int .i64 0, .int .i64 1, .slice (some ⟨g0, 0, none⟩) 2 2, .int .i64 1, .int .i64 2, .slice (some ⟨g1, 0, none⟩) 2 2, .int .i64 2, .int .i64 1, .slice (some ⟨g2, 0, none⟩) 2 2, .int .i64 1, .int .i64 0, .slice (some ⟨g3, 0, none⟩) 2 2] 129)).alloc (.cells #[.int .i64 3, .int .i64 2, .slice (some ⟨v4.heap.size, 0, none⟩) 4 4] 24)).cell? ⟨v4.heap.size + 1, 1, none⟩ = some (.int .i64 2) := (blk_cell hG5 1).trans rfl
 have c2 : ((v4.alloc (.cells #[.int .i64 0, .int .i64 1, .slice (some ⟨g0, 0, none⟩) 2 2, .int .i64 1, .int .i64 2, .slice (some ⟨g1, 0, none⟩) 2 2, .int .i64 2, .int .i64 1, .slice (some ⟨g2, 0, none⟩) 2 2, .int .i64 1, .int .i64 0, .slice (some ⟨g3, 0, none⟩) 2 2] 129)).alloc (.cells #[.int .i64 3, .int .i64 2, .slice (some ⟨v4.heap.size, 0, none⟩) 4 4] 24)).cell? ⟨v4.heap.size + 1, 2, none⟩ = some (.slice (some ⟨v4.heap.size, 0, none⟩) 4 4) := (blk_cell hG5 2).trans rfl
 clear bN4 hE4 hz5 bN5 hG5 hb45 HB4
 generalize (v4.alloc (.cells #[.int .i64 0, .int .i64 1, .slice (some ⟨g0, 0, none⟩) 2 2, .int .i64 1, .int .i64 2, .slice (some ⟨g1, 0, none⟩) 2 2, .int .i64 2, .int .i64 1, .slice (some ⟨g2, 0, none⟩) 2 2, .int .i64 1, .int .i64 0, .slice (some ⟨g3, 0, none⟩) 2 2] 129)).alloc (.cells #[.int .i64 3, .int .i64 2, .slice (some ⟨v4.heap.size, 0, none⟩) 4 4] 24) = v5 at *
 generalize v4.heap.size = eb at *
 refine start_ (n := 7) (S := fun V => V.cell? ⟨eb + 1, 0, none⟩ = some (.int .i64 3) ∧ V.cell? ⟨eb + 1, 1, none⟩ = some (.int .i64 2) ∧ V.cell? ⟨eb + 1, 2, none⟩ = some (.slice (some ⟨eb, 0, none⟩) 4 4)) (ds := [6]) (bs 7 0) (by kernel_rfl) rfl (by kernel_rfl) ⟨c0, c1, c2⟩ (fun hHeld => ?_)
 have HD := Aside0.mk (below_drew1 (Below.refl v5.heap.size v5))
 have HSH := Lib.hid (fun V (hb : Below v5.heap.size v5 V) => (And.intro (pw_cell_below hb c0) (And.intro (pw_cell_below hb c1) (pw_cell_below hb c2))))
 clear c0 c1 c2
 generalize v5.drew = wd at *
 refine tk3 0 12 (bs 7 1) hHeld ?_
 refine on0 1 13 (bs 7 3) fun K hK => ?_
 refine va0 ?_
 have bN6 := below_new wd (.cells #[.int .i64 0, .int .i64 0] 3)
 have hI6 := heap_alloc_new wd (.cells #[.int .i64 0, .int .i64 0] 3)
 have hB6 := below_then HD.out HD.out.size bN6
 refine hK.out _ _ (HSH.out _ hB6) (fun hHeld => ?_)
 clear hK K
 refine nm0 (some 13) ?_
 refine on0 2 14 (bs 7 7) fun K hK => ?_
 refine gs0 Tryz.func41 #[.int .i64 0, .slice (some ⟨wd.heap.size, 0, none⟩) 2 2] ?_
 refine (at_any 0 (some ⟨wd.heap.size, 0, none⟩) 2 2 _).mono ?_
 rintro e v7 ⟨rfl, hb7⟩
 have hB7 := below_then hB6 hB6.size hb7
 have HI7 := Aside0.mk (And.intro hB7 (blk_below hI6 hb7))
 refine ⟨_, rfl, hK.out _ _ (HSH.out _ hB7) (fun hHeld => ?_)⟩
 clear hK K
 refine nm0 (some 14) ?_
 clear bN6 hI6 hB6 hb7 hB7
 generalize wd.heap.size = ib at *
 refine pu 3 15 (bs 7 15) ?_
 refine on0 4 16 (bs 7 31) fun K hK => ?_
 refine va0 ?_
 have bN8 := below_new v7 (.cells #[.int .i64 0, .slice (some ⟨ib, 0, none⟩) 2 2, .int .i64 0] 77)
 have hM8 := heap_alloc_new v7 (.cells #[.int .i64 0, .slice (some ⟨ib, 0, none⟩) 2 2, .int .i64 0] 77)
 have hB8 := below_then HI7.out.1 HI7.out.1.size bN8
 have HI8 := Aside0.mk (And.intro hB8 (And.intro (blk_below HI7.out.2 bN8) hM8))
 refine hK.out _ _ (HSH.out _ hB8) (fun hHeld => ?_)
 clear hK K
 refine nm0 (some 16) ?_
 clear bN8 hM8 HI7
 generalize v7.alloc (.cells #[.int .i64 0, .slice (some ⟨ib, 0, none⟩) 2 2, .int .i64 0] 77) = v8 at *
 generalize v7.heap.size = sb at *
 refine pu 5 17 (bs 7 63) ?_
 have HB8 := Aside0.mk (And.intro (below_then HB5.out.1 HB5.out.1.size hB8) (And.intro (blk_below HB5.out.2.1 hB8) (And.intro (blk_below HB5.out.2.2.1 hB8) (And.intro (blk_below HB5.out.2.2.2.1 hB8) (And.intro (blk_below HB5.out.2.2.2.2.1 hB8) (And.intro (blk_below HB5.out.2.2.2.2.2.1 hB8) (blk_below HB5.out.2.2.2.2.2.2 hB8)))))))
 clear hB8
 have z0 := (blk_cell HB8.out.2.1 0).trans rfl
 have z1 := (blk_cell HB8.out.2.1 1).trans rfl
 have z2 := (blk_cell HB8.out.2.1 2).trans rfl
 have z3 := (blk_cell HB8.out.2.1 3).trans rfl
 have z4 := (blk_cell HB8.out.2.1 4).trans rfl
 have y0 := blk_frozen HB8.out.2.1 0
 have y1 := blk_frozen HB8.out.2.1 1
 have y2 := blk_frozen HB8.out.2.1 2
 have y3 := blk_frozen HB8.out.2.1 3
 have y4 := blk_frozen HB8.out.2.1 4
 refine la0 6 (bs 7 127) (N := none) fun K hK => ?_
 refine sk0 ?_
 refine hK.out _ _ ?_
 clear hK K hHeld
 refine dn0 ?_
 have hfin := blk_put (blk_put (blk_put (blk_put (blk_put HB8.out.2.1 0 (.int .i64 3) rfl) 1 (.int .i64 2) rfl) 2 (.slice (some ⟨eb, 0, none⟩) 4 4) rfl) 3 (.int .i64 2) rfl) 4 (.slice (some ⟨sb, 0, none⟩) 1 1) rfl
 have hg := setCells_grown w.heap.size [.int .i64 3, .int .i64 2, .slice (some ⟨eb, 0, none⟩) 4 4, .int .i64 2, .slice (some ⟨sb, 0, none⟩) 1 1] 0 v8
 simp only [World.setCells] at hg
 generalize ((((v8.setCell ⟨w.heap.size, 0, none⟩ (.int .i64 3)).setCell ⟨w.heap.size, 1, none⟩ (.int .i64 2)).setCell ⟨w.heap.size, 2, none⟩ (.slice (some ⟨eb, 0, none⟩) 4 4)).setCell ⟨w.heap.size, 3, none⟩ (.int .i64 2)).setCell ⟨w.heap.size, 4, none⟩ (.slice (some ⟨sb, 0, none⟩) 1 1) = vF at *
 have hk : Kept v8 vF (fun b => b = w.heap.size) := ⟨hg.size, fun i hi hn => hg.block i hi (fun he => hn (by injection he))⟩
 have hwt : Typed v8 w.heap.size 27 := ⟨_, HB8.out.2.1⟩
 have hne : ∀ {b t : Nat} {cs : Array Value}, v8.heap[b]? = some (.cells cs t (0, 0)) → (27 == t) = false → ¬ b = w.heap.size := fun hb ht he => not_typed hwt ht (he ▸ ⟨_, hb⟩)
 have k0 := lit_int2 (blk_kept HB8.out.2.2.1 hk (hne HB8.out.2.2.1 rfl))
 have k1 := lit_int2 (blk_kept HB8.out.2.2.2.1 hk (hne HB8.out.2.2.2.1 rfl))
 have k2 := lit_int2 (blk_kept HB8.out.2.2.2.2.1 hk (hne HB8.out.2.2.2.2.1 rfl))
 have k3 := lit_int2 (blk_kept HB8.out.2.2.2.2.2.1 hk (hne HB8.out.2.2.2.2.2.1 rfl))
 have kE0 := blk_kept HB8.out.2.2.2.2.2.2 hk (hne HB8.out.2.2.2.2.2.2 rfl)
 have k4 := lit_int2 (blk_kept HI8.out.2.1 hk (hne HI8.out.2.1 rfl))
 have kM0 := blk_kept HI8.out.2.2 hk (hne HI8.out.2.2 rfl)
 have hP : PlanAt vF planP (some ⟨eb, 0, none⟩) (some ⟨sb, 0, none⟩) := ⟨C_lits (xs := planP.E) [[.int .i64 0, .int .i64 1, .slice (some ⟨g0, 0, none⟩) 2 2], [.int .i64 1, .int .i64 2, .slice (some ⟨g1, 0, none⟩) 2 2], [.int .i64 2, .int .i64 1, .slice (some ⟨g2, 0, none⟩) 2 2], [.int .i64 1, .int .i64 0, .slice (some ⟨g3, 0, none⟩) 2 2]] kE0
   ⟨⟨_, _, rfl, rfl, _, _, rfl, rfl, K_li k0 rfl (Nat.le_refl _)⟩, ⟨_, _, rfl, rfl, _, _, rfl, rfl, K_li k1 rfl (Nat.le_refl _)⟩, ⟨_, _, rfl, rfl, _, _, rfl, rfl, K_li k2 rfl (Nat.le_refl _)⟩, ⟨_, _, rfl, rfl, _, _, rfl, rfl, K_li k3 rfl (Nat.le_refl _)⟩, trivial⟩ (by decide),
  C_lits (xs := planP.start) [[.int .i64 0, .slice (some ⟨ib, 0, none⟩) 2 2, .int .i64 0]] kM0 ⟨⟨_, _, rfl, ⟨_, _, rfl, rfl, K_li k4 rfl (Nat.le_refl _)⟩, rfl⟩, trivial⟩ (by decide)⟩
 have hB : Below w.heap.size w vF := below_of_grown HB8.out.1 hg (Nat.le_refl _)
 have p0 := (blk_cell hfin 0).trans rfl
 have p1 := (blk_cell hfin 1).trans rfl
 have p2 := (blk_cell hfin 2).trans rfl
 have p3 := (blk_cell hfin 3).trans rfl
 have p4 := (blk_cell hfin 4).trans rfl
 have HF := Lib.hid (And.intro hP hB)
 clear hfin hg hk hwt hne k0 k1 k2 k3 kE0 k4 kM0 hP hB z0 z1 z2 z3 z4 y0 y1 y2 y3 y4
 go_wp2_with fail
 exact bodyPost_ret (v := planV planP (some ⟨eb, 0, none⟩) 4 (some ⟨sb, 0, none⟩) 1) (by simp [results, Tryz.results40, go_sem, p0, p1, p2, p3, p4]; rfl) rfl ⟨_, _, rfl, HF.out⟩
end Go.Proofs.YtbkfnmgkcgnifaaGreat
namespace Go.Proofs.YtbkfnmgkcgnifaaGreat.Mdl
theorem ex_check : checkP planP = 0 := by kernel_rfl
theorem ex_p1 : pathsP planP.N planP.Wd planP.E 0 2 = .ok [(0, 1, 0)] := by kernel_rfl
theorem ex_p2 : pathsP planP.N planP.Wd planP.E 2 0 = .ok [(1, 0, 0)] := by kernel_rfl
theorem ex_t : truthX planP [] 0 = .ok [[(0, 0, 0)], [(0, 0, 0)], [(0, 1, 0)]] := by kernel_rfl
theorem ex_b0 : beliefX planP [] 1 0 = .ok [[], [], []] := by kernel_rfl
theorem ex_b1 : beliefX planP [] 1 1 = .ok [[(0, 0, 0)], [(0, 0, 0)], [(0, 1, 0)]] := by kernel_rfl
theorem ex_r : runX planP [0, 2, 0, 1] = .ok (3, 3, 2) := by kernel_rfl
theorem ex_l : ledgerX planP [0, 2, 0, 1] 2 1 = .ok [((0, [0, 0]), 1), ((1, [0, 0]), -1), ((2, [0, 1]), 1)] := by kernel_rfl
theorem ex_h : heldX planP [0, 2, 0, 1] 2 0 = .ok [(2, [0, 1])] := by kernel_rfl
theorem ex_o1 : toldX planP [] 1 (2, [5, 1]) = .ok 2 := by kernel_rfl
theorem ex_o2 : toldX planP [] 0 (2, [5, 1]) = .ok 1 := by kernel_rfl
theorem ex_o3 : toldX planP [] 1 (2, [5, 0]) = .ok 0 := by kernel_rfl
end Go.Proofs.YtbkfnmgkcgnifaaGreat.Mdl
namespace Go.Proofs.YtbkfnmgkcgnifaaGreat
open Go.RowKit Go.Shelf Go.Proofs.YtbkfnmgkcgnifaaGreatW.PrintWords Go.Proofs.YtbkfnmgkcgnifaaGreatW.PrintLast Mdl
def Al : List (World → Prop) → World → Prop
 | [], _ => True
 | P :: Ps, w => (P w ∧ ∀ u u', P u → Below u.heap.size u u' → P u') ∧ Al Ps w
theorem Al.up : ∀ {Ps : List (World → Prop)} {w w' : World}, Al Ps w → Below w.heap.size w w' → Al Ps w'
 | [], _, _, _, _ => trivial
 | _ :: _, _, _, h, hb => ⟨⟨h.1.2 _ _ h.1.1 hb, h.1.2⟩, h.2.up hb⟩
theorem Al.start (w : World) : Al [fun u => Below w.heap.size w u] w := ⟨⟨Below.refl _ _, fun _ _ h hb => below_then h h.size hb⟩, trivial⟩
theorem Al.row {Ps : List (World → Prop)} {w : World} (h : Al Ps w) {α : Type} {d : Kd α} {A : Option Addr} {n : Nat} {xs : List α} (hr : d.C w A n xs) : Al ((fun u => d.C u A n xs) :: Ps) w := ⟨⟨hr, fun _ _ h hb => Kd.C_below h hb⟩, h⟩
theorem Al.blk {Ps : List (World → Prop)} {w : World} (h : Al Ps w) {g : Nat} {o : Obj} (hr : w.heap[g]? = some o) : Al ((fun u => u.heap[g]? = some o) :: Ps) w := ⟨⟨hr, fun _ _ h hb => blk_below h hb⟩, h⟩
theorem Al.plan {Ps : List (World → Prop)} {w : World} (h : Al Ps w) {p : Plan} {eA mA : Option Addr} (hr : PlanAt w p eA mA) : Al ((fun u => PlanAt u p eA mA) :: Ps) w := ⟨⟨hr, fun _ _ h hb => h.below hb⟩, h⟩
theorem Al.new {Ps : List (World → Prop)} {w : World} (h : Al Ps w) (o : Obj) {b : Nat} (hz : w.heap.size = b) : Al ((fun u => u.heap[b]? = some o) :: Ps) (w.alloc o) := by
 subst hz
 exact (h.up (below_new w o)).blk (heap_alloc_new w o)
theorem res_ok {α β : Type} {d : Kd β} {t : Nat} {f : List α → List β} {r : Except Int (List α)} {l : List α} {m : List β} {P : Program} {fn : FuncId} {args : Array Value} {w : World} (hr : r = .ok l) (hm : f l = m)
  (h : Calls P fn args w fun e w' => ∃ v, e = .returned (.tuple #[v, .int .i64 (resOf r).2]) ∧ d.R t w' w.heap.size (fun _ => True) v (f (resOf r).1) ∧ Below w.heap.size w w') :
  Calls P fn args w fun e w' => ∃ A c, e = .returned (.tuple #[.slice A m.length c, .int .i64 0]) ∧ d.C w' A m.length m ∧ m.length ≤ c ∧ Below w.heap.size w w' := by
 refine h.mono ?_
 rintro e w' ⟨v, rfl, h1, hb⟩
 subst hr hm
 obtain ⟨A, c, rfl, hl, hC⟩ := Kd.R_reads h1
 exact ⟨A, c, rfl, hC, hl, hb⟩
theorem K_sl {α : Type} {d : Kd α} {e : Nat} {w : World} {g n c : Nat} {l : List α} (h : d.C w (some ⟨g, 0, none⟩) n l) (hn : n = l.length) (hc : n ≤ c) : (Kd.slice e d).K w l [.slice (some ⟨g, 0, none⟩) n c] := by subst hn; exact ⟨_, _, rfl, hc, h⟩
theorem lit_li1 {w : World} {g g' t t' : Nat} {a b : Int} (h : w.heap[g]? = some (.cells #[.slice (some ⟨g', 0, none⟩) 2 2] t (0, 0))) (h' : w.heap[g']? = some (.cells #[.int .i64 a, .int .i64 b] t' (0, 0))) : kLI.C w (some ⟨g, 0, none⟩) 1 [[a, b]] :=
 C_lits (xs := [[a, b]]) [[.slice (some ⟨g', 0, none⟩) 2 2]] h ⟨K_sl (lit_int2 h') rfl (Nat.le_refl _), trivial⟩ (by simp)
section
variable (A B : Option Addr) (cA cB : Nat) (w : World)
theorem equalLists_same (l : List (List Int)) (hl : kLI.C w A l.length l) (hm : kLI.C w B l.length l) : Calls Tryz.prog 10 #[.slice A l.length cA, .slice B l.length cB] w fun e w' => e = .returned (.bool true) ∧ Below w.heap.size w w' :=
 (equalLists_any A B cA cB l l w hl hm).mono fun e w' h => ⟨by rw [h.1, decide_eq_true rfl], h.2⟩
theorem fronts_same (l : List (List (List Int))) (hl : kLLI.C w A l.length l) (hm : kLLI.C w B l.length l) : Calls Tryz.prog 17 #[.slice A l.length cA, .slice B l.length cB] w fun e w' => e = .returned (.bool true) ∧ Below w.heap.size w w' :=
 (fronts_any A B cA cB l l w hl hm).mono fun e w' h => ⟨by rw [h.1, decide_eq_true rfl], h.2⟩
theorem marks_same (l : List (Int × List Int)) (hl : kMk.C w A l.length l) (hm : kMk.C w B l.length l) : Calls Tryz.prog 25 #[.slice A l.length cA, .slice B l.length cB] w fun e w' => e = .returned (.bool true) ∧ Below w.heap.size w w' :=
 (marksL_any A B cA cB l l w hl hm).mono fun e w' h => ⟨by rw [h.1, decide_eq_true rfl], h.2⟩
theorem counts_same (l : List Msg) (hl : kMs.C w A l.length l) (hm : kMs.C w B l.length l) : Calls Tryz.prog 24 #[.slice A l.length cA, .slice B l.length cB] w fun e w' => e = .returned (.bool true) ∧ Below w.heap.size w w' :=
 (counts_any A B cA cB l l w hl hm).mono fun e w' h => ⟨by rw [h.1, decide_eq_true rfl], h.2⟩
end
theorem Tryz.infoLLI : (Tryz.prog.info? 28).map (fun i => (i.zero, i.size, i.bytes)) = some (some (.slice none 0 0), 1, 24) := by kernel_rfl
theorem made_fronts (m : Nat) (h : m ≤ 8) : ∀ W : World, (Instr.makeSlice 38 (.int .i64 (m : Int)) (.int .i64 (m : Int))).run Tryz.prog W = .ok (.slice (some ⟨W.heap.size, 0, none⟩) m m) (W.alloc (.cells (madeCells #[.slice none 0 0] m) 28)) :=
 print_make_of 38 28 _ 24 Tryz.underlying38 Tryz.infoLLI rfl (by decide) m (by omega)
theorem C_made {w : World} {g m t : Nat} (h : w.heap[g]? = some (.cells (madeCells #[.slice none 0 0] m) t (0, 0))) (hm : m ≤ 8) : kLLI.C w (some ⟨g, 0, none⟩) m (List.replicate m []) := by
 refine ⟨by simp, by omega, fun _ => ⟨_, rfl, fun j p hj => ?_⟩⟩
 obtain ⟨h1, rfl⟩ := List.getElem?_eq_some_iff.1 hj
 rw [List.getElem_replicate]
 rw [List.length_replicate] at h1
 refine ⟨[.slice none 0 0], rfl, ⟨none, 0, rfl, Nat.le_refl _, Kd.C_nil kLI w⟩, fun i u hu => ?_⟩
 rw [Addr.add_lit, blk_cell h, Nat.zero_add]
 cases i with
 | zero => rw [show kLLI.sz = 1 from rfl, Nat.mul_one, Nat.add_zero, made_cell h1]; exact hu
 | succ i => simp at hu
theorem eq_run (d : Nat) (a b c x y z : Int) (w : World) : (Op.equalIn (d + 3) 50 (.agg #[.int .i64 a, .int .i64 b, .int .i64 c]) (.agg #[.int .i64 x, .int .i64 y, .int .i64 z])).run Tryz.prog w = .ok ((a == x) && ((b == y) && (c == z))) w := by
 refine eqA_of Tryz.underlying50 (by kernel_rfl) ?_
 refine eqf_cons (a := .int .i64 a) (b := .int .i64 x) (by rfl) (by kernel_rfl) (by kernel_rfl) (eq_int _ _ _ _) ?_
 refine eqf_cons (a := .int .i64 b) (b := .int .i64 y) (by rfl) (by kernel_rfl) (by kernel_rfl) (eq_int _ _ _ _) ?_
 exact eqf_last (a := .int .i64 c) (b := .int .i64 z) (by rfl) (by kernel_rfl) (by kernel_rfl) (eq_int _ _ _ _)
theorem ne_run (a b c x y z : Int) (w : World) : (binOp .neq 50 (.agg #[.int .i64 a, .int .i64 b, .int .i64 c]) (.agg #[.int .i64 x, .int .i64 y, .int .i64 z])).run Tryz.prog w = .ok (.bool (!((a == x) && ((b == y) && (c == z))))) w := by
 have h := run_neq_struct (P := Tryz.prog) (w := w) 50 #[.int .i64 a, .int .i64 b, .int .i64 c] #[.int .i64 x, .int .i64 y, .int .i64 z]
 rw [h, eq_run 9997 a b c x y z w]; rfl
end Go.Proofs.YtbkfnmgkcgnifaaGreat
namespace Go.Proofs.YtbkfnmgkcgnifaaGreat
open Go.RowKit Go.Shelf Go.Proofs.YtbkfnmgkcgnifaaGreatW.PrintWords Go.Proofs.YtbkfnmgkcgnifaaGreatW.PrintLast Mdl
namespace Mdl
def leTo (s t : List Int) (n : Nat) : Bool := (List.range n).all fun k => decide (s.getD k 0 ≤ t.getD k 0)
def leL (s t : List Int) : Bool := leTo s t s.length
theorem all_grow {p : Nat → Bool} {k : Nat} (h : (List.range k).all p = true) (e : p k = true) : (List.range (k + 1)).all p = true := by rw [List.range_succ, List.all_append, h]; simp [e]
theorem all_fall {p : Nat → Bool} {k n : Nat} (hk : k < n) (e : p k = false) : (List.range n).all p = false := by
 rw [List.all_eq_false]; exact ⟨k, List.mem_range.2 hk, by simp [e]⟩
end Mdl
set_option maxRecDepth 4000 in
set_option maxHeartbeats 1600000 in
theorem le_any (A B : Option Addr) (cA cB : Nat) (l m : List Int) (w : World) (hl : kI.C w A l.length l) (hm : kI.C w B m.length m) (hlen : l.length = m.length) :
  Calls Tryz.prog 97 #[.slice A l.length cA, .slice B m.length cB] w fun e w' => e = .returned (.bool (leL l m)) ∧ Below w.heap.size w w' := by
 have HL := Aside0.mk hl
 have HM := Aside0.mk hm
 have hlm := Kd.C_max hl
 have hmm := Kd.C_max hm
 clear hl hm
 go_enter Tryz.func97, Tryz.ntmps97
 go_wp2_with fail
 go_loopw [5] (fun i wr => ∃ k : Nat, i = .int .i64 k ∧ k ≤ l.length ∧ Aside0 (leTo l m k = true ∧ Below w.heap.size w wr)) (fun i _ => l.length - (intOf i).toNat)
 case atStart => exact ⟨0, rfl, Nat.zero_le _, ⟨rfl, Below.refl _ _⟩⟩
 case round =>
  obtain ⟨k, rfl, hk, hX⟩ := hrel
  by_cases hlt : k < l.length
  ·have hkm : k < m.length := by omega
   have hkE : (k : Int) < l.length := by omega
   have hkM : (k : Int) < m.length := by omega
   have hk0 : (0 : Int) ≤ k := by omega
   obtain ⟨ad, rfl, c1⟩ := at_int (Kd.C_below HL.out hX.out.2) hlt
   obtain ⟨ad2, rfl, c2⟩ := at_int (Kd.C_below HM.out hX.out.2) hkm
   have HG := Lib.hid (show (l[k] ≤ m[k] → leTo l m (k + 1) = true) ∧ (¬ l[k] ≤ m[k] → leL l m = false) from by
    have e1 : l.getD k 0 = l[k] := by rw [List.getD_eq_getElem?_getD, List.getElem?_eq_getElem hlt]; rfl
    have e2 : m.getD k 0 = m[k] := by rw [List.getD_eq_getElem?_getD, List.getElem?_eq_getElem hkm]; rfl
    exact ⟨fun h => all_grow hX.out.1 (by rw [e1, e2]; exact decide_eq_true h), fun h => all_fall (p := fun k => decide (l.getD k 0 ≤ m.getD k 0)) hlt (by rw [e1, e2]; exact decide_eq_false h)⟩)
   generalize l[k] = x at *
   generalize m[k] = y at *
   clear hkm
   go_upto_region 4 with fail
   refine start_ (n := 9) (S := fun w' => w'.cell? (ad.add k) = some (.int .i64 x) ∧ w'.cell? (ad2.add k) = some (.int .i64 y)) (ds := []) (bs 9 0) (by kernel_rfl) rfl (by kernel_rfl) ⟨c1, c2⟩ (fun hHeld => ?_)
   have HD := Aside0.mk (below_drew1 hX.out.2)
   generalize wr.drew = wd at *
   refine pu 0 12 (bs 9 1) ?_
   refine pu 1 13 (bs 9 3) ?_
   refine pu 2 14 (bs 9 7) ?_
   refine tk2 3 15 (bs 9 15) hHeld ?_
   refine pu 4 16 (bs 9 31) ?_
   refine pu 5 17 (bs 9 63) ?_
   refine pu 6 18 (bs 9 127) ?_
   refine tk2 7 19 (bs 9 255) hHeld ?_
   by_cases hxy : x ≤ y
   ·have hf : decide (y < x) = false := by simp; omega
    refine pu 8 20 (bs 9 511) ?_
    refine dn0 ?_
    go_wp2_with fail
    exact ⟨⟨k + 1, by go_num, by omega, ⟨HG.out.1 hxy, HD.out⟩⟩, by simp [intOf]; omega⟩
   ·skip
    have hf : y < x := by omega
    refine pu 8 20 (bs 9 511) ?_
    refine dn0 ?_
    go_wp2_with fail
    go_ret
    exact ⟨by rw [HG.out.2 hf]; rfl, HD.out⟩
  ·have hkE : ¬ ((k : Int) < l.length) := by omega
   have HE := Lib.hid (show leL l m = true by
    have h := hX.out.1
    rw [show k = l.length by omega] at h
    exact h)
   go_wp2_with fail
   go_ret
   exact ⟨by rw [HE.out]; rfl, hX.out.2⟩
end Go.Proofs.YtbkfnmgkcgnifaaGreat
namespace Go.Proofs.YtbkfnmgkcgnifaaGreat.Mdl
def LeT (a b : Tm) : Prop := a.1 ≤ b.1 ∧ a.2.1 ≤ b.2.1 ∧ a.2.2 ≤ b.2.2
theorem leT_iff {a b : Tm} : leT a b = true ↔ LeT a b := by simp [leT, LeT, and_assoc]
theorem LeT.refl (a : Tm) : LeT a a := ⟨Int.le_refl _, Int.le_refl _, Int.le_refl _⟩
theorem LeT.trans {a b c : Tm} (h : LeT a b) (k : LeT b c) : LeT a c := ⟨Int.le_trans h.1 k.1, Int.le_trans h.2.1 k.2.1, Int.le_trans h.2.2 k.2.2⟩
theorem LeT.anti {a b : Tm} (h : LeT a b) (k : LeT b a) : a = b := Prod.ext (Int.le_antisymm h.1 k.1) (Prod.ext (Int.le_antisymm h.2.1 k.2.1) (Int.le_antisymm h.2.2 k.2.2))
def addT (a b : Tm) : Tm := (a.1 + b.1, a.2.1 + b.2.1, a.2.2 + b.2.2)
def TmIn (B : Int) (t : Tm) : Prop := (0 ≤ t.1 ∧ t.1 ≤ B) ∧ (0 ≤ t.2.1 ∧ t.2.1 ≤ B) ∧ (0 ≤ t.2.2 ∧ t.2.2 ≤ B)
theorem TmIn.mono {B C : Int} {t : Tm} (h : TmIn B t) (hB : B ≤ C) : TmIn C t := by unfold TmIn at *; omega
theorem plusT_add {a b : Tm} {B C : Int} (ha : TmIn B a) (hb : TmIn C b) (hB : B + C ≤ 1000000000) : plusT a b = addT a b ∧ TmIn (B + C) (addT a b) := by
 unfold TmIn at *
 refine ⟨?_, by simp only [addT]; omega⟩
 simp only [plusT, addT]
 rw [w64_in (by omega) (by omega), w64_in (by omega) (by omega), w64_in (by omega) (by omega)]
theorem firstsFold_sub : ∀ (d out : List Tm) (x : Tm), x ∈ d.foldl stepF out → x ∈ out ∨ x ∈ d
 | [], _, _, h => .inl h
 | t :: d, out, x, h => by
  rcases firstsFold_sub d (stepF out t) x h with h | h
  ·unfold stepF at h
   split at h
   ·exact .inl h
   ·rcases List.mem_append.1 h with h | h
    ·exact .inl h
    ·rw [List.mem_singleton.1 h]; exact .inr List.mem_cons_self
  ·exact .inr (List.mem_cons_of_mem _ h)
theorem firstsFold_keep : ∀ (d out : List Tm) (x : Tm), x ∈ out → x ∈ d.foldl stepF out
 | [], _, _, h => h
 | t :: d, out, x, h => firstsFold_keep d (stepF out t) x (by unfold stepF; split; exact h; exact List.mem_append_left _ h)
theorem firstsFold_cover : ∀ (d out : List Tm) (y : Tm), y ∈ d → ∃ x ∈ d.foldl stepF out, LeT x y
 | t :: d, out, y, h => by
  rcases List.mem_cons.1 h with h | h
  ·subst h
   by_cases hc : out.any (fun o => leT o y) = true
   ·obtain ⟨o, ho, hl⟩ := List.any_eq_true.1 hc
    exact ⟨o, firstsFold_keep d (stepF out y) o (by unfold stepF; rw [if_pos hc]; exact ho), leT_iff.1 hl⟩
   ·exact ⟨y, firstsFold_keep d (stepF out y) y (by unfold stepF; rw [if_neg hc]; simp), LeT.refl _⟩
  ·exact firstsFold_cover d (stepF out t) y h
def Apart (l : List Tm) : Prop := l.Pairwise (fun a b => ¬ LeT a b ∧ ¬ LeT b a)
theorem le_cmp {a b : Tm} (h : LeT a b) : cmpT a b ≤ 0 := by
 rw [cmpT_le]; unfold LeT at h; omega
theorem firstsFold_apart : ∀ (d out : List Tm), Apart out → Strict (out ++ d) → Apart (d.foldl stepF out) ∧ Strict (d.foldl stepF out)
 | [], out, h, hs => ⟨h, by simpa using hs⟩
 | t :: d, out, h, hs => by
  have hs2 := List.pairwise_append.1 hs
  rw [List.foldl_cons]
  by_cases hc : out.any (fun o => leT o t) = true
  ·rw [show stepF out t = out by unfold stepF; rw [if_pos hc]]
   exact firstsFold_apart d out h (List.pairwise_append.2 ⟨hs2.1, (List.pairwise_cons.1 hs2.2.1).2, fun a ha b hb => hs2.2.2 a ha b (List.mem_cons_of_mem _ hb)⟩)
  ·rw [show stepF out t = out ++ [t] by unfold stepF; rw [if_neg hc]]
   refine firstsFold_apart d _ (List.pairwise_append.2 ⟨h, List.pairwise_singleton _ _, fun a ha b hb => ?_⟩) (by simpa using hs)
   rw [List.mem_singleton.1 hb]
   refine ⟨fun hl => hc (List.any_eq_true.2 ⟨a, ha, leT_iff.2 hl⟩), fun hl => ?_⟩
   have h1 := le_cmp hl
   have h2 := hs2.2.2 a ha t List.mem_cons_self
   rw [cmpT_neg] at h1; omega
theorem firsts_base (l : List Tm) : Strict (dedup (sortT l)) ∧ ∀ x, x ∈ dedup (sortT l) ↔ x ∈ l := by
 obtain ⟨s1, p1⟩ := sortL_spec ordT (l := l) (fun _ _ => trivial)
 exact ⟨dedup_strict _ s1, fun x => (dedup_mem _ _).trans p1.mem_iff⟩
theorem firsts_sub {l : List Tm} {x : Tm} (h : x ∈ firstsT l) : x ∈ l := by
 rcases firstsFold_sub _ _ _ h with h | h
 ·cases h
 ·exact ((firsts_base l).2 x).1 h
theorem firsts_cover {l : List Tm} {y : Tm} (h : y ∈ l) : ∃ x ∈ firstsT l, LeT x y := firstsFold_cover _ _ _ (((firsts_base l).2 y).2 h)
theorem firsts_apart (l : List Tm) : Apart (firstsT l) ∧ Strict (firstsT l) := firstsFold_apart _ [] List.Pairwise.nil (by simpa using (firsts_base l).1)
theorem apart_eq : ∀ {l : List Tm}, Apart l → ∀ {x y : Tm}, x ∈ l → y ∈ l → LeT x y → x = y
 | a :: l, h, x, y, hx, hy, hl => by
  have h1 := List.pairwise_cons.1 h
  rcases List.mem_cons.1 hx with hx | hx <;> rcases List.mem_cons.1 hy with hy | hy
  ·rw [hx, hy]
  ·exact absurd (hx ▸ hl) (h1.1 y hy).1
  ·exact absurd (hy ▸ hl) (h1.1 x hx).2
  ·exact apart_eq h1.2 hx hy hl
theorem firsts_eq {l : List Tm} {x y : Tm} (hx : x ∈ firstsT l) (hy : y ∈ firstsT l) (h : LeT x y) : x = y := apart_eq (firsts_apart l).1 hx hy h
def IsWay (E : List Ed) (b : Int) : Int → List Ed → Prop
 | a, [] => a = b
 | a, e :: P => e ∈ E ∧ e.1 = a ∧ IsWay E b e.2.1 P
def sumW : List Ed → Tm
 | [] => (0, 0, 0)
 | e :: P => addT (tmOf e.2.2) (sumW P)
def sumS (s : Tm) (P : List Ed) : Tm := P.foldl (fun s e => plusT s (tmOf e.2.2)) s
def Free : List Bool → Nat → List Ed → Prop
 | _, _, [] => True
 | on, n, e :: P => (on.set n true).getD e.2.1.toNat false = false ∧ Free (on.set n true) e.2.1.toNat P
theorem IsWay.append {E : List Ed} {b c : Int} : ∀ {P : List Ed} {a : Int} {Q : List Ed}, IsWay E b a P → IsWay E c b Q → IsWay E c a (P ++ Q)
 | [], _, _, h, k => by cases h; exact k
 | _ :: _, _, _, h, k => ⟨h.1, h.2.1, h.2.2.append k⟩
theorem addT_zero (s : Tm) : addT s (0, 0, 0) = s := by simp [addT]
theorem zero_addT (s : Tm) : addT (0, 0, 0) s = s := by simp [addT]
theorem addT_assoc (a b c : Tm) : addT (addT a b) c = addT a (addT b c) := by simp [addT, Int.add_assoc]
theorem sumW_append : ∀ (P Q : List Ed), sumW (P ++ Q) = addT (sumW P) (sumW Q)
 | [], Q => (zero_addT _).symm
 | e :: P, Q => by simp only [List.cons_append, sumW, sumW_append P Q, addT_assoc]
def EdIn (N : Int) (E : List Ed) : Prop := ∀ e ∈ E, (0 ≤ e.1 ∧ e.1 < N) ∧ (0 ≤ e.2.1 ∧ e.2.1 < N) ∧ TmIn 100 (tmOf e.2.2)
theorem way_mem {E : List Ed} {b : Int} : ∀ {P : List Ed} {a : Int}, IsWay E b a P → ∀ e ∈ P, e ∈ E
 | _ :: P, _, h, e, he => by
  rcases List.mem_cons.1 he with he | he
  ·rw [he]; exact h.1
  ·exact way_mem h.2.2 e he
theorem sumW_in {E : List Ed} {N : Int} (hE : EdIn N E) : ∀ {P : List Ed}, (∀ e ∈ P, e ∈ E) → TmIn (100 * P.length) (sumW P)
 | [], _ => by simp [TmIn, sumW]
 | e :: P, h => by
  have h1 := (hE e (h e List.mem_cons_self)).2.2
  have h2 := sumW_in hE (P := P) (fun x hx => h x (List.mem_cons_of_mem _ hx))
  unfold TmIn at *
  simp only [sumW, addT, List.length_cons]
  omega
theorem sumS_eq {E : List Ed} {N : Int} (hE : EdIn N E) : ∀ {P : List Ed} {s : Tm} {B : Int}, (∀ e ∈ P, e ∈ E) → TmIn B s → B + 100 * P.length ≤ 1000000 → sumS s P = addT s (sumW P)
 | [], s, B, _, _, _ => (addT_zero s).symm
 | e :: P, s, B, h, hs, hB => by
  rw [List.length_cons] at hB
  obtain ⟨e1, e2⟩ := plusT_add hs (hE e (h e List.mem_cons_self)).2.2 (by omega)
  have := sumS_eq hE (P := P) (s := plusT s (tmOf e.2.2)) (B := B + 100) (fun x hx => h x (List.mem_cons_of_mem _ hx)) (by rw [e1]; exact e2) (by omega)
  show sumS (plusT s (tmOf e.2.2)) P = _
  rw [this, e1, addT_assoc]; rfl
theorem fold_mem {start : Int} {n : Nat} {sum : Tm} {on1 : List Bool} {rec} {K : Nat} {S : Ed → Nat → Tm → Prop} {E : List Ed}
  (hrec : ∀ e ∈ E, e.1 = (n : Int) → on1.getD e.2.1.toNat false = false → ∀ r x, r.length = K → rec e.2.1.toNat (plusT sum (tmOf e.2.2)) r on1 = some x → x.length = K ∧ ∀ v, v < K → ∀ t, t ∈ x.getD v [] ↔ t ∈ r.getD v [] ∨ S e v t) :
  ∀ (F : List Ed) (r r' : List (List Tm)), (∀ e ∈ F, e ∈ E) → r.length = K → F.foldl (edgeS start n sum on1 rec) (some r) = some r' → r'.length = K ∧ ∀ v, v < K → ∀ t, t ∈ r'.getD v [] ↔ t ∈ r.getD v [] ∨ ∃ e ∈ F, e.1 = (n : Int) ∧ on1.getD e.2.1.toNat false = false ∧ S e v t
 | [], r, r', _, hr, he => by cases he; exact ⟨hr, fun v _ t => by simp⟩
 | e :: F, r, r', hF, hr, he => by
  rw [List.foldl_cons] at he
  cases hx : edgeS start n sum on1 rec (some r) e with
  | none => rw [hx, foldl_none] at he; cases he
  | some x =>
   rw [hx] at he
   simp only [edgeS, Option.bind_some] at hx
   have ih := fun hxl => fold_mem hrec F x r' (fun e he => hF e (List.mem_cons_of_mem _ he)) hxl he
   split at hx
   ·rename_i hc
    split at hx
    ·cases hx
    ·cases hx
     obtain ⟨h1, h2⟩ := ih hr
     refine ⟨h1, fun v hv t => (h2 v hv t).trans ?_⟩
     constructor
     ·rintro (h | ⟨e', he', h⟩)
      ·exact .inl h
      ·exact .inr ⟨e', List.mem_cons_of_mem _ he', h⟩
     ·rintro (h | ⟨e', he', h1, h2, h3⟩)
      ·exact .inl h
      ·rcases List.mem_cons.1 he' with he' | he'
       ·subst he'
        rcases hc with hc | hc
        ·exact absurd h1 hc
        ·rw [h2] at hc; cases hc
       ·exact .inr ⟨e', he', h1, h2, h3⟩
   ·rename_i hc
    have hc1 : e.1 = (n : Int) := Classical.byContradiction fun h => hc (.inl h)
    have hc2 : on1.getD e.2.1.toNat false = false := by
     cases h : on1.getD e.2.1.toNat false with
     | false => rfl
     | true => exact absurd (.inr h) hc
    obtain ⟨g1, g2⟩ := hrec e (hF e List.mem_cons_self) hc1 hc2 r x hr hx
    obtain ⟨h1, h2⟩ := ih g1
    refine ⟨h1, fun v hv t => (h2 v hv t).trans ?_⟩
    rw [g2 v hv t]
    constructor
    ·rintro ((h | h) | ⟨e', he', h⟩)
     ·exact .inl h
     ·exact .inr ⟨e, List.mem_cons_self, hc1, hc2, h⟩
     ·exact .inr ⟨e', List.mem_cons_of_mem _ he', h⟩
    ·rintro (h | ⟨e', he', h1, h2, h3⟩)
     ·exact .inl (.inl h)
     ·rcases List.mem_cons.1 he' with he' | he'
      ·subst he'; exact .inl (.inr h3)
      ·exact .inr ⟨e', he', h1, h2, h3⟩
theorem mem_walk {E : List Ed} {start : Int} {K : Nat} (hE : ∀ e ∈ E, 0 ≤ e.2.1 ∧ e.2.1.toNat < K) : ∀ (f n : Nat) (sum : Tm) (rows : List (List Tm)) (on : List Bool) (rows' : List (List Tm)), rows.length = K → n < K → walkP E start f n sum rows on = some rows' →
  rows'.length = K ∧ ∀ v, v < K → ∀ t, t ∈ rows'.getD v [] ↔ t ∈ rows.getD v [] ∨ ∃ P, P.length < f ∧ IsWay E (v : Int) (n : Int) P ∧ Free on n P ∧ sumS sum P = t
 | 0, n, sum, rows, on, rows', hr, hn, he => by
  simp only [walkP] at he; cases he
  exact ⟨hr, fun v _ t => ⟨.inl, fun h => h.elim id (fun ⟨P, hP, _⟩ => absurd hP (by omega))⟩⟩
 | f + 1, n, sum, rows, on, rows', hr, hn, he => by
  simp only [walkP] at he
  obtain ⟨h1, h2⟩ := fold_mem (K := K) (E := E) (S := fun e v t => ∃ P, P.length < f ∧ IsWay E (v : Int) e.2.1 P ∧ Free (on.set n true) e.2.1.toNat P ∧ sumS (plusT sum (tmOf e.2.2)) P = t)
   (fun e he h0 ho r x hr hx => by
    obtain ⟨a, b⟩ := mem_walk hE f _ _ r _ x hr (hE e he).2 hx
    refine ⟨a, fun v hv t => (b v hv t).trans ?_⟩
    rw [Int.toNat_of_nonneg (hE e he).1]) E _ rows' (fun _ h => h) (by rw [List.length_set]; exact hr) he
  refine ⟨h1, fun v hv t => (h2 v hv t).trans ?_⟩
  have hset : t ∈ (rows.set n (rows.getD n [] ++ [sum])).getD v [] ↔ t ∈ rows.getD v [] ∨ (v = n ∧ sum = t) := by
   by_cases hvn : v = n
   ·subst hvn
    rw [getD_set_self _ _ _ _ (by omega), List.mem_append, List.mem_singleton]
    exact ⟨fun h => h.imp id (fun h => ⟨rfl, h.symm⟩), fun h => h.imp id (fun h => h.2.symm)⟩
   ·rw [getD_set_ne _ _ _ (Ne.symm hvn)]
    exact ⟨.inl, fun h => h.elim id (fun h => absurd h.1 hvn)⟩
  rw [hset]
  constructor
  ·rintro ((h | ⟨rfl, rfl⟩) | ⟨e, he, h0, ho, P, hP, hw, hf, hs⟩)
   ·exact .inl h
   ·exact .inr ⟨[], by simp, rfl, trivial, rfl⟩
   ·exact .inr ⟨e :: P, by rw [List.length_cons]; omega, ⟨he, h0, hw⟩, ⟨ho, hf⟩, hs⟩
  ·rintro (h | ⟨P, hP, hw, hf, hs⟩)
   ·exact .inl (.inl h)
   ·cases P with
    | nil =>
     have hw : (n : Int) = v := hw
     exact .inl (.inr ⟨by omega, hs⟩)
    | cons e P =>
     exact .inr ⟨e, hw.1, hw.2.1, hf.1, P, by rw [List.length_cons] at hP; omega, hw.2.2, hf.2, hs⟩
def tgts (P : List Ed) : List Int := P.map (·.2.1)
theorem sum_le {E : List Ed} {N : Int} (hE : EdIn N E) {e : Ed} (he : e ∈ E) {Y P : List Ed} (h : LeT (sumW Y) (sumW P)) : LeT (sumW (e :: Y)) (sumW (e :: P)) ∧ LeT (sumW Y) (sumW (e :: P)) := by
 have := (hE e he).2.2
 unfold TmIn at this
 unfold LeT at *
 simp only [sumW, addT]
 omega
theorem way_cut {E : List Ed} {N : Int} (hE : EdIn N E) {b a : Int} : ∀ (P : List Ed) (n : Int), IsWay E b n P → a ∈ n :: tgts P → (n :: tgts P).Nodup → ∃ Y, IsWay E b a Y ∧ (a :: tgts Y).Nodup ∧ LeT (sumW Y) (sumW P)
 | [], n, h, ha, hn => by
  rcases List.mem_cons.1 ha with ha | ha
  ·subst ha; exact ⟨[], h, hn, LeT.refl _⟩
  ·cases ha
 | e :: P, n, h, ha, hn => by
  rcases List.mem_cons.1 ha with ha | ha
  ·subst ha; exact ⟨_, h, hn, LeT.refl _⟩
  ·obtain ⟨Y, h1, h2, h3⟩ := way_cut hE P e.2.1 h.2.2 ha (List.nodup_cons.1 hn).2
   exact ⟨Y, h1, h2, (sum_le hE h.1 h3).2⟩
theorem way_simple {E : List Ed} {N : Int} (hE : EdIn N E) {b : Int} : ∀ (P : List Ed) (a : Int), IsWay E b a P → ∃ Y, IsWay E b a Y ∧ (a :: tgts Y).Nodup ∧ LeT (sumW Y) (sumW P)
 | [], a, h => ⟨[], h, by simp [tgts], LeT.refl _⟩
 | e :: P, a, h => by
  obtain ⟨Y, h1, h2, h3⟩ := way_simple hE P e.2.1 h.2.2
  by_cases ha : a ∈ e.2.1 :: tgts Y
  ·obtain ⟨Z, g1, g2, g3⟩ := way_cut hE Y e.2.1 h1 ha h2
   exact ⟨Z, g1, g2, (sum_le hE h.1 (g3.trans h3)).2⟩
  ·exact ⟨e :: Y, ⟨h.1, h.2.1, h1⟩, List.nodup_cons.2 ⟨ha, h2⟩, (sum_le hE h.1 h3).1⟩
theorem nodup_le : ∀ (N : Nat) (l : List Int), l.Nodup → (∀ x ∈ l, 0 ≤ x ∧ x < N) → l.length ≤ N
 | 0, [], _, _ => Nat.le_refl _
 | 0, x :: l, _, h => by have := h x List.mem_cons_self; omega
 | N + 1, l, hn, h => by
  by_cases hm : (N : Int) ∈ l
  ·have h1 := List.length_erase_of_mem hm
   have h2 := nodup_le N (l.erase (N : Int)) (hn.erase _) (fun x hx => by
    have h3 := (List.Nodup.mem_erase_iff hn).1 hx
    have := h x h3.2
    have := h3.1
    omega)
   omega
  ·have := nodup_le N l hn (fun x hx => by
    have h1 := h x hx
    have : x ≠ N := fun he => hm (he ▸ hx)
    omega)
   omega
theorem free_of {E : List Ed} {N : Int} (hE : EdIn N E) {b : Int} : ∀ (P : List Ed) (n : Int) (on : List Bool), 0 ≤ n → IsWay E b n P → (n :: tgts P).Nodup → (∀ x ∈ tgts P, on.getD x.toNat false = false) → Free on n.toNat P
 | [], _, _, _, _, _, _ => trivial
 | e :: P, n, on, h0, h, hn, ho => by
  have hp := List.nodup_cons.1 hn
  have hset : ∀ x ∈ tgts (e :: P), (on.set n.toNat true).getD x.toNat false = false := fun x hx => by
   have hne : n ≠ x := fun he => hp.1 (he ▸ hx)
   have h1 := ho x hx
   have hx0 : 0 ≤ x := by
    obtain ⟨e', he', rfl⟩ := List.mem_map.1 hx
    exact (hE e' (way_mem h e' he')).2.1.1
   rw [getD_set_ne _ _ _ (show n.toNat ≠ x.toNat by omega)]
   exact h1
  exact ⟨hset _ List.mem_cons_self, free_of hE P e.2.1 _ (hE e h.1).2.1.1 h.2.2 hp.2 (fun x hx => hset x (List.mem_cons_of_mem _ hx))⟩
theorem way_last {E : List Ed} {b : Int} : ∀ {P : List Ed} {a : Int}, IsWay E b a P → P ≠ [] → ∃ X e, P = X ++ [e] ∧ IsWay E e.1 a X ∧ e ∈ E ∧ e.2.1 = b
 | [e], a, h, _ => ⟨[], e, rfl, h.2.1.symm, h.1, h.2.2⟩
 | e :: e2 :: P, a, h, _ => by
  obtain ⟨X, x, h1, h2, h3, h4⟩ := way_last h.2.2 (by simp)
  exact ⟨e :: X, x, by rw [h1]; rfl, ⟨h.1, h.2.1, h2⟩, h3, h4⟩
theorem mapM_idx {α β : Type} {f : α → Option β} : ∀ {l : List α} {r : List β}, l.mapM f = some r → ∀ (i : Nat) (x : α), l[i]? = some x → ∃ y, r[i]? = some y ∧ f x = some y
 | [], r, h, i, x, hi => by simp at hi
 | a :: l, r, h, i, x, hi => by
  rw [List.mapM_cons] at h
  cases hx : f a with
  | none => rw [hx] at h; cases h
  | some y =>
   cases hl : l.mapM f with
   | none => rw [hx, hl] at h; cases h
   | some ys =>
    rw [hx, hl] at h
    injection h with h
    subst h
    cases i with
    | zero => simp at hi; subst hi; exact ⟨y, rfl, hx⟩
    | succ i => simpa using mapM_idx hl i x (by simpa using hi)
theorem edges_in {N Wd : Int} {E : List Ed} (h : ∀ e ∈ E, edgeOk N Wd e = true) (hW : Wd ≤ 3) : EdIn N E := fun e he => by
 have h1 := h e he
 simp only [edgeOk, Bool.and_eq_true, decide_eq_true_eq] at h1
 obtain ⟨h1, h2, h3, h4⟩ := h1
 refine ⟨h1, h2, ?_⟩
 unfold withinB at h4
 simp only [Bool.not_eq_true', List.any_eq_false] at h4
 have hk : ∀ k, 0 ≤ e.2.2.getD k 0 ∧ e.2.2.getD k 0 ≤ 100 := fun k => by
  rw [List.getD_eq_getElem?_getD]
  cases hg : e.2.2[k]? with
  | none => simp
  | some x =>
   have := h4 x (List.mem_of_getElem? hg)
   simp only [outB, Bool.or_eq_true, decide_eq_true_eq, not_or] at this
   simp only [Option.getD_some]; omega
 exact ⟨hk 0, hk 1, hk 2⟩
theorem way_eq {N Wd : Int} {E : List Ed} {ways : Ways} (h : openedP N Wd E = some ways) {a b : Int} (ha : 0 ≤ a ∧ a < N) (hb : 0 ≤ b ∧ b < N) :
  ∃ l, wayAt ways a b.toNat = firstsT l ∧ ∀ t, t ∈ l ↔ ∃ P, P.length < N.toNat ∧ IsWay E b a P ∧ Free (List.replicate N.toNat false) a.toNat P ∧ sumW P = t := by
 obtain ⟨⟨h1, h8, _, h3, h16⟩, he, hm⟩ := opened_ok h
 have hE := edges_in he h3
 obtain ⟨y, hy, hf⟩ := mapM_idx hm a.toNat a.toNat (by rw [List.getElem?_range (by omega)])
 unfold fromP at hf
 obtain ⟨rows, hw, hr⟩ := Option.map_eq_some_iff.1 hf
 obtain ⟨g1, g2⟩ := mem_walk (K := N.toNat) (fun e h => by have := (hE e h).2.1; omega) _ _ _ _ _ _ (by simp) (by omega) hw
 refine ⟨rows.getD b.toNat [], ?_, fun t => (g2 b.toNat (by omega) t).trans ?_⟩
 ·unfold wayAt
  rw [List.getD_eq_getElem?_getD (l := ways), hy, Option.getD_some, ← hr, List.getD_eq_getElem?_getD, List.getElem?_map, List.getElem?_eq_getElem (by omega : b.toNat < rows.length), List.getD_eq_getElem?_getD, List.getElem?_eq_getElem (by omega : b.toNat < rows.length)]
  rfl
 ·have hrep : (List.replicate N.toNat ([] : List Tm)).getD b.toNat [] = [] := by
   rw [List.getD_eq_getElem?_getD, List.getElem?_replicate]; split <;> rfl
  rw [hrep, Int.toNat_of_nonneg ha.1, Int.toNat_of_nonneg hb.1]
  constructor
  ·rintro (h | ⟨P, hP, hw, hf, hs⟩)
   ·cases h
   ·refine ⟨P, hP, hw, hf, ?_⟩
    rw [sumS_eq hE (B := 0) (way_mem hw) (by simp [TmIn]) (by omega), zero_addT] at hs
    exact hs
  ·rintro ⟨P, hP, hw, hf, hs⟩
   refine .inr ⟨P, hP, hw, hf, ?_⟩
   rw [sumS_eq hE (B := 0) (way_mem hw) (by simp [TmIn]) (by omega), zero_addT]
   exact hs
theorem way_cover {N Wd : Int} {E : List Ed} {ways : Ways} (h : openedP N Wd E = some ways) {a b : Int} (ha : 0 ≤ a ∧ a < N) (hb : 0 ≤ b ∧ b < N) {P : List Ed} (hw : IsWay E b a P) : ∃ t ∈ wayAt ways a b.toNat, LeT t (sumW P) := by
 obtain ⟨l, h1, h2⟩ := way_eq h ha hb
 obtain ⟨⟨g1, g8, _, g3, g16⟩, he, _⟩ := opened_ok h
 have hE := edges_in he g3
 obtain ⟨Y, k1, k2, k3⟩ := way_simple hE P a hw
 have hin : ∀ x ∈ a :: tgts Y, 0 ≤ x ∧ x < (N.toNat : Int) := fun x hx => by
  rcases List.mem_cons.1 hx with hx | hx
  ·omega
  ·obtain ⟨e, he, rfl⟩ := List.mem_map.1 hx
   have := (hE e (way_mem k1 e he)).2.1
   omega
 have hlen := nodup_le N.toNat _ k2 hin
 rw [List.length_cons, tgts, List.length_map] at hlen
 have hfree := free_of hE Y a (List.replicate N.toNat false) ha.1 k1 k2 (fun x hx => by
  rw [List.getD_eq_getElem?_getD, List.getElem?_replicate]; split <;> rfl)
 obtain ⟨t, ht, hle⟩ := firsts_cover ((h2 (sumW Y)).2 ⟨Y, by omega, k1, hfree, rfl⟩)
 exact ⟨t, by rw [h1]; exact ht, hle.trans k3⟩
end Go.Proofs.YtbkfnmgkcgnifaaGreat.Mdl
namespace Go.Proofs.YtbkfnmgkcgnifaaGreat
open Go.RowKit Go.Shelf Go.Proofs.YtbkfnmgkcgnifaaGreatW.PrintWords Go.Proofs.YtbkfnmgkcgnifaaGreatW.PrintLast Mdl
namespace Mdl
def inL (B : Int) (l : List Int) : Prop := ∀ x ∈ l, 0 ≤ x ∧ x ≤ B
theorem sum_in {B : Int} : ∀ {l : List Int}, inL B l → 0 ≤ l.sum ∧ l.sum ≤ B * l.length
 | [], _ => by simp
 | x :: l, h => by
  have h1 := h x List.mem_cons_self
  have h2 := sum_in (l := l) (fun y hy => h y (List.mem_cons_of_mem _ hy))
  rw [List.sum_cons, List.length_cons]
  have : B * ((l.length : Int) + 1) = B * l.length + B := by rw [Int.mul_add, Int.mul_one]
  refine ⟨by omega, ?_⟩
  rw [show ((l.length + 1 : Nat) : Int) = (l.length : Int) + 1 by omega, this]; omega
end Mdl
set_option maxRecDepth 4000 in
set_option maxHeartbeats 1600000 in
theorem sum_any (A : Option Addr) (c : Nat) (l : List Int) (w : World) (hl : kI.C w A l.length l) (hin : inL 1000000 l) (hn : l.length ≤ 1000) :
  Calls Tryz.prog 95 #[.slice A l.length c] w fun e w' => e = .returned (.int .i64 l.sum) ∧ w = w' := by
 have HIN := Lib.hid hin
 have HL := Aside0.mk hl
 clear hin hl
 go_enter Tryz.func95, Tryz.ntmps95
 go_wp2_with fail
 go_loopw [3, 4] (fun s i wr => ∃ k : Nat, s = .int .i64 (l.take k).sum ∧ i = .int .i64 k ∧ k ≤ l.length ∧ wr = w) (fun _ i _ => l.length - (intOf i).toNat)
 case atStart => exact ⟨0, rfl, rfl, Nat.zero_le _, rfl⟩
 case round =>
  obtain ⟨k, rfl, rfl, hk, rfl⟩ := hrel
  by_cases hlt : k < l.length
  ·have hkE : (k : Int) < l.length := by omega
   have hk0 : (0 : Int) ≤ k := by omega
   obtain ⟨ad, rfl, c1⟩ := at_int HL.out hlt
   have hs := sum_in (l := l.take k) (B := 1000000) (fun x hx => HIN.out x (List.mem_of_mem_take hx))
   rw [List.length_take] at hs
   have hx := HIN.out _ (List.getElem_mem hlt)
   have HS := Lib.hid (show (l.take (k + 1)).sum = (l.take k).sum + l[k] by rw [List.take_succ_eq_append_getElem hlt, List.sum_append]; simp)
   have hw : wrap64 ((l.take k).sum + l[k]) = (l.take k).sum + l[k] := by rw [w64_eq, w64_in (by omega) (by omega)]
   generalize (l.take k).sum = s at *
   generalize l[k] = x at *
   clear hs hx
   go_wp2_with fail
   exact ⟨⟨k + 1, by rw [HS.out, hw], by go_num, by omega, trivial⟩, by simp [intOf]; omega⟩
  ·have hkE : ¬ ((k : Int) < l.length) := by omega
   have HE := Lib.hid (show (l.take k).sum = l.sum by rw [List.take_of_length_le (by omega)])
   go_wp2_with fail
   go_ret
   exact ⟨by rw [← HE.out]; rfl, rfl⟩
end Go.Proofs.YtbkfnmgkcgnifaaGreat
namespace Go.Proofs.YtbkfnmgkcgnifaaGreat.Mdl
abbrev numF (wd : Nat) (f : List (List Tm)) : List (List (List Int)) := f.map (List.map (numsT wd))
theorem nums_getD (wd : Nat) (t : Tm) (k : Nat) : (numsT wd t).getD k 0 = if k < wd then [t.1, t.2.1, t.2.2].getD k 0 else 0 := by
 unfold numsT
 rw [List.getD_eq_getElem?_getD, List.getElem?_take]
 split <;> simp
theorem numF_get (wd : Nat) (f : List (List Tm)) (k : Nat) : (numF wd f).getD k [] = (f.getD k []).map (numsT wd) := by
 rw [List.getD_eq_getElem?_getD, List.getElem?_map, List.getD_eq_getElem?_getD]
 cases f[k]? <;> rfl
end Go.Proofs.YtbkfnmgkcgnifaaGreat.Mdl
namespace Go.Proofs.YtbkfnmgkcgnifaaGreat.Mdl
def ZW (wd : Nat) (t : Tm) : Prop := (wd ≤ 2 → t.2.2 = 0) ∧ (wd ≤ 1 → t.2.1 = 0)
theorem ZW_tm {wd : Nat} {l : List Int} (h : l.length = wd) : ZW wd (tmOf l) := by
 refine ⟨fun h2 => ?_, fun h1 => ?_⟩
 ·show l.getD 2 0 = 0
  rw [List.getD_eq_getElem?_getD, List.getElem?_eq_none (by omega)]; rfl
 ·show l.getD 1 0 = 0
  rw [List.getD_eq_getElem?_getD, List.getElem?_eq_none (by omega)]; rfl
theorem le_back {wd : Nat} (hw : wd ≤ 3) (hw1 : 1 ≤ wd) {a : Tm} {l : List Int} (hl : l.length = wd) (hz : ZW wd a) : leL (numsT wd a) l = leT a (tmOf l) := by
 have key : (leL (numsT wd a) l = true ↔ leT a (tmOf l) = true) := by
  rw [leT_iff]
  unfold leL leTo
  rw [List.all_eq_true, length_numsT a hw]
  have hg : ∀ k, k < wd → (numsT wd a).getD k 0 = [a.1, a.2.1, a.2.2].getD k 0 := fun k hk => by rw [nums_getD, if_pos hk]
  have hzl := ZW_tm hl
  constructor
  ·intro h
   have hk : ∀ k, k < wd → [a.1, a.2.1, a.2.2].getD k 0 ≤ l.getD k 0 := fun k hk => by
    have := h k (List.mem_range.2 hk)
    rw [hg k hk] at this
    simpa using this
   refine ⟨hk 0 (by omega), ?_, ?_⟩
   ·by_cases h1 : wd ≤ 1
    ·rw [hz.2 h1, hzl.2 h1]; exact Int.le_refl _
    ·exact hk 1 (by omega)
   ·by_cases h2 : wd ≤ 2
    ·rw [hz.1 h2, hzl.1 h2]; exact Int.le_refl _
    ·exact hk 2 (by omega)
  ·intro h k hk
   have hk := List.mem_range.1 hk
   rw [hg k hk]
   match k, hk with
   | 0, _ => exact decide_eq_true h.1
   | 1, _ => exact decide_eq_true h.2.1
   | 2, _ => exact decide_eq_true h.2.2
   | k + 3, hk => omega
 cases h1 : leL (numsT wd a) l <;> cases h2 : leT a (tmOf l) <;> simp_all
end Go.Proofs.YtbkfnmgkcgnifaaGreat.Mdl
namespace Go.Proofs.YtbkfnmgkcgnifaaGreat.Mdl
def firstB : List Int → List Int → Bool
 | a :: l, b :: m => if a = b then firstB l m else decide (a < b)
 | _, _ => false
def insP (x : List Int) : Bool → List (List Int) → List (List Int)
 | done, [] => if done then [] else [x]
 | done, y :: r => if (!done && firstB x y) = true then x :: y :: insP x true r else y :: insP x (done || decide (x = y)) r
def sortedP (l : List (List Int)) : List (List Int) := l.foldl (fun out x => insP x false out) []
def keepR (s : List (List Int)) (i : Nat) : Bool := (List.range s.length).all fun k => k == i || !leL (s.getD k []) (s.getD i [])
def earliestP (l : List (List Int)) : List (List Int) := ((List.range (sortedP l).length).filter (keepR (sortedP l))).map fun i => (sortedP l).getD i []
theorem insP_done (x : List Int) : ∀ r : List (List Int), insP x true r = r
 | [] => rfl
 | y :: r => by simp [insP, insP_done x r]
theorem nums_inj {wd : Nat} (hw : wd ≤ 3) (hw1 : 1 ≤ wd) {a b : Tm} (ha : ZW wd a) (hb : ZW wd b) (h : numsT wd a = numsT wd b) : a = b := by
 obtain ⟨a0, a1, a2⟩ := a
 obtain ⟨b0, b1, b2⟩ := b
 unfold ZW at ha hb
 obtain rfl | rfl | rfl : wd = 1 ∨ wd = 2 ∨ wd = 3 := by omega
 ·simp [numsT] at h ha hb; simp [h, ha, hb]
 ·simp [numsT] at h ha hb; simp [h, ha, hb]
 ·simp [numsT] at h; simp [h]
theorem nums_eq {wd : Nat} (hw : wd ≤ 3) (hw1 : 1 ≤ wd) {a b : Tm} (ha : ZW wd a) (hb : ZW wd b) : decide (numsT wd a = numsT wd b) = decide (a = b) :=
 decide_eq_decide.2 ⟨nums_inj hw hw1 ha hb, fun h => by rw [h]⟩
theorem firstB_lex {wd : Nat} (hw : wd ≤ 3) (hw1 : 1 ≤ wd) {a b : Tm} (ha : ZW wd a) (hb : ZW wd b) : firstB (numsT wd a) (numsT wd b) = true ↔ cmpT a b < 0 := by
 have h1 : cmpT a b < 0 ↔ ¬ cmpT b a ≤ 0 := by rw [cmpT_neg]; omega
 rw [h1, cmpT_le]
 obtain ⟨a0, a1, a2⟩ := a
 obtain ⟨b0, b1, b2⟩ := b
 unfold ZW at ha hb
 obtain rfl | rfl | rfl : wd = 1 ∨ wd = 2 ∨ wd = 3 := by omega
 all_goals
  simp [numsT, firstB] at ha hb ⊢
  (repeat' split) <;> (try simp) <;> omega
theorem nums_le {wd : Nat} (hw : wd ≤ 3) (hw1 : 1 ≤ wd) {a b : Tm} (ha : ZW wd a) (hb : ZW wd b) : leL (numsT wd a) (numsT wd b) = leT a b := by
 rw [le_back hw hw1 (length_numsT b hw) ha]
 congr 1
 obtain ⟨b0, b1, b2⟩ := b
 unfold ZW at hb
 obtain rfl | rfl | rfl : wd = 1 ∨ wd = 2 ∨ wd = 3 := by omega
 all_goals simp [numsT, tmOf] at hb ⊢; try simp [hb]
theorem insP_spec {wd : Nat} (hw : wd ≤ 3) (hw1 : 1 ≤ wd) {x : Tm} (hx : ZW wd x) : ∀ (o : List Tm), Strict o → (∀ y ∈ o, ZW wd y) → ∃ o', insP (numsT wd x) false (o.map (numsT wd)) = o'.map (numsT wd) ∧ Strict o' ∧ ∀ z, z ∈ o' ↔ z = x ∨ z ∈ o
 | [], _, _ => ⟨[x], by simp [insP], List.pairwise_singleton _ _, fun z => by simp⟩
 | y :: r, hs, hz => by
  have hp := List.pairwise_cons.1 hs
  have hy := hz y List.mem_cons_self
  by_cases hf : cmpT x y < 0
  ·refine ⟨x :: y :: r, ?_, List.pairwise_cons.2 ⟨fun z hz => ?_, hs⟩, fun z => by simp⟩
   ·simp only [List.map_cons, insP, Bool.not_false, Bool.true_and]
    rw [if_pos ((firstB_lex hw hw1 hx hy).2 hf), insP_done]
   ·rcases List.mem_cons.1 hz with hz | hz
    ·rw [hz]; exact hf
    ·have := hp.1 z hz
     exact cmpT_le_lt (Int.le_of_lt hf) this
  ·have hff : ¬ firstB (numsT wd x) (numsT wd y) = true := fun h => hf ((firstB_lex hw hw1 hx hy).1 h)
   by_cases he : x = y
   ·subst he
    refine ⟨x :: r, ?_, hs, fun z => by simp⟩
    simp only [List.map_cons, insP, Bool.not_false, Bool.true_and]
    rw [if_neg hff]
    simp [insP_done]
   ·obtain ⟨o', h1, h2, h3⟩ := insP_spec hw hw1 hx r hp.2 (fun z h => hz z (List.mem_cons_of_mem _ h))
    refine ⟨y :: o', ?_, List.pairwise_cons.2 ⟨fun z hz => ?_, h2⟩, fun z => ?_⟩
    ·simp only [List.map_cons, insP, Bool.not_false, Bool.true_and]
     rw [if_neg hff, nums_eq hw hw1 hx hy, decide_eq_false he, Bool.false_or, h1]
    ·rcases (h3 z).1 hz with hz | hz
     ·subst hz
      have h1 : ¬ cmpT z y = 0 := fun h => he (cmpT_zero.1 h)
      have h2 := cmpT_neg z y
      omega
     ·exact hp.1 z hz
    ·rw [List.mem_cons, h3, List.mem_cons]
     constructor
     ·rintro (h | h | h)
      ·exact .inr (.inl h)
      ·exact .inl h
      ·exact .inr (.inr h)
     ·rintro (h | h | h)
      ·exact .inr (.inl h)
      ·exact .inl h
      ·exact .inr (.inr h)
theorem sorted_fold {wd : Nat} (hw : wd ≤ 3) (hw1 : 1 ≤ wd) : ∀ (l o : List Tm), (∀ x ∈ l, ZW wd x) → Strict o → (∀ y ∈ o, ZW wd y) → ∃ o', (l.map (numsT wd)).foldl (fun out x => insP x false out) (o.map (numsT wd)) = o'.map (numsT wd) ∧ Strict o' ∧ ∀ z, z ∈ o' ↔ z ∈ l ∨ z ∈ o
 | [], o, _, hs, _ => ⟨o, rfl, hs, fun z => by simp⟩
 | x :: l, o, hl, hs, ho => by
  obtain ⟨o1, h1, h2, h3⟩ := insP_spec hw hw1 (hl x List.mem_cons_self) o hs ho
  obtain ⟨o2, g1, g2, g3⟩ := sorted_fold hw hw1 l o1 (fun z h => hl z (List.mem_cons_of_mem _ h)) h2 (fun y hy => by
   rcases (h3 y).1 hy with h | h
   ·rw [h]; exact hl x List.mem_cons_self
   ·exact ho y h)
  refine ⟨o2, ?_, g2, fun z => ?_⟩
  ·rw [List.map_cons, List.foldl_cons, h1, g1]
  ·rw [g3, h3, List.mem_cons]
   constructor
   ·rintro (h | h | h)
    ·exact .inl (.inr h)
    ·exact .inl (.inl h)
    ·exact .inr h
   ·rintro ((h | h) | h)
    ·exact .inr (.inl h)
    ·exact .inl h
    ·exact .inr (.inr h)
theorem sortedP_eq {wd : Nat} (hw : wd ≤ 3) (hw1 : 1 ≤ wd) {l : List Tm} (hl : ∀ x ∈ l, ZW wd x) : sortedP (l.map (numsT wd)) = (dedup (sortT l)).map (numsT wd) := by
 obtain ⟨o, h1, h2, h3⟩ := sorted_fold hw hw1 l [] hl List.Pairwise.nil (by simp)
 unfold sortedP
 rw [show ([] : List (List Int)) = ([] : List Tm).map (numsT wd) from rfl, h1]
 congr 1
 exact strict_unique h2 (firsts_base l).1 (fun x => by rw [h3, (firsts_base l).2]; simp)
def minT (s : List Tm) (i : Nat) : Bool := (List.range s.length).all fun k => k == i || !leT (s.getD k (0, 0, 0)) (s.getD i (0, 0, 0))
theorem getD_map {α β : Type} (f : α → β) (l : List α) {i : Nat} (h : i < l.length) (d : α) (e : β) : (l.map f).getD i e = f (l.getD i d) := by
 rw [List.getD_eq_getElem?_getD, List.getElem?_map, List.getElem?_eq_getElem h, List.getD_eq_getElem?_getD, List.getElem?_eq_getElem h]; rfl
theorem getD_in {α : Type} {l : List α} {i : Nat} (h : i < l.length) (d : α) : l.getD i d ∈ l := by
 rw [List.getD_eq_getElem?_getD, List.getElem?_eq_getElem h]; exact List.getElem_mem h
theorem strict_at {s : List Tm} (hs : Strict s) {i j : Nat} (hj : j < s.length) (hij : i < j) : cmpT (s.getD i (0, 0, 0)) (s.getD j (0, 0, 0)) < 0 := by
 have := List.pairwise_iff_getElem.1 hs i j (by omega) hj hij
 rwa [List.getD_eq_getElem?_getD, List.getElem?_eq_getElem (by omega), List.getD_eq_getElem?_getD, List.getElem?_eq_getElem hj]
theorem strict_inj {s : List Tm} (hs : Strict s) {i j : Nat} (hi : i < s.length) (hj : j < s.length) (h : s.getD i (0, 0, 0) = s.getD j (0, 0, 0)) : i = j := by
 rcases Nat.lt_trichotomy i j with hij | hij | hij
 ·have := strict_at hs hj hij
  rw [h, cmpT_zero.2 rfl] at this; omega
 ·exact hij
 ·have := strict_at hs hi hij
  rw [h, cmpT_zero.2 rfl] at this; omega
theorem earliestP_eq {wd : Nat} (hw : wd ≤ 3) (hw1 : 1 ≤ wd) {l : List Tm} (hl : ∀ x ∈ l, ZW wd x) : earliestP (l.map (numsT wd)) = (firstsT l).map (numsT wd) := by
 obtain ⟨hs, hm⟩ := firsts_base l
 have hz : ∀ x ∈ dedup (sortT l), ZW wd x := fun x hx => hl x ((hm x).1 hx)
 unfold earliestP
 rw [sortedP_eq hw hw1 hl, List.length_map]
 have hk : ∀ i, i < (dedup (sortT l)).length → keepR ((dedup (sortT l)).map (numsT wd)) i = minT (dedup (sortT l)) i := fun i hi => by
  unfold keepR minT
  rw [List.length_map]
  rw [Bool.eq_iff_iff, List.all_eq_true, List.all_eq_true]
  refine forall_congr' fun k => forall_congr' fun hk => ?_
  have hk := List.mem_range.1 hk
  rw [getD_map _ _ hk (0, 0, 0), getD_map _ _ hi (0, 0, 0), nums_le hw hw1 (hz _ (getD_in hk _)) (hz _ (getD_in hi _))]
 rw [List.filter_congr (fun i hi => hk i (List.mem_range.1 hi))]
 have he : (List.map (fun i => ((dedup (sortT l)).map (numsT wd)).getD i []) ((List.range (dedup (sortT l)).length).filter (minT (dedup (sortT l))))) = (((List.range (dedup (sortT l)).length).filter (minT (dedup (sortT l)))).map (fun i => (dedup (sortT l)).getD i (0, 0, 0))).map (numsT wd) := by
  rw [List.map_map]
  refine List.map_congr_left (fun i hi => ?_)
  exact getD_map _ _ (List.mem_range.1 (List.mem_filter.1 hi).1) (0, 0, 0) []
 rw [he]
 congr 1
 refine strict_unique ?_ (firsts_apart l).2 (fun x => ?_)
 ·refine List.pairwise_map.2 ?_
  refine List.Pairwise.imp_of_mem (R := (· < ·)) (fun {i j} hi hj hij => ?_) (List.Pairwise.filter _ List.pairwise_lt_range)
  exact strict_at hs (List.mem_range.1 (List.mem_filter.1 hj).1) hij
 ·constructor
  ·intro hx
   obtain ⟨i, hi, rfl⟩ := List.mem_map.1 hx
   obtain ⟨hi, hmi⟩ := List.mem_filter.1 hi
   have hi := List.mem_range.1 hi
   obtain ⟨y, hy, hle⟩ := firsts_cover ((hm _).1 (getD_in hi (0, 0, 0)))
   obtain ⟨k, hk, hky⟩ := List.getElem_of_mem ((hm y).2 (firsts_sub hy))
   have h1 := List.all_eq_true.1 hmi k (List.mem_range.2 hk)
   rw [show (dedup (sortT l)).getD k (0, 0, 0) = y by rw [List.getD_eq_getElem?_getD, List.getElem?_eq_getElem hk]; exact hky, leT_iff.2 hle] at h1
   have : k = i := by simpa using h1
   subst this
   rw [List.getD_eq_getElem?_getD, List.getElem?_eq_getElem hk]
   exact hky ▸ hy
  ·intro hx
   obtain ⟨i, hi, hix⟩ := List.getElem_of_mem ((hm x).2 (firsts_sub hx))
   refine List.mem_map.2 ⟨i, List.mem_filter.2 ⟨List.mem_range.2 hi, ?_⟩, by rw [List.getD_eq_getElem?_getD, List.getElem?_eq_getElem hi]; exact hix⟩
   refine List.all_eq_true.2 (fun k hk => ?_)
   have hk := List.mem_range.1 hk
   rw [show (dedup (sortT l)).getD i (0, 0, 0) = x by rw [List.getD_eq_getElem?_getD, List.getElem?_eq_getElem hi]; exact hix]
   by_cases hki : k = i
   ·simp [hki]
   ·cases hle : leT ((dedup (sortT l)).getD k (0, 0, 0)) x with
    | false => simp
    | true =>
     obtain ⟨y, hy, h2⟩ := firsts_cover ((hm _).1 (getD_in hk (0, 0, 0)))
     have h3 := firsts_eq hy hx (h2.trans (leT_iff.1 hle))
     subst h3
     have h4 := LeT.anti h2 (leT_iff.1 hle)
     exact absurd (strict_inj hs hk hi (by rw [← h4, List.getD_eq_getElem?_getD, List.getElem?_eq_getElem hi]; exact hix.symm)) hki
end Go.Proofs.YtbkfnmgkcgnifaaGreat.Mdl
namespace Go.Proofs.YtbkfnmgkcgnifaaGreat.Mdl
def colS (N f t : Nat) (way : List Bool) (k : Nat) : List Bool := way.set (k * N + t) (way.getD (k * N + t) false || way.getD (k * N + f) false)
def wayS (N : Nat) (way : List Bool) (e : Ed) : List Bool :=
 if 0 < e.2.2.sum then way else (List.range N).foldl (colS N e.1.toNat e.2.1.toNat) (way.set (e.1.toNat * N + e.2.1.toNat) true)
def wayR (N : Nat) (E : List Ed) : Nat → List Bool
 | 0 => List.replicate (N * N) false
 | n + 1 => E.foldl (wayS N) (wayR N E n)
def circlesP (N : Nat) (E : List Ed) : Bool := (List.range N).any fun n => (wayR N E N).getD (n * N + n) false
theorem idx_lt {N a b : Nat} (ha : a < N) (hb : b < N) : a * N + b < N * N := by
 have : (a + 1) * N ≤ N * N := Nat.mul_le_mul_right N ha
 rw [Nat.succ_mul] at this; omega
theorem idx_inj {N a b c d : Nat} (hb : b < N) (hd : d < N) (h : a * N + b = c * N + d) : a = c ∧ b = d := by
 have h1 : (a * N + b) / N = a := by rw [Nat.mul_comm, Nat.mul_add_div (by omega), Nat.div_eq_of_lt hb, Nat.add_zero]
 have h2 : (c * N + d) / N = c := by rw [Nat.mul_comm, Nat.mul_add_div (by omega), Nat.div_eq_of_lt hd, Nat.add_zero]
 have hac : a = c := by rw [← h1, h, h2]
 subst hac
 exact ⟨rfl, by omega⟩
theorem getD_set_iff {α : Type} (l : List α) {i : Nat} (j : Nat) (x d : α) (h : i < l.length) : (l.set i x).getD j d = if i = j then x else l.getD j d := by
 split
 ·rename_i hij; subst hij; exact getD_set_self l i x d h
 ·rename_i hij; exact getD_set_ne l x d hij
theorem col_fold {N f t : Nat} (hf : f < N) (ht : t < N) (way : List Bool) (hl : way.length = N * N) : ∀ n, n ≤ N → ((List.range n).foldl (colS N f t) way).length = N * N ∧
  ∀ a b, a < N → b < N → ((List.range n).foldl (colS N f t) way).getD (a * N + b) false = if a < n ∧ b = t then (way.getD (a * N + t) false || way.getD (a * N + f) false) else way.getD (a * N + b) false
 | 0, _ => ⟨hl, fun a b _ _ => by simp⟩
 | n + 1, hn => by
  obtain ⟨h1, h2⟩ := col_fold hf ht way hl n (by omega)
  rw [List.range_succ, List.foldl_append]
  simp only [List.foldl_cons, List.foldl_nil]
  generalize (List.range n).foldl (colS N f t) way = cur at h1 h2 ⊢
  refine ⟨by rw [colS, List.length_set]; exact h1, fun a b ha hb => ?_⟩
  rw [colS, getD_set_iff _ _ _ _ (by rw [h1]; exact idx_lt (by omega) ht), h2 n t (by omega) ht, h2 n f (by omega) hf, h2 a b ha hb]
  rw [if_neg (show ¬ (n < n ∧ t = t) by omega), if_neg (show ¬ (n < n ∧ f = t) by omega)]
  by_cases h : a = n ∧ b = t
  ·obtain ⟨rfl, rfl⟩ := h
   rw [if_pos rfl, if_pos ⟨by omega, rfl⟩]
  ·have hne : ¬ n * N + t = a * N + b := fun he => h (by
    have := idx_inj ht hb he
    exact ⟨this.1.symm, this.2.symm⟩)
   rw [if_neg hne]
   by_cases h3 : a < n ∧ b = t
   ·rw [if_pos h3, if_pos ⟨by omega, h3.2⟩]
   ·rw [if_neg h3, if_neg (fun h4 => by omega)]
theorem wayS_zero {N : Nat} {e : Ed} (hf : e.1.toNat < N) (ht : e.2.1.toNat < N) (hz : ¬ 0 < e.2.2.sum) {way : List Bool} (hl : way.length = N * N) : (wayS N way e).length = N * N ∧
  ∀ a b, a < N → b < N → ((wayS N way e).getD (a * N + b) false = true ↔ way.getD (a * N + b) false = true ∨ (b = e.2.1.toNat ∧ (a = e.1.toNat ∨ way.getD (a * N + e.1.toNat) false = true))) := by
 rw [wayS, if_neg hz]
 generalize e.1.toNat = f at *
 generalize e.2.1.toNat = t at *
 obtain ⟨h1, h2⟩ := col_fold hf ht (way.set (f * N + t) true) (by rw [List.length_set]; exact hl) N (Nat.le_refl _)
 refine ⟨h1, fun a b ha hb => ?_⟩
 have hin := idx_lt hf ht
 rw [h2 a b ha hb, getD_set_iff _ _ _ _ (by rw [hl]; exact hin), getD_set_iff _ _ _ _ (by rw [hl]; exact hin), getD_set_iff _ _ _ _ (by rw [hl]; exact hin)]
 by_cases hbt : b = t
 ·subst hbt
  rw [if_pos ⟨ha, rfl⟩]
  by_cases haf : a = f
  ·subst haf; simp
  ·have hne : ¬ f * N + b = a * N + b := fun he => haf (idx_inj hb hb he).1.symm
   rw [if_neg hne]
   have hne2 : ¬ f * N + b = a * N + f := fun he => haf (idx_inj hb hf he).1.symm
   rw [if_neg hne2]
   simp [haf]
 ·rw [if_neg (fun h => hbt h.2)]
  have hne : ¬ f * N + t = a * N + b := fun he => hbt (idx_inj ht hb he).2.symm
  rw [if_neg hne]
  simp [hbt]
def ZWay (E : List Ed) (a b : Int) (P : List Ed) : Prop := P ≠ [] ∧ IsWay E b a P ∧ ∀ e ∈ P, ¬ 0 < e.2.2.sum
def NodesIn (N : Nat) (E : List Ed) : Prop := ∀ e ∈ E, (0 ≤ e.1 ∧ e.1.toNat < N) ∧ (0 ≤ e.2.1 ∧ e.2.1.toNat < N)
theorem way_fold {N : Nat} {E : List Ed} (hE : NodesIn N E) {way : List Bool} (hl : way.length = N * N) : ∀ (F : List Ed) (cur : List Bool), (∀ e ∈ F, e ∈ E) → cur.length = N * N →
  (∀ a b, a < N → b < N → way.getD (a * N + b) false = true → cur.getD (a * N + b) false = true) →
  (∀ a b, a < N → b < N → cur.getD (a * N + b) false = true → ∃ P, ZWay E a b P) →
  (F.foldl (wayS N) cur).length = N * N ∧ (∀ a b, a < N → b < N → way.getD (a * N + b) false = true → (F.foldl (wayS N) cur).getD (a * N + b) false = true) ∧
  (∀ a b, a < N → b < N → (F.foldl (wayS N) cur).getD (a * N + b) false = true → ∃ P, ZWay E a b P) ∧
  ∀ e ∈ F, ¬ 0 < e.2.2.sum → ∀ a, a < N → a = e.1.toNat ∨ way.getD (a * N + e.1.toNat) false = true → (F.foldl (wayS N) cur).getD (a * N + e.2.1.toNat) false = true
 | [], cur, _, hc, h1, h2 => ⟨hc, h1, h2, fun e he => by cases he⟩
 | e :: F, cur, hF, hc, h1, h2 => by
  obtain ⟨⟨hf0, hf⟩, ht0, ht⟩ := hE e (hF e List.mem_cons_self)
  rw [List.foldl_cons]
  by_cases hz : 0 < e.2.2.sum
  ·rw [show wayS N cur e = cur by rw [wayS, if_pos hz]]
   obtain ⟨g1, g2, g3, g4⟩ := way_fold hE hl F cur (fun x hx => hF x (List.mem_cons_of_mem _ hx)) hc h1 h2
   refine ⟨g1, g2, g3, fun x hx hxz a ha hor => ?_⟩
   rcases List.mem_cons.1 hx with hx | hx
   ·subst hx; exact absurd hz hxz
   ·exact g4 x hx hxz a ha hor
  ·obtain ⟨k1, k2⟩ := wayS_zero hf ht hz hc
   have hmono : ∀ (G : List Ed) (c1 : List Bool), (∀ x ∈ G, x ∈ E) → c1.length = N * N → ∀ a b, a < N → b < N → c1.getD (a * N + b) false = true → (G.foldl (wayS N) c1).getD (a * N + b) false = true := by
    intro G
    induction G with
    | nil => intro c1 _ _ a b _ _ h; exact h
    | cons x G ih =>
     intro c1 hG hc1 a b ha hb h
     obtain ⟨⟨_, xf⟩, _, xt⟩ := hE x (hG x List.mem_cons_self)
     rw [List.foldl_cons]
     by_cases hxz : 0 < x.2.2.sum
     ·rw [show wayS N c1 x = c1 by rw [wayS, if_pos hxz]]
      exact ih c1 (fun y hy => hG y (List.mem_cons_of_mem _ hy)) hc1 a b ha hb h
     ·obtain ⟨m1, m2⟩ := wayS_zero xf xt hxz hc1
      exact ih _ (fun y hy => hG y (List.mem_cons_of_mem _ hy)) m1 a b ha hb ((m2 a b ha hb).2 (.inl h))
   obtain ⟨g1, g2, g3, g4⟩ := way_fold hE hl F (wayS N cur e) (fun x hx => hF x (List.mem_cons_of_mem _ hx)) k1
    (fun a b ha hb h => (k2 a b ha hb).2 (.inl (h1 a b ha hb h)))
    (fun a b ha hb h => by
     rcases (k2 a b ha hb).1 h with h | ⟨hbt, h⟩
     ·exact h2 a b ha hb h
     ·have hbE : e.2.1 = (b : Int) := by omega
      rcases h with h | h
      ·exact ⟨[e], by simp, ⟨hF e List.mem_cons_self, by omega, hbE⟩, fun x hx => by rw [List.mem_singleton.1 hx]; exact hz⟩
      ·obtain ⟨P, p1, p2, p3⟩ := h2 a _ ha hf h
       rw [Int.toNat_of_nonneg hf0] at p2
       refine ⟨P ++ [e], by simp, p2.append ⟨hF e List.mem_cons_self, rfl, hbE⟩, fun x hx => ?_⟩
       rcases List.mem_append.1 hx with hx | hx
       ·exact p3 x hx
       ·rw [List.mem_singleton.1 hx]; exact hz)
   refine ⟨g1, g2, g3, fun x hx hxz a ha hor => ?_⟩
   rcases List.mem_cons.1 hx with hx | hx
   ·subst hx
    exact hmono F _ (fun y hy => hF y (List.mem_cons_of_mem _ hy)) k1 a _ ha ht ((k2 a _ ha ht).2 (.inr ⟨rfl, hor.imp id (h1 a _ ha hf)⟩))
   ·exact g4 x hx hxz a ha hor
theorem wayR_spec {N : Nat} {E : List Ed} (hE : NodesIn N E) : ∀ n, (wayR N E n).length = N * N ∧ (∀ a b, a < N → b < N → (wayR N E n).getD (a * N + b) false = true → ∃ P, ZWay E a b P) ∧
  ∀ (P : List Ed) (a b : Nat), a < N → b < N → ZWay E a b P → P.length ≤ n → (wayR N E n).getD (a * N + b) false = true
 | 0 => by
  refine ⟨by simp [wayR], fun a b ha hb h => ?_, fun P a b _ _ h hl => absurd (List.length_eq_zero_iff.1 (Nat.le_zero.1 hl)) h.1⟩
  rw [wayR, List.getD_eq_getElem?_getD, List.getElem?_replicate, if_pos (idx_lt ha hb)] at h; cases h
 | n + 1 => by
  obtain ⟨h1, h2, h3⟩ := wayR_spec hE n
  obtain ⟨g1, g2, g3, g4⟩ := way_fold hE h1 E _ (fun _ h => h) h1 (fun _ _ _ _ h => h) h2
  refine ⟨g1, g3, fun P a b ha hb hz hl => ?_⟩
  obtain ⟨X, e, rfl, hX, heE, heb⟩ := way_last hz.2.1 hz.1
  obtain ⟨⟨hf0, hf⟩, ht0, ht⟩ := hE e heE
  have hez := hz.2.2 e (by simp)
  have hbt : b = e.2.1.toNat := by omega
  subst hbt
  refine g4 e heE hez a ha ?_
  cases X with
  | nil =>
   have hX : (a : Int) = e.1 := hX
   left; omega
  | cons x X =>
   right
   refine h3 (x :: X) a _ ha hf ⟨by simp, by rw [Int.toNat_of_nonneg hf0]; exact hX, fun y hy => hz.2.2 y (List.mem_append_left _ hy)⟩ ?_
   rw [List.length_append] at hl; simp at hl ⊢; omega
theorem zero_list {l : List Int} (h : ∀ x ∈ l, 0 ≤ x) (hs : ¬ 0 < l.sum) : ∀ x ∈ l, x = 0 := by
 induction l with
 | nil => intro x hx; cases hx
 | cons a l ih =>
  have h1 : 0 ≤ l.sum := by
   clear hs ih
   induction l with
   | nil => simp
   | cons b l ih2 =>
    have := ih2 (fun x hx => h x (by
     rcases List.mem_cons.1 hx with hx | hx
     ·rw [hx]; exact List.mem_cons_self
     ·exact List.mem_cons_of_mem _ (List.mem_cons_of_mem _ hx)))
    have := h b (by simp)
    simp only [List.sum_cons]; omega
  have h2 := h a List.mem_cons_self
  rw [List.sum_cons] at hs
  intro x hx
  rcases List.mem_cons.1 hx with hx | hx
  ·omega
  ·exact ih (fun y hy => h y (List.mem_cons_of_mem _ hy)) (by omega) x hx
theorem edge_list {N Wd : Int} {e : Ed} (h : edgeOk N Wd e = true) : (e.2.2.length : Int) = Wd ∧ ∀ x ∈ e.2.2, 0 ≤ x ∧ x ≤ 100 := by
 simp only [edgeOk, Bool.and_eq_true, decide_eq_true_eq] at h
 obtain ⟨_, _, h3, h4⟩ := h
 refine ⟨h3, fun x hx => ?_⟩
 unfold withinB at h4
 simp only [Bool.not_eq_true', List.any_eq_false] at h4
 have := h4 x hx
 simp only [outB, Bool.or_eq_true, decide_eq_true_eq, not_or] at this
 omega
theorem edge_zero {N Wd : Int} {e : Ed} (h : edgeOk N Wd e = true) (hW : Wd ≤ 3) : ¬ 0 < e.2.2.sum ↔ tmOf e.2.2 = (0, 0, 0) := by
 obtain ⟨h1, h2⟩ := edge_list h
 constructor
 ·intro hs
  have hz := zero_list (fun x hx => (h2 x hx).1) hs
  have hk : ∀ k, e.2.2.getD k 0 = 0 := fun k => by
   rw [List.getD_eq_getElem?_getD]
   cases hg : e.2.2[k]? with
   | none => rfl
   | some x => exact hz x (List.mem_of_getElem? hg)
  unfold tmOf; rw [hk, hk, hk]
 ·intro ht
  have hall : ∀ x ∈ e.2.2, x = 0 := fun x hx => by
   obtain ⟨k, hk, rfl⟩ := List.getElem_of_mem hx
   unfold tmOf at ht
   simp only [Prod.mk.injEq] at ht
   have hg : e.2.2.getD k 0 = e.2.2[k] := by rw [List.getD_eq_getElem?_getD, List.getElem?_eq_getElem hk]; rfl
   rw [← hg]
   obtain rfl | rfl | rfl : k = 0 ∨ k = 1 ∨ k = 2 := by omega
   ·exact ht.1
   ·exact ht.2.1
   ·exact ht.2.2
  have : e.2.2.sum = 0 := by
   generalize e.2.2 = l at hall
   induction l with
   | nil => rfl
   | cons a l ih => rw [List.sum_cons, ih (fun x hx => hall x (List.mem_cons_of_mem _ hx)), hall a List.mem_cons_self]; rfl
  omega
theorem sumW_zero {N Wd : Int} {E : List Ed} (hok : ∀ e ∈ E, edgeOk N Wd e = true) (hW : Wd ≤ 3) : ∀ {P : List Ed}, (∀ e ∈ P, e ∈ E) → ((∀ e ∈ P, ¬ 0 < e.2.2.sum) ↔ LeT (sumW P) (0, 0, 0))
 | [], _ => by simp [sumW, LeT]
 | e :: P, h => by
  have he := hok e (h e List.mem_cons_self)
  have hE := edges_in hok hW
  have h1 := (hE e (h e List.mem_cons_self)).2.2
  have h2 := sumW_in hE (P := P) (fun x hx => h x (List.mem_cons_of_mem _ hx))
  have ih := sumW_zero hok hW (P := P) (fun x hx => h x (List.mem_cons_of_mem _ hx))
  have hz := edge_zero he hW
  constructor
  ·intro ha
   have e1 := hz.1 (ha e List.mem_cons_self)
   have e2 := ih.1 (fun x hx => ha x (List.mem_cons_of_mem _ hx))
   simp only [sumW]; rw [e1, zero_addT]; exact e2
  ·intro hs x hx
   have : tmOf e.2.2 = (0, 0, 0) ∧ LeT (sumW P) (0, 0, 0) := by
    unfold TmIn at h1 h2
    simp only [sumW, LeT, addT] at hs ⊢
    refine ⟨?_, by omega⟩
    rw [Prod.ext_iff, Prod.ext_iff]
    simp only
    omega
   rcases List.mem_cons.1 hx with hx | hx
   ·rw [hx]; exact hz.2 this.1
   ·exact ih.2 this.2 x hx
theorem fold_none_iff {start : Int} {n : Nat} {sum : Tm} {on1 : List Bool} {rec} {C : Ed → Prop} {E : List Ed} (hC : ∀ e ∈ E, ∀ r, edgeS start n sum on1 rec (some r) e = none ↔ C e) :
  ∀ (F : List Ed) (r : List (List Tm)), (∀ e ∈ F, e ∈ E) → (F.foldl (edgeS start n sum on1 rec) (some r) = none ↔ ∃ e ∈ F, C e)
 | [], r, _ => by simp
 | e :: F, r, hF => by
  rw [List.foldl_cons]
  have he := hC e (hF e List.mem_cons_self) r
  cases hx : edgeS start n sum on1 rec (some r) e with
  | none => rw [foldl_none]; exact ⟨fun _ => ⟨e, List.mem_cons_self, he.1 hx⟩, fun _ => rfl⟩
  | some x =>
   rw [fold_none_iff hC F x (fun y hy => hF y (List.mem_cons_of_mem _ hy))]
   have hn : ¬ C e := fun h => by rw [he.2 h] at hx; cases hx
   constructor
   ·rintro ⟨y, hy, h⟩; exact ⟨y, List.mem_cons_of_mem _ hy, h⟩
   ·rintro ⟨y, hy, h⟩
    rcases List.mem_cons.1 hy with hy | hy
    ·subst hy; exact absurd h hn
    ·exact ⟨y, hy, h⟩
theorem walk_none {E : List Ed} {start : Int} (h0 : 0 ≤ start) (hE : ∀ e ∈ E, 0 ≤ e.2.1) : ∀ (f n : Nat) (sum : Tm) (rows : List (List Tm)) (on : List Bool), (on.set n true).getD start.toNat false = true →
  (walkP E start f n sum rows on = none ↔ ∃ P, P.length < f ∧ ∃ e ∈ E, IsWay E e.1 n P ∧ Free on n P ∧ e.2.1 = start ∧ plusT (sumS sum P) (tmOf e.2.2) = (0, 0, 0))
 | 0, n, sum, rows, on, _ => by
  simp only [walkP]
  exact ⟨fun h => (nomatch h), fun ⟨P, hP, _⟩ => absurd hP (by omega)⟩
 | f + 1, n, sum, rows, on, hst => by
  simp only [walkP]
  rw [fold_none_iff (E := E) (C := fun e => e.1 = (n : Int) ∧ (((on.set n true).getD e.2.1.toNat false = true ∧ e.2.1 = start ∧ plusT sum (tmOf e.2.2) = (0, 0, 0)) ∨
   ((on.set n true).getD e.2.1.toNat false = false ∧ ∃ P, P.length < f ∧ ∃ e' ∈ E, IsWay E e'.1 e.2.1 P ∧ Free (on.set n true) e.2.1.toNat P ∧ e'.2.1 = start ∧ plusT (sumS (plusT sum (tmOf e.2.2)) P) (tmOf e'.2.2) = (0, 0, 0)))) ?_ E _ (fun _ h => h)]
  ·constructor
   ·rintro ⟨e, he, h1, h | ⟨h2, P, hP, e', he', g1, g2, g3, g4⟩⟩
    ·exact ⟨[], by simp, e, he, h1.symm, trivial, h.2.1, h.2.2⟩
    ·exact ⟨e :: P, by simp; omega, e', he', ⟨he, h1, g1⟩, ⟨h2, g2⟩, g3, g4⟩
   ·rintro ⟨P, hP, e', he', g1, g2, g3, g4⟩
    cases P with
    | nil =>
     have g1 : (n : Int) = e'.1 := g1
     exact ⟨e', he', g1.symm, .inl ⟨by rw [g3]; exact hst, g3, g4⟩⟩
    | cons e P => exact ⟨e, g1.1, g1.2.1, .inr ⟨g2.1, P, by simp at hP; omega, e', he', g1.2.2, g2.2, g3, g4⟩⟩
  ·intro e he r
   simp only [edgeS, Option.bind_some]
   have hst' : ((on.set n true).set e.2.1.toNat true).getD start.toNat false = true := by
    rcases getD_set_le (on.set n true) e.2.1.toNat start.toNat true false with h | h
    ·exact h
    ·rw [h]; exact hst
   have ih := walk_none h0 hE f e.2.1.toNat (plusT sum (tmOf e.2.2)) r (on.set n true) hst'
   rw [Int.toNat_of_nonneg (hE e he)] at ih
   by_cases h1 : e.1 = (n : Int)
   ·cases h2 : (on.set n true).getD e.2.1.toNat false with
    | true =>
     rw [if_pos (.inr rfl)]
     constructor
     ·intro h
      split at h
      ·rename_i hc; exact ⟨h1, .inl ⟨rfl, hc.2⟩⟩
      ·cases h
     ·rintro ⟨_, ⟨_, h3⟩ | ⟨h3, _⟩⟩
      ·rw [if_pos ⟨h1, h3⟩]
      ·cases h3
    | false =>
     rw [if_neg (by rintro (h | h); exact h h1; cases h), ih]
     constructor
     ·intro h; exact ⟨h1, .inr ⟨rfl, h⟩⟩
     ·rintro ⟨_, ⟨h3, _⟩ | ⟨_, h3⟩⟩
      ·cases h3
      ·exact h3
   ·rw [if_pos (.inl h1), if_neg (fun h => h1 h.1)]
    exact ⟨fun h => (nomatch h), fun h => absurd h.1 h1⟩
theorem mapM_none_iff {α β : Type} {f : α → Option β} : ∀ {l : List α}, l.mapM f = none ↔ ∃ x ∈ l, f x = none
 | [] => by simp
 | a :: l => by
  rw [List.mapM_cons]
  have ih := mapM_none_iff (f := f) (l := l)
  cases hx : f a with
  | none => simp [hx]
  | some y =>
   cases hl : l.mapM f with
   | none =>
    obtain ⟨x, h1, h2⟩ := ih.1 hl
    exact ⟨fun _ => ⟨x, List.mem_cons_of_mem _ h1, h2⟩, fun _ => rfl⟩
   | some ys =>
    constructor
    ·intro h; cases h
    ·rintro ⟨x, h1, h2⟩
     rcases List.mem_cons.1 h1 with h1 | h1
     ·subst h1; rw [hx] at h2; cases h2
     ·rw [ih.2 ⟨x, h1, h2⟩] at hl; cases hl
theorem circles_iff {N Wd : Int} {E : List Ed} (hh : headOk N Wd E.length) (hok : ∀ e ∈ E, edgeOk N Wd e = true) : circlesP N.toNat E = true ↔ (List.range N.toNat).mapM (fromP E N.toNat) = none := by
 obtain ⟨h1, h8, _, h3, h16⟩ := hh
 have hE := edges_in hok h3
 have hN : NodesIn N.toNat E := fun e he => by have := hE e he; omega
 obtain ⟨w1, w2, w3⟩ := wayR_spec hN N.toNat
 rw [mapM_none_iff]
 have hfrom : ∀ a, a < N.toNat → (fromP E N.toNat a = none ↔ ∃ P, P.length < N.toNat ∧ ∃ e ∈ E, IsWay E e.1 a P ∧ Free (List.replicate N.toNat false) a P ∧ e.2.1 = (a : Int) ∧ plusT (sumS (0, 0, 0) P) (tmOf e.2.2) = (0, 0, 0)) := fun a ha => by
  unfold fromP
  rw [Option.map_eq_none_iff]
  exact walk_none (by omega) (fun e he => (hE e he).2.1.1) N.toNat a (0, 0, 0) _ _ (by rw [Int.toNat_natCast]; exact getD_set_self _ _ _ _ (by simp [ha]))
 have hsum : ∀ (P : List Ed), P.length < N.toNat → (∀ e ∈ P, e ∈ E) → ∀ e ∈ E, plusT (sumS (0, 0, 0) P) (tmOf e.2.2) = addT (sumW P) (tmOf e.2.2) := fun P hP hin e he => by
  have k1 := sumW_in hE hin
  rw [sumS_eq hE (B := 0) hin (by simp [TmIn]) (by omega), zero_addT]
  exact (plusT_add (C := 100) k1 (hE e he).2.2 (by omega)).1
 constructor
 ·intro h
  obtain ⟨a, ha, hw⟩ := List.any_eq_true.1 h
  have ha := List.mem_range.1 ha
  obtain ⟨P, p1, p2, p3⟩ := w2 a a ha ha hw
  refine ⟨a, List.mem_range.2 ha, (hfrom a ha).2 ?_⟩
  obtain ⟨X, e, rfl, hX, heE, hea⟩ := way_last p2 p1
  obtain ⟨Y, y1, y2, y3⟩ := way_simple hE X a hX
  have hXz : LeT (sumW X) (0, 0, 0) := (sumW_zero hok h3 (way_mem hX)).1 (fun x hx => p3 x (List.mem_append_left _ hx))
  have hYz := y3.trans hXz
  have hin : ∀ x ∈ (a : Int) :: tgts Y, 0 ≤ x ∧ x < (N.toNat : Int) := fun x hx => by
   rcases List.mem_cons.1 hx with hx | hx
   ·omega
   ·obtain ⟨e, he, rfl⟩ := List.mem_map.1 hx
    have := (hE e (way_mem y1 e he)).2.1
    omega
  have hlen := nodup_le N.toNat _ y2 hin
  rw [List.length_cons, tgts, List.length_map] at hlen
  have hfree := free_of hE Y a (List.replicate N.toNat false) (by omega) y1 y2 (fun x hx => by
   rw [List.getD_eq_getElem?_getD, List.getElem?_replicate]; split <;> rfl)
  rw [Int.toNat_natCast] at hfree
  refine ⟨Y, by omega, e, heE, y1, hfree, hea, ?_⟩
  rw [hsum Y (by omega) (way_mem y1) e heE, (edge_zero (hok e heE) h3).1 (p3 e (by simp)), addT_zero]
  have h5 := sumW_in hE (way_mem y1)
  have h6 : (sumW Y).1 ≤ 0 ∧ (sumW Y).2.1 ≤ 0 ∧ (sumW Y).2.2 ≤ 0 := hYz
  unfold TmIn at h5
  rw [Prod.ext_iff, Prod.ext_iff]; simp only; omega
 ·rintro ⟨a, ha, hf⟩
  have ha := List.mem_range.1 ha
  obtain ⟨P, hP, e, he, g1, _, g3, g4⟩ := (hfrom a ha).1 hf
  rw [hsum P hP (way_mem g1) e he] at g4
  refine List.any_eq_true.2 ⟨a, List.mem_range.2 ha, w3 (P ++ [e]) a a ha ha ⟨by simp, g1.append ⟨he, rfl, g3⟩, ?_⟩ (by simp; omega)⟩
  have hin : ∀ x ∈ P ++ [e], x ∈ E := fun x hx => by
   rcases List.mem_append.1 hx with hx | hx
   ·exact way_mem g1 x hx
   ·rw [List.mem_singleton.1 hx]; exact he
  refine (sumW_zero hok h3 hin).2 ?_
  rw [sumW_append]
  simp only [sumW, addT_zero]
  rw [g4]; exact LeT.refl _
def graphB (N Wd : Int) (E : List Ed) : Bool := decide (headOk N Wd E.length) && (E.all (edgeOk N Wd) && !circlesP N.toNat E)
theorem graph_none {N Wd : Int} {E : List Ed} : openedP N Wd E = none ↔ graphB N Wd E = false := by
 unfold openedP graphB
 by_cases hh : headOk N Wd E.length
 ·by_cases hok : E.all (edgeOk N Wd) = true
  ·rw [if_pos ⟨hh, hok⟩, decide_eq_true hh, hok, ← circles_iff hh (fun e he => List.all_eq_true.1 hok e he)]
   simp
  ·rw [if_neg (fun h => hok h.2)]
   simp [hok]
 ·rw [if_neg (fun h => hh h.1), decide_eq_false hh]; simp
end Go.Proofs.YtbkfnmgkcgnifaaGreat.Mdl
namespace Go.Proofs.YtbkfnmgkcgnifaaGreat.Mdl
def sumStepT (rows : List (List Tm)) (e : Ed) : List (List Tm) := rows.set e.2.1.toNat (firstsT (rows.getD e.2.1.toNat [] ++ (rows.getD e.1.toNat []).map (fun t => addT t (tmOf e.2.2))))
def sumsT (N : Nat) (E : List Ed) (a : Nat) : Nat → List (List Tm)
 | 0 => (List.replicate N []).set a [(0, 0, 0)]
 | n + 1 => E.foldl sumStepT (sumsT N E a n)
structure SumInv (N : Nat) (E : List Ed) (a S : Nat) (rows : List (List Tm)) : Prop where
 len : rows.length = N
 sound : ∀ b, b < N → ∀ t ∈ rows.getD b [], ∃ P, P.length ≤ S ∧ IsWay E b a P ∧ sumW P = t
 apart : ∀ b, b < N → Apart (rows.getD b []) ∧ Strict (rows.getD b [])
def Cov (N : Nat) (E : List Ed) (a n : Nat) (rows : List (List Tm)) : Prop := ∀ (P : List Ed) (b : Nat), b < N → P.length ≤ n → IsWay E b a P → ∃ t ∈ rows.getD b [], LeT t (sumW P)
theorem SumInv.step {N : Nat} {E : List Ed} (hE : NodesIn N E) {a S : Nat} {rows : List (List Tm)} (h : SumInv N E a S rows) {e : Ed} (he : e ∈ E) : SumInv N E a (S + 1) (sumStepT rows e) ∧ ∀ b, b < N → ∀ t ∈ rows.getD b [], ∃ s ∈ (sumStepT rows e).getD b [], LeT s t := by
 obtain ⟨⟨f0, hf⟩, t0, ht⟩ := hE e he
 have hget : ∀ b, b < N → (sumStepT rows e).getD b [] = if e.2.1.toNat = b then firstsT (rows.getD e.2.1.toNat [] ++ (rows.getD e.1.toNat []).map (fun t => addT t (tmOf e.2.2))) else rows.getD b [] := fun b hb => by
  unfold sumStepT
  rw [getD_set_iff _ _ _ _ (by rw [h.len]; exact ht)]
 refine ⟨⟨by unfold sumStepT; rw [List.length_set]; exact h.len, fun b hb t hm => ?_, fun b hb => ?_⟩, fun b hb t hm => ?_⟩
 ·rw [hget b hb] at hm
  split at hm
  ·rename_i hbe
   rcases List.mem_append.1 (firsts_sub hm) with hm | hm
   ·rw [hbe] at hm
    obtain ⟨P, h1, h2⟩ := h.sound b hb t hm
    exact ⟨P, by omega, h2⟩
   ·obtain ⟨s, hs, rfl⟩ := List.mem_map.1 hm
    obtain ⟨P, h1, h2, h3⟩ := h.sound _ hf s hs
    refine ⟨P ++ [e], by simp; omega, ?_, by rw [sumW_append, h3]; simp [sumW, addT_zero]⟩
    rw [Int.toNat_of_nonneg f0] at h2
    exact h2.append ⟨he, rfl, show e.2.1 = (b : Int) by omega⟩
  ·obtain ⟨P, h1, h2⟩ := h.sound b hb t hm
   exact ⟨P, by omega, h2⟩
 ·rw [hget b hb]
  split
  ·exact firsts_apart _
  ·exact h.apart b hb
 ·rw [hget b hb]
  split
  ·rename_i hbe
   exact firsts_cover (List.mem_append_left _ (by rw [hbe]; exact hm))
  ·exact ⟨t, hm, LeT.refl _⟩
theorem sum_fold {N : Nat} {E : List Ed} (hE : NodesIn N E) {a : Nat} : ∀ (F : List Ed) (rows : List (List Tm)) (S : Nat), (∀ e ∈ F, e ∈ E) → SumInv N E a S rows →
  SumInv N E a (S + F.length) (F.foldl sumStepT rows) ∧ (∀ b, b < N → ∀ t ∈ rows.getD b [], ∃ s ∈ (F.foldl sumStepT rows).getD b [], LeT s t) ∧
  ∀ e ∈ F, ∀ t ∈ rows.getD e.1.toNat [], ∃ s ∈ (F.foldl sumStepT rows).getD e.2.1.toNat [], LeT s (addT t (tmOf e.2.2))
 | [], rows, S, _, h => ⟨h, fun b _ t ht => ⟨t, ht, LeT.refl _⟩, fun e he => by cases he⟩
 | e :: F, rows, S, hF, h => by
  obtain ⟨h1, h2⟩ := h.step hE (hF e List.mem_cons_self)
  obtain ⟨g1, g2, g3⟩ := sum_fold hE F _ (S + 1) (fun x hx => hF x (List.mem_cons_of_mem _ hx)) h1
  rw [List.foldl_cons]
  refine ⟨by rw [show S + (e :: F).length = S + 1 + F.length by simp; omega]; exact g1, fun b hb t ht => ?_, fun x hx t ht => ?_⟩
  ·obtain ⟨s, hs, hl⟩ := h2 b hb t ht
   obtain ⟨u, hu, hl2⟩ := g2 b hb s hs
   exact ⟨u, hu, hl2.trans hl⟩
  ·rcases List.mem_cons.1 hx with hx | hx
   ·subst hx
    obtain ⟨⟨_, hf⟩, _, htn⟩ := hE x (hF x List.mem_cons_self)
    have hm : addT t (tmOf x.2.2) ∈ rows.getD x.2.1.toNat [] ++ (rows.getD x.1.toNat []).map (fun t => addT t (tmOf x.2.2)) := List.mem_append_right _ (List.mem_map.2 ⟨t, ht, rfl⟩)
    obtain ⟨s, hs, hl⟩ := firsts_cover hm
    have hs' : s ∈ (sumStepT rows x).getD x.2.1.toNat [] := by
     unfold sumStepT
     rw [getD_set_self _ _ _ _ (by rw [h.len]; exact htn)]; exact hs
    obtain ⟨u, hu, hl2⟩ := g2 _ htn s hs'
    exact ⟨u, hu, hl2.trans hl⟩
   ·obtain ⟨⟨_, hf⟩, _, _⟩ := hE x (hF x (List.mem_cons_of_mem _ hx))
    obtain ⟨s, hs, hl⟩ := h2 _ hf t ht
    obtain ⟨u, hu, hl2⟩ := g3 x hx s hs
    exact ⟨u, hu, hl2.trans (by unfold LeT addT at *; simp only; omega)⟩
theorem sums_inv {N : Nat} {E : List Ed} (hE : NodesIn N E) {a : Nat} (ha : a < N) : ∀ n, SumInv N E a (n * E.length) (sumsT N E a n) ∧ Cov N E a n (sumsT N E a n)
 | 0 => by
  have hg : ∀ b, b < N → ((List.replicate N ([] : List Tm)).set a [(0, 0, 0)]).getD b [] = if a = b then [(0, 0, 0)] else [] := fun b hb => by
   rw [getD_set_iff _ _ _ _ (by simpa using ha), List.getD_eq_getElem?_getD, List.getElem?_replicate, if_pos hb]; rfl
  refine ⟨⟨by simp [sumsT], fun b hb t ht => ?_, fun b hb => ?_⟩, fun P b hb hP hw => ?_⟩
  ·rw [sumsT, hg b hb] at ht
   split at ht
   ·rename_i hab
    rw [List.mem_singleton.1 ht]
    exact ⟨[], by simp, by show (a : Int) = b; omega, rfl⟩
   ·cases ht
  ·rw [sumsT, hg b hb]
   split
   ·exact ⟨List.pairwise_singleton _ _, List.pairwise_singleton _ _⟩
   ·exact ⟨List.Pairwise.nil, List.Pairwise.nil⟩
  ·have := List.length_eq_zero_iff.1 (Nat.le_zero.1 hP)
   subst this
   have hw : (a : Int) = b := hw
   rw [sumsT, hg b hb, if_pos (by omega)]
   exact ⟨_, List.mem_singleton.2 rfl, LeT.refl _⟩
 | n + 1 => by
  obtain ⟨h1, h2⟩ := sums_inv hE ha n
  obtain ⟨g1, g2, g3⟩ := sum_fold hE E _ _ (fun _ h => h) h1
  refine ⟨by rw [Nat.succ_mul]; exact g1, fun P b hb hP hw => ?_⟩
  by_cases hp : P = []
  ·subst hp
   obtain ⟨t, ht, hl⟩ := h2 [] b hb (by simp) hw
   obtain ⟨s, hs, hl2⟩ := g2 b hb t ht
   exact ⟨s, hs, hl2.trans hl⟩
  ·obtain ⟨X, e, rfl, hX, he, heb⟩ := way_last hw hp
   obtain ⟨⟨f0, hf⟩, t0, htn⟩ := hE e he
   obtain ⟨t, ht, hl⟩ := h2 X e.1.toNat hf (by simp at hP; omega) (by rw [Int.toNat_of_nonneg f0]; exact hX)
   obtain ⟨s, hs, hl2⟩ := g3 e he t ht
   rw [show e.2.1.toNat = b by omega] at hs
   refine ⟨s, hs, hl2.trans ?_⟩
   rw [sumW_append]
   simp only [sumW, addT_zero]
   unfold LeT addT at *; simp only; omega
theorem sums_way {N Wd : Int} {E : List Ed} {ways : Ways} (h : openedP N Wd E = some ways) {a b : Nat} (ha : a < N.toNat) (hb : b < N.toNat) : (sumsT N.toNat E a N.toNat).getD b [] = wayAt ways a b := by
 obtain ⟨⟨g1, g8, _, g3, g16⟩, he, _⟩ := opened_ok h
 have hE := edges_in he g3
 have hN : NodesIn N.toNat E := fun e he => by have := hE e he; omega
 obtain ⟨h1, h2⟩ := sums_inv hN ha N.toNat
 obtain ⟨l, w1, w2⟩ := way_eq h (a := a) (b := b) (by omega) (by omega)
 rw [Int.toNat_natCast] at w1 w2
 have hap := firsts_apart l
 refine strict_unique (h1.apart b hb).2 (by rw [w1]; exact hap.2) (fun t => ⟨fun ht => ?_, fun ht => ?_⟩)
 ·obtain ⟨P, p1, p2, p3⟩ := h1.sound b hb t ht
  obtain ⟨s, hs, hl⟩ := way_cover h (a := a) (b := b) (by omega) (by omega) p2
  rw [Int.toNat_natCast] at hs
  rw [w1] at hs
  obtain ⟨Q, q1, q2, _, q3⟩ := (w2 s).1 (firsts_sub hs)
  obtain ⟨u, hu, hl2⟩ := h2 Q b hb (by omega) q2
  rw [p3] at hl
  rw [q3] at hl2
  have := apart_eq (h1.apart b hb).1 hu ht (hl2.trans hl)
  subst this
  rw [LeT.anti hl2 hl, w1]; exact hs
 ·rw [w1] at ht
  obtain ⟨Q, q1, q2, _, q3⟩ := (w2 t).1 (firsts_sub ht)
  obtain ⟨u, hu, hl2⟩ := h2 Q b hb (by omega) q2
  rw [q3] at hl2
  obtain ⟨P, p1, p2, p3⟩ := h1.sound b hb u hu
  obtain ⟨s, hs, hl⟩ := way_cover h (a := a) (b := b) (by omega) (by omega) p2
  rw [Int.toNat_natCast] at hs
  rw [w1] at hs
  rw [p3] at hl
  have := firsts_eq hs ht (hl.trans hl2)
  subst this
  rw [LeT.anti hl hl2]; exact hu
theorem apart_len {l : List Tm} (h : Apart l) (hin : ∀ t ∈ l, TmIn 12800 t) : l.length ≤ 163865601 := by
 have hn : (l.map (fun t : Tm => t.1 * 12801 + t.2.1)).Nodup := by
  refine List.pairwise_map.2 (List.Pairwise.imp_of_mem (fun {t u} ht hu hap => ?_) h)
  have h1 := hin t ht
  have h2 := hin u hu
  unfold TmIn at h1 h2
  unfold LeT at hap
  intro he
  have h3 : t.1 = u.1 ∧ t.2.1 = u.2.1 := by omega
  omega
 have := nodup_le 163865601 _ hn (fun x hx => by
  obtain ⟨t, ht, rfl⟩ := List.mem_map.1 hx
  have h1 := hin t ht
  unfold TmIn at h1
  omega)
 rwa [List.length_map] at this
theorem ZW_add {wd : Nat} {a b : Tm} (ha : ZW wd a) (hb : ZW wd b) : ZW wd (addT a b) :=
 ⟨fun h => by show a.2.2 + b.2.2 = 0; rw [ha.1 h, hb.1 h]; rfl, fun h => by show a.2.1 + b.2.1 = 0; rw [ha.2 h, hb.2 h]; rfl⟩
theorem ZW_way {wd : Nat} {E : List Ed} (hE : ∀ e ∈ E, e.2.2.length = wd) : ∀ {P : List Ed}, (∀ e ∈ P, e ∈ E) → ZW wd (sumW P)
 | [], _ => ⟨fun _ => rfl, fun _ => rfl⟩
 | e :: P, h => ZW_add (ZW_tm (hE e (h e List.mem_cons_self))) (ZW_way hE (P := P) (fun x hx => h x (List.mem_cons_of_mem _ hx)))
theorem SumInv.facts {N : Nat} {Nd Wd : Int} {E : List Ed} {a S : Nat} {rows : List (List Tm)} (h : SumInv N E a S rows) (hok : ∀ e ∈ E, edgeOk Nd Wd e = true) (hW : Wd ≤ 3) (hS : S ≤ 128) {b : Nat} (hb : b < N) :
  (rows.getD b []).length ≤ 163865601 ∧ ∀ t ∈ rows.getD b [], ZW Wd.toNat t ∧ TmIn 12800 t := by
 have hall : ∀ t ∈ rows.getD b [], ZW Wd.toNat t ∧ TmIn 12800 t := fun t ht => by
  obtain ⟨P, p1, p2, rfl⟩ := h.sound b hb t ht
  exact ⟨ZW_way (fun e he => by have := (edge_list (hok e he)).1; omega) (way_mem p2), (sumW_in (edges_in hok hW) (way_mem p2)).mono (by omega)⟩
 exact ⟨apart_len (h.apart b hb).1 (fun t ht => (hall t ht).2), hall⟩
theorem nums_tm {wd : Nat} {l : List Int} (h : l.length = wd) (hw : wd ≤ 3) : numsT wd (tmOf l) = l := by
 subst h
 match l, hw with
 | [], _ => rfl
 | [a], _ => rfl
 | [a, b], _ => rfl
 | [a, b, c], _ => rfl
 | _ :: _ :: _ :: _ :: _, h => simp at h
end Go.Proofs.YtbkfnmgkcgnifaaGreat.Mdl
namespace Go.Proofs.YtbkfnmgkcgnifaaGreat
open Go.RowKit Go.Shelf Go.Proofs.YtbkfnmgkcgnifaaGreatW.PrintWords Go.Proofs.YtbkfnmgkcgnifaaGreatW.PrintLast Mdl
theorem copy_rd {α : Type} {d : Kd α} {e base n c : Nat} {wd V : World} {A : Option Addr} {xs : List α} (h : d.R e wd base (fun _ => True) (.slice A n c) xs) (hb : Below wd.heap.size wd V) : ReadsRow (d.M V base (fun q => q < wd.heap.size)) d.sz V A n xs := by
 have h2 := Kd.R_below (Kd.R_mono (Kd.R_bound h) (fun k hk => hk.2.2.1)) hb
 obtain ⟨A', c', he, hl, hr⟩ := OwnRow.reads h2.2
 injection he with e1 e2 e3
 subst e1 e2
 exact hr.imp_ (Below.refl _ _) (fun _ _ hp => d.M_mono (fun k hk => hk.1) hp)
theorem R_empty {α : Type} (d : Kd α) (e base : Nat) (W : World) (hb : base ≤ W.heap.size) : d.R e (W.alloc (.cells #[] e)) base (fun _ => True) (.slice (some ⟨W.heap.size, 0, none⟩) 0 0) [] :=
 Kd.R_lower (base := W.heap.size) ⟨fun _ _ => trivial, [], World.ownsRow_made W #[] 0 (Nat.le_refl _) (Nat.zero_le _) (Nat.zero_mul _).symm, Reps.none _ _⟩ hb
namespace Mdl
theorem firstB_at : ∀ {l m : List Int} {k : Nat} (hl : k < l.length) (hm : k < m.length), l.take k = m.take k → l[k] ≠ m[k] → firstB l m = decide (l[k] < m[k])
 | a :: l, b :: m, 0, _, _, _, h => by
  have h : a ≠ b := h
  rw [firstB, if_neg h]; rfl
 | a :: l, b :: m, k + 1, hl, hm, h, hn => by
  rw [List.take_succ_cons, List.take_succ_cons] at h
  injection h with h1 h2
  rw [firstB, if_pos h1]
  exact firstB_at (by simpa using hl) (by simpa using hm) h2 (by simpa using hn)
theorem firstB_same : ∀ l : List Int, firstB l l = false
 | [] => rfl
 | a :: l => by rw [firstB, if_pos rfl]; exact firstB_same l
def liesB (n low high : Int) : Bool := decide (low ≤ n) && decide (n ≤ high)
theorem liesB_iff {n low high : Int} : liesB n low high = true ↔ low ≤ n ∧ n ≤ high := by simp [liesB]
def numsB (l : List Int) (many most : Int) : Bool := decide ((l.length : Int) = many) && l.all fun x => liesB x 0 most
theorem numsB_within {l : List Int} {many most : Int} : numsB l many most = (decide ((l.length : Int) = many) && withinB most l) := by
 unfold numsB withinB
 congr 1
 rw [Bool.eq_iff_iff]
 simp only [List.all_eq_true, Bool.not_eq_true', List.any_eq_false, liesB_iff, outB, Bool.or_eq_true, decide_eq_true_eq, not_or, Int.not_lt]
end Mdl
set_option maxRecDepth 4000 in
set_option maxHeartbeats 1600000 in
theorem lies_any (n low high : Int) (w : World) : Calls Tryz.prog 12 #[.int .i64 n, .int .i64 low, .int .i64 high] w fun e w' => e = .returned (.bool (liesB n low high)) ∧ w = w' := by
 by_cases h1 : low ≤ n
 ·by_cases h2 : n ≤ high
  ·have HT := Lib.hid (liesB_iff.2 ⟨h1, h2⟩)
   go_enter Tryz.func12, Tryz.ntmps12
   go_wp2
   go_ret
   exact ⟨by rw [HT.out]; rfl, rfl⟩
  ·have HT := Lib.hid (show liesB n low high = false by rw [← Bool.not_eq_true, liesB_iff]; omega)
   have hd : decide (n ≤ high) = false := decide_eq_false h2
   go_enter Tryz.func12, Tryz.ntmps12
   go_wp2
   go_ret
   exact ⟨by rw [HT.out]; rfl, rfl⟩
 ·have HT := Lib.hid (show liesB n low high = false by rw [← Bool.not_eq_true, liesB_iff]; omega)
  have hd : decide (low ≤ n) = false := decide_eq_false h1
  go_enter Tryz.func12, Tryz.ntmps12
  go_wp2
  go_ret
  exact ⟨by rw [HT.out]; rfl, rfl⟩
set_option maxRecDepth 4000 in
set_option maxHeartbeats 1600000 in
theorem snumbers_any (A : Option Addr) (cA : Nat) (l : List Int) (many most : Int) (w : World) (hl : kI.C w A l.length l) :
  Calls Tryz.prog 38 #[.slice A l.length cA, .int .i64 many, .int .i64 most] w fun e w' => e = .returned (.bool (numsB l many most)) ∧ w = w' := by
 have HL := Aside0.mk hl
 have hlm := Kd.C_max hl
 clear hl
 go_enter Tryz.func38, Tryz.ntmps38
 go_wp2_with fail
 go_loopw [7, 8] (fun s i wr => ∃ (k : Nat) (b : Bool), s = .bool b ∧ i = .int .i64 k ∧ k ≤ l.length ∧ w = wr ∧ Aside0 ((b = true → (l.length : Int) = many ∧ ((l.take k).all fun x => liesB x 0 most) = true) ∧ (b = false → numsB l many most = false))) (fun _ i _ => l.length - (intOf i).toNat)
 case atStart => exact ⟨0, _, rfl, rfl, Nat.zero_le _, rfl, ⟨fun h => ⟨by simpa using h, by simp⟩, fun h => by unfold numsB; rw [show decide ((l.length : Int) = many) = false by simpa using h]; rfl⟩⟩
 case round =>
  obtain ⟨k, b, rfl, rfl, hk, rfl, hX⟩ := hrel
  cases b with
  | false =>
   have HF := Lib.hid (hX.out.2 rfl)
   go_wp2_with fail
   go_ret
   exact ⟨by rw [HF.out]; rfl, rfl⟩
  | true =>
   have HT := Lib.hid (hX.out.1 rfl)
   by_cases hlt : k < l.length
   ·have hkE : (k : Int) < l.length := by omega
    have hk0 : (0 : Int) ≤ k := by omega
    obtain ⟨ad, rfl, c1⟩ := at_int HL.out hlt
    have HG := Lib.hid (show (liesB l[k] 0 most = true → ((l.take (k + 1)).all fun x => liesB x 0 most) = true) ∧ (liesB l[k] 0 most = false → numsB l many most = false) from
     ⟨fun h => by rw [List.take_succ_eq_append_getElem hlt, List.all_append, HT.out.2]; simp [h], fun h => by
      unfold numsB
      rw [show (l.all fun x => liesB x 0 most) = false from by
       rw [List.all_eq_false]; exact ⟨_, List.getElem_mem hlt, by simp [h]⟩, Bool.and_false]⟩)
    have HM := Lib.hid HT.out.1
    clear HT hX
    generalize l[k] = x at *
    go_wp2_with fail
    refine (lies_any x 0 most _).mono ?_
    rintro e w' ⟨rfl, rfl⟩
    go_wp2_with fail
    exact ⟨⟨k + 1, _, rfl, by go_num, by omega, trivial, ⟨fun h => ⟨HM.out, HG.out.1 h⟩, fun h => HG.out.2 h⟩⟩, by simp [intOf]; omega⟩
   ·have hkE : ¬ ((k : Int) < l.length) := by omega
    have HE := Lib.hid (show numsB l many most = true by
     have h := HT.out
     rw [List.take_of_length_le (by omega)] at h
     unfold numsB; rw [decide_eq_true h.1, h.2]; rfl)
    go_wp2_with fail
    go_ret
    exact ⟨by rw [HE.out]; rfl, rfl⟩
set_option maxRecDepth 4000 in
set_option maxHeartbeats 1600000 in
theorem first_any (A B : Option Addr) (cA cB : Nat) (l m : List Int) (w : World) (hl : kI.C w A l.length l) (hm : kI.C w B m.length m) (hlen : l.length = m.length) :
  Calls Tryz.prog 112 #[.slice A l.length cA, .slice B m.length cB] w fun e w' => e = .returned (.bool (firstB l m)) ∧ Below w.heap.size w w' := by
 have HL := Aside0.mk hl
 have HM := Aside0.mk hm
 have hlm := Kd.C_max hl
 have hmm := Kd.C_max hm
 have HLEN := Lib.hid hlen
 clear hl hm hlen
 go_enter Tryz.func112, Tryz.ntmps112
 go_wp2_with fail
 go_loopw [5] (fun i wr => ∃ k : Nat, i = .int .i64 k ∧ k ≤ l.length ∧ Aside0 (l.take k = m.take k ∧ Below w.heap.size w wr)) (fun i _ => l.length - (intOf i).toNat)
 case atStart => exact ⟨0, rfl, Nat.zero_le _, ⟨rfl, Below.refl _ _⟩⟩
 case round =>
  obtain ⟨k, rfl, hk, hX⟩ := hrel
  by_cases hlt : k < l.length
  ·have hkm : k < m.length := by have := HLEN.out; omega
   have hkE : (k : Int) < l.length := by omega
   have hkM : (k : Int) < m.length := by omega
   have hk0 : (0 : Int) ≤ k := by omega
   obtain ⟨ad, rfl, c1⟩ := at_int (Kd.C_below HL.out hX.out.2) hlt
   obtain ⟨ad2, rfl, c2⟩ := at_int (Kd.C_below HM.out hX.out.2) hkm
   have HG := Lib.hid (show (l[k] = m[k] → l.take (k + 1) = m.take (k + 1)) ∧ (l[k] ≠ m[k] → firstB l m = decide (l[k] < m[k])) from ⟨take_grow hlt hkm hX.out.1, firstB_at hlt hkm hX.out.1⟩)
   generalize l[k] = x at *
   generalize m[k] = y at *
   clear hkm
   go_upto_region 4 with fail
   refine start_ (n := 9) (S := fun w' => w'.cell? (ad.add k) = some (.int .i64 x) ∧ w'.cell? (ad2.add k) = some (.int .i64 y)) (ds := []) (bs 9 0) (by kernel_rfl) rfl (by kernel_rfl) ⟨c1, c2⟩ (fun hHeld => ?_)
   have HD := Aside0.mk (below_drew1 hX.out.2)
   have HDW := Aside0.mk (below_drew1 (Below.refl wr.heap.size wr))
   generalize wr.drew = wd at *
   refine pu 0 12 (bs 9 1) ?_
   refine pu 1 13 (bs 9 3) ?_
   refine pu 2 14 (bs 9 7) ?_
   refine tk2 3 15 (bs 9 15) hHeld ?_
   refine pu 4 16 (bs 9 31) ?_
   refine pu 5 17 (bs 9 63) ?_
   refine pu 6 18 (bs 9 127) ?_
   refine tk2 7 19 (bs 9 255) hHeld ?_
   by_cases hxy : x = y
   ·have hf : (x != y) = false := by simpa using hxy
    have HXY := Lib.hid hxy
    clear hxy
    refine pu 8 20 (bs 9 511) ?_
    refine dn0 ?_
    go_wp2_with fail
    exact ⟨⟨k + 1, by go_num, by omega, ⟨HG.out.1 HXY.out, HD.out⟩⟩, by simp [intOf]; omega⟩
   ·skip
    have hf : (x != y) = true := by simpa using hxy
    have HXY := Lib.hid hxy
    clear hxy
    refine pu 8 20 (bs 9 511) ?_
    refine dn0 ?_
    go_upto_region 5 with fail
    refine start_ (n := 10) (S := fun w' => w'.cell? (ad.add k) = some (.int .i64 x) ∧ w'.cell? (ad2.add k) = some (.int .i64 y)) (ds := []) (bs 10 0) (by kernel_rfl) rfl (by kernel_rfl) ⟨pw_cell_below HDW.out c1, pw_cell_below HDW.out c2⟩ (fun hHeld => ?_)
    have HD2 := Aside0.mk (below_drew1 HD.out)
    generalize wd.drew = we at *
    refine pu 0 21 (bs 10 1) ?_
    refine pu 1 22 (bs 10 3) ?_
    refine pu 2 23 (bs 10 7) ?_
    refine tk2 3 24 (bs 10 15) hHeld ?_
    refine pu 4 25 (bs 10 31) ?_
    refine pu 5 26 (bs 10 63) ?_
    refine pu 6 27 (bs 10 127) ?_
    refine tk2 7 28 (bs 10 255) hHeld ?_
    refine pu 8 29 (bs 10 511) ?_
    refine pu 9 4 (bs 10 1023) ?_
    refine dn0 ?_
    go_wp2_with fail
    go_ret
    exact ⟨by rw [HG.out.2 HXY.out]; rfl, HD2.out⟩
  ·have hkE : ¬ ((k : Int) < l.length) := by omega
   have HE := Lib.hid (show firstB l m = false by
    have h := hX.out.1
    rw [List.take_of_length_le (by omega), List.take_of_length_le (by have := HLEN.out; omega)] at h
    rw [h]; exact firstB_same m)
   go_wp2_with fail
   go_ret
   exact ⟨by rw [HE.out]; rfl, hX.out.2⟩
set_option maxRecDepth 4000 in
set_option maxHeartbeats 1600000 in
theorem copyI_any (A : Option Addr) (c : Nat) (l : List Int) (w : World) (hl : kI.C w A l.length l) (hn : l.length ≤ 1000) :
  Calls Tryz.prog 113 #[.slice A l.length c] w fun e w' => ∃ v, e = .returned v ∧ kI.R 3 w' w.heap.size (fun _ => True) v l ∧ Below w.heap.size w w' := by
 have HL := Aside0.mk hl
 clear hl
 go_enter Tryz.func113, Tryz.ntmps113
 go_wp2_with (at_builtin; go_must (refine Kd.R_append_rows kI (Rr := kI.K (w.alloc (.cells #[] 3))) (w0 := w) w.heap.size rfl (.tmp 3) (.tmp 4) _ 3 (.int .i64 0) 8 rfl Tryz.underlying36 Tryz.infoInt rfl (by decide) (by decide) _ [] l _ _ _ (fun _ => True) (fun _ => False) rfl rfl ⟨fun _ _ => trivial, [], World.ownsRow_made w #[] 0 (Nat.le_refl _) (Nat.zero_le _) rfl, Reps.none _ _⟩ (Kd.C_below HL.out (below_new w _)) (fun _ _ h => h) (fun _ h => h.elim) (fun _ _ => trivial) (below_new w _) (below_new w _).size (by simp; omega) ?_); intro v6 w6 hR6 hb6 hg6 hat6)
 go_ret
 exact ⟨_, rfl, hR6, hb6⟩
namespace Mdl
def plusW : List Int → List Int → List Int
 | a :: l, b :: m => w64 (a + b) :: plusW l m
 | _, _ => []
theorem plusW_snoc : ∀ {l m : List Int} {k : Nat} (hl : k < l.length) (hm : k < m.length), plusW (l.take (k + 1)) (m.take (k + 1)) = plusW (l.take k) (m.take k) ++ [w64 (l[k] + m[k])]
 | a :: l, b :: m, 0, _, _ => by simp [plusW]
 | a :: l, b :: m, k + 1, hl, hm => by
  simp only [List.take_succ_cons, plusW, List.cons_append, List.getElem_cons_succ]
  rw [plusW_snoc (by simpa using hl) (by simpa using hm)]
theorem plusW_len : ∀ {l m : List Int}, l.length = m.length → (plusW l m).length = l.length
 | [], [], _ => rfl
 | a :: l, b :: m, h => by simp only [plusW, List.length_cons]; rw [plusW_len (by simpa using h)]
theorem plusW_nums {wd : Nat} (hw : wd ≤ 3) (a b : Tm) : plusW (numsT wd a) (numsT wd b) = numsT wd (plusT a b) := by
 obtain rfl | rfl | rfl | rfl : wd = 0 ∨ wd = 1 ∨ wd = 2 ∨ wd = 3 := by omega
 all_goals simp [plusW, numsT, plusT]
end Mdl
set_option maxRecDepth 4000 in
set_option maxHeartbeats 1600000 in
theorem splus_any (A B : Option Addr) (cA cB : Nat) (l m : List Int) (w : World) (hl : kI.C w A l.length l) (hm : kI.C w B m.length m) (hlen : l.length = m.length) (hn : l.length ≤ 1000) :
  Calls Tryz.prog 72 #[.slice A l.length cA, .slice B m.length cB] w fun e w' => ∃ v, e = .returned v ∧ kI.R 3 w' w.heap.size (fun _ => True) v (plusW l m) ∧ Below w.heap.size w w' := by
 have HL := Aside0.mk hl
 have HM := Aside0.mk hm
 have HLEN := Lib.hid hlen
 clear hl hm hlen
 go_enter Tryz.func72, Tryz.ntmps72
 go_wp2_with fail
 have HO := Aside0.mk (And.intro (R_empty kI 3 w.heap.size w (Nat.le_refl _)) (below_new w (.cells #[] 3)))
 generalize w.alloc (.cells #[] 3) = wz at *
 go_loopw [5, 6] (fun o i wr => ∃ k : Nat, i = .int .i64 k ∧ k ≤ l.length ∧ Aside0 (kI.R 3 wr w.heap.size (fun _ => True) o (plusW (l.take k) (m.take k)) ∧ Below w.heap.size w wr)) (fun _ i _ => l.length - (intOf i).toNat)
 case atStart => exact ⟨0, rfl, Nat.zero_le _, ⟨by simpa [plusW] using HO.out.1, HO.out.2⟩⟩
 case round =>
  clear HO
  obtain ⟨k, rfl, hk, hX⟩ := hrel
  by_cases hlt : k < l.length
  ·have hkm : k < m.length := by have := HLEN.out; omega
   have hkE : (k : Int) < l.length := by omega
   have hkM : (k : Int) < m.length := by omega
   have hk0 : (0 : Int) ≤ k := by omega
   obtain ⟨ad, rfl, c1⟩ := at_int HL.out hlt
   obtain ⟨ad2, rfl, c2⟩ := at_int HM.out hkm
   have HS := Lib.hid (plusW_snoc hlt hkm)
   have HP := Lib.hid (show (plusW (l.take k) (m.take k)).length ≤ 1000 by rw [plusW_len (by have := HLEN.out; rw [List.length_take, List.length_take]; omega), List.length_take]; omega)
   generalize l[k] = x at *
   generalize m[k] = y at *
   generalize plusW (l.take k) (m.take k) = pre at *
   have HC := Aside0.mk (And.intro c1 c2)
   have c1 := pw_cell_below hX.out.2 c1
   have c2 := pw_cell_below hX.out.2 c2
   have hRo := hX.out.1
   obtain ⟨oA, oC, hoe⟩ := Kd.R_slice hRo
   generalize hpn : pre.length = pn at *
   subst hoe
   clear hkm hRo
   go_upto_region 5 with fail
   refine start_ (n := 13) (S := fun w' => w'.cell? (ad.add k) = some (.int .i64 x) ∧ w'.cell? (ad2.add k) = some (.int .i64 y)) (ds := []) (bs 13 0) (by kernel_rfl) rfl (by kernel_rfl) ⟨c1, c2⟩ (fun hHeld => ?_)
   have HD := Aside0.mk (And.intro (Kd.R_below hX.out.1 (below_drew1 (Below.refl _ _))) (below_drew1 hX.out.2))
   generalize wr.drew = wd at *
   clear c1 c2 hX
   refine pu 0 14 (bs 13 1) ?_
   refine pu 1 15 (bs 13 3) ?_
   refine pu 2 16 (bs 13 7) ?_
   refine pu 3 17 (bs 13 15) ?_
   refine tk2 4 18 (bs 13 31) hHeld ?_
   refine pu 5 19 (bs 13 63) ?_
   refine pu 6 20 (bs 13 127) ?_
   refine pu 7 21 (bs 13 255) ?_
   refine tk2 8 22 (bs 13 511) hHeld ?_
   refine pu 9 23 (bs 13 1023) ?_
   simp only [i64_w, w64_eq]
   refine on0 10 24 (bs 13 2047) fun K hK => ?_
   refine va0 ?_
   refine hK.out _ _ ⟨pw_cell_below (below_new wd _) hHeld.1, pw_cell_below (below_new wd _) hHeld.2⟩ (fun hHeld => ?_)
   clear hK K
   refine nm0 (some 24) ?_
   refine on0 11 25 (bs 13 4095) fun K hK => ?_
   refine Kd.R_append_step kI (w0 := w) w.heap.size (by rfl) (.tmp 14) (.tmp 24) 36 3 (.int .i64 0) 8 rfl Tryz.underlying36 Tryz.infoInt rfl (by decide) (by decide) (.slice oA pn oC) pre (w64 (x + y)) [.int .i64 (w64 (x + y))] (fun _ => True) (fun k => some k ≠ (Value.slice oA pn oC).ownBlock) rfl rfl rfl (fun _ h => ⟨trivial, h⟩) (fun _ _ => trivial) HD.out.1 HD.out.2 HD.out.2.size (by have := HP.out; omega) ?_
   intro v6 w6 hR6 hb6 hg6 hat6
   refine hK.out _ _ ⟨pw_cell_below hb6 HC.out.1, pw_cell_below hb6 HC.out.2⟩ (fun hHeld => ?_)
   clear hK K
   refine nm0 (some 25) ?_
   have HS6 := Aside0.mk (show kI.R 3 w6 w.heap.size (fun _ => True) v6 (plusW (l.take (k + 1)) (m.take (k + 1))) ∧ Below w.heap.size w w6 from ⟨by rw [HS.out]; exact hR6, hb6⟩)
   clear hR6 hb6 hg6 hat6 hHeld
   refine pu 12 5 (bs 13 8191) ?_
   refine dn0 ?_
   go_wp2_with fail
   exact ⟨⟨k + 1, by go_num, by omega, HS6⟩, by simp [intOf]; omega⟩
  ·have hkE : ¬ ((k : Int) < l.length) := by omega
   have hR := hX.out.1
   have hb := hX.out.2
   rw [List.take_of_length_le (by omega), List.take_of_length_le (by have := HLEN.out; omega)] at hR
   obtain ⟨oA, oC, hoe⟩ := Kd.R_slice hR
   have HR := Aside0.mk (And.intro (show _ from hR) hb)
   clear hR hb hX
   go_wp2_with fail
   go_ret
   subst hoe
   exact ⟨_, rfl, HR.out.1, HR.out.2⟩
end Go.Proofs.YtbkfnmgkcgnifaaGreat
namespace Go.Proofs.YtbkfnmgkcgnifaaGreat
open Go.RowKit Go.Shelf Go.Proofs.YtbkfnmgkcgnifaaGreatW.PrintWords Go.Proofs.YtbkfnmgkcgnifaaGreatW.PrintLast Mdl
structure NewLI (w0 w2 wr : World) (v : Value) (xs : List (List Int)) : Prop where
 rows : kLI.R 36 wr w0.heap.size (fun _ => True) v xs
 own : ∀ b, v.ownBlock = some b → w2.heap.size ≤ b
 below : Below w2.heap.size w2 wr
 base : Below w0.heap.size w0 w2
theorem NewLI.down {w0 w2 wr : World} {v : Value} {xs : List (List Int)} (h : NewLI w0 w2 wr v xs) : Below w0.heap.size w0 wr := below_then h.base h.base.size h.below
theorem NewLI.up {w0 w2 wr w1 : World} {v : Value} {xs : List (List Int)} (h : NewLI w0 w2 wr v xs) (hb : Below wr.heap.size wr w1) : NewLI w0 w2 w1 v xs := ⟨Kd.R_below h.rows hb, h.own, below_then h.below h.below.size hb, h.base⟩
theorem NewLI.start {w0 w2 : World} (hb : Below w0.heap.size w0 w2) : NewLI w0 w2 (w2.alloc (.cells #[] 36)) (.slice (some ⟨w2.heap.size, 0, none⟩) 0 0) [] :=
 ⟨R_empty kLI 36 w0.heap.size w2 hb.size, fun b h => by simp only [Value.ownBlock, Option.some.injEq] at h; omega, below_new w2 _, hb⟩
theorem NewLI.slice {w0 w2 wr : World} {v : Value} {xs : List (List Int)} (h : NewLI w0 w2 wr v xs) : ∃ A c, v = .slice A xs.length c := Kd.R_slice h.rows
theorem NewLI.M {w0 W : World} {v u : Value} {xs : List (List Int)} {x : List Int} (h : kLI.R 36 W w0.heap.size (fun _ => True) v xs) (hp : kI.R 3 W w0.heap.size (fun _ => True) u x) : kLI.M W w0.heap.size (fun k => True ∧ some k ≠ v.ownBlock) x [u] := by
 refine ⟨u, rfl, Kd.R_mono (Kd.R_bound hp) (fun k hk => ⟨trivial, fun he => ?_⟩)⟩
 obtain ⟨_, _, _, q, hq, hc⟩ := hk
 obtain ⟨inner, ho⟩ := Kd.R_own h
 have ht := own_typed ho k he.symm
 obtain ⟨c1, h1⟩ := hc
 obtain ⟨c2, h2⟩ := ht
 rw [h1] at h2
 injection h2 with h2
 injection h2 with _ h2
 have hq : q = 3 := by
  rcases List.mem_cons.1 hq with hq | hq
  ·exact hq
  ·cases hq
 rw [hq] at h2; exact absurd h2 (by decide)
theorem NewLI.more {w0 w2 W w1 : World} {v v1 : Value} {xs ys : List (List Int)} (h : NewLI w0 w2 W v xs) (hR : kLI.R 36 w1 w0.heap.size (fun _ => True) v1 ys) (hg : W.grownBy w1 v.ownBlock) (hat : v1.ownBlock = v.ownBlock ∨ ∃ b, v1.ownBlock = some b ∧ W.heap.size ≤ b) : NewLI w0 w2 w1 v1 ys :=
 ⟨hR, fun b hb => by
  rcases hat with hat | ⟨c, hc, hle⟩
  ·exact h.own b (hat ▸ hb)
  ·rw [hb] at hc; injection hc with hc; subst hc; exact Nat.le_trans h.below.size hle,
  h.below.grown hg h.below.size (fun q hq => h.own q hq), h.base⟩
section
variable {ops : Array Oper} {Q : Exit → Act → World → Prop} {o : Oper} {rest : List Oper} {a : Act} {w0 w2 W : World} {v u : Value} {xs : List (List Int)} {x : List Int} {Kc : Act → World → Prop}
theorem NewLI.app (h : NewLI w0 w2 W v xs) (hp : kI.R 3 W w0.heap.size (fun _ => True) u x) (hl : xs.length ≤ 1000000000000) (s y : Operand) (hgd : o.guard = none)
  (ho : o.op = .call { callee := .builtin .append, args := #[s, y], argTypes := #[28, 28] }) (hs : a.eval s = v) (hx : a.eval y = .slice (some ⟨W.heap.size, 0, none⟩) 1 1)
  (k : ∀ v1 w1, NewLI w0 w2 w1 v1 (xs ++ [x]) → wpList Tryz.prog ops Q rest (a.put o.dst v1) w1) : wpList Tryz.prog ops Q (o :: rest) a (W.alloc (.cells #[u] 36)) :=
 Kd.R_append kLI (w0 := w0) w0.heap.size hgd s y 28 36 (.slice none 0 0) 24 ho Tryz.underlying28 Tryz.infoInts rfl (by decide) (by decide) v xs x [u] (fun _ => True) (fun k => True ∧ some k ≠ v.ownBlock) hs hx (NewLI.M h.rows hp) (fun _ h => h) (fun _ _ => trivial) h.rows h.down h.down.size (by omega)
  (fun v1 w1 hR _ hg hat => k v1 w1 (h.more hR hg hat))
theorem NewLI.appS (h : NewLI w0 w2 W v xs) (hp : kI.R 3 W w0.heap.size (fun _ => True) u x) (hl : xs.length ≤ 1000000000000) (s y : Operand) (hw : Region.wanted o (yielded ops a.tmps) = true)
  (ho : o.op = .call { callee := .builtin .append, args := #[s, y], argTypes := #[28, 28] }) (hs : a.eval s = v) (hx : a.eval y = .slice (some ⟨W.heap.size, 0, none⟩) 1 1)
  (k : ∀ v1 w1, NewLI w0 w2 w1 v1 (xs ++ [x]) → W.grownBy w1 v.ownBlock → Kc (a.put o.dst v1) w1) : if Region.wanted o (yielded ops a.tmps) = true then Oper.wp Tryz.prog o a (W.alloc (.cells #[u] 36)) Kc Q else Kc (a.put o.dst undef) (W.alloc (.cells #[u] 36)) :=
 Kd.R_append_step kLI (w0 := w0) w0.heap.size hw s y 28 36 (.slice none 0 0) 24 ho Tryz.underlying28 Tryz.infoInts rfl (by decide) (by decide) v xs x [u] (fun _ => True) (fun k => True ∧ some k ≠ v.ownBlock) hs hx (NewLI.M h.rows hp) (fun _ h => h) (fun _ _ => trivial) h.rows h.down h.down.size (by omega)
  (fun v1 w1 hR _ hg hat => k v1 w1 (h.more hR hg hat) hg)
end
theorem li_at {w : World} {base : Nat} {A : Option Addr} {c : Nat} {xs : List (List Int)} (h : kLI.R 36 w base (fun _ => True) (.slice A xs.length c) xs) {k : Nat} (hk : k < xs.length) :
  ∃ g sA sC, A = some ⟨g, 0, none⟩ ∧ w.cell? ⟨g, k, none⟩ = some (.slice sA xs[k].length sC) ∧ w.frozen? ⟨g, k, none⟩ = false ∧ kI.R 3 w base (fun _ => True) (.slice sA xs[k].length sC) xs[k] := by
 obtain ⟨g, cap, he, _⟩ := Kd.R_form h (by omega)
 injection he with e1 e2 e3
 subst e1 e3
 obtain ⟨cs, hcl, hM, hcc, hfr⟩ := Kd.R_elem h [] (k : Int) (by omega) (by omega)
 rw [Int.toNat_natCast] at hM hcc hfr
 rw [List.getD_eq_getElem?_getD, List.getElem?_eq_getElem hk] at hM
 obtain ⟨u, rfl, hR⟩ := hM
 obtain ⟨sA, sC, rfl⟩ := Kd.R_slice hR
 have h1 := hcc 0 _ rfl
 have h2 := hfr 0
 rw [show kLI.sz = 1 from rfl, Nat.mul_one, Nat.add_zero] at h1
 rw [show kLI.sz = 1 from rfl, Nat.mul_one, Nat.add_zero] at h2
 exact ⟨g, sA, sC, rfl, h1, h2, Kd.R_mono hR (fun _ _ => trivial)⟩
namespace Mdl
theorem insP_step (x : List Int) (b : Bool) (y : List Int) (r : List (List Int)) : insP x b (y :: r) = (if (!b && firstB x y) = true then [x] else []) ++ y :: insP x (b || firstB x y || decide (x = y)) r := by
 cases b with
 | true => simp [insP]
 | false =>
  cases hf : firstB x y with
  | true => simp [insP, hf]
  | false => simp [insP, hf]
theorem sortedP_snoc (l : List (List Int)) {k : Nat} (hk : k < l.length) : sortedP (l.take (k + 1)) = insP l[k] false (sortedP (l.take k)) := by
 unfold sortedP
 exact foldl_take_succ (fun out x => insP x false out) [] l hk
theorem insP_len (x : List Int) : ∀ (b : Bool) (r : List (List Int)), (insP x b r).length ≤ r.length + 1
 | b, [] => by unfold insP; split <;> simp
 | b, y :: r => by
  have h1 := insP_len x (b || decide (x = y)) r
  have h2 := insP_len x true r
  rw [insP_done] at h2
  unfold insP
  split
  ·rw [insP_done]; simp
  ·simp at h1 ⊢; omega
theorem sortedP_len : ∀ (l : List (List Int)) (o : List (List Int)), (l.foldl (fun out x => insP x false out) o).length ≤ o.length + l.length
 | [], o => by simp
 | x :: l, o => by
  have h1 := insP_len x false o
  have h2 := sortedP_len l (insP x false o)
  simp only [List.foldl_cons, List.length_cons]; omega
theorem insP_mem (x : List Int) : ∀ (b : Bool) (r : List (List Int)), ∀ z ∈ insP x b r, z = x ∨ z ∈ r
 | b, [], z, h => by
  unfold insP at h
  split at h
  ·cases h
  ·exact .inl (List.mem_singleton.1 h)
 | b, y :: r, z, h => by
  unfold insP at h
  split at h
  ·rw [insP_done] at h
   rcases List.mem_cons.1 h with h | h
   ·exact .inl h
   ·exact .inr h
  ·rcases List.mem_cons.1 h with h | h
   ·rw [h]; exact .inr List.mem_cons_self
   ·rcases insP_mem x _ r z h with h | h
    ·exact .inl h
    ·exact .inr (List.mem_cons_of_mem _ h)
theorem sortedP_mem : ∀ (l o : List (List Int)), ∀ z ∈ l.foldl (fun out x => insP x false out) o, z ∈ l ∨ z ∈ o
 | [], o, z, h => .inr h
 | x :: l, o, z, h => by
  rcases sortedP_mem l _ z h with h | h
  ·exact .inl (List.mem_cons_of_mem _ h)
  ·rcases insP_mem x false o z h with h | h
   ·rw [h]; exact .inl List.mem_cons_self
   ·exact .inr h
end Mdl
set_option maxRecDepth 4000 in
set_option maxHeartbeats 4000000 in
theorem ssorted_any (A : Option Addr) (cA wd : Nat) (l : List (List Int)) (w : World) (hl : kLI.C w A l.length l) (hall : ∀ x ∈ l, x.length = wd) (hwd : wd ≤ 1000) (hn : l.length ≤ 900000000000) :
  Calls Tryz.prog 96 #[.slice A l.length cA] w fun e w' => ∃ v, e = .returned v ∧ kLI.R 36 w' w.heap.size (fun _ => True) v (sortedP l) ∧ Below w.heap.size w w' := by
 have HL := Aside0.mk hl
 have hlm := Kd.C_max hl
 have HALL := Lib.hid hall
 have HWD := Lib.hid hwd
 clear hl hall hwd
 go_enter Tryz.func96, Tryz.ntmps96
 go_wp2_with fail
 have HO := Aside0.mk (NewLI.start (Below.refl w.heap.size w))
 generalize w.alloc (.cells #[] 36) = wz at *
 go_loopw [3, 4] (fun o i wr => ∃ k : Nat, i = .int .i64 k ∧ k ≤ l.length ∧ Aside0 (kLI.R 36 wr w.heap.size (fun _ => True) o (sortedP (l.take k)) ∧ Below w.heap.size w wr)) (fun _ i _ => l.length - (intOf i).toNat)
 case atStart => exact ⟨0, rfl, Nat.zero_le _, ⟨HO.out.rows, HO.out.down⟩⟩
 case round =>
  clear HO
  obtain ⟨k, rfl, hk, hX⟩ := hrel
  by_cases hlt : k < l.length
  ·have hkE : (k : Int) < l.length := by omega
   have hk0 : (0 : Int) ≤ k := by omega
   obtain ⟨ad, sA, sC, rfl, c1, d1, _⟩ := at_li HL.out hlt
   have HS := Lib.hid (sortedP_snoc l hlt)
   have HLK := Lib.hid (HALL.out _ (List.getElem_mem hlt))
   have HP := Lib.hid (show ∀ z ∈ sortedP (l.take k), z.length = wd from fun z hz => HALL.out z (by rcases sortedP_mem (l.take k) [] z hz with h | h; exact List.mem_of_mem_take h; cases h))
   have hol : (sortedP (l.take k)).length ≤ l.length := by have := sortedP_len (l.take k) []; rw [List.length_take] at this; simp at this; unfold sortedP; omega
   have HD1 := Aside0.mk d1
   have HC1 := Aside0.mk c1
   clear d1 c1
   generalize l[k] = x at *
   generalize sortedP (l.take k) = o at *
   obtain ⟨oA, oC, hoe⟩ := Kd.R_slice hX.out.1
   subst hoe
   have hom : (o.length : Int) ≤ 900000000000 := by omega
   go_wp2_with fail
   have HN := Aside0.mk (NewLI.start (w0 := w) hX.out.2)
   generalize wr.alloc (.cells #[] 36) = wn at *
   generalize wr = wo at *
   go_loopw [5, 6, 7] (fun nx d j wr => ∃ (m : Nat) (b : Bool) (pre : List (List Int)), d = .bool b ∧ j = .int .i64 m ∧ m ≤ o.length ∧ Aside0 (NewLI w wo wr nx pre) ∧ Hid (insP x false o = pre ++ insP x b (o.drop m) ∧ pre.length ≤ m + b.toNat)) (fun _ _ j _ => o.length - (intOf j).toNat)
   case atStart => exact ⟨0, false, [], rfl, rfl, Nat.zero_le _, HN, Lib.hid ⟨by simp, by simp⟩⟩
   case round =>
    clear HN
    obtain ⟨m, b, pre, rfl, rfl, hm, hY, HE⟩ := hrel
    by_cases hmt : m < o.length
    ·have hmE : (m : Int) < o.length := by omega
     have hm0 : (0 : Int) ≤ m := by omega
     obtain ⟨g, yA, yC, rfl, c2, _, d2⟩ := li_at hX.out.1 hmt
     have HD2 := Aside0.mk d2
     clear d2
     have HYL := Lib.hid (HP.out _ (List.getElem_mem hmt))
     have HDR := Lib.hid (show o.drop m = o[m] :: o.drop (m + 1) from List.drop_eq_getElem_cons hmt)
     have HC2 := Aside0.mk c2
     clear c2
     generalize o[m] = y at *
     have HXY := Lib.hid (show x.length = y.length by rw [HLK.out, HYL.out])
     have c1 := pw_cell_below hY.out.down HC1.out
     have c2 := pw_cell_below hY.out.below HC2.out
     have HE2 := Lib.hid (show insP x false o = pre ++ ((if (!b && firstB x y) = true then [x] else []) ++ y :: insP x (b || firstB x y || decide (x = y)) (o.drop (m + 1))) by rw [← insP_step, ← HDR.out]; exact HE.out.1)
     obtain ⟨nA, nC, hne⟩ := NewLI.slice hY.out
     have hpl := HE.out.2
     generalize hpn : pre.length = pn at *
     subst hne
     have HPN := Lib.hid hpn
     have HLE := Lib.hid hpl
     clear hpn hpl HE HDR
     cases b with
     | true =>
      go_upto_region 9 with fail
      refine start_ (n := 13) (S := fun V => V.cell? (ad.add k) = some (.slice sA x.length sC) ∧ V.cell? ⟨g, m, none⟩ = some (.slice yA y.length yC)) (ds := []) (bs 13 0) (by kernel_rfl) rfl (by kernel_rfl) ⟨c1, c2⟩ (fun hHeld => ?_)
      have Q1 := Aside0.mk (hY.out.up (below_drew1 (Below.refl _ _)))
      clear c1 c2
      generalize wr.drew = v1 at *
      refine pu 0 22 (bs 13 1) ?_
      refine pu 1 23 (bs 13 3) ?_
      refine pu 2 24 (bs 13 7) ?_
      refine uf0 3 25 (bs 13 15) ?_
      refine uf0 4 26 (bs 13 31) ?_
      refine uf0 5 27 (bs 13 63) ?_
      refine uf0 6 28 (bs 13 127) ?_
      refine uf0 7 29 (bs 13 255) ?_
      refine uf0 8 30 (bs 13 511) ?_
      refine uf0 9 31 (bs 13 1023) ?_
      refine uf0 10 32 (bs 13 2047) ?_
      refine uf0 11 33 (bs 13 4095) ?_
      refine pu 12 34 (bs 13 8191) ?_
      refine dn0 ?_
      obtain ⟨c1, c2⟩ := hHeld
      go_upto_region 11 with fail
      refine start_ (n := 13) (S := fun V => V.cell? (ad.add k) = some (.slice sA x.length sC) ∧ V.cell? ⟨g, m, none⟩ = some (.slice yA y.length yC)) (ds := []) (bs 13 0) (by kernel_rfl) rfl (by kernel_rfl) ⟨c1, c2⟩ (fun hHeld => ?_)
      have Q2 := Aside0.mk (Q1.out.up (below_drew1 (Below.refl _ _)))
      clear Q1
      clear c1 c2
      generalize v1.drew = v2 at *
      refine pu 0 43 (bs 13 1) ?_
      refine pu 1 44 (bs 13 3) ?_
      refine uf0 2 45 (bs 13 7) ?_
      refine uf0 3 46 (bs 13 15) ?_
      refine uf0 4 47 (bs 13 31) ?_
      refine uf0 5 48 (bs 13 63) ?_
      refine uf0 6 49 (bs 13 127) ?_
      refine uf0 7 50 (bs 13 255) ?_
      refine uf0 8 51 (bs 13 511) ?_
      refine uf0 9 52 (bs 13 1023) ?_
      refine uf0 10 53 (bs 13 2047) ?_
      refine pu 11 54 (bs 13 4095) ?_
      refine pu 12 6 (bs 13 8191) ?_
      refine dn0 ?_
      obtain ⟨c1, c2⟩ := hHeld
      go_wp2_with (at_builtin; go_must (refine NewLI.app Q2.out (Kd.R_below HD2.out Q2.out.below) (by rw [HPN.out]; have : pn ≤ m + 1 := Nat.le_trans HLE.out (Nat.add_le_add_left (Bool.toNat_le _) m); omega) (.tmp 55) (.tmp 60) rfl rfl rfl rfl ?_; intro u6 w6 hN6; have H6 := Aside0.mk hN6; clear hN6))
      exact ⟨⟨m + 1, true, pre ++ [y], rfl, by go_num, by omega, H6, Lib.hid ⟨by rw [HE2.out]; simp, by rw [List.length_append, HPN.out]; have : pn ≤ m + 1 := HLE.out; simp; omega⟩⟩, by simp [intOf]; omega⟩
     | false =>
      go_upto_region 9 with fail
      refine start_ (n := 13) (S := fun V => V.cell? (ad.add k) = some (.slice sA x.length sC) ∧ V.cell? ⟨g, m, none⟩ = some (.slice yA y.length yC)) (ds := []) (bs 13 0) (by kernel_rfl) rfl (by kernel_rfl) ⟨c1, c2⟩ (fun hHeld => ?_)
      have Q3 := Aside0.mk (hY.out.up (below_drew1 (Below.refl _ _)))
      clear c1 c2
      generalize wr.drew = v3 at *
      refine pu 0 22 (bs 13 1) ?_
      refine pu 1 23 (bs 13 3) ?_
      refine pu 2 24 (bs 13 7) ?_
      refine pu 3 25 (bs 13 15) ?_
      refine pu 4 26 (bs 13 31) ?_
      refine pu 5 27 (bs 13 63) ?_
      refine tk2 6 28 (bs 13 127) hHeld ?_
      refine pu 7 29 (bs 13 255) ?_
      refine pu 8 30 (bs 13 511) ?_
      refine pu 9 31 (bs 13 1023) ?_
      refine tk2 10 32 (bs 13 2047) hHeld ?_
      have HC := Lib.hid (first_any sA yA sC yC x y v3 (Kd.C_below HD1.out Q3.out.down) (Kd.R_reads' (Kd.R_below HD2.out Q3.out.below)).2.2 HXY.out)
      refine on0 11 33 (bs 13 4095) fun K hK => ?_
      refine gs0 Tryz.func112 #[.slice sA x.length sC, .slice yA y.length yC] ?_
      refine HC.out.mono ?_
      rintro e v4 ⟨rfl, hb⟩
      clear HC
      have Q4 := Aside0.mk (Q3.out.up hb)
      clear Q3
      refine ⟨_, rfl, hK.out _ _ ⟨pw_cell_below hb hHeld.1, pw_cell_below hb hHeld.2⟩ (fun hHeld => ?_)⟩
      clear hb
      clear hK K
      refine nm0 (some 33) ?_
      cases hf : firstB x y
      ·skip
       rw [hf] at HE2
       have HF := Lib.hid hf
       clear hf
       refine pu 12 34 (bs 13 8191) ?_
       refine dn0 ?_
       obtain ⟨c1, c2⟩ := hHeld
       go_upto_region 11 with fail
       refine start_ (n := 13) (S := fun V => V.cell? (ad.add k) = some (.slice sA x.length sC) ∧ V.cell? ⟨g, m, none⟩ = some (.slice yA y.length yC)) (ds := []) (bs 13 0) (by kernel_rfl) rfl (by kernel_rfl) ⟨c1, c2⟩ (fun hHeld => ?_)
       have Q5 := Aside0.mk (Q4.out.up (below_drew1 (Below.refl _ _)))
       clear Q4
       clear c1 c2
       generalize v4.drew = v5 at *
       refine pu 0 43 (bs 13 1) ?_
       refine pu 1 44 (bs 13 3) ?_
       refine pu 2 45 (bs 13 7) ?_
       refine pu 3 46 (bs 13 15) ?_
       refine pu 4 47 (bs 13 31) ?_
       refine tk2 5 48 (bs 13 63) hHeld ?_
       refine pu 6 49 (bs 13 127) ?_
       refine pu 7 50 (bs 13 255) ?_
       refine pu 8 51 (bs 13 511) ?_
       refine tk2 9 52 (bs 13 1023) hHeld ?_
       have HC := Lib.hid (equal_any sA yA sC yC x y v5 (Kd.C_below HD1.out Q5.out.down) (Kd.R_reads' (Kd.R_below HD2.out Q5.out.below)).2.2)
       refine on0 10 53 (bs 13 2047) fun K hK => ?_
       refine gs0 Tryz.func39 #[.slice sA x.length sC, .slice yA y.length yC] ?_
       refine HC.out.mono ?_
       rintro e v6 ⟨rfl, hb⟩
       clear HC
       have Q6 := Aside0.mk (Q5.out.up hb)
       clear Q5
       refine ⟨_, rfl, hK.out _ _ ⟨pw_cell_below hb hHeld.1, pw_cell_below hb hHeld.2⟩ (fun hHeld => ?_)⟩
       clear hb
       clear hK K
       refine nm0 (some 53) ?_
       refine pu 11 54 (bs 13 4095) ?_
       refine pu 12 6 (bs 13 8191) ?_
       refine dn0 ?_
       obtain ⟨c1, c2⟩ := hHeld
       go_wp2_with (at_builtin; go_must (refine NewLI.app Q6.out (Kd.R_below HD2.out Q6.out.below) (by rw [HPN.out]; have : pn ≤ m + 1 := Nat.le_trans HLE.out (Nat.add_le_add_left (Bool.toNat_le _) m); omega) (.tmp 55) (.tmp 60) rfl rfl rfl rfl ?_; intro u6 w6 hN6; have H6 := Aside0.mk hN6; clear hN6))
       exact ⟨⟨m + 1, (decide (x = y)), pre ++ [y], rfl, by go_num, by omega, H6, Lib.hid ⟨by rw [HE2.out]; simp, by rw [List.length_append, HPN.out]; have : pn ≤ m + 0 := HLE.out; simp; omega⟩⟩, by simp [intOf]; omega⟩
      ·skip
       rw [hf] at HE2
       have HF := Lib.hid hf
       clear hf
       refine pu 12 34 (bs 13 8191) ?_
       refine dn0 ?_
       obtain ⟨c1, c2⟩ := hHeld
       go_wp2_with fail
       refine (copyI_any sA sC x v4 (Kd.C_below HD1.out Q4.out.down) (by rw [HLK.out]; exact HWD.out)).mono ?_
       rintro e v7 ⟨z5, rfl, hR5, hb5⟩
       obtain ⟨A5, c5, rfl⟩ := Kd.R_slice hR5
       have HR5 := Aside0.mk (And.intro (Kd.R_lower hR5 Q4.out.down.size) hb5)
       have Q7 := Aside0.mk (Q4.out.up hb5)
       clear Q4
       clear hR5 hb5 c1 c2
       have c1 := pw_cell_below Q7.out.down HC1.out
       have c2 := pw_cell_below Q7.out.below HC2.out
       go_upto_region 11 with (at_builtin; go_must (refine NewLI.app Q7.out HR5.out.1 (by rw [HPN.out]; have : pn ≤ m + 1 := Nat.le_trans HLE.out (Nat.add_le_add_left (Bool.toNat_le _) m); omega) (.tmp 35) (.tmp 41) rfl rfl rfl rfl ?_; intro u7 w7 hN7; have H7 := Aside0.mk hN7; clear hN7; obtain ⟨mA, mC, hme⟩ := NewLI.slice H7.out; have HQL := Lib.hid (show (pre ++ [x]).length ≤ m + 1 by rw [List.length_append, HPN.out]; have : pn ≤ m + 0 := HLE.out; simp; omega); generalize hqn : (pre ++ [x]).length = qn at *; have HQN := Lib.hid hqn; clear hqn; subst hme))
       clear c1 c2
       have c1 := pw_cell_below H7.out.down HC1.out
       have c2 := pw_cell_below H7.out.below HC2.out
       refine start_ (n := 13) (S := fun V => V.cell? (ad.add k) = some (.slice sA x.length sC) ∧ V.cell? ⟨g, m, none⟩ = some (.slice yA y.length yC)) (ds := []) (bs 13 0) (by kernel_rfl) rfl (by kernel_rfl) ⟨c1, c2⟩ (fun hHeld => ?_)
       have Q8 := Aside0.mk (H7.out.up (below_drew1 (Below.refl _ _)))
       clear H7
       clear c1 c2
       generalize w7.drew = v8 at *
       refine pu 0 43 (bs 13 1) ?_
       refine pu 1 44 (bs 13 3) ?_
       refine uf0 2 45 (bs 13 7) ?_
       refine uf0 3 46 (bs 13 15) ?_
       refine uf0 4 47 (bs 13 31) ?_
       refine uf0 5 48 (bs 13 63) ?_
       refine uf0 6 49 (bs 13 127) ?_
       refine uf0 7 50 (bs 13 255) ?_
       refine uf0 8 51 (bs 13 511) ?_
       refine uf0 9 52 (bs 13 1023) ?_
       refine uf0 10 53 (bs 13 2047) ?_
       refine pu 11 54 (bs 13 4095) ?_
       refine pu 12 6 (bs 13 8191) ?_
       refine dn0 ?_
       obtain ⟨c1, c2⟩ := hHeld
       go_wp2_with (at_builtin; go_must (refine NewLI.app Q8.out (Kd.R_below HD2.out Q8.out.below) (by rw [HQN.out]; have := HQL.out; omega) (.tmp 55) (.tmp 60) rfl rfl rfl rfl ?_; intro u6 w6 hN6; have H6 := Aside0.mk hN6; clear hN6))
       exact ⟨⟨m + 1, true, (pre ++ [x]) ++ [y], rfl, by go_num, by omega, H6, Lib.hid ⟨by rw [HE2.out]; simp, by rw [List.length_append, HQN.out]; have := HQL.out; simp; omega⟩⟩, by simp [intOf]; omega⟩
    ·have hmE : ¬ ((m : Int) < o.length) := by omega
     have HEQ := Lib.hid (show insP x false o = pre ++ insP x b [] by have h := HE.out.1; rwa [List.drop_of_length_le (by omega)] at h)
     obtain ⟨nA, nC, hne⟩ := NewLI.slice hY.out
     have hpl := HE.out.2
     generalize hpn : pre.length = pn at *
     subst hne
     have HPN := Lib.hid hpn
     have HLE := Lib.hid hpl
     clear hpn hpl HE
     cases b with
     | true =>
      have HR := Aside0.mk (show kLI.R 36 wr w.heap.size (fun _ => True) (.slice nA pn nC) (sortedP (l.take (k + 1))) ∧ Below w.heap.size w wr from ⟨by rw [HS.out, HEQ.out]; simpa [insP] using hY.out.rows, hY.out.down⟩)
      go_wp2_with fail
      exact ⟨⟨k + 1, by go_num, by omega, HR⟩, by simp [intOf]; omega⟩
     | false =>
      have c1 := pw_cell_below hY.out.down HC1.out
      go_wp2_with fail
      refine (copyI_any sA sC x wr (Kd.C_below HD1.out hY.out.down) (by rw [HLK.out]; exact HWD.out)).mono ?_
      rintro e w8 ⟨z5, rfl, hR5, hb5⟩
      obtain ⟨A5, c5, rfl⟩ := Kd.R_slice hR5
      have HR5 := Aside0.mk (Kd.R_lower hR5 hY.out.down.size)
      have H8 := Aside0.mk (hY.out.up hb5)
      clear hR5 hb5 c1
      go_wp2_with (at_builtin; go_must (refine NewLI.app H8.out HR5.out (by rw [HPN.out]; have : pn ≤ m + 1 := Nat.le_trans HLE.out (Nat.add_le_add_left (Bool.toNat_le _) m); omega) (.tmp 64) (.tmp 70) rfl rfl rfl rfl ?_; intro u9 w9 hN9; have H9 := Aside0.mk hN9; clear hN9))
      have HR := Aside0.mk (show kLI.R 36 w9 w.heap.size (fun _ => True) u9 (sortedP (l.take (k + 1))) ∧ Below w.heap.size w w9 from ⟨by rw [HS.out, HEQ.out]; simpa [insP] using H9.out.rows, H9.out.down⟩)
      exact ⟨⟨k + 1, by go_num, by omega, HR⟩, by simp [intOf]; omega⟩
  ·have hkE : ¬ ((k : Int) < l.length) := by omega
   have HR := Aside0.mk (show kLI.R 36 wr w.heap.size (fun _ => True) u3 (sortedP l) ∧ Below w.heap.size w wr from ⟨by have h := hX.out.1; rwa [List.take_of_length_le (by omega)] at h, hX.out.2⟩)
   obtain ⟨oA, oC, hoe⟩ := Kd.R_slice HR.out.1
   subst hoe
   clear hX
   go_wp2_with fail
   go_ret
   exact ⟨_, rfl, HR.out.1, HR.out.2⟩
end Go.Proofs.YtbkfnmgkcgnifaaGreat
namespace Go.Proofs.YtbkfnmgkcgnifaaGreat
open Go.RowKit Go.Shelf Go.Proofs.YtbkfnmgkcgnifaaGreatW.PrintWords Go.Proofs.YtbkfnmgkcgnifaaGreatW.PrintLast Mdl
namespace Mdl
def keepTo (s : List (List Int)) (i n : Nat) : Bool := (List.range n).all fun k => k == i || !leL (s.getD k []) (s.getD i [])
theorem keepTo_succ (s : List (List Int)) (i m : Nat) : keepTo s i (m + 1) = (keepTo s i m && (m == i || !leL (s.getD m []) (s.getD i []))) := by
 unfold keepTo; rw [List.range_succ, List.all_append]; simp
def earTo (s : List (List Int)) (n : Nat) : List (List Int) := ((List.range n).filter (keepR s)).map fun i => s.getD i []
theorem earTo_succ (s : List (List Int)) (k : Nat) : earTo s (k + 1) = earTo s k ++ if keepR s k = true then [s.getD k []] else [] := by
 unfold earTo; rw [List.range_succ, List.filter_append, List.map_append]
 congr 1
 by_cases h : keepR s k = true
 ·simp [h]
 ·simp [h]
theorem earTo_len (s : List (List Int)) (k : Nat) : (earTo s k).length ≤ k := by
 unfold earTo; rw [List.length_map]
 exact Nat.le_trans (List.length_filter_le _ _) (by simp)
end Mdl
set_option maxRecDepth 4000 in
set_option maxHeartbeats 4000000 in
theorem searliest_any (A : Option Addr) (cA wd : Nat) (l : List (List Int)) (w : World) (hl : kLI.C w A l.length l) (hall : ∀ x ∈ l, x.length = wd) (hwd : wd ≤ 1000) (hn : l.length ≤ 900000000000) :
  Calls Tryz.prog 73 #[.slice A l.length cA] w fun e w' => ∃ v, e = .returned v ∧ kLI.R 36 w' w.heap.size (fun _ => True) v (earliestP l) ∧ Below w.heap.size w w' := by
 have HL := Aside0.mk hl
 have HALL := Lib.hid hall
 have HWD := Lib.hid hwd
 clear hl hall hwd
 go_enter Tryz.func73, Tryz.ntmps73
 go_wp2_with fail
 refine (ssorted_any A cA wd l w HL.out HALL.out HWD.out hn).mono ?_
 rintro e w1 ⟨z, rfl, hR, hb⟩
 have HZ := Lib.hid (show ∀ z ∈ sortedP l, z.length = wd from fun z hz => HALL.out z (by rcases sortedP_mem l [] z hz with h | h; exact h; cases h))
 have hsl : (sortedP l).length ≤ 900000000000 := by have := sortedP_len l []; simp at this; unfold sortedP; omega
 have HG := Lib.hid (show earTo (sortedP l) (sortedP l).length = earliestP l from rfl)
 generalize sortedP l = s at *
 obtain ⟨sA0, sC0, rfl⟩ := Kd.R_slice hR
 have HS := Aside0.mk hR
 have HB1 := Aside0.mk hb
 clear hR hb HL HALL
 go_wp2_with fail
 have HO := Aside0.mk (NewLI.start (w0 := w) HB1.out)
 generalize w1.alloc (.cells #[] 36) = wz at *
 go_loopw [3, 4] (fun o i wr => ∃ k : Nat, i = .int .i64 k ∧ k ≤ s.length ∧ Aside0 (NewLI w w1 wr o (earTo s k))) (fun _ i _ => s.length - (intOf i).toNat)
 case atStart => exact ⟨0, rfl, Nat.zero_le _, HO⟩
 case round =>
  clear HO
  obtain ⟨k, rfl, hk, hX⟩ := hrel
  by_cases hlt : k < s.length
  ·have hkE : (k : Int) < s.length := by omega
   have hk0 : (0 : Int) ≤ k := by omega
   obtain ⟨g, sA, sC, rfl, c1, _, d1⟩ := li_at HS.out hlt
   have HC1 := Aside0.mk c1
   have HD1 := Aside0.mk d1
   clear c1 d1
   have HXL := Lib.hid (HZ.out _ (List.getElem_mem hlt))
   have HEX := Lib.hid (show s.getD k [] = s[k] by rw [List.getD_eq_getElem?_getD, List.getElem?_eq_getElem hlt]; rfl)
   generalize s[k] = x at *
   have HES := Lib.hid (earTo_succ s k)
   have HEL := Lib.hid (earTo_len s k)
   obtain ⟨oA, oC, hoe⟩ := NewLI.slice hX.out
   generalize hon : (earTo s k).length = on at *
   have HON := Lib.hid hon
   clear hon
   subst hoe
   go_wp2_with fail
   generalize wr = wo at *
   go_loopw [5, 6] (fun d j wx => ∃ (m : Nat) (b : Bool), d = .bool b ∧ j = .int .i64 m ∧ m ≤ s.length ∧ Aside0 (Below wo.heap.size wo wx) ∧ Hid (keepTo s k m = b)) (fun _ j _ => s.length - (intOf j).toNat)
   case atStart => exact ⟨0, true, rfl, rfl, Nat.zero_le _, ⟨Below.refl _ _⟩, Lib.hid rfl⟩
   case round =>
    obtain ⟨m, b, rfl, rfl, hm, hY, HE⟩ := hrel
    by_cases hmt : m < s.length
    ·have hmE : (m : Int) < s.length := by omega
     have hm0 : (0 : Int) ≤ m := by omega
     obtain ⟨g2, yA, yC, hge, c2, _, d2⟩ := li_at HS.out hmt
     injection hge with hge
     injection hge with hge
     subst hge
     have c1 := pw_cell_below (below_then hX.out.below hX.out.below.size hY.out) HC1.out
     have c2 := pw_cell_below (below_then hX.out.below hX.out.below.size hY.out) c2
     have HD2 := Aside0.mk d2
     clear d2
     have HYL := Lib.hid (HZ.out _ (List.getElem_mem hmt))
     have HK := Lib.hid (show keepTo s k (m + 1) = (keepTo s k m && (m == k || !leL s[m] x)) by rw [keepTo_succ, HEX.out, show s.getD m [] = s[m] by rw [List.getD_eq_getElem?_getD, List.getElem?_eq_getElem hmt]; rfl])
     generalize s[m] = y at *
     cases b with
     | false =>
      go_upto_region 10 with fail
      refine start_ (n := 19) (S := fun V => V.cell? ⟨g, m, none⟩ = some (.slice yA y.length yC) ∧ V.cell? ⟨g, k, none⟩ = some (.slice sA x.length sC)) (ds := []) (bs 19 0) (by kernel_rfl) rfl (by kernel_rfl) ⟨c2, c1⟩ (fun hHeld => ?_)
      have Q1 := Aside0.mk (below_then hY.out hY.out.size (below_drew1 (Below.refl _ _)))
      clear c1 c2
      generalize wr.drew = v1 at *
      refine pu 0 22 (bs 19 1) ?_
      refine pu 1 23 (bs 19 3) ?_
      refine uf0 2 24 (bs 19 7) ?_
      refine uf0 3 25 (bs 19 15) ?_
      refine uf0 4 26 (bs 19 31) ?_
      refine uf0 5 27 (bs 19 63) ?_
      refine uf0 6 28 (bs 19 127) ?_
      refine uf0 7 29 (bs 19 255) ?_
      refine uf0 8 30 (bs 19 511) ?_
      refine uf0 9 31 (bs 19 1023) ?_
      refine uf0 10 32 (bs 19 2047) ?_
      refine uf0 11 33 (bs 19 4095) ?_
      refine uf0 12 34 (bs 19 8191) ?_
      refine uf0 13 35 (bs 19 16383) ?_
      refine uf0 14 36 (bs 19 32767) ?_
      refine uf0 15 37 (bs 19 65535) ?_
      refine uf0 16 38 (bs 19 131071) ?_
      refine pu 17 39 (bs 19 262143) ?_
      refine pu 18 5 (bs 19 524287) ?_
      refine dn0 ?_
      clear hHeld
      go_wp2_with fail
      exact ⟨⟨m + 1, _, rfl, by go_num, by omega, Q1, Lib.hid (by rw [HK.out, HE.out]; rfl)⟩, by simp [intOf]; omega⟩
     | true =>
      go_upto_region 10 with fail
      refine start_ (n := 19) (S := fun V => V.cell? ⟨g, m, none⟩ = some (.slice yA y.length yC) ∧ V.cell? ⟨g, k, none⟩ = some (.slice sA x.length sC)) (ds := []) (bs 19 0) (by kernel_rfl) rfl (by kernel_rfl) ⟨c2, c1⟩ (fun hHeld => ?_)
      have Q2 := Aside0.mk (below_then hY.out hY.out.size (below_drew1 (Below.refl _ _)))
      clear c1 c2
      generalize wr.drew = v2 at *
      refine pu 0 22 (bs 19 1) ?_
      refine pu 1 23 (bs 19 3) ?_
      refine pu 2 24 (bs 19 7) ?_
      refine pu 3 25 (bs 19 15) ?_
      by_cases hmk : m = k
      ·have hq : ((m : Int) == (k : Int)) = true := by simp [hmk]
       have HMK := Lib.hid hmk
       clear hmk
       refine pu 4 26 (bs 19 31) ?_
       refine pu 5 27 (bs 19 63) ?_
       refine uf0 6 28 (bs 19 127) ?_
       refine uf0 7 29 (bs 19 255) ?_
       refine uf0 8 30 (bs 19 511) ?_
       refine uf0 9 31 (bs 19 1023) ?_
       refine uf0 10 32 (bs 19 2047) ?_
       refine uf0 11 33 (bs 19 4095) ?_
       refine uf0 12 34 (bs 19 8191) ?_
       refine uf0 13 35 (bs 19 16383) ?_
       refine uf0 14 36 (bs 19 32767) ?_
       refine uf0 15 37 (bs 19 65535) ?_
       refine pu 16 38 (bs 19 131071) ?_
       refine pu 17 39 (bs 19 262143) ?_
       refine pu 18 5 (bs 19 524287) ?_
       refine dn0 ?_
       clear hHeld
       go_wp2_with fail
       exact ⟨⟨m + 1, _, rfl, by go_num, by omega, Q2, Lib.hid (by rw [HK.out, HE.out, HMK.out]; simp)⟩, by simp [intOf]; omega⟩
      ·skip
       have hq : ((m : Int) == (k : Int)) = false := by simp; omega
       have HMK := Lib.hid (show (m == k) = false by simp; omega)
       clear hmk
       refine pu 4 26 (bs 19 31) ?_
       refine pu 5 27 (bs 19 63) ?_
       refine pu 6 28 (bs 19 127) ?_
       refine pu 7 29 (bs 19 255) ?_
       refine pu 8 30 (bs 19 511) ?_
       refine tk2 9 31 (bs 19 1023) hHeld ?_
       refine pu 10 32 (bs 19 2047) ?_
       refine pu 11 33 (bs 19 4095) ?_
       refine pu 12 34 (bs 19 8191) ?_
       refine tk2 13 35 (bs 19 16383) hHeld ?_
       have HC := Lib.hid (le_any yA sA yC sC y x v2 (Kd.R_reads' (Kd.R_below HD2.out (below_then hX.out.below hX.out.below.size Q2.out))).2.2 (Kd.R_reads' (Kd.R_below HD1.out (below_then hX.out.below hX.out.below.size Q2.out))).2.2 (by rw [HYL.out, HXL.out]))
       refine on0 14 36 (bs 19 32767) fun K hK => ?_
       refine gs0 Tryz.func97 #[.slice yA y.length yC, .slice sA x.length sC] ?_
       refine HC.out.mono ?_
       rintro e v3 ⟨rfl, hb⟩
       clear HC
       have Q3 := Aside0.mk (below_then Q2.out Q2.out.size hb)
       clear Q2
       refine ⟨_, rfl, hK.out _ _ ⟨pw_cell_below hb hHeld.1, pw_cell_below hb hHeld.2⟩ (fun hHeld => ?_)⟩
       clear hb
       clear hK K
       refine nm0 (some 36) ?_
       refine pu 15 37 (bs 19 65535) ?_
       refine pu 16 38 (bs 19 131071) ?_
       refine pu 17 39 (bs 19 262143) ?_
       refine pu 18 5 (bs 19 524287) ?_
       refine dn0 ?_
       clear hHeld
       go_wp2_with fail
       exact ⟨⟨m + 1, _, rfl, by go_num, by omega, Q3, Lib.hid (by rw [HK.out, HE.out, HMK.out]; simp)⟩, by simp [intOf]; omega⟩
    ·have hmE : ¬ ((m : Int) < s.length) := by omega
     have HKR := Lib.hid (show keepR s k = b by rw [← HE.out, show m = s.length by omega]; rfl)
     clear HE
     cases b with
     | false =>
      have HR := Aside0.mk (show NewLI w w1 wr (.slice oA on oC) (earTo s (k + 1)) from by rw [HES.out, HKR.out]; simpa using hX.out.up hY.out)
      go_wp2_with fail
      exact ⟨⟨k + 1, by go_num, by omega, HR⟩, by simp [intOf]; omega⟩
     | true =>
      have c1 := pw_cell_below (below_then hX.out.below hX.out.below.size hY.out) HC1.out
      have H8 := Aside0.mk (hX.out.up hY.out)
      go_wp2_with (at_builtin; go_must (refine NewLI.app H8.out (Kd.R_below HD1.out H8.out.below) (by rw [HON.out]; have := HEL.out; omega) (.tmp 41) (.tmp 46) rfl rfl rfl rfl ?_; intro u9 w9 hN9; have H9 := Aside0.mk hN9; clear hN9))
      have HR := Aside0.mk (show NewLI w w1 w9 u9 (earTo s (k + 1)) from by rw [HES.out, HKR.out, HEX.out]; simpa using H9.out)
      exact ⟨⟨k + 1, by go_num, by omega, HR⟩, by simp [intOf]; omega⟩
  ·have hkE : ¬ ((k : Int) < s.length) := by omega
   have HR := Aside0.mk (show NewLI w w1 wr u3 (earliestP l) from by rw [← HG.out]; have h := hX.out; rwa [show k = s.length by omega] at h)
   obtain ⟨oA, oC, hoe⟩ := NewLI.slice HR.out
   subst hoe
   clear hX
   go_wp2_with fail
   go_ret
   exact ⟨_, rfl, HR.out.rows, HR.out.down⟩
end Go.Proofs.YtbkfnmgkcgnifaaGreat
namespace Go.Proofs.YtbkfnmgkcgnifaaGreat
open Go.RowKit Go.Shelf Go.Proofs.YtbkfnmgkcgnifaaGreatW.PrintWords Go.Proofs.YtbkfnmgkcgnifaaGreatW.PrintLast Mdl
theorem sq_le {n : Nat} (h : n ≤ 8) : n * n ≤ 64 := Nat.mul_le_mul h h
theorem bool_put {W : World} {g n cap k base : Nat} {xs : List Bool} (HO : Kd.bool.R 4 W base (fun _ => True) (.slice (some ⟨g, 0, none⟩) n cap) xs) (hk : k < n) (b : Bool) :
  W.cell? ⟨g, k, none⟩ = some (.bool (xs.getD k false)) ∧ W.frozen? ⟨g, k, none⟩ = false ∧ Kd.bool.R 4 (W.setCell ⟨g, k, none⟩ (.bool b)) base (fun _ => True) (.slice (some ⟨g, 0, none⟩) n cap) (xs.set k b) ∧ W.grownBy (W.setCell ⟨g, k, none⟩ (.bool b)) (some g) := by
 obtain ⟨c, hcl, hM, hcc, hfr⟩ := Kd.R_elem HO false (k : Int) (by omega) (by omega)
 rw [Int.toNat_natCast] at hM hcc hfr
 have hM : c = [.bool (xs.getD k false)] := hM
 subst hM
 have hs := Kd.R_seg HO (k : Int) (by omega) (by omega) (j := 0) (seg := [.bool b]) (x' := b) (okp := fun _ => False) hcl (by rw [Int.toNat_natCast]; exact hcc) (Nat.le_refl 1) rfl (fun _ h => h.elim)
 rw [Int.toNat_natCast, show Kd.bool.sz = 1 from rfl, Nat.mul_one, Nat.add_zero] at hs
 have h1 := hcc 0 _ rfl
 have h2 := hfr 0
 rw [show Kd.bool.sz = 1 from rfl, Nat.mul_one, Nat.add_zero] at h1 h2
 exact ⟨h1, h2, hs⟩
theorem idx_w {n f t : Nat} (hn : n ≤ 8) (hf : f < n) (ht : t < n) : ∃ x y : Nat, wrap64 ((f : Int) * (n : Int)) = (x : Int) ∧ wrap64 ((x : Int) + (t : Int)) = (y : Int) ∧ y = f * n + t ∧ y < n * n := by
 have h1 := idx_lt hf ht
 have h2 := sq_le hn
 have h3 : (f : Int) * (n : Int) = ((f * n : Nat) : Int) := by simp
 refine ⟨f * n, f * n + t, ?_, ?_, rfl, h1⟩
 ·rw [h3, w64_eq]
  generalize f * n = q at *
  generalize n * n = r at *
  exact w64_in (by omega) (by omega)
 ·rw [w64_eq]
  generalize f * n = q at *
  generalize n * n = r at *
  rw [w64_in (by omega) (by omega)]; omega
theorem way_ne {W : World} {g n cap base : Nat} {xs : List Bool} (HO : Kd.bool.R 4 W base (fun _ => True) (.slice (some ⟨g, 0, none⟩) n cap) xs) (h : W.heap.size = g) : False := by
 obtain ⟨inner, ho⟩ := Kd.R_own HO
 have := own_lt ho g (by simp [Value.ownBlock])
 omega
set_option maxRecDepth 8000 in
set_option maxHeartbeats 8000000 in
theorem scircles_any (n : Nat) (Wd : Int) (E : List Ed) (eA : Option Addr) (eC : Nat) (w : World) (hE : kE.C w eA E.length E) (hn1 : 1 ≤ n) (hn8 : n ≤ 8) (hW3 : Wd ≤ 3) (hok : ∀ e ∈ E, edgeOk n Wd e = true) (hnd : NodesIn n E) :
  Calls Tryz.prog 71 #[.agg #[.int .i64 (n : Int), .int .i64 Wd, .slice eA E.length eC]] w fun e w' => e = .returned (.bool (circlesP n E)) ∧ Below w.heap.size w w' := by
 have HE := Aside0.mk hE
 have HOK := Lib.hid (And.intro hok hnd)
 have hEm := Kd.C_max hE
 clear hE hok hnd
 go_enter Tryz.func71, Tryz.ntmps71
 go_upto_region 1 with fail
 have hzb := below_new w (.cells #[.int .i64 (n : Int), .int .i64 Wd, .slice eA E.length eC] 24)
 have hgb := heap_alloc_new w (.cells #[.int .i64 (n : Int), .int .i64 Wd, .slice eA E.length eC] 24)
 have g0 : (w.alloc (.cells #[.int .i64 (n : Int), .int .i64 Wd, .slice eA E.length eC] 24)).cell? ⟨w.heap.size, 0, none⟩ = some (.int .i64 (n : Int)) := (blk_cell hgb 0).trans rfl
 have g2 : (w.alloc (.cells #[.int .i64 (n : Int), .int .i64 Wd, .slice eA E.length eC] 24)).cell? ⟨w.heap.size, 2, none⟩ = some (.slice eA E.length eC) := (blk_cell hgb 2).trans rfl
 obtain ⟨m, hm⟩ : ∃ m : Nat, m = n * n := ⟨_, rfl⟩
 have hmm : wrap64 ((n : Int) * (n : Int)) = (m : Int) := by rw [w64_eq, w64_in (by have := sq_le hn8; omega) (by have := sq_le hn8; omega), hm]; simp
 have hm64 : m ≤ 64 := by have := sq_le hn8; omega
 have hmp : 0 < m := by rw [hm]; exact Nat.mul_pos hn1 hn1
 have HB1 := Aside0.mk (And.intro hzb hgb)
 generalize w.alloc (.cells #[.int .i64 (n : Int), .int .i64 Wd, .slice eA E.length eC] 24) = w1 at *
 have HMD := Lib.hid hm
 clear hm hzb hgb
 go_wp2_with (at_make; rw [hmm]; go_must (refine Kd.R_make Kd.bool (w0 := w1) w1.heap.size 4 rfl (N := 14) rfl _ _ _ rfl m rfl rfl Tryz.underlying167 _ 1 Tryz.infoBool rfl (by decide) (by decide) false (ok := fun _ => True) (okp := fun _ => False) rfl (fun _ h => h.elim) trivial (by omega) (by omega) (Below.refl w1.heap.size w1) (Nat.le_refl w1.heap.size) ?_; intro v7 w2 hR7 hb7 hg7 hown7; obtain ⟨g, cw, hv7, hgb, -, -⟩ := Kd.R_form hR7 (by simp; omega); rw [Int.toNat_natCast, List.length_replicate] at hv7; subst hv7; rw [Int.toNat_natCast] at hR7; have HW := Aside0.mk (And.intro hR7 hb7); have HGE := Lib.hid hgb; clear hR7 hb7 hg7 hown7 hgb))
 clear hmm
 go_loopw [4] (fun i wr => ∃ q : Nat, i = .int .i64 q ∧ q ≤ n ∧ Aside0 (Kd.bool.R 4 wr w1.heap.size (fun _ => True) (.slice (some ⟨g, 0, none⟩) m cw) (wayR n E q) ∧ Below w1.heap.size w1 wr)) (fun i _ => n - (intOf i).toNat)
 case atStart => exact ⟨0, rfl, Nat.zero_le _, ⟨by rw [wayR, ← HMD.out]; exact HW.out.1, HW.out.2⟩⟩
 case round =>
  clear HW
  obtain ⟨q, rfl, hq, hX⟩ := hrel
  by_cases hqt : q < n
  ·have hqE : (q : Int) < n := by omega
   have HG := Lib.hid (And.intro g0 g2)
   have g0 := pw_cell_below hX.out.2 HG.out.1
   have HWR := Lib.hid (show wayR n E (q + 1) = E.foldl (wayS n) (wayR n E q) from rfl)
   generalize wayR n E q = way at *
   go_wp2_with fail
   generalize wr = wo at *
   go_loopw [5] (fun i wr => ∃ j : Nat, i = .int .i64 j ∧ j ≤ E.length ∧ Aside0 (Kd.bool.R 4 wr w1.heap.size (fun _ => True) (.slice (some ⟨g, 0, none⟩) m cw) ((E.take j).foldl (wayS n) way) ∧ Below w1.heap.size w1 wr)) (fun i _ => E.length - (intOf i).toNat)
   case atStart => exact ⟨0, rfl, Nat.zero_le _, ⟨by simpa using hX.out.1, hX.out.2⟩⟩
   case round =>
    obtain ⟨j, rfl, hj, hY⟩ := hrel
    clear hX g0
    have g0 := pw_cell_below hY.out.2 HG.out.1
    have g2 := pw_cell_below hY.out.2 HG.out.2
    by_cases hjt : j < E.length
    ·have hjE : (j : Int) < E.length := by omega
     have hj0 : (0 : Int) ≤ j := by omega
     obtain ⟨ad, sA, sC, rfl, he0, he1, he2, heL, heC⟩ := at_edge (Kd.C_below HE.out (below_then HB1.out.1 HB1.out.1.size hY.out.2)) hjt
     have HEJ := Lib.hid (show (E.take (j + 1)).foldl (wayS n) way = wayS n ((E.take j).foldl (wayS n) way) E[j] from foldl_take_succ (wayS n) way E hjt)
     have HJ := Lib.hid (And.intro (HOK.out.1 _ (List.getElem_mem hjt)) (HOK.out.2 _ (List.getElem_mem hjt)))
     generalize E[j] = ee at *
     generalize (E.take j).foldl (wayS n) way = wy at *
     obtain ⟨a, b, add⟩ := ee
     obtain ⟨f, rfl⟩ : ∃ f : Nat, a = f := ⟨a.toNat, (Int.toNat_of_nonneg HJ.out.2.1.1).symm⟩
     obtain ⟨t, rfl⟩ : ∃ t : Nat, b = t := ⟨b.toNat, (Int.toNat_of_nonneg HJ.out.2.2.1).symm⟩
     have hfn : f < n := by have := HJ.out.2.1.2; simpa using this
     have htn : t < n := by have := HJ.out.2.2.2; simpa using this
     have HEG := Lib.hid (edge_list HJ.out.1)
     have HXC := Aside0.mk heL
     clear heC heL
     simp only at he0 he1 he2 HEG HXC
     go_upto_region 9 with fail
     obtain ⟨be, hbe⟩ : ∃ be, be = wr.heap.size := ⟨_, rfl⟩
     have HX := Aside0.mk (show Kd.bool.R 4 (wr.alloc (.cells #[.int .i64 (f : Int), .int .i64 (t : Int), .slice sA add.length sC] 129)) w1.heap.size (fun _ => True) (.slice (some ⟨g, 0, none⟩) m cw) wy ∧ Below w1.heap.size w1 (wr.alloc (.cells #[.int .i64 (f : Int), .int .i64 (t : Int), .slice sA add.length sC] 129)) ∧ (wr.alloc (.cells #[.int .i64 (f : Int), .int .i64 (t : Int), .slice sA add.length sC] 129)).heap[be]? = some (.cells #[.int .i64 (f : Int), .int .i64 (t : Int), .slice sA add.length sC] 129 (0, 0)) ∧ be ≠ g ∧ kI.C (wr.alloc (.cells #[.int .i64 (f : Int), .int .i64 (t : Int), .slice sA add.length sC] 129)) sA add.length add from ⟨Kd.R_below hY.out.1 (below_new wr _), below_then hY.out.2 hY.out.2.size (below_new wr _), by rw [hbe]; exact heap_alloc_new wr _, by rw [hbe]; exact fun he => way_ne hY.out.1 he, Kd.C_below HXC.out (below_new wr _)⟩)
     rw [← hbe]
     generalize wr.alloc (.cells #[.int .i64 (f : Int), .int .i64 (t : Int), .slice sA add.length sC] 129) = w3 at *
     clear hbe hY he0 he1 he2 HXC g0 g2
     have g0 := pw_cell_below HX.out.2.1 HG.out.1
     have e0 : w3.cell? ⟨be, 0, none⟩ = some (.int .i64 (f : Int)) := (blk_cell HX.out.2.2.1 0).trans rfl
     have e1 : w3.cell? ⟨be, 1, none⟩ = some (.int .i64 (t : Int)) := (blk_cell HX.out.2.2.1 1).trans rfl
     have e2 : w3.cell? ⟨be, 2, none⟩ = some (.slice sA add.length sC) := (blk_cell HX.out.2.2.1 2).trans rfl
     go_wp2_with fail
     refine (sum_any sA sC add _ HX.out.2.2.2.2 (fun x hx => by have := HEG.out.2 x hx; omega) (by have := HEG.out.1; omega)).mono ?_
     rintro e w' ⟨rfl, rfl⟩
     by_cases hs : 0 < add.sum
     ·have HST := Lib.hid (show wayS n wy ((f : Int), (t : Int), add) = wy from by rw [wayS, if_pos hs])
      have HR := Aside0.mk (And.intro HX.out.1 HX.out.2.1)
      clear HX
      go_wp2_with fail
      exact ⟨⟨j + 1, by go_num, by omega, ⟨by rw [HEJ.out, HST.out]; exact HR.out.1, HR.out.2⟩⟩, by simp [intOf]; omega⟩
     ·have HST := Lib.hid (show wayS n wy ((f : Int), (t : Int), add) = (List.range n).foldl (colS n f t) (wy.set (f * n + t) true) from by rw [wayS, if_neg hs]; simp)
      have hsd : decide (0 < add.sum) = false := decide_eq_false hs
      skip
      obtain ⟨x, y, hw1, hw2, hy, hyn⟩ := idx_w hn8 hfn htn
      have hy2 : y < m := by rw [HMD.out]; exact hyn
      have hym : (y : Int) < (m : Int) := Int.ofNat_lt.2 hy2
      have hy0 : (0 : Int) ≤ (y : Int) := Int.natCast_nonneg y
      have HY := Lib.hid hy
      clear hy hyn
      obtain ⟨z, zf, hR, hg⟩ := bool_put HX.out.1 (k := y) hy2 true
      have HP := Aside0.mk (And.intro hR hg)
      clear hR hg
      go_upto_region 11 with fail
      have HX2 := Aside0.mk (show Kd.bool.R 4 (w3.setCell ⟨g, y, none⟩ (.bool true)) w1.heap.size (fun _ => True) (.slice (some ⟨g, 0, none⟩) m cw) (wy.set y true) ∧ Below w1.heap.size w1 (w3.setCell ⟨g, y, none⟩ (.bool true)) ∧ (w3.setCell ⟨g, y, none⟩ (.bool true)).heap[be]? = some (.cells #[.int .i64 (f : Int), .int .i64 (t : Int), .slice sA add.length sC] 129 (0, 0)) from ⟨HP.out.1, HX.out.2.1.setCell (p := ⟨g, y, none⟩) HGE.out _, (HP.out.2.block be (blk_lt HX.out.2.2.1) (fun he => HX.out.2.2.2.1 (by injection he))).trans HX.out.2.2.1⟩)
      have HBG := Lib.hid HX.out.2.2.2.1
      clear HX HP z zf g0 e0 e1 e2 hw1 hw2 hym hy0 hy2
      generalize w3.setCell ⟨g, y, none⟩ (.bool true) = w4 at *
      have HST2 := Lib.hid (show wayS n wy ((f : Int), (t : Int), add) = (List.range n).foldl (colS n f t) (wy.set y true) from by rw [HY.out]; exact HST.out)
      clear HST
      generalize wy.set y true = wz at *
      go_wp2_with fail
      go_loopw [7] (fun i wr => ∃ k : Nat, i = .int .i64 k ∧ k ≤ n ∧ Aside0 (Kd.bool.R 4 wr w1.heap.size (fun _ => True) (.slice (some ⟨g, 0, none⟩) m cw) ((List.range k).foldl (colS n f t) wz) ∧ Below w1.heap.size w1 wr ∧ wr.heap[be]? = some (.cells #[.int .i64 (f : Int), .int .i64 (t : Int), .slice sA add.length sC] 129 (0, 0)))) (fun i _ => n - (intOf i).toNat)
      case atStart => exact ⟨0, rfl, Nat.zero_le _, HX2⟩
      case round =>
       clear HX2
       obtain ⟨k, rfl, hk, hV⟩ := hrel
       have g0 := pw_cell_below hV.out.2.1 HG.out.1
       have e0 : wr.cell? ⟨be, 0, none⟩ = some (.int .i64 (f : Int)) := (blk_cell hV.out.2.2 0).trans rfl
       have e1 : wr.cell? ⟨be, 1, none⟩ = some (.int .i64 (t : Int)) := (blk_cell hV.out.2.2 1).trans rfl
       have e2 : wr.cell? ⟨be, 2, none⟩ = some (.slice sA add.length sC) := (blk_cell hV.out.2.2 2).trans rfl
       clear e2
       by_cases hkt : k < n
       ·have hkE : (k : Int) < n := by omega
        have HC := Lib.hid (show (List.range (k + 1)).foldl (colS n f t) wz = colS n f t ((List.range k).foldl (colS n f t) wz) k from by rw [List.range_succ, List.foldl_append]; rfl)
        generalize (List.range k).foldl (colS n f t) wz = wc at *
        obtain ⟨x, y, hw1, hw2, hy, hyn⟩ := idx_w hn8 hkt htn
        obtain ⟨x', v, hv1, hv2, hv, hvn⟩ := idx_w hn8 hkt hfn
        have hxx : x' = x := Int.ofNat.inj (hv1.symm.trans hw1)
        subst hxx
        have HW1 := Lib.hid hw1
        have HW2 := Lib.hid hw2
        have HW3 := Lib.hid hv2
        have hy2 : y < m := by rw [HMD.out]; exact hyn
        have hv3 : v < m := by rw [HMD.out]; exact hvn
        have hym : (y : Int) < (m : Int) := Int.ofNat_lt.2 hy2
        have hy0 : (0 : Int) ≤ (y : Int) := Int.natCast_nonneg y
        have hvm : (v : Int) < (m : Int) := Int.ofNat_lt.2 hv3
        have hv0 : (0 : Int) ≤ (v : Int) := Int.natCast_nonneg v
        have HCS := Lib.hid (show colS n f t wc k = wc.set y (wc.getD y false || wc.getD v false) from by rw [colS, hy, hv])
        clear hy hv hyn hvn hw1 hw2 hv1 hv2
        obtain ⟨z1, zf, -, -⟩ := bool_put hV.out.1 (k := y) hy2 true
        obtain ⟨z2, -, -, -⟩ := bool_put hV.out.1 (k := v) hv3 true
        obtain ⟨aa, haa⟩ : ∃ aa, wc.getD y false = aa := ⟨_, rfl⟩
        obtain ⟨cc, hcc⟩ : ∃ cc, wc.getD v false = cc := ⟨_, rfl⟩
        rw [haa] at z1
        rw [hcc] at z2
        have HCS := Lib.hid (show colS n f t wc k = wc.set y (aa || cc) from by rw [HCS.out, haa, hcc])
        clear haa hcc
        go_upto_region 14 with fail
        refine start_ (n := 32) (S := fun V => V.cell? ⟨w.heap.size, 0, none⟩ = some (.int .i64 (n : Int)) ∧ V.cell? ⟨be, 0, none⟩ = some (.int .i64 (f : Int)) ∧ V.cell? ⟨be, 1, none⟩ = some (.int .i64 (t : Int)) ∧ V.cell? ⟨g, y, none⟩ = some (.bool aa) ∧ V.cell? ⟨g, v, none⟩ = some (.bool cc)) (ds := [31]) (bs 32 0) (by kernel_rfl) rfl (by kernel_rfl) ⟨g0, e0, e1, z1, z2⟩ (fun hHeld => ?_)
        have HV := Aside0.mk (show Kd.bool.R 4 wr.drew w1.heap.size (fun _ => True) (.slice (some ⟨g, 0, none⟩) m cw) wc ∧ Below w1.heap.size w1 wr.drew ∧ wr.drew.heap[be]? = some (.cells #[.int .i64 (f : Int), .int .i64 (t : Int), .slice sA add.length sC] 129 (0, 0)) from ⟨Kd.R_below hV.out.1 (below_drew1 (Below.refl _ _)), below_drew1 hV.out.2.1, blk_below hV.out.2.2 (below_drew1 (Below.refl _ _))⟩)
        clear z1 z2 zf g0 e0 e1 hV
        generalize wr.drew = wd at *
        have HPUT := fun b => Lib.hid (bool_put HV.out.1 (k := y) hy2 b)
        refine pu 0 53 (bs 32 1) ?_
        refine pu 1 54 (bs 32 3) ?_
        refine pu 2 55 (bs 32 7) ?_
        refine tk5 3 56 (bs 32 15) hHeld ?_
        refine pu 4 57 (bs 32 31) ?_
        simp only [i64_w]
        rw [HW1.out]
        refine pu 5 58 (bs 32 63) ?_
        refine tk5 6 59 (bs 32 127) hHeld ?_
        refine pu 7 60 (bs 32 255) ?_
        simp only [i64_w]
        rw [HW2.out]
        refine pu 8 61 (bs 32 511) ?_
        refine pu 9 62 (bs 32 1023) ?_
        refine pu 10 63 (bs 32 2047) ?_
        refine tk5 11 64 (bs 32 4095) hHeld ?_
        refine pu 12 65 (bs 32 8191) ?_
        simp only [i64_w]
        rw [HW1.out]
        refine pu 13 66 (bs 32 16383) ?_
        refine tk5 14 67 (bs 32 32767) hHeld ?_
        refine pu 15 68 (bs 32 65535) ?_
        simp only [i64_w]
        rw [HW2.out]
        refine pu 16 69 (bs 32 131071) ?_
        refine tk5 17 70 (bs 32 262143) hHeld ?_
        refine pu 18 71 (bs 32 524287) ?_
        cases aa with
        | false =>
         refine pu 19 72 (bs 32 1048575) ?_
         refine pu 20 73 (bs 32 2097151) ?_
         refine pu 21 74 (bs 32 4194303) ?_
         refine tk5 22 75 (bs 32 8388607) hHeld ?_
         refine pu 23 76 (bs 32 16777215) ?_
         simp only [i64_w]
         rw [HW1.out]
         refine pu 24 77 (bs 32 33554431) ?_
         refine tk5 25 78 (bs 32 67108863) hHeld ?_
         refine pu 26 79 (bs 32 134217727) ?_
         simp only [i64_w]
         rw [HW3.out]
         refine pu 27 80 (bs 32 268435455) ?_
         refine tk5 28 81 (bs 32 536870911) hHeld ?_
         refine pu 29 82 (bs 32 1073741823) ?_
         refine pu 30 83 (bs 32 2147483647) ?_
         obtain ⟨z1, zf, hR, hg⟩ := (HPUT (cc)).out
         have HN := Aside0.mk (And.intro hR hg)
         clear hR hg
         refine la0 31 (bs 32 4294967295) (N := none) fun K hK => ?_
         refine sk0 ?_
         refine hK.out _ _ ?_
         clear hK K hHeld
         refine dn0 ?_
         have HR := Aside0.mk (show Kd.bool.R 4 (wd.setCell ⟨g, y, none⟩ (.bool (cc))) w1.heap.size (fun _ => True) (.slice (some ⟨g, 0, none⟩) m cw) ((List.range (k + 1)).foldl (colS n f t) wz) ∧ Below w1.heap.size w1 (wd.setCell ⟨g, y, none⟩ (.bool (cc))) ∧ (wd.setCell ⟨g, y, none⟩ (.bool (cc))).heap[be]? = some (.cells #[.int .i64 (f : Int), .int .i64 (t : Int), .slice sA add.length sC] 129 (0, 0)) from ⟨by rw [HC.out, HCS.out]; exact HN.out.1, HV.out.2.1.setCell (p := ⟨g, y, none⟩) HGE.out _, (HN.out.2.block be (blk_lt HV.out.2.2) (fun he => HBG.out (by injection he))).trans HV.out.2.2⟩)
         clear z1 zf HN
         go_wp2_with fail
         exact ⟨⟨k + 1, by go_num, by omega, HR⟩, by simp [intOf]; omega⟩
        | true =>
         refine uf0 19 72 (bs 32 1048575) ?_
         refine uf0 20 73 (bs 32 2097151) ?_
         refine uf0 21 74 (bs 32 4194303) ?_
         refine uf0 22 75 (bs 32 8388607) ?_
         refine uf0 23 76 (bs 32 16777215) ?_
         refine uf0 24 77 (bs 32 33554431) ?_
         refine uf0 25 78 (bs 32 67108863) ?_
         refine uf0 26 79 (bs 32 134217727) ?_
         refine uf0 27 80 (bs 32 268435455) ?_
         refine uf0 28 81 (bs 32 536870911) ?_
         refine pu 29 82 (bs 32 1073741823) ?_
         refine pu 30 83 (bs 32 2147483647) ?_
         obtain ⟨z1, zf, hR, hg⟩ := (HPUT (true)).out
         have HN := Aside0.mk (And.intro hR hg)
         clear hR hg
         refine la0 31 (bs 32 4294967295) (N := none) fun K hK => ?_
         refine sk0 ?_
         refine hK.out _ _ ?_
         clear hK K hHeld
         refine dn0 ?_
         have HR := Aside0.mk (show Kd.bool.R 4 (wd.setCell ⟨g, y, none⟩ (.bool (true))) w1.heap.size (fun _ => True) (.slice (some ⟨g, 0, none⟩) m cw) ((List.range (k + 1)).foldl (colS n f t) wz) ∧ Below w1.heap.size w1 (wd.setCell ⟨g, y, none⟩ (.bool (true))) ∧ (wd.setCell ⟨g, y, none⟩ (.bool (true))).heap[be]? = some (.cells #[.int .i64 (f : Int), .int .i64 (t : Int), .slice sA add.length sC] 129 (0, 0)) from ⟨by rw [HC.out, HCS.out]; exact HN.out.1, HV.out.2.1.setCell (p := ⟨g, y, none⟩) HGE.out _, (HN.out.2.block be (blk_lt HV.out.2.2) (fun he => HBG.out (by injection he))).trans HV.out.2.2⟩)
         clear z1 zf HN
         go_wp2_with fail
         exact ⟨⟨k + 1, by go_num, by omega, HR⟩, by simp [intOf]; omega⟩
       ·have hkE : ¬ ((k : Int) < n) := by omega
        have HR := Aside0.mk (show Kd.bool.R 4 wr w1.heap.size (fun _ => True) (.slice (some ⟨g, 0, none⟩) m cw) ((E.take (j + 1)).foldl (wayS n) way) ∧ Below w1.heap.size w1 wr from ⟨by rw [HEJ.out, HST2.out]; have h := hV.out.1; rwa [show k = n by omega] at h, hV.out.2.1⟩)
        go_wp2_with fail
        exact ⟨⟨j + 1, by go_num, by omega, HR⟩, by simp [intOf]; omega⟩
    ·have hjE : ¬ ((j : Int) < E.length) := by omega
     have HR := Aside0.mk (show Kd.bool.R 4 wr w1.heap.size (fun _ => True) (.slice (some ⟨g, 0, none⟩) m cw) (wayR n E (q + 1)) ∧ Below w1.heap.size w1 wr from ⟨by rw [HWR.out]; have h := hY.out.1; rwa [List.take_of_length_le (by omega)] at h, hY.out.2⟩)
     go_wp2_with fail
     exact ⟨⟨q + 1, by go_num, by omega, HR⟩, by simp [intOf]; omega⟩
  ·have hqE : ¬ ((q : Int) < n) := by omega
   have HF := Aside0.mk (show Kd.bool.R 4 wr w1.heap.size (fun _ => True) (.slice (some ⟨g, 0, none⟩) m cw) (wayR n E n) ∧ Below w1.heap.size w1 wr from ⟨by have h := hX.out.1; rwa [show q = n by omega] at h, hX.out.2⟩)
   have HCI := Lib.hid (show circlesP n E = (List.range n).any (fun q => (wayR n E n).getD (q * n + q) false) from rfl)
   generalize wayR n E n = fin at *
   have HG := Lib.hid (And.intro g0 g2)
   clear hX g0 g2
   have g0 := pw_cell_below HF.out.2 HG.out.1
   go_wp2_with fail
   generalize wr = wo at *
   go_loopw [8] (fun i wx => ∃ k : Nat, i = .int .i64 k ∧ k ≤ n ∧ wo = wx ∧ Hid ((List.range k).any (fun q => fin.getD (q * n + q) false) = false)) (fun i _ => n - (intOf i).toNat)
   case atStart => exact ⟨0, rfl, Nat.zero_le _, rfl, Lib.hid rfl⟩
   case round =>
    obtain ⟨k, rfl, hk, rfl, hA⟩ := hrel
    by_cases hkt : k < n
    ·have hkE : (k : Int) < n := by omega
     obtain ⟨x, y, hw1, hw2, hy, hyn⟩ := idx_w hn8 hkt hkt
     have hy2 : y < m := by rw [HMD.out]; exact hyn
     have hym : (y : Int) < (m : Int) := Int.ofNat_lt.2 hy2
     have hy0 : (0 : Int) ≤ (y : Int) := Int.natCast_nonneg y
     have HY := Lib.hid hy
     clear hy hyn
     obtain ⟨z1, -, -, -⟩ := bool_put HF.out.1 (k := y) hy2 true
     cases hf : fin.getD y false
     ·rw [hf] at z1
      have HS := Lib.hid (show (List.range (k + 1)).any (fun q => fin.getD (q * n + q) false) = false from by rw [List.range_succ, List.any_append, hA.out]; simp only [List.any_cons, List.any_nil, Bool.or_false, Bool.false_or]; rw [← HY.out]; exact hf)
      clear hf
      go_wp2_with fail
      clear hw1 hw2
      exact ⟨⟨k + 1, by go_num, by omega, trivial, HS⟩, by simp [intOf]; omega⟩
     ·rw [hf] at z1
      have HS := Lib.hid (show circlesP n E = true from by rw [HCI.out]; exact List.any_eq_true.2 ⟨k, List.mem_range.2 hkt, by rw [← HY.out]; exact hf⟩)
      clear hf
      go_wp2_with fail
      go_ret
      exact ⟨by rw [HS.out]; rfl, below_then HB1.out.1 HB1.out.1.size HF.out.2⟩
    ·have hkE : ¬ ((k : Int) < n) := by omega
     have HS := Lib.hid (show circlesP n E = false from by rw [HCI.out]; have h := hA.out; rwa [show k = n by omega] at h)
     go_wp2_with fail
     go_ret
     exact ⟨by rw [HS.out]; rfl, below_then HB1.out.1 HB1.out.1.size HF.out.2⟩
end Go.Proofs.YtbkfnmgkcgnifaaGreat
namespace Go.Proofs.YtbkfnmgkcgnifaaGreat
open Go.RowKit Go.Shelf Go.Proofs.YtbkfnmgkcgnifaaGreatW.PrintWords Go.Proofs.YtbkfnmgkcgnifaaGreatW.PrintLast Mdl
namespace Mdl
theorem head_bad {N Wd : Int} {E : List Ed} (h : ¬ headOk N Wd E.length) : graphB N Wd E = false := by unfold graphB; rw [decide_eq_false h]; rfl
theorem graph_bad {N Wd : Int} {E : List Ed} {e : Ed} (he : e ∈ E) (h : edgeOk N Wd e = false) : graphB N Wd E = false := by
 unfold graphB
 rw [show E.all (edgeOk N Wd) = false from List.all_eq_false.2 ⟨e, he, by rw [h]; simp⟩]; simp
theorem liesB_lt (a N : Int) : liesB a 0 (N - 1) = decide (0 ≤ a ∧ a < N) := by rw [Bool.eq_iff_iff, liesB_iff, decide_eq_true_eq]; omega
theorem edgeOk_lies {N Wd : Int} (e : Ed) (_ : 1 ≤ N) : edgeOk N Wd e = (liesB e.1 0 (N - 1) && (liesB e.2.1 0 (N - 1) && numsB e.2.2 Wd 100)) := by unfold edgeOk; rw [liesB_lt, liesB_lt, numsB_within]
theorem msgOk_lies {N wk : Int} (Wd : Int) (m : Msg) (_ : 1 ≤ N) (_ : 1 ≤ wk) : msgOk N Wd wk m = (liesB m.1.1 0 (N - 1) && (numsB m.1.2 Wd 1048576 && liesB m.2 0 (wk - 1))) := by
 unfold msgOk
 rw [liesB_lt, liesB_lt, numsB_within, show decide (0 ≤ m.2 ∧ m.2 < wk) = (decide (0 ≤ m.2) && decide (m.2 < wk)) from by simp [Bool.decide_and], Bool.and_assoc]
theorem graph_head {N Wd : Int} {E : List Ed} (h : graphB N Wd E = true) : 1 ≤ N ∧ N ≤ 8 ∧ 1 ≤ Wd ∧ Wd ≤ 3 := by
 unfold graphB at h
 rw [Bool.and_eq_true, decide_eq_true_eq] at h
 exact ⟨h.1.1, h.1.2.1, h.1.2.2.1, h.1.2.2.2.1⟩
theorem check_one {p : Plan} (h : graphB p.N p.Wd p.E = false ∨ ¬ restOk p.workers p.start.length ∨ ∃ m ∈ p.start, msgOk p.N p.Wd p.workers m = false) : checkP p = 1 := by
 have hn : plannedP p = none := by
  unfold plannedP
  cases ho : openedP p.N p.Wd p.E with
  | none => rfl
  | some ways =>
   simp only
   rw [if_neg]
   rintro ⟨h1, h2⟩
   rcases h with h | h | ⟨m, hm, h⟩
   ·rw [graph_none.2 h] at ho; cases ho
   ·exact h h1
   ·rw [List.all_eq_true.1 h2 m hm] at h; cases h
 unfold checkP; rw [hn]
theorem check_zero {p : Plan} (hg : graphB p.N p.Wd p.E = true) (hr : restOk p.workers p.start.length) (hm : ∀ m ∈ p.start, msgOk p.N p.Wd p.workers m = true) : checkP p = 0 := by
 have hn : ∃ ways, plannedP p = some ways := by
  unfold plannedP
  cases ho : openedP p.N p.Wd p.E with
  | none => rw [graph_none.1 ho] at hg; cases hg
  | some ways => exact ⟨ways, by simp only; rw [if_pos ⟨hr, List.all_eq_true.2 hm⟩]⟩
 obtain ⟨ways, hn⟩ := hn
 unfold checkP; rw [hn]
end Mdl
set_option maxRecDepth 8000 in
set_option maxHeartbeats 8000000 in
theorem sisGraph_any (N Wd : Int) (E : List Ed) (eA : Option Addr) (eC : Nat) (w : World) (hE : kE.C w eA E.length E) :
  Calls Tryz.prog 34 #[.agg #[.int .i64 N, .int .i64 Wd, .slice eA E.length eC]] w fun e w' => e = .returned (.bool (graphB N Wd E)) ∧ Below w.heap.size w w' := by
 have HE := Aside0.mk hE
 have hEm := Kd.C_max hE
 clear hE
 have hzb := below_new w (.cells #[.int .i64 N, .int .i64 Wd, .slice eA E.length eC] 24)
 have hgb := heap_alloc_new w (.cells #[.int .i64 N, .int .i64 Wd, .slice eA E.length eC] 24)
 cases h1 : liesB N 1 8 with
 | false =>
  have HF := Lib.hid (show graphB N Wd E = false from head_bad (fun hh => by have := (liesB_iff (n := N) (low := 1) (high := 8)).2 ⟨hh.1, hh.2.1⟩; rw [h1] at this; cases this))
  go_enter Tryz.func34, Tryz.ntmps34
  go_upto_region 1 with fail
  have g0 : (w.alloc (.cells #[.int .i64 N, .int .i64 Wd, .slice eA E.length eC] 24)).cell? ⟨w.heap.size, 0, none⟩ = some (.int .i64 N) := (blk_cell hgb 0).trans rfl
  have g1 : (w.alloc (.cells #[.int .i64 N, .int .i64 Wd, .slice eA E.length eC] 24)).cell? ⟨w.heap.size, 1, none⟩ = some (.int .i64 Wd) := (blk_cell hgb 1).trans rfl
  have g2 : (w.alloc (.cells #[.int .i64 N, .int .i64 Wd, .slice eA E.length eC] 24)).cell? ⟨w.heap.size, 2, none⟩ = some (.slice eA E.length eC) := (blk_cell hgb 2).trans rfl
  have HB1 := Aside0.mk (And.intro hzb hgb)
  generalize w.alloc (.cells #[.int .i64 N, .int .i64 Wd, .slice eA E.length eC] 24) = w1 at *
  clear hzb hgb
  go_wp2_with fail
  refine (lies_any N 1 8 w1).mono ?_
  rintro e w' ⟨rfl, rfl⟩
  rw [h1]
  go_wp2_with fail
  go_ret
  exact ⟨by rw [HF.out]; rfl, HB1.out.1⟩
 | true =>
  have HN := Lib.hid (liesB_iff.1 h1)
  cases h2 : liesB Wd 1 3 with
  | false =>
   have HF := Lib.hid (show graphB N Wd E = false from head_bad (fun hh => by have := (liesB_iff (n := Wd) (low := 1) (high := 3)).2 ⟨hh.2.2.1, hh.2.2.2.1⟩; rw [h2] at this; cases this))
   go_enter Tryz.func34, Tryz.ntmps34
   go_upto_region 1 with fail
   have g0 : (w.alloc (.cells #[.int .i64 N, .int .i64 Wd, .slice eA E.length eC] 24)).cell? ⟨w.heap.size, 0, none⟩ = some (.int .i64 N) := (blk_cell hgb 0).trans rfl
   have g1 : (w.alloc (.cells #[.int .i64 N, .int .i64 Wd, .slice eA E.length eC] 24)).cell? ⟨w.heap.size, 1, none⟩ = some (.int .i64 Wd) := (blk_cell hgb 1).trans rfl
   have g2 : (w.alloc (.cells #[.int .i64 N, .int .i64 Wd, .slice eA E.length eC] 24)).cell? ⟨w.heap.size, 2, none⟩ = some (.slice eA E.length eC) := (blk_cell hgb 2).trans rfl
   have HB1 := Aside0.mk (And.intro hzb hgb)
   generalize w.alloc (.cells #[.int .i64 N, .int .i64 Wd, .slice eA E.length eC] 24) = w1 at *
   clear hzb hgb
   go_wp2_with fail
   refine (lies_any N 1 8 w1).mono ?_
   rintro e w' ⟨rfl, rfl⟩
   rw [h1]
   go_wp2_with fail
   refine (lies_any Wd 1 3 w1).mono ?_
   rintro e w' ⟨rfl, rfl⟩
   rw [h2]
   go_wp2_with fail
   go_ret
   exact ⟨by rw [HF.out]; rfl, HB1.out.1⟩
  | true =>
   have HWD := Lib.hid (liesB_iff.1 h2)
   by_cases h3 : (16 : Int) < E.length
   ·have HF := Lib.hid (show graphB N Wd E = false from head_bad (fun hh => by have := hh.2.2.2.2; omega))
    go_enter Tryz.func34, Tryz.ntmps34
    go_upto_region 1 with fail
    have g0 : (w.alloc (.cells #[.int .i64 N, .int .i64 Wd, .slice eA E.length eC] 24)).cell? ⟨w.heap.size, 0, none⟩ = some (.int .i64 N) := (blk_cell hgb 0).trans rfl
    have g1 : (w.alloc (.cells #[.int .i64 N, .int .i64 Wd, .slice eA E.length eC] 24)).cell? ⟨w.heap.size, 1, none⟩ = some (.int .i64 Wd) := (blk_cell hgb 1).trans rfl
    have g2 : (w.alloc (.cells #[.int .i64 N, .int .i64 Wd, .slice eA E.length eC] 24)).cell? ⟨w.heap.size, 2, none⟩ = some (.slice eA E.length eC) := (blk_cell hgb 2).trans rfl
    have HB1 := Aside0.mk (And.intro hzb hgb)
    generalize w.alloc (.cells #[.int .i64 N, .int .i64 Wd, .slice eA E.length eC] 24) = w1 at *
    clear hzb hgb
    go_wp2_with fail
    refine (lies_any N 1 8 w1).mono ?_
    rintro e w' ⟨rfl, rfl⟩
    rw [h1]
    go_wp2_with fail
    refine (lies_any Wd 1 3 w1).mono ?_
    rintro e w' ⟨rfl, rfl⟩
    rw [h2]
    go_wp2_with fail
    go_ret
    exact ⟨by rw [HF.out]; rfl, HB1.out.1⟩
   ·have HH := Lib.hid (show headOk N Wd E.length from ⟨HN.out.1, HN.out.2, HWD.out.1, HWD.out.2, by omega⟩)
    have h3d : decide ((16 : Int) < E.length) = false := decide_eq_false h3
    go_enter Tryz.func34, Tryz.ntmps34
    go_upto_region 1 with fail
    have g0 : (w.alloc (.cells #[.int .i64 N, .int .i64 Wd, .slice eA E.length eC] 24)).cell? ⟨w.heap.size, 0, none⟩ = some (.int .i64 N) := (blk_cell hgb 0).trans rfl
    have g1 : (w.alloc (.cells #[.int .i64 N, .int .i64 Wd, .slice eA E.length eC] 24)).cell? ⟨w.heap.size, 1, none⟩ = some (.int .i64 Wd) := (blk_cell hgb 1).trans rfl
    have g2 : (w.alloc (.cells #[.int .i64 N, .int .i64 Wd, .slice eA E.length eC] 24)).cell? ⟨w.heap.size, 2, none⟩ = some (.slice eA E.length eC) := (blk_cell hgb 2).trans rfl
    have HB1 := Aside0.mk (And.intro hzb hgb)
    generalize w.alloc (.cells #[.int .i64 N, .int .i64 Wd, .slice eA E.length eC] 24) = w1 at *
    clear hzb hgb
    go_wp2_with fail
    refine (lies_any N 1 8 w1).mono ?_
    rintro e w' ⟨rfl, rfl⟩
    rw [h1]
    go_wp2_with fail
    refine (lies_any Wd 1 3 w1).mono ?_
    rintro e w' ⟨rfl, rfl⟩
    rw [h2]
    go_wp2_with fail
    have HGC := Lib.hid (And.intro g0 (And.intro g1 g2))
    have HN1 := Lib.hid (show wrap64 (N - 1) = N - 1 by have := HN.out; rw [w64_eq, w64_in (by omega) (by omega)])
    clear h1 h2 h3 h3d
    go_loopw [3] (fun i wr => ∃ k : Nat, i = .int .i64 k ∧ k ≤ E.length ∧ Aside0 (Below w1.heap.size w1 wr ∧ ∀ e ∈ E.take k, edgeOk N Wd e = true)) (fun i _ => E.length - (intOf i).toNat)
    case atStart => exact ⟨0, rfl, Nat.zero_le _, ⟨Below.refl _ _, by simp⟩⟩
    case round =>
     obtain ⟨k, rfl, hk, hX⟩ := hrel
     clear g0 g1 g2
     have g2 := pw_cell_below hX.out.1 HGC.out.2.2
     by_cases hkt : k < E.length
     ·have hkE : (k : Int) < E.length := by omega
      have hk0 : (0 : Int) ≤ k := by omega
      obtain ⟨ad, sA, sC, rfl, he0, he1, he2, heL, heC⟩ := at_edge (Kd.C_below HE.out (below_then HB1.out.1 HB1.out.1.size hX.out.1)) hkt
      have HK := Lib.hid (And.intro (List.take_succ_eq_append_getElem hkt) (List.getElem_mem hkt))
      generalize E[k] = ee at *
      have HOK := Lib.hid (edgeOk_lies (Wd := Wd) ee HN.out.1)
      go_upto_region 7 with fail
      have HX := Aside0.mk (And.intro (below_then hX.out.1 hX.out.1.size (below_new wr (.cells #[.int .i64 ee.1, .int .i64 ee.2.1, .slice sA ee.2.2.length sC] 129))) (And.intro (heap_alloc_new wr (.cells #[.int .i64 ee.1, .int .i64 ee.2.1, .slice sA ee.2.2.length sC] 129)) (And.intro (Kd.C_below heL (below_new wr (.cells #[.int .i64 ee.1, .int .i64 ee.2.1, .slice sA ee.2.2.length sC] 129))) hX.out.2)))
      clear hX he0 he1 he2 heC heL g2
      generalize wr.alloc (.cells #[.int .i64 ee.1, .int .i64 ee.2.1, .slice sA ee.2.2.length sC] 129) = w2 at *
      generalize wr.heap.size = be at *
      have g0 := pw_cell_below HX.out.1 HGC.out.1
      have g1 := pw_cell_below HX.out.1 HGC.out.2.1
      have e0 : w2.cell? ⟨be, 0, none⟩ = some (.int .i64 ee.1) := (blk_cell HX.out.2.1 0).trans rfl
      have e1 : w2.cell? ⟨be, 1, none⟩ = some (.int .i64 ee.2.1) := (blk_cell HX.out.2.1 1).trans rfl
      have e2 : w2.cell? ⟨be, 2, none⟩ = some (.slice sA ee.2.2.length sC) := (blk_cell HX.out.2.1 2).trans rfl
      have hN1 := HN1.out
      cases a1 : liesB ee.1 0 (N - 1) with
      | false =>
       go_wp2_with fail
       refine (lies_any ee.1 0 (N - 1) w2).mono ?_
       rintro e w' ⟨rfl, rfl⟩
       rw [a1]
       have HF := Lib.hid (show graphB N Wd E = false from graph_bad HK.out.2 (by rw [HOK.out]; rw [a1]; rfl))
       go_wp2_with fail
       go_ret
       exact ⟨by rw [HF.out]; rfl, below_then HB1.out.1 HB1.out.1.size HX.out.1⟩
      | true =>
       cases a2 : liesB ee.2.1 0 (N - 1) with
       | false =>
        go_wp2_with fail
        refine (lies_any ee.1 0 (N - 1) w2).mono ?_
        rintro e w' ⟨rfl, rfl⟩
        rw [a1]
        go_wp2_with fail
        refine (lies_any ee.2.1 0 (N - 1) w2).mono ?_
        rintro e w' ⟨rfl, rfl⟩
        rw [a2]
        have HF := Lib.hid (show graphB N Wd E = false from graph_bad HK.out.2 (by rw [HOK.out]; rw [a1, a2]; rfl))
        go_wp2_with fail
        go_ret
        exact ⟨by rw [HF.out]; rfl, below_then HB1.out.1 HB1.out.1.size HX.out.1⟩
       | true =>
        cases a3 : numsB ee.2.2 Wd 100 with
        | false =>
         go_wp2_with fail
         refine (lies_any ee.1 0 (N - 1) w2).mono ?_
         rintro e w' ⟨rfl, rfl⟩
         rw [a1]
         go_wp2_with fail
         refine (lies_any ee.2.1 0 (N - 1) w2).mono ?_
         rintro e w' ⟨rfl, rfl⟩
         rw [a2]
         go_wp2_with fail
         refine (snumbers_any sA sC ee.2.2 Wd 100 w2 HX.out.2.2.1).mono ?_
         rintro e w' ⟨rfl, rfl⟩
         rw [a3]
         have HF := Lib.hid (show graphB N Wd E = false from graph_bad HK.out.2 (by rw [HOK.out]; rw [a1, a2, a3]; rfl))
         go_wp2_with fail
         go_ret
         exact ⟨by rw [HF.out]; rfl, below_then HB1.out.1 HB1.out.1.size HX.out.1⟩
        | true =>
         go_wp2_with fail
         refine (lies_any ee.1 0 (N - 1) w2).mono ?_
         rintro e w' ⟨rfl, rfl⟩
         rw [a1]
         go_wp2_with fail
         refine (lies_any ee.2.1 0 (N - 1) w2).mono ?_
         rintro e w' ⟨rfl, rfl⟩
         rw [a2]
         go_wp2_with fail
         refine (snumbers_any sA sC ee.2.2 Wd 100 w2 HX.out.2.2.1).mono ?_
         rintro e w' ⟨rfl, rfl⟩
         rw [a3]
         have HEO := Lib.hid (show edgeOk N Wd ee = true by rw [HOK.out, a1, a2, a3]; rfl)
         have HR := Aside0.mk (show Below w1.heap.size w1 w2 ∧ ∀ e ∈ E.take (k + 1), edgeOk N Wd e = true from ⟨HX.out.1, fun e he => by rw [HK.out.1] at he; rcases List.mem_append.1 he with he | he; exact HX.out.2.2.2 e he; rw [List.mem_singleton.1 he]; exact HEO.out⟩)
         go_wp2_with fail
         clear hN1
         exact ⟨⟨k + 1, by go_num, by omega, HR⟩, by simp [intOf]; omega⟩
     ·have hkE : ¬ ((k : Int) < E.length) := by omega
      have HA := Lib.hid (show ∀ e ∈ E, edgeOk N Wd e = true from by have h := hX.out.2; rwa [List.take_of_length_le (by omega)] at h)
      have g0 := pw_cell_below hX.out.1 HGC.out.1
      have g1 := pw_cell_below hX.out.1 HGC.out.2.1
      obtain ⟨n, rfl⟩ : ∃ n : Nat, N = n := ⟨N.toNat, (Int.toNat_of_nonneg (by have := HN.out; omega)).symm⟩
      have HC := Lib.hid (show graphB n Wd E = !circlesP n E by unfold graphB; rw [decide_eq_true HH.out, List.all_eq_true.2 HA.out, Int.toNat_natCast]; rfl)
      have HXX := Aside0.mk hX.out.1
      clear hX
      go_wp2_with fail
      refine (scircles_any n Wd E eA eC wr (Kd.C_below HE.out (below_then HB1.out.1 HB1.out.1.size HXX.out)) (by have := HN.out; omega) (by have := HN.out; omega) HWD.out.2 HA.out (fun e he => by have := edges_in HA.out HWD.out.2 e he; omega)).mono ?_
      rintro e w9 ⟨rfl, hb9⟩
      have HB9 := Aside0.mk (below_then (below_then HB1.out.1 HB1.out.1.size HXX.out) (below_then HB1.out.1 HB1.out.1.size HXX.out).size hb9)
      clear hb9 g0 g1 g2
      go_wp2_with fail
      go_ret
      exact ⟨by rw [HC.out]; simp, HB9.out⟩
set_option maxRecDepth 8000 in
set_option maxHeartbeats 8000000 in
theorem sCheck_any (p : Plan) (eA mA : Option Addr) (eC mC : Nat) (w : World) (hp : PlanAt w p eA mA) :
  Calls Tryz.prog 9 #[planV p eA eC mA mC] w fun e w' => e = .returned (.int .i64 (checkP p)) ∧ Below w.heap.size w w' := by
 have HP := Aside0.mk hp
 have hmm := Kd.C_max hp.hS
 clear hp
 have hzb := below_new w (.cells #[.int .i64 p.N, .int .i64 p.Wd, .slice eA p.E.length eC, .int .i64 p.workers, .slice mA p.start.length mC] 27)
 have hgb := heap_alloc_new w (.cells #[.int .i64 p.N, .int .i64 p.Wd, .slice eA p.E.length eC, .int .i64 p.workers, .slice mA p.start.length mC] 27)
 simp only [planV]
 cases hG : graphB p.N p.Wd p.E with
 | false =>
  have HF := Lib.hid (show checkP p = 1 from check_one (.inl hG))
  go_enter Tryz.func9, Tryz.ntmps9
  go_upto_region 1 with fail
  have g0 : (w.alloc (.cells #[.int .i64 p.N, .int .i64 p.Wd, .slice eA p.E.length eC, .int .i64 p.workers, .slice mA p.start.length mC] 27)).cell? ⟨w.heap.size, 0, none⟩ = some (.int .i64 p.N) := (blk_cell hgb 0).trans rfl
  have g1 : (w.alloc (.cells #[.int .i64 p.N, .int .i64 p.Wd, .slice eA p.E.length eC, .int .i64 p.workers, .slice mA p.start.length mC] 27)).cell? ⟨w.heap.size, 1, none⟩ = some (.int .i64 p.Wd) := (blk_cell hgb 1).trans rfl
  have g2 : (w.alloc (.cells #[.int .i64 p.N, .int .i64 p.Wd, .slice eA p.E.length eC, .int .i64 p.workers, .slice mA p.start.length mC] 27)).cell? ⟨w.heap.size, 2, none⟩ = some (.slice eA p.E.length eC) := (blk_cell hgb 2).trans rfl
  have g3 : (w.alloc (.cells #[.int .i64 p.N, .int .i64 p.Wd, .slice eA p.E.length eC, .int .i64 p.workers, .slice mA p.start.length mC] 27)).cell? ⟨w.heap.size, 3, none⟩ = some (.int .i64 p.workers) := (blk_cell hgb 3).trans rfl
  have g4 : (w.alloc (.cells #[.int .i64 p.N, .int .i64 p.Wd, .slice eA p.E.length eC, .int .i64 p.workers, .slice mA p.start.length mC] 27)).cell? ⟨w.heap.size, 4, none⟩ = some (.slice mA p.start.length mC) := (blk_cell hgb 4).trans rfl
  have HB1 := Aside0.mk (And.intro hzb hgb)
  generalize w.alloc (.cells #[.int .i64 p.N, .int .i64 p.Wd, .slice eA p.E.length eC, .int .i64 p.workers, .slice mA p.start.length mC] 27) = w1 at *
  clear hzb hgb
  go_wp2_with fail
  refine (sisGraph_any p.N p.Wd p.E eA eC w1 (Kd.C_below HP.out.hE HB1.out.1)).mono ?_
  rintro e w2 ⟨rfl, hb2⟩
  rw [hG]
  replace g0 := pw_cell_below hb2 g0
  replace g1 := pw_cell_below hb2 g1
  replace g2 := pw_cell_below hb2 g2
  replace g3 := pw_cell_below hb2 g3
  replace g4 := pw_cell_below hb2 g4
  have HB2 := Aside0.mk (And.intro (below_then HB1.out.1 HB1.out.1.size hb2) (blk_below HB1.out.2 hb2))
  clear hb2 HB1
  go_wp2_with fail
  go_ret
  exact ⟨by rw [HF.out]; rfl, HB2.out.1⟩
 | true =>
  have HN := Lib.hid (graph_head hG)
  cases h2 : liesB p.workers 1 4 with
  | false =>
   have HF := Lib.hid (show checkP p = 1 from check_one (.inr (.inl (fun hh => by have := (liesB_iff (n := p.workers) (low := 1) (high := 4)).2 ⟨hh.1, hh.2.1⟩; rw [h2] at this; cases this))))
   go_enter Tryz.func9, Tryz.ntmps9
   go_upto_region 1 with fail
   have g0 : (w.alloc (.cells #[.int .i64 p.N, .int .i64 p.Wd, .slice eA p.E.length eC, .int .i64 p.workers, .slice mA p.start.length mC] 27)).cell? ⟨w.heap.size, 0, none⟩ = some (.int .i64 p.N) := (blk_cell hgb 0).trans rfl
   have g1 : (w.alloc (.cells #[.int .i64 p.N, .int .i64 p.Wd, .slice eA p.E.length eC, .int .i64 p.workers, .slice mA p.start.length mC] 27)).cell? ⟨w.heap.size, 1, none⟩ = some (.int .i64 p.Wd) := (blk_cell hgb 1).trans rfl
   have g2 : (w.alloc (.cells #[.int .i64 p.N, .int .i64 p.Wd, .slice eA p.E.length eC, .int .i64 p.workers, .slice mA p.start.length mC] 27)).cell? ⟨w.heap.size, 2, none⟩ = some (.slice eA p.E.length eC) := (blk_cell hgb 2).trans rfl
   have g3 : (w.alloc (.cells #[.int .i64 p.N, .int .i64 p.Wd, .slice eA p.E.length eC, .int .i64 p.workers, .slice mA p.start.length mC] 27)).cell? ⟨w.heap.size, 3, none⟩ = some (.int .i64 p.workers) := (blk_cell hgb 3).trans rfl
   have g4 : (w.alloc (.cells #[.int .i64 p.N, .int .i64 p.Wd, .slice eA p.E.length eC, .int .i64 p.workers, .slice mA p.start.length mC] 27)).cell? ⟨w.heap.size, 4, none⟩ = some (.slice mA p.start.length mC) := (blk_cell hgb 4).trans rfl
   have HB1 := Aside0.mk (And.intro hzb hgb)
   generalize w.alloc (.cells #[.int .i64 p.N, .int .i64 p.Wd, .slice eA p.E.length eC, .int .i64 p.workers, .slice mA p.start.length mC] 27) = w1 at *
   clear hzb hgb
   go_wp2_with fail
   refine (sisGraph_any p.N p.Wd p.E eA eC w1 (Kd.C_below HP.out.hE HB1.out.1)).mono ?_
   rintro e w2 ⟨rfl, hb2⟩
   rw [hG]
   replace g0 := pw_cell_below hb2 g0
   replace g1 := pw_cell_below hb2 g1
   replace g2 := pw_cell_below hb2 g2
   replace g3 := pw_cell_below hb2 g3
   replace g4 := pw_cell_below hb2 g4
   have HB2 := Aside0.mk (And.intro (below_then HB1.out.1 HB1.out.1.size hb2) (blk_below HB1.out.2 hb2))
   clear hb2 HB1
   go_wp2_with fail
   refine (lies_any p.workers 1 4 w2).mono ?_
   rintro e w' ⟨rfl, rfl⟩
   rw [h2]
   go_wp2_with fail
   go_ret
   exact ⟨by rw [HF.out]; rfl, HB2.out.1⟩
  | true =>
   have HWK := Lib.hid (liesB_iff.1 h2)
   by_cases h3 : (8 : Int) < p.start.length
   ·have HF := Lib.hid (show checkP p = 1 from check_one (.inr (.inl (fun hh => by have := hh.2.2; omega))))
    go_enter Tryz.func9, Tryz.ntmps9
    go_upto_region 1 with fail
    have g0 : (w.alloc (.cells #[.int .i64 p.N, .int .i64 p.Wd, .slice eA p.E.length eC, .int .i64 p.workers, .slice mA p.start.length mC] 27)).cell? ⟨w.heap.size, 0, none⟩ = some (.int .i64 p.N) := (blk_cell hgb 0).trans rfl
    have g1 : (w.alloc (.cells #[.int .i64 p.N, .int .i64 p.Wd, .slice eA p.E.length eC, .int .i64 p.workers, .slice mA p.start.length mC] 27)).cell? ⟨w.heap.size, 1, none⟩ = some (.int .i64 p.Wd) := (blk_cell hgb 1).trans rfl
    have g2 : (w.alloc (.cells #[.int .i64 p.N, .int .i64 p.Wd, .slice eA p.E.length eC, .int .i64 p.workers, .slice mA p.start.length mC] 27)).cell? ⟨w.heap.size, 2, none⟩ = some (.slice eA p.E.length eC) := (blk_cell hgb 2).trans rfl
    have g3 : (w.alloc (.cells #[.int .i64 p.N, .int .i64 p.Wd, .slice eA p.E.length eC, .int .i64 p.workers, .slice mA p.start.length mC] 27)).cell? ⟨w.heap.size, 3, none⟩ = some (.int .i64 p.workers) := (blk_cell hgb 3).trans rfl
    have g4 : (w.alloc (.cells #[.int .i64 p.N, .int .i64 p.Wd, .slice eA p.E.length eC, .int .i64 p.workers, .slice mA p.start.length mC] 27)).cell? ⟨w.heap.size, 4, none⟩ = some (.slice mA p.start.length mC) := (blk_cell hgb 4).trans rfl
    have HB1 := Aside0.mk (And.intro hzb hgb)
    generalize w.alloc (.cells #[.int .i64 p.N, .int .i64 p.Wd, .slice eA p.E.length eC, .int .i64 p.workers, .slice mA p.start.length mC] 27) = w1 at *
    clear hzb hgb
    go_wp2_with fail
    refine (sisGraph_any p.N p.Wd p.E eA eC w1 (Kd.C_below HP.out.hE HB1.out.1)).mono ?_
    rintro e w2 ⟨rfl, hb2⟩
    rw [hG]
    replace g0 := pw_cell_below hb2 g0
    replace g1 := pw_cell_below hb2 g1
    replace g2 := pw_cell_below hb2 g2
    replace g3 := pw_cell_below hb2 g3
    replace g4 := pw_cell_below hb2 g4
    have HB2 := Aside0.mk (And.intro (below_then HB1.out.1 HB1.out.1.size hb2) (blk_below HB1.out.2 hb2))
    clear hb2 HB1
    go_wp2_with fail
    refine (lies_any p.workers 1 4 w2).mono ?_
    rintro e w' ⟨rfl, rfl⟩
    rw [h2]
    go_wp2_with fail
    go_ret
    exact ⟨by rw [HF.out]; rfl, HB2.out.1⟩
   ·have HH := Lib.hid (show restOk p.workers p.start.length from ⟨HWK.out.1, HWK.out.2, by omega⟩)
    have h3d : decide ((8 : Int) < p.start.length) = false := decide_eq_false h3
    have HGG := Lib.hid hG
    go_enter Tryz.func9, Tryz.ntmps9
    go_upto_region 1 with fail
    have g0 : (w.alloc (.cells #[.int .i64 p.N, .int .i64 p.Wd, .slice eA p.E.length eC, .int .i64 p.workers, .slice mA p.start.length mC] 27)).cell? ⟨w.heap.size, 0, none⟩ = some (.int .i64 p.N) := (blk_cell hgb 0).trans rfl
    have g1 : (w.alloc (.cells #[.int .i64 p.N, .int .i64 p.Wd, .slice eA p.E.length eC, .int .i64 p.workers, .slice mA p.start.length mC] 27)).cell? ⟨w.heap.size, 1, none⟩ = some (.int .i64 p.Wd) := (blk_cell hgb 1).trans rfl
    have g2 : (w.alloc (.cells #[.int .i64 p.N, .int .i64 p.Wd, .slice eA p.E.length eC, .int .i64 p.workers, .slice mA p.start.length mC] 27)).cell? ⟨w.heap.size, 2, none⟩ = some (.slice eA p.E.length eC) := (blk_cell hgb 2).trans rfl
    have g3 : (w.alloc (.cells #[.int .i64 p.N, .int .i64 p.Wd, .slice eA p.E.length eC, .int .i64 p.workers, .slice mA p.start.length mC] 27)).cell? ⟨w.heap.size, 3, none⟩ = some (.int .i64 p.workers) := (blk_cell hgb 3).trans rfl
    have g4 : (w.alloc (.cells #[.int .i64 p.N, .int .i64 p.Wd, .slice eA p.E.length eC, .int .i64 p.workers, .slice mA p.start.length mC] 27)).cell? ⟨w.heap.size, 4, none⟩ = some (.slice mA p.start.length mC) := (blk_cell hgb 4).trans rfl
    have HB1 := Aside0.mk (And.intro hzb hgb)
    generalize w.alloc (.cells #[.int .i64 p.N, .int .i64 p.Wd, .slice eA p.E.length eC, .int .i64 p.workers, .slice mA p.start.length mC] 27) = w1 at *
    clear hzb hgb
    go_wp2_with fail
    refine (sisGraph_any p.N p.Wd p.E eA eC w1 (Kd.C_below HP.out.hE HB1.out.1)).mono ?_
    rintro e w2 ⟨rfl, hb2⟩
    rw [hG]
    replace g0 := pw_cell_below hb2 g0
    replace g1 := pw_cell_below hb2 g1
    replace g2 := pw_cell_below hb2 g2
    replace g3 := pw_cell_below hb2 g3
    replace g4 := pw_cell_below hb2 g4
    have HB2 := Aside0.mk (And.intro (below_then HB1.out.1 HB1.out.1.size hb2) (blk_below HB1.out.2 hb2))
    clear hb2 HB1
    go_wp2_with fail
    refine (lies_any p.workers 1 4 w2).mono ?_
    rintro e w' ⟨rfl, rfl⟩
    rw [h2]
    go_wp2_with fail
    have HGC := Lib.hid (And.intro g0 (And.intro g1 (And.intro g2 (And.intro g3 g4))))
    clear g0 g1 g2 g3 g4 hG h2 h3 h3d
    have HN1 := Lib.hid (show wrap64 (p.N - 1) = p.N - 1 by have := HN.out; rw [w64_eq, w64_in (by omega) (by omega)])
    have HK1 := Lib.hid (show wrap64 (p.workers - 1) = p.workers - 1 by have := HWK.out; rw [w64_eq, w64_in (by omega) (by omega)])
    go_loopw [3] (fun i wr => ∃ k : Nat, i = .int .i64 k ∧ k ≤ p.start.length ∧ Aside0 (Below w2.heap.size w2 wr ∧ ∀ m ∈ p.start.take k, msgOk p.N p.Wd p.workers m = true)) (fun i _ => p.start.length - (intOf i).toNat)
    case atStart => exact ⟨0, rfl, Nat.zero_le _, ⟨Below.refl _ _, by simp⟩⟩
    case round =>
     obtain ⟨k, rfl, hk, hX⟩ := hrel
     have g4 := pw_cell_below hX.out.1 HGC.out.2.2.2.2
     by_cases hkt : k < p.start.length
     ·have hkE : (k : Int) < p.start.length := by omega
      have hk0 : (0 : Int) ≤ k := by omega
      obtain ⟨ad, sA, sC, hme, he0, he1, he2, heC, heL⟩ := at_msg (Kd.C_below HP.out.hS (below_then HB2.out.1 HB2.out.1.size hX.out.1)) hkt
      subst hme
      have HK := Lib.hid (And.intro (List.take_succ_eq_append_getElem hkt) (List.getElem_mem hkt))
      generalize p.start[k] = ee at *
      have HOK := Lib.hid (msgOk_lies p.Wd ee HN.out.1 HWK.out.1)
      go_upto_region 7 with fail
      have HX := Aside0.mk (And.intro (below_then hX.out.1 hX.out.1.size (below_new wr (.cells #[.int .i64 ee.1.1, .slice sA ee.1.2.length sC, .int .i64 ee.2] 77))) (And.intro (heap_alloc_new wr (.cells #[.int .i64 ee.1.1, .slice sA ee.1.2.length sC, .int .i64 ee.2] 77)) (And.intro (Kd.C_below heC (below_new wr (.cells #[.int .i64 ee.1.1, .slice sA ee.1.2.length sC, .int .i64 ee.2] 77))) hX.out.2)))
      clear hX he0 he1 he2 heC heL g4
      generalize wr.alloc (.cells #[.int .i64 ee.1.1, .slice sA ee.1.2.length sC, .int .i64 ee.2] 77) = w3 at *
      generalize wr.heap.size = be at *
      have g0 := pw_cell_below HX.out.1 HGC.out.1
      have g1 := pw_cell_below HX.out.1 HGC.out.2.1
      have g3 := pw_cell_below HX.out.1 HGC.out.2.2.2.1
      have e0 : w3.cell? ⟨be, 0, none⟩ = some (.int .i64 ee.1.1) := (blk_cell HX.out.2.1 0).trans rfl
      have e1 : w3.cell? ⟨be, 1, none⟩ = some (.slice sA ee.1.2.length sC) := (blk_cell HX.out.2.1 1).trans rfl
      have e2 : w3.cell? ⟨be, 2, none⟩ = some (.int .i64 ee.2) := (blk_cell HX.out.2.1 2).trans rfl
      have hN1 := HN1.out
      have hK1 := HK1.out
      cases a1 : liesB ee.1.1 0 (p.N - 1) with
      | false =>
       go_wp2_with fail
       refine (lies_any ee.1.1 0 (p.N - 1) w3).mono ?_
       rintro e w' ⟨rfl, rfl⟩
       rw [a1]
       have HF := Lib.hid (show checkP p = 1 from check_one (.inr (.inr ⟨_, HK.out.2, by rw [HOK.out]; rw [a1]; rfl⟩)))
       go_wp2_with fail
       go_ret
       exact ⟨by rw [HF.out]; rfl, below_then HB2.out.1 HB2.out.1.size HX.out.1⟩
      | true =>
       cases a2 : numsB ee.1.2 p.Wd 1048576 with
       | false =>
        go_wp2_with fail
        refine (lies_any ee.1.1 0 (p.N - 1) w3).mono ?_
        rintro e w' ⟨rfl, rfl⟩
        rw [a1]
        go_wp2_with fail
        refine (snumbers_any sA sC ee.1.2 p.Wd 1048576 w3 HX.out.2.2.1).mono ?_
        rintro e w' ⟨rfl, rfl⟩
        rw [a2]
        have HF := Lib.hid (show checkP p = 1 from check_one (.inr (.inr ⟨_, HK.out.2, by rw [HOK.out]; rw [a1, a2]; rfl⟩)))
        go_wp2_with fail
        go_ret
        exact ⟨by rw [HF.out]; rfl, below_then HB2.out.1 HB2.out.1.size HX.out.1⟩
       | true =>
        cases a3 : liesB ee.2 0 (p.workers - 1) with
        | false =>
         go_wp2_with fail
         refine (lies_any ee.1.1 0 (p.N - 1) w3).mono ?_
         rintro e w' ⟨rfl, rfl⟩
         rw [a1]
         go_wp2_with fail
         refine (snumbers_any sA sC ee.1.2 p.Wd 1048576 w3 HX.out.2.2.1).mono ?_
         rintro e w' ⟨rfl, rfl⟩
         rw [a2]
         go_wp2_with fail
         refine (lies_any ee.2 0 (p.workers - 1) w3).mono ?_
         rintro e w' ⟨rfl, rfl⟩
         rw [a3]
         have HF := Lib.hid (show checkP p = 1 from check_one (.inr (.inr ⟨_, HK.out.2, by rw [HOK.out]; rw [a1, a2, a3]; rfl⟩)))
         go_wp2_with fail
         go_ret
         exact ⟨by rw [HF.out]; rfl, below_then HB2.out.1 HB2.out.1.size HX.out.1⟩
        | true =>
         go_wp2_with fail
         refine (lies_any ee.1.1 0 (p.N - 1) w3).mono ?_
         rintro e w' ⟨rfl, rfl⟩
         rw [a1]
         go_wp2_with fail
         refine (snumbers_any sA sC ee.1.2 p.Wd 1048576 w3 HX.out.2.2.1).mono ?_
         rintro e w' ⟨rfl, rfl⟩
         rw [a2]
         go_wp2_with fail
         refine (lies_any ee.2 0 (p.workers - 1) w3).mono ?_
         rintro e w' ⟨rfl, rfl⟩
         rw [a3]
         have HEO := Lib.hid (show msgOk p.N p.Wd p.workers ee = true by rw [HOK.out, a1, a2, a3]; rfl)
         have HR := Aside0.mk (show Below w2.heap.size w2 w3 ∧ ∀ m ∈ p.start.take (k + 1), msgOk p.N p.Wd p.workers m = true from ⟨HX.out.1, fun e he => by rw [HK.out.1] at he; rcases List.mem_append.1 he with he | he; exact HX.out.2.2.2 e he; rw [List.mem_singleton.1 he]; exact HEO.out⟩)
         go_wp2_with fail
         clear hN1 hK1
         exact ⟨⟨k + 1, by go_num, by omega, HR⟩, by simp [intOf]; omega⟩
     ·have hkE : ¬ ((k : Int) < p.start.length) := by omega
      have HF := Lib.hid (show checkP p = 0 from check_zero HGG.out HH.out (by have h := hX.out.2; rwa [List.take_of_length_le (by omega)] at h))
      have HXX := Aside0.mk hX.out.1
      clear hX
      go_wp2_with fail
      go_ret
      exact ⟨by rw [HF.out]; rfl, below_then HB2.out.1 HB2.out.1.size HXX.out⟩
end Go.Proofs.YtbkfnmgkcgnifaaGreat
namespace Go.Proofs.YtbkfnmgkcgnifaaGreat
open Go.RowKit Go.Shelf Go.Proofs.YtbkfnmgkcgnifaaGreatW.PrintWords Go.Proofs.YtbkfnmgkcgnifaaGreatW.PrintLast Mdl
theorem lli_at {w : World} {base : Nat} {g n cap : Nat} {xs : List (List (List Int))} (h : kLLI.R 28 w base (fun _ => True) (.slice (some ⟨g, 0, none⟩) n cap) xs) {k : Nat} (hk : k < n) :
  ∃ sA sC, w.cell? ⟨g, k, none⟩ = some (.slice sA (xs.getD k []).length sC) ∧ w.frozen? ⟨g, k, none⟩ = false ∧ kLI.R 36 w base (fun _ => True) (.slice sA (xs.getD k []).length sC) (xs.getD k []) := by
 obtain ⟨cs, hcl, hM, hcc, hfr⟩ := Kd.R_elem h [] (k : Int) (by omega) (by omega)
 rw [Int.toNat_natCast] at hM hcc hfr
 obtain ⟨u, rfl, hR⟩ := hM
 obtain ⟨sA, sC, rfl⟩ := Kd.R_slice hR
 have h1 := hcc 0 _ rfl
 have h2 := hfr 0
 rw [show kLLI.sz = 1 from rfl, Nat.mul_one, Nat.add_zero] at h1 h2
 exact ⟨sA, sC, h1, h2, Kd.R_mono hR (fun _ _ => trivial)⟩
theorem off_li {w : World} {base g t : Nat} {v : Value} {l : List (List Int)} (h : kLI.R 36 w base (fun _ => True) v l) (ht : Typed w g t) (h1 : (t == 3) = false) (h2 : (t == 36) = false) : kLI.R 36 w base (fun k => True ∧ k ≠ g) v l :=
 Kd.R_mono (Kd.R_bound h) (fun k hk => ⟨trivial, fun he => by
  obtain ⟨_, _, _, q, hq, hc⟩ := hk
  rcases List.mem_cons.1 hq with hq | hq
  ·exact not_typed ht h2 (he ▸ hq ▸ hc)
  ·rcases List.mem_cons.1 hq with hq | hq
   ·exact not_typed ht h1 (he ▸ hq ▸ hc)
   ·cases hq⟩)
theorem lli_put {W : World} {g n cap k base : Nat} {xs : List (List (List Int))} {u : Value} {x : List (List Int)} (HO : kLLI.R 28 W base (fun _ => True) (.slice (some ⟨g, 0, none⟩) n cap) xs) (hk : k < n) (hu : kLI.R 36 W base (fun _ => True) u x) :
  (∃ v0, W.cell? ⟨g, k, none⟩ = some v0) ∧ W.frozen? ⟨g, k, none⟩ = false ∧ kLLI.R 28 (W.setCell ⟨g, k, none⟩ u) base (fun _ => True) (.slice (some ⟨g, 0, none⟩) n cap) (xs.set k x) ∧ W.grownBy (W.setCell ⟨g, k, none⟩ u) (some g) := by
 obtain ⟨c, hcl, hM, hcc, hfr⟩ := Kd.R_elem HO [] (k : Int) (by omega) (by omega)
 rw [Int.toNat_natCast] at hM hcc hfr
 obtain ⟨v0, rfl, _⟩ := hM
 have hs := Kd.R_seg HO (k : Int) (by omega) (by omega) (j := 0) (seg := [u]) (x' := x) hcl (by rw [Int.toNat_natCast]; exact hcc) (Nat.le_refl 1) ⟨u, rfl, off_li hu (Kd.R_typed HO g rfl) rfl rfl⟩ (fun _ h => h)
 rw [Int.toNat_natCast, show kLLI.sz = 1 from rfl, Nat.mul_one, Nat.add_zero] at hs
 have h1 := hcc 0 _ rfl
 have h2 := hfr 0
 rw [show kLLI.sz = 1 from rfl, Nat.mul_one, Nat.add_zero] at h1 h2
 exact ⟨⟨v0, h1⟩, h2, hs⟩
theorem grown_below {W w1 : World} (h : W.grownBy w1 none) : Below W.heap.size W w1 := ⟨h.os, h.tape, h.output, h.size, fun i hi => h.block i hi (by simp)⟩
theorem row_new {W : World} {base : Nat} {u : Value} {x : List Int} (h : kI.R 3 W base (fun _ => True) u x) (hb : base ≤ W.heap.size) : kLI.R 36 (W.alloc (.cells #[u] 36)) base (fun _ => True) (.slice (some ⟨W.heap.size, 0, none⟩) 1 1) [x] := by
 have hn := below_new W (.cells #[u] 36)
 have hblk := heap_alloc_new W (.cells #[u] 36)
 have hM : kLI.M (W.alloc (.cells #[u] 36)) base (fun k => True ∧ k ≠ W.heap.size) x [u] := ⟨u, rfl, Kd.R_below (Kd.R_mono (Kd.R_bound h) (fun k hk => ⟨trivial, by omega⟩)) hn⟩
 refine ⟨fun _ _ => trivial, [u], ⟨rfl, .inr ⟨W.heap.size, 1, #[u], rfl, hb, hblk, Nat.le_refl _, by decide, rfl, rfl⟩⟩, rfl, fun j p hj => ?_⟩
 obtain ⟨h1, rfl⟩ := List.getElem?_eq_some_iff.1 hj
 obtain rfl : j = 0 := by simp at h1; omega
 exact kLI.M_mono (fun k hk => ⟨hk.1, fun he => hk.2 (by simpa [Value.ownBlock] using he)⟩) hM
section
variable {ops : Array Oper} {Q : Exit → Act → World → Prop} {o : Oper} {a : Act} {w0 w2 W : World} {v : Value} {xs ys : List (List Int)} {Kc : Act → World → Prop} {A : Option Addr} {c : Nat}
theorem NewLI.rowsS (h : NewLI w0 w2 W v xs) (hs : kLI.R 36 w2 w0.heap.size (fun _ => True) (.slice A ys.length c) ys) (hl : xs.length + ys.length ≤ 1000000000000) (s y : Operand) (hw : Region.wanted o (yielded ops a.tmps) = true)
  (ho : o.op = .call { callee := .builtin .append, args := #[s, y], argTypes := #[28, 28] }) (hsv : a.eval s = v) (hx : a.eval y = .slice A ys.length c)
  (k : ∀ v1 w1, NewLI w0 w2 w1 v1 (xs ++ ys) → Kc (a.put o.dst v1) w1) : if Region.wanted o (yielded ops a.tmps) = true then Oper.wp Tryz.prog o a W Kc Q else Kc (a.put o.dst undef) W :=
 Kd.R_append_rows_step kLI (Rr := kLI.M W w0.heap.size (fun q => q < w2.heap.size)) (w0 := w0) w0.heap.size hw s y 28 36 (.slice none 0 0) 24 ho Tryz.underlying28 Tryz.infoInts rfl (by decide) (by decide) v xs ys A ys.length c (fun _ => True) (fun q => q < w2.heap.size) hsv hx h.rows (copy_rd hs h.below) (fun _ _ h => h)
  (fun q hq => ⟨trivial, fun he => by have := h.own q he.symm; omega⟩) (fun _ _ => trivial) h.down h.down.size (by omega) (fun v1 w1 hR _ hg hat => k v1 w1 (h.more hR hg hat))
end
theorem lli_ne {W : World} {g n cap base : Nat} {xs : List (List (List Int))} (HO : kLLI.R 28 W base (fun _ => True) (.slice (some ⟨g, 0, none⟩) n cap) xs) (h : W.heap.size = g) : False := by
 obtain ⟨inner, ho⟩ := Kd.R_own HO
 have := own_lt ho g (by simp [Value.ownBlock])
 omega
namespace Mdl
theorem steps_le {q n m : Nat} (hq : q < n) (hn : n ≤ 8) (hm : m ≤ 16) : q * m + m ≤ 128 := by
 rw [← Nat.succ_mul]
 exact Nat.mul_le_mul (show q + 1 ≤ 8 by omega) hm
theorem set_getD {α : Type} (l : List (List α)) {i : Nat} (h : i < l.length) : l.set i (l.getD i []) = l := by
 rw [List.getD_eq_getElem?_getD, List.getElem?_eq_getElem h]; exact List.set_getElem_self h
theorem numF_start (n wd a : Nat) (h : wd ≤ 3) {E : List Ed} : (List.replicate n ([] : List (List Int))).set a [List.replicate wd 0] = numF wd (sumsT n E a 0) := by
 show _ = List.map (List.map (numsT wd)) ((List.replicate n []).set a [(0, 0, 0)])
 rw [List.map_set, List.map_replicate]
 congr 1
 obtain rfl | rfl | rfl | rfl : wd = 0 ∨ wd = 1 ∨ wd = 2 ∨ wd = 3 := by omega
 all_goals rfl
end Mdl
theorem numF_set (wd : Nat) (r : List (List Tm)) (t : Nat) (l : List Tm) : (numF wd r).set t (l.map (numsT wd)) = numF wd (r.set t l) := by
 show (List.map (List.map (numsT wd)) r).set t (l.map (numsT wd)) = List.map (List.map (numsT wd)) (r.set t l)
 rw [List.map_set]
theorem li_off : ∀ q, q ∈ 36 :: kLI.E → q ≠ 28 := by decide
theorem kI_C {w : World} {base : Nat} {A : Option Addr} {n c : Nat} {l : List Int} (h : kI.R 3 w base (fun _ => True) (.slice A n c) l) : kI.C w A n l := by
 obtain ⟨A', c', he⟩ := Kd.R_slice h
 injection he with _ e2 _
 subst e2
 exact (Kd.R_reads' h).2.2
theorem nums_at {w : World} {base : Nat} {A : Option Addr} {c wd k : Nat} {xs : List Tm} (hw : wd ≤ 3) (h : kLI.R 36 w base (fun _ => True) (.slice A xs.length c) (xs.map (numsT wd))) (hk : k < xs.length) :
  ∃ g sA sC, A = some ⟨g, 0, none⟩ ∧ w.cell? ⟨g, k, none⟩ = some (.slice sA wd sC) ∧ kI.R 3 w base (fun _ => True) (.slice sA wd sC) (numsT wd xs[k]) := by
 have hl : (xs.map (numsT wd)).length = xs.length := List.length_map _
 rw [← hl] at h
 obtain ⟨g, sA, sC, rfl, h1, _, h2⟩ := li_at h (k := k) (by rw [hl]; exact hk)
 rw [List.getElem_map, length_numsT _ hw] at h1 h2
 exact ⟨g, sA, sC, rfl, h1, h2⟩
theorem plus_tm {wd : Nat} (hw : wd ≤ 3) (yA sA : Option Addr) (yC sC : Nat) (y : Tm) (add : List Int) (hadd : add.length = wd) (W : World) (hy : kI.C W yA wd (numsT wd y)) (ha : kI.C W sA wd add) :
  Calls Tryz.prog 72 #[.slice yA wd yC, .slice sA wd sC] W fun e w' => ∃ v, e = .returned v ∧ kI.R 3 w' W.heap.size (fun _ => True) v (numsT wd (plusT y (tmOf add))) ∧ Below W.heap.size W w' := by
 have hl := length_numsT y hw
 have h := splus_any yA sA yC sC (numsT wd y) add W (by rw [hl]; exact hy) (by rw [hadd]; exact ha) (by rw [hl, hadd]) (by rw [hl]; omega)
 rw [hl, hadd] at h
 have he : plusW (numsT wd y) add = numsT wd (plusT y (tmOf add)) := by
  conv => lhs; rw [← nums_tm hadd hw]
  exact plusW_nums hw y (tmOf add)
 rw [he] at h
 exact h
theorem earliest_tm {wd : Nat} (hw1 : 1 ≤ wd) (hw : wd ≤ 3) (cA : Option Addr) (cC : Nat) (l : List Tm) {base : Nat} (W : World) (hl : kLI.R 36 W base (fun _ => True) (.slice cA l.length cC) (l.map (numsT wd))) (hz : ∀ x ∈ l, ZW wd x) (hn : l.length ≤ 900000000000) :
  Calls Tryz.prog 73 #[.slice cA l.length cC] W fun e w' => ∃ v, e = .returned v ∧ kLI.R 36 w' W.heap.size (fun _ => True) v ((firstsT l).map (numsT wd)) ∧ Below W.heap.size W w' := by
 have hll : (l.map (numsT wd)).length = l.length := List.length_map _
 rw [← hll] at hl
 have h := searliest_any cA cC wd (l.map (numsT wd)) W (Kd.R_reads' hl).2.2 (fun x hx => by obtain ⟨t, _, rfl⟩ := List.mem_map.1 hx; exact length_numsT t hw) (by omega) (by rw [hll]; exact hn)
 rw [hll, earliestP_eq hw hw1 hz] at h
 exact h
set_option maxRecDepth 8000 in
set_option maxHeartbeats 8000000 in
theorem ssums_any (n wd : Nat) (E : List Ed) (eA : Option Addr) (eC a : Nat) (w : World) (hE : kE.C w eA E.length E) (hn1 : 1 ≤ n) (hn8 : n ≤ 8) (hw1 : 1 ≤ wd) (hw3 : wd ≤ 3) (h16 : E.length ≤ 16) (hok : ∀ e ∈ E, edgeOk n wd e = true) (ha : a < n) :
  Calls Tryz.prog 35 #[.agg #[.int .i64 (n : Int), .int .i64 (wd : Int), .slice eA E.length eC], .int .i64 (a : Int)] w fun e w' => ∃ v, e = .returned v ∧ kLLI.R 28 w' w.heap.size (fun _ => True) v (numF wd (sumsT n E a n)) ∧ Below w.heap.size w w' := by
 have HE := Aside0.mk hE
 have HOK := Lib.hid hok
 have hEm := Kd.C_max hE
 clear hE hok
 have HN := Lib.hid (show NodesIn n E from fun e he => by have := edges_in HOK.out (by omega) e he; omega)
 have hzb := below_new w (.cells #[.int .i64 (n : Int), .int .i64 (wd : Int), .slice eA E.length eC] 24)
 have hgb := heap_alloc_new w (.cells #[.int .i64 (n : Int), .int .i64 (wd : Int), .slice eA E.length eC] 24)
 have g0 : (w.alloc (.cells #[.int .i64 (n : Int), .int .i64 (wd : Int), .slice eA E.length eC] 24)).cell? ⟨w.heap.size, 0, none⟩ = some (.int .i64 (n : Int)) := (blk_cell hgb 0).trans rfl
 have g1 : (w.alloc (.cells #[.int .i64 (n : Int), .int .i64 (wd : Int), .slice eA E.length eC] 24)).cell? ⟨w.heap.size, 1, none⟩ = some (.int .i64 (wd : Int)) := (blk_cell hgb 1).trans rfl
 have g2 : (w.alloc (.cells #[.int .i64 (n : Int), .int .i64 (wd : Int), .slice eA E.length eC] 24)).cell? ⟨w.heap.size, 2, none⟩ = some (.slice eA E.length eC) := (blk_cell hgb 2).trans rfl
 go_enter Tryz.func35, Tryz.ntmps35
 go_upto_region 1 with fail
 have HB1 := Aside0.mk hzb
 generalize w.alloc (.cells #[.int .i64 (n : Int), .int .i64 (wd : Int), .slice eA E.length eC] 24) = w1 at *
 clear hzb hgb
 have HG := Lib.hid (And.intro g0 (And.intro g1 g2))
 go_upto_region 2 with (at_make; go_must (refine Kd.R_make kLLI (w0 := w1) w1.heap.size 28 rfl (N := 13) rfl _ _ _ rfl n rfl rfl Tryz.underlying38 _ 24 Tryz.infoLLI rfl (by decide) (by decide) ([] : List (List Int)) (ok := fun _ => True) (okp := fun _ => False) ⟨_, rfl, Kd.R_nil _ _ _ _ _⟩ (fun _ h => h.elim) trivial (by omega) (by omega) (Below.refl w1.heap.size w1) (Nat.le_refl w1.heap.size) ?_; intro v7 w2 hR7 hb7 hg7 hown7; obtain ⟨g, cw, hv7, hgb, -, -⟩ := Kd.R_form hR7 (by simp; omega); rw [Int.toNat_natCast, List.length_replicate] at hv7; subst hv7; rw [Int.toNat_natCast] at hR7; have HW := Aside0.mk (And.intro hR7 hb7); have HGE := Lib.hid hgb; clear hR7 hb7 hg7 hown7 hgb))
 clear g0 g1 g2
 have g1 := pw_cell_below HW.out.2 HG.out.2.1
 have haE : (a : Int) < n := by omega
 have ha0 : (0 : Int) ≤ a := by omega
 go_upto_region 3 with (at_make; go_must (refine Kd.R_make kI (w0 := w1) w1.heap.size 3 rfl (N := 18) rfl _ _ _ rfl wd rfl rfl Tryz.underlying36 _ 8 Tryz.infoInt rfl (by decide) (by decide) (0 : Int) (ok := fun _ => True) (okp := fun _ => False) rfl (fun _ h => h.elim) trivial (by omega) (by omega) HW.out.2 HW.out.2.size ?_; intro v8 w3 hR8 hb8 hg8 hown8; rw [Int.toNat_natCast] at hR8; have HZ := Aside0.mk (row_new hR8 hb8.size); have hb38 := grown_below hg8; obtain ⟨zA, zC, hzv⟩ := Kd.R_slice hR8; rw [List.length_replicate] at hzv; subst hzv; obtain ⟨⟨q0, zc⟩, zf, hR9, hg9⟩ := lli_put (Kd.R_below HW.out.1 (below_then hb38 hb38.size (below_new w3 (.cells #[.slice zA wd zC] 36)))) ha HZ.out; have HP := Aside0.mk (And.intro hR9 (And.intro hg9 (below_then hb8 hb8.size (below_new w3 (.cells #[.slice zA wd zC] 36))))); clear hR8 hb8 hg8 hown8 hb38 hR9 hg9))
 have HW2 := Aside0.mk (show kLLI.R 28 ((w3.alloc (.cells #[.slice zA wd zC] 36)).setCell ⟨g, a, none⟩ (.slice (some ⟨w3.heap.size, 0, none⟩) 1 1)) w1.heap.size (fun _ => True) (.slice (some ⟨g, 0, none⟩) n cw) (numF wd (sumsT n E a 0)) ∧ Below w1.heap.size w1 ((w3.alloc (.cells #[.slice zA wd zC] 36)).setCell ⟨g, a, none⟩ (.slice (some ⟨w3.heap.size, 0, none⟩) 1 1)) from ⟨by have h := HP.out.1; rwa [numF_start (E := E) n wd a hw3] at h, HP.out.2.2.setCell (p := ⟨g, a, none⟩) HGE.out _⟩)
 generalize (w3.alloc (.cells #[.slice zA wd zC] 36)).setCell ⟨g, a, none⟩ (.slice (some ⟨w3.heap.size, 0, none⟩) 1 1) = w4 at *
 clear HP HZ zc zf g1 haE ha0 HW
 go_wp2_with fail
 go_loopw [6] (fun i wr => ∃ q : Nat, i = .int .i64 q ∧ q ≤ n ∧ Aside0 (kLLI.R 28 wr w1.heap.size (fun _ => True) (.slice (some ⟨g, 0, none⟩) n cw) (numF wd (sumsT n E a q)) ∧ Below w1.heap.size w1 wr ∧ SumInv n E a (q * E.length) (sumsT n E a q))) (fun i _ => n - (intOf i).toNat)
 case atStart => exact ⟨0, rfl, Nat.zero_le _, ⟨HW2.out.1, HW2.out.2, (sums_inv HN.out ha 0).1⟩⟩
 case round =>
  clear HW2
  obtain ⟨q, rfl, hq, hX⟩ := hrel
  have g0 := pw_cell_below hX.out.2.1 HG.out.1
  by_cases hqt : q < n
  ·have hqE : (q : Int) < n := by omega
   have HQ := Lib.hid (show sumsT n E a (q + 1) = E.foldl sumStepT (sumsT n E a q) from rfl)
   have HS := Lib.hid (show q * E.length + E.length ≤ 128 from steps_le hqt hn8 h16)
   generalize sumsT n E a q = rs at *
   go_wp2_with fail
   generalize wr = wo at *
   go_loopw [7] (fun i wr => ∃ j : Nat, i = .int .i64 j ∧ j ≤ E.length ∧ Aside0 (kLLI.R 28 wr w1.heap.size (fun _ => True) (.slice (some ⟨g, 0, none⟩) n cw) (numF wd ((E.take j).foldl sumStepT rs)) ∧ Below w1.heap.size w1 wr ∧ SumInv n E a (q * E.length + j) ((E.take j).foldl sumStepT rs))) (fun i _ => E.length - (intOf i).toNat)
   case atStart => exact ⟨0, rfl, Nat.zero_le _, ⟨by simpa using hX.out.1, hX.out.2.1, by simpa using hX.out.2.2⟩⟩
   case round =>
    clear hX g0
    obtain ⟨j, rfl, hj, hY⟩ := hrel
    have g2 := pw_cell_below hY.out.2.1 HG.out.2.2
    by_cases hjt : j < E.length
    ·have hjE : (j : Int) < E.length := by omega
     have hj0 : (0 : Int) ≤ j := by omega
     obtain ⟨ad, sA, sC, rfl, he0, he1, he2, heL, heC⟩ := at_edge HE.out hjt
     have HEJ := Lib.hid (show (E.take (j + 1)).foldl sumStepT rs = sumStepT ((E.take j).foldl sumStepT rs) E[j] from foldl_take_succ sumStepT rs E hjt)
     have HST := Lib.hid ((hY.out.2.2.step HN.out (List.getElem_mem hjt)).1)
     have HJ := Lib.hid (And.intro (HOK.out _ (List.getElem_mem hjt)) (HN.out _ (List.getElem_mem hjt)))
     have HFA := Lib.hid (fun (b : Nat) (hb : b < n) => hY.out.2.2.facts (Nd := n) (Wd := wd) HOK.out (by omega) (by have := HS.out; omega) hb)
     have HJM := Lib.hid (List.getElem_mem hjt)
     generalize E[j] = ee at *
     generalize (E.take j).foldl sumStepT rs = ry at *
     obtain ⟨fi, ti, add⟩ := ee
     obtain ⟨f, rfl⟩ : ∃ f : Nat, fi = f := ⟨fi.toNat, (Int.toNat_of_nonneg HJ.out.2.1.1).symm⟩
     obtain ⟨t, rfl⟩ : ∃ t : Nat, ti = t := ⟨ti.toNat, (Int.toNat_of_nonneg HJ.out.2.2.1).symm⟩
     have hfn : f < n := by have := HJ.out.2.1.2; simpa using this
     have htn : t < n := by have := HJ.out.2.2.2; simpa using this
     have HEG := Lib.hid (edge_list HJ.out.1)
     simp only at he0 he1 he2 heL HEG
     have hadd : add.length = wd := by have := HEG.out.1; omega
     rw [hadd] at he2 heL
     have HXC := Aside0.mk heL
     have HAD := Lib.hid hadd
     clear heC heL hadd
     replace he0 := pw_cell_below (below_then HB1.out HB1.out.size hY.out.2.1) he0
     replace he1 := pw_cell_below (below_then HB1.out HB1.out.size hY.out.2.1) he1
     replace he2 := pw_cell_below (below_then HB1.out HB1.out.size hY.out.2.1) he2
     have HSE := Lib.hid (show sumStepT ry ((f : Int), (t : Int), add) = ry.set t (firstsT (ry.getD t [] ++ (ry.getD f []).map (fun s => addT s (tmOf add)))) from rfl)
     go_upto_region 10 with fail
     obtain ⟨be, hbe⟩ : ∃ be, be = wr.heap.size := ⟨_, rfl⟩
     have HX := Aside0.mk (show kLLI.R 28 (wr.alloc (.cells #[.int .i64 (f : Int), .int .i64 (t : Int), .slice sA wd sC] 129)) w1.heap.size (fun _ => True) (.slice (some ⟨g, 0, none⟩) n cw) (numF wd (ry)) ∧ Below w1.heap.size w1 (wr.alloc (.cells #[.int .i64 (f : Int), .int .i64 (t : Int), .slice sA wd sC] 129)) ∧ (wr.alloc (.cells #[.int .i64 (f : Int), .int .i64 (t : Int), .slice sA wd sC] 129)).heap[be]? = some (.cells #[.int .i64 (f : Int), .int .i64 (t : Int), .slice sA wd sC] 129 (0, 0)) ∧ be ≠ g from ⟨Kd.R_below hY.out.1 (below_new wr _), below_then hY.out.2.1 hY.out.2.1.size (below_new wr _), by rw [hbe]; exact heap_alloc_new wr _, by rw [hbe]; exact fun he => lli_ne hY.out.1 he⟩)
     rw [← hbe]
     generalize wr.alloc (.cells #[.int .i64 (f : Int), .int .i64 (t : Int), .slice sA wd sC] 129) = w5 at *
     clear hbe hY he0 he1 he2 g2
     skip
     have e0 : w5.cell? ⟨be, 0, none⟩ = some (.int .i64 (f : Int)) := (blk_cell HX.out.2.2.1 0).trans rfl
     obtain ⟨bA, bC, zb, -, hbR⟩ := lli_at HX.out.1 (k := f) hfn
     have hfE : (f : Int) < n := by omega
     have hf0 : (0 : Int) ≤ f := by omega
     have HBR := Aside0.mk hbR
     clear hbR
     have HNF := Lib.hid (show ∀ b, (numF wd ry).getD b [] = (ry.getD b []).map (numsT wd) from fun b => numF_get wd ry b)
     rw [HNF.out f] at zb HBR
     rw [List.length_map] at zb HBR
     obtain ⟨br, hbr⟩ : ∃ br, br = ry.getD f [] := ⟨_, rfl⟩
     rw [← hbr] at zb HBR
     have HBE := Lib.hid hbr
     clear hbr
     go_wp2_with fail
     clear zb e0
     have HRL := Lib.hid (show t < ry.length by have := HST.out.len; unfold sumStepT at this; rw [List.length_set] at this; omega)
     have HT0 := Aside0.mk (show kLLI.R 28 w5 w1.heap.size (fun _ => True) (.slice (some ⟨g, 0, none⟩) n cw) (numF wd (ry.set t (ry.getD t [] ++ (br.take 0).map (fun s => addT s (tmOf add))))) ∧ kLI.R 36 w5 w1.heap.size (fun _ => True) (.slice bA br.length bC) (br.map (numsT wd)) ∧ Below w1.heap.size w1 w5 ∧ w5.heap[be]? = some (.cells #[.int .i64 (f : Int), .int .i64 (t : Int), .slice sA wd sC] 129 (0, 0)) from ⟨by rw [List.take_zero, List.map_nil, List.append_nil, set_getD ry HRL.out]; exact HX.out.1, HBR.out, HX.out.2.1, HX.out.2.2.1⟩)
     have HBG := Lib.hid HX.out.2.2.2
     clear HX HBR
     have hbl : br.length ≤ 163865601 := by rw [HBE.out]; exact (HFA.out f hfn).1
     have HTL := Lib.hid (HFA.out t htn)
     go_loopw [10] (fun i wr => ∃ k : Nat, i = .int .i64 k ∧ k ≤ br.length ∧ Aside0 (kLLI.R 28 wr w1.heap.size (fun _ => True) (.slice (some ⟨g, 0, none⟩) n cw) (numF wd (ry.set t (ry.getD t [] ++ (br.take k).map (fun s => addT s (tmOf add))))) ∧ kLI.R 36 wr w1.heap.size (fun _ => True) (.slice bA br.length bC) (br.map (numsT wd)) ∧ Below w1.heap.size w1 wr ∧ wr.heap[be]? = some (.cells #[.int .i64 (f : Int), .int .i64 (t : Int), .slice sA wd sC] 129 (0, 0)))) (fun i _ => br.length - (intOf i).toNat)
     case atStart => exact ⟨0, rfl, Nat.zero_le _, HT0⟩
     case round =>
      clear HT0
      obtain ⟨k, rfl, hk, hT⟩ := hrel
      by_cases hkt : k < br.length
      ·have hkE : (k : Int) < br.length := by omega
       have hk0 : (0 : Int) ≤ k := by omega
       have htE : (t : Int) < n := by omega
       have ht0 : (0 : Int) ≤ t := by omega
       have HCL := Lib.hid (show (ry.getD t [] ++ (br.take (k + 1)).map (fun s => addT s (tmOf add))) = (ry.getD t [] ++ (br.take k).map (fun s => addT s (tmOf add))) ++ [addT br[k] (tmOf add)] by rw [List.take_succ_eq_append_getElem hkt, List.map_append, List.append_assoc]; rfl)
       have HLN := Lib.hid (show (ry.getD t [] ++ (br.take k).map (fun s => addT s (tmOf add))).length ≤ 400000000 by have := HTL.out.1; rw [List.length_append, List.length_map, List.length_take]; omega)
       have HYB := Lib.hid (show plusT br[k] (tmOf add) = addT br[k] (tmOf add) from (plusT_add ((HFA.out f hfn).2 _ (by rw [← HBE.out]; exact List.getElem_mem hkt)).2 (edges_in HOK.out (by omega) _ (HJM.out)).2.2 (by omega)).1)
       obtain ⟨bg, yA, yC, hbA, zy, hyR⟩ := nums_at hw3 hT.out.2.1 hkt
       subst hbA
       generalize br[k] = y at *
       generalize (ry.getD t [] ++ (br.take k).map (fun s => addT s (tmOf add))) = cl at *
       have hRr : kLLI.R 28 wr w1.heap.size (fun _ => True) (.slice (some ⟨g, 0, none⟩) n cw) (numF wd (ry.set t cl)) := hT.out.1
       obtain ⟨cA, cC, zc, -, hcR⟩ := lli_at hRr (k := t) htn
       rw [numF_get, getD_set_self _ _ _ _ HRL.out, List.length_map] at zc hcR
       have e1 : wr.cell? ⟨be, 1, none⟩ = some (.int .i64 (t : Int)) := (blk_cell hT.out.2.2.2 1).trans rfl
       have e2 : wr.cell? ⟨be, 2, none⟩ = some (.slice sA wd sC) := (blk_cell hT.out.2.2.2 2).trans rfl
       have HTT := Aside0.mk (And.intro hcR hyR)
       clear hcR hyR hRr
       go_upto_region 14 with fail
       refine start_ (n := 21) (S := fun V => V.cell? ⟨be, 1, none⟩ = some (.int .i64 (t : Int)) ∧ V.cell? ⟨be, 2, none⟩ = some (.slice sA wd sC) ∧ V.cell? ⟨g, t, none⟩ = some (.slice cA cl.length cC) ∧ V.cell? ⟨bg, k, none⟩ = some (.slice yA wd yC)) (ds := [20]) (bs 21 0) (by kernel_rfl) rfl (by kernel_rfl) ⟨e1, e2, zc, zy⟩ (fun hHeld => ?_)
       have HD := Aside0.mk (And.intro (Kd.R_below hT.out.1 (below_drew1 (Below.refl wr.heap.size wr))) (And.intro (Kd.R_below hT.out.2.1 (below_drew1 (Below.refl wr.heap.size wr))) (And.intro (below_drew1 hT.out.2.2.1) (And.intro (blk_below hT.out.2.2.2 (below_drew1 (Below.refl wr.heap.size wr))) (And.intro (Kd.R_below HTT.out.1 (below_drew1 (Below.refl wr.heap.size wr))) (Kd.R_below HTT.out.2 (below_drew1 (Below.refl wr.heap.size wr))))))))
       clear hT HTT e1 e2 zc zy
       generalize wr.drew = wq at *
       have HQ := Aside0.mk hHeld
       have HN0 := Aside0.mk (NewLI.start HD.out.2.2.1)
       refine pu 0 50 (bs 21 1) ?_
       refine pu 1 51 (bs 21 3) ?_
       refine tk4 2 52 (bs 21 7) hHeld ?_
       refine pu 4 54 (bs 21 23) ?_
       refine pu 5 55 (bs 21 55) ?_
       refine tk4 6 56 (bs 21 119) hHeld ?_
       refine pu 7 57 (bs 21 247) ?_
       refine tk4 8 58 (bs 21 503) hHeld ?_
       refine pu 10 60 (bs 21 1527) ?_
       refine pu 11 61 (bs 21 3575) ?_
       refine pu 12 62 (bs 21 7671) ?_
       refine tk4 13 63 (bs 21 15863) hHeld ?_
       refine pu 14 64 (bs 21 32247) ?_
       refine tk4 15 65 (bs 21 65015) hHeld ?_
       refine on0 3 53 (bs 21 65023) fun K hK => ?_
       refine va0 ?_
       refine hK.out _ _ ⟨pw_cell_below HN0.out.below HQ.out.1, pw_cell_below HN0.out.below HQ.out.2.1, pw_cell_below HN0.out.below HQ.out.2.2.1, pw_cell_below HN0.out.below HQ.out.2.2.2⟩ (fun hHeld => ?_)
       clear hK K
       refine nm0 (some 53) ?_
       refine on0 9 59 (bs 21 65535) fun K hK => ?_
       refine NewLI.rowsS (ys := cl.map (numsT wd)) HN0.out (by rw [List.length_map]; exact HD.out.2.2.2.2.1) (by rw [List.length_map]; have := HLN.out; simp; omega) (.tmp 53) (.tmp 58) (by rfl) rfl rfl (by rw [List.length_map]; rfl) ?_
       intro v6 w6 hN6
       rw [List.nil_append] at hN6
       have HN6 := Aside0.mk hN6
       clear hN6 HN0
       refine hK.out _ _ ⟨pw_cell_below HN6.out.below HQ.out.1, pw_cell_below HN6.out.below HQ.out.2.1, pw_cell_below HN6.out.below HQ.out.2.2.1, pw_cell_below HN6.out.below HQ.out.2.2.2⟩ (fun hHeld => ?_)
       clear hK K
       refine nm0 (some 59) ?_
       have HCA := Lib.hid (plus_tm hw3 yA sA yC sC y add HAD.out w6 (kI_C (Kd.R_below HD.out.2.2.2.2.2 HN6.out.below)) (Kd.C_below HXC.out (below_then HB1.out HB1.out.size HN6.out.down)))
       refine on0 16 66 (bs 21 131071) fun K hK => ?_
       refine gs0 Tryz.func72 #[.slice yA wd yC, .slice sA wd sC] ?_
       refine HCA.out.mono ?_
       rintro e w7 ⟨v7, rfl, hR7, hb7⟩
       rw [HYB.out] at hR7
       obtain ⟨pA, pC, hpe⟩ := Kd.R_slice hR7
       rw [length_numsT _ hw3] at hpe
       subst hpe
       have HN7 := Aside0.mk (HN6.out.up hb7)
       have HR7 := Aside0.mk (Kd.R_lower hR7 HN6.out.down.size)
       clear hR7 hb7 HCA
       refine ⟨_, rfl, hK.out _ _ ⟨pw_cell_below HN7.out.below HQ.out.1, pw_cell_below HN7.out.below HQ.out.2.1, pw_cell_below HN7.out.below HQ.out.2.2.1, pw_cell_below HN7.out.below HQ.out.2.2.2⟩ (fun hHeld => ?_)⟩
       clear hK K
       refine nm0 (some 66) ?_
       refine on0 17 67 (bs 21 262143) fun K hK => ?_
       refine va0 ?_
       refine hK.out _ _ ⟨pw_cell_below (HN7.out.up (below_new w7 _)).below HQ.out.1, pw_cell_below (HN7.out.up (below_new w7 _)).below HQ.out.2.1, pw_cell_below (HN7.out.up (below_new w7 _)).below HQ.out.2.2.1, pw_cell_below (HN7.out.up (below_new w7 _)).below HQ.out.2.2.2⟩ (fun hHeld => ?_)
       clear hK K
       refine nm0 (some 67) ?_
       refine on0 18 68 (bs 21 524287) fun K hK => ?_
       refine NewLI.appS HN7.out HR7.out (by rw [List.length_map]; have := HLN.out; omega) (.tmp 59) (.tmp 67) (by rfl) rfl rfl rfl ?_
       intro v8 w8 hN8 hg8
       have HN8 := Aside0.mk hN8
       clear hN8 hg8
       obtain ⟨vA, vC, hve⟩ := NewLI.slice HN8.out
       generalize hvn : (cl.map (numsT wd) ++ [numsT wd (addT y (tmOf add))]).length = vn at *
       have HVN := Lib.hid hvn
       clear hvn
       subst hve
       refine hK.out _ _ ⟨pw_cell_below HN8.out.below HQ.out.1, pw_cell_below HN8.out.below HQ.out.2.1, pw_cell_below HN8.out.below HQ.out.2.2.1, pw_cell_below HN8.out.below HQ.out.2.2.2⟩ (fun hHeld => ?_)
       clear hK K
       refine nm0 (some 68) ?_
       refine pu 19 69 (bs 21 1048575) ?_
       obtain ⟨⟨q1, zc⟩, zf, hR9, hg9⟩ := lli_put (Kd.R_below HD.out.1 HN8.out.below) htn HN8.out.rows
       have HP := Aside0.mk (And.intro hR9 hg9)
       clear hR9 hg9
       refine la0 20 (bs 21 2097151) (N := none) fun K hK => ?_
       refine sk0 ?_
       refine hK.out _ _ ?_
       clear hK K hHeld
       refine dn0 ?_
       have HR := Aside0.mk (show kLLI.R 28 (w8.setCell ⟨g, t, none⟩ (.slice vA vn vC)) w1.heap.size (fun _ => True) (.slice (some ⟨g, 0, none⟩) n cw) (numF wd (ry.set t (ry.getD t [] ++ (br.take (k + 1)).map (fun s => addT s (tmOf add))))) ∧ kLI.R 36 (w8.setCell ⟨g, t, none⟩ (.slice vA vn vC)) w1.heap.size (fun _ => True) (.slice (some ⟨bg, 0, none⟩) br.length bC) (br.map (numsT wd)) ∧ Below w1.heap.size w1 (w8.setCell ⟨g, t, none⟩ (.slice vA vn vC)) ∧ (w8.setCell ⟨g, t, none⟩ (.slice vA vn vC)).heap[be]? = some (.cells #[.int .i64 (f : Int), .int .i64 (t : Int), .slice sA wd sC] 129 (0, 0)) from ⟨by have h := HP.out.1; rwa [show cl.map (numsT wd) ++ [numsT wd (addT y (tmOf add))] = (ry.getD t [] ++ (br.take (k + 1)).map (fun s => addT s (tmOf add))).map (numsT wd) by rw [HCL.out]; simp, numF_set, List.set_set] at h, Kd.R_over (Kd.R_below HD.out.2.1 HN8.out.below) (Kd.R_below HD.out.1 HN8.out.below) li_off HP.out.2, HN8.out.down.setCell (p := ⟨g, t, none⟩) HGE.out _, (HP.out.2.block be (blk_lt (blk_below HD.out.2.2.2.1 HN8.out.below)) (fun he => HBG.out (by injection he))).trans (blk_below HD.out.2.2.2.1 HN8.out.below)⟩)
       clear HP HD HQ zc zf
       go_wp2_with fail
       exact ⟨⟨k + 1, by go_num, by omega, HR⟩, by simp [intOf]; omega⟩
      ·have hkE : ¬ ((k : Int) < br.length) := by omega
       have HCE := Lib.hid (show (ry.getD t [] ++ (br.take k).map (fun s => addT s (tmOf add))) = ry.getD t [] ++ (ry.getD f []).map (fun s => addT s (tmOf add)) by rw [List.take_of_length_le (by omega), HBE.out])
       have HZL := Lib.hid (show ∀ x ∈ ry.getD t [] ++ (ry.getD f []).map (fun s => addT s (tmOf add)), ZW wd x from fun x hx => by rcases List.mem_append.1 hx with hx | hx; exact ((HFA.out t htn).2 x hx).1; obtain ⟨s, hs, rfl⟩ := List.mem_map.1 hx; exact ZW_add ((HFA.out f hfn).2 s hs).1 (ZW_tm HAD.out))
       have HLN := Lib.hid (show (ry.getD t [] ++ (ry.getD f []).map (fun s => addT s (tmOf add))).length ≤ 400000000 by have := HTL.out.1; have := (HFA.out f hfn).1; rw [List.length_append, List.length_map]; omega)
       have HT := Aside0.mk (show kLLI.R 28 wr w1.heap.size (fun _ => True) (.slice (some ⟨g, 0, none⟩) n cw) (numF wd (ry.set t (ry.getD t [] ++ (ry.getD f []).map (fun s => addT s (tmOf add))))) ∧ Below w1.heap.size w1 wr ∧ wr.heap[be]? = some (.cells #[.int .i64 (f : Int), .int .i64 (t : Int), .slice sA wd sC] 129 (0, 0)) from ⟨by rw [← HCE.out]; exact hT.out.1, hT.out.2.2.1, hT.out.2.2.2⟩)
       clear hT HCE
       generalize ry.getD t [] ++ (ry.getD f []).map (fun s => addT s (tmOf add)) = cl at *
       have hRr : kLLI.R 28 wr w1.heap.size (fun _ => True) (.slice (some ⟨g, 0, none⟩) n cw) (numF wd (ry.set t cl)) := HT.out.1
       obtain ⟨cA, cC, zc, -, hcR⟩ := lli_at hRr (k := t) htn
       rw [numF_get, getD_set_self _ _ _ _ HRL.out, List.length_map] at zc hcR
       have htE : (t : Int) < n := by omega
       have ht0 : (0 : Int) ≤ t := by omega
       have e1 : wr.cell? ⟨be, 1, none⟩ = some (.int .i64 (t : Int)) := (blk_cell HT.out.2.2 1).trans rfl
       go_upto_region 15 with fail
       refine start_ (n := 11) (S := fun V => V.cell? ⟨be, 1, none⟩ = some (.int .i64 (t : Int)) ∧ V.cell? ⟨g, t, none⟩ = some (.slice cA cl.length cC)) (ds := [10]) (bs 11 0) (by kernel_rfl) rfl (by kernel_rfl) ⟨e1, zc⟩ (fun hHeld => ?_)
       have HD := Aside0.mk (And.intro (Kd.R_below HT.out.1 (below_drew1 (Below.refl wr.heap.size wr))) (And.intro (below_drew1 HT.out.2.1) (And.intro (blk_below HT.out.2.2 (below_drew1 (Below.refl wr.heap.size wr))) (Kd.R_below hcR (below_drew1 (Below.refl wr.heap.size wr))))))
       clear HT hRr hcR e1 zc
       generalize wr.drew = wq at *
       refine pu 0 70 (bs 11 1) ?_
       refine pu 1 71 (bs 11 3) ?_
       refine tk2 2 72 (bs 11 7) hHeld ?_
       refine pu 3 73 (bs 11 15) ?_
       refine pu 4 74 (bs 11 31) ?_
       refine tk2 5 75 (bs 11 63) hHeld ?_
       refine pu 6 76 (bs 11 127) ?_
       refine tk2 7 77 (bs 11 255) hHeld ?_
       have HCA := Lib.hid (earliest_tm hw1 hw3 cA cC cl wq (Kd.R_lower HD.out.2.2.2 (Nat.le_refl _)) HZL.out (by have := HLN.out; omega))
       refine on0 8 78 (bs 11 511) fun K hK => ?_
       refine gs0 Tryz.func73 #[.slice cA cl.length cC] ?_
       refine HCA.out.mono ?_
       rintro e w7 ⟨v7, rfl, hR7, hb7⟩
       obtain ⟨pA, pC, hpe⟩ := Kd.R_slice hR7
       have HR7 := Aside0.mk (And.intro (Kd.R_lower hR7 HD.out.2.1.size) hb7)
       generalize hpn : ((firstsT cl).map (numsT wd)).length = pn at *
       subst hpe
       clear hR7 HCA hpn
       refine ⟨_, rfl, hK.out _ _ ⟨pw_cell_below hb7 hHeld.1, pw_cell_below hb7 hHeld.2⟩ (fun hHeld => ?_)⟩
       clear hb7
       clear hK K
       refine nm0 (some 78) ?_
       refine pu 9 79 (bs 11 1023) ?_
       obtain ⟨⟨q1, zc⟩, zf, hR9, hg9⟩ := lli_put (Kd.R_below HD.out.1 HR7.out.2) htn HR7.out.1
       have HP := Aside0.mk (And.intro hR9 hg9)
       clear hR9 hg9
       refine la0 10 (bs 11 2047) (N := none) fun K hK => ?_
       refine sk0 ?_
       refine hK.out _ _ ?_
       clear hK K hHeld
       refine dn0 ?_
       have HR := Aside0.mk (show kLLI.R 28 (w7.setCell ⟨g, t, none⟩ (.slice pA pn pC)) w1.heap.size (fun _ => True) (.slice (some ⟨g, 0, none⟩) n cw) (numF wd ((E.take (j + 1)).foldl sumStepT rs)) ∧ Below w1.heap.size w1 (w7.setCell ⟨g, t, none⟩ (.slice pA pn pC)) ∧ SumInv n E a (q * E.length + (j + 1)) ((E.take (j + 1)).foldl sumStepT rs) from ⟨by have h := HP.out.1; rwa [numF_set, List.set_set, ← HSE.out, ← HEJ.out] at h, (below_then HD.out.2.1 HD.out.2.1.size HR7.out.2).setCell (p := ⟨g, t, none⟩) HGE.out _, by rw [HEJ.out]; exact HST.out⟩)
       clear HP HD zc zf
       go_wp2_with fail
       exact ⟨⟨j + 1, by go_num, by omega, HR⟩, by simp [intOf]; omega⟩
    ·have hjE : ¬ ((j : Int) < E.length) := by omega
     have HR := Aside0.mk (show kLLI.R 28 wr w1.heap.size (fun _ => True) (.slice (some ⟨g, 0, none⟩) n cw) (numF wd (sumsT n E a (q + 1))) ∧ Below w1.heap.size w1 wr ∧ SumInv n E a ((q + 1) * E.length) (sumsT n E a (q + 1)) from ⟨by have h := hY.out.1; rw [List.take_of_length_le (by omega), ← HQ.out] at h; exact h, hY.out.2.1, by have h := hY.out.2.2; rw [List.take_of_length_le (by omega), ← HQ.out, show j = E.length by omega, ← Nat.succ_mul] at h; exact h⟩)
     go_wp2_with fail
     exact ⟨⟨q + 1, by go_num, by omega, HR⟩, by simp [intOf]; omega⟩
  ·have hqE : ¬ ((q : Int) < n) := by omega
   have HF := Aside0.mk (show kLLI.R 28 wr w.heap.size (fun _ => True) (.slice (some ⟨g, 0, none⟩) n cw) (numF wd (sumsT n E a n)) ∧ Below w.heap.size w wr from ⟨by have h := hX.out.1; rw [show q = n by omega] at h; exact Kd.R_lower h HB1.out.size, below_then HB1.out HB1.out.size hX.out.2.1⟩)
   clear hX
   go_wp2_with fail
   go_ret
   exact ⟨_, rfl, HF.out.1, HF.out.2⟩
end Go.Proofs.YtbkfnmgkcgnifaaGreat
namespace Go.Proofs.YtbkfnmgkcgnifaaGreat
open Go.RowKit Go.Shelf Go.Proofs.YtbkfnmgkcgnifaaGreatW.PrintWords Go.Proofs.YtbkfnmgkcgnifaaGreatW.PrintLast Mdl
theorem ex_run (w : World) {eA mA sA : Option Addr} (hp : PlanAt w planP eA mA) (hs : kI.C w sA 4 [0, 2, 0, 1]) : Calls Tryz.prog 22 #[planV planP eA 4 mA 1, .slice sA 4 4] w fun e w' => e = .returned (.tuple #[.agg #[.int .i64 3, .int .i64 3, .int .i64 2], .int .i64 0]) ∧ Below w.heap.size w w' := by
 refine (run_any planP eA mA sA 4 1 4 [0, 2, 0, 1] w hp hs (Nat.le_refl _)).mono ?_
 rintro e w' ⟨rfl, hb⟩
 rw [ex_r]
 exact ⟨rfl, hb⟩
set_option maxRecDepth 8000 in
set_option maxHeartbeats 8000000 in
theorem progressed_any (w : World) : Calls Tryz.prog 11 #[] w fun e w' => e = .returned (.bool true) ∧ Below w.heap.size w w' := by
 have HP := fun w => Lib.hid (plan_any w)
 have H0 := Aside0.mk (Al.start w)
 go_enter Tryz.func11, Tryz.ntmps11
 go_upto_region 1 with fail
 go_wp2_with fail
 refine (HP _).out.mono ?_
 rintro e v1 ⟨eA, mA, rfl, hp, hb⟩
 have H1 := Aside0.mk ((H0.out.up hb).plan hp)
 clear H0
 simp only [planV]
 clear hp hb HP
 have HM : ∀ w : World, (Instr.makeSlice 38 (.int .i64 3) (.int .i64 3)).run Tryz.prog w = .ok (.slice (some ⟨w.heap.size, 0, none⟩) 3 3) (w.alloc (.cells (madeCells #[.slice none 0 0] 3) 28)) := made_fronts 3 (by decide)
 have HQ : ∀ w, (binOp .neq 50 (.agg #[.int .i64 3, .int .i64 3, .int .i64 2]) (.agg #[.int .i64 3, .int .i64 3, .int .i64 2])).run Tryz.prog w = .ok (.bool false) w := ne_run 3 3 2 3 3 2
 have H2 := Aside0.mk (((H1.out).new (.cells #[.int .i64 0, .int .i64 2, .int .i64 0, .int .i64 1] 3) (b := v1.heap.size) (by simp)).new (.cells #[.int .i64 planP.N, .int .i64 planP.Wd, .slice eA planP.E.length 4, .int .i64 planP.workers, .slice mA planP.start.length 1] 27) (b := v1.heap.size + 1) (by simp))
 clear H1
 go_upto_region 2 with fail
 generalize ((v1).alloc (.cells #[.int .i64 0, .int .i64 2, .int .i64 0, .int .i64 1] 3)).alloc (.cells #[.int .i64 planP.N, .int .i64 planP.Wd, .slice eA planP.E.length 4, .int .i64 planP.workers, .slice mA planP.start.length 1] 27) = v2 at *
 generalize hsb : v1.heap.size = sb at *
 generalize hpb : sb + 1 = pb at *
 clear hsb hpb
 have H3 := Aside0.mk ((((((((H2.out).new (.cells #[.int .i64 0, .int .i64 0] 3) (b := v2.heap.size) (by simp)).new (.cells #[.slice (some ⟨v2.heap.size, 0, none⟩) 2 2] 36) (b := v2.heap.size + 1) (by simp)).new (.cells #[.int .i64 0, .int .i64 0] 3) (b := v2.heap.size + 1 + 1) (by simp)).new (.cells #[.slice (some ⟨v2.heap.size + 1 + 1, 0, none⟩) 2 2] 36) (b := v2.heap.size + 1 + 1 + 1) (by simp)).new (.cells #[.int .i64 0, .int .i64 1] 3) (b := v2.heap.size + 1 + 1 + 1 + 1) (by simp)).new (.cells #[.slice (some ⟨v2.heap.size + 1 + 1 + 1 + 1, 0, none⟩) 2 2] 36) (b := v2.heap.size + 1 + 1 + 1 + 1 + 1) (by simp)).new (.cells #[.slice (some ⟨v2.heap.size + 1, 0, none⟩) 1 1, .slice (some ⟨v2.heap.size + 1 + 1 + 1, 0, none⟩) 1 1, .slice (some ⟨v2.heap.size + 1 + 1 + 1 + 1 + 1, 0, none⟩) 1 1] 28) (b := v2.heap.size + 1 + 1 + 1 + 1 + 1 + 1) (by simp))
 clear H2
 go_upto_region 3 with fail
 generalize (((((((v2).alloc (.cells #[.int .i64 0, .int .i64 0] 3)).alloc (.cells #[.slice (some ⟨v2.heap.size, 0, none⟩) 2 2] 36)).alloc (.cells #[.int .i64 0, .int .i64 0] 3)).alloc (.cells #[.slice (some ⟨v2.heap.size + 1 + 1, 0, none⟩) 2 2] 36)).alloc (.cells #[.int .i64 0, .int .i64 1] 3)).alloc (.cells #[.slice (some ⟨v2.heap.size + 1 + 1 + 1 + 1, 0, none⟩) 2 2] 36)).alloc (.cells #[.slice (some ⟨v2.heap.size + 1, 0, none⟩) 1 1, .slice (some ⟨v2.heap.size + 1 + 1 + 1, 0, none⟩) 1 1, .slice (some ⟨v2.heap.size + 1 + 1 + 1 + 1 + 1, 0, none⟩) 1 1] 28) = v3 at *
 generalize v2.heap.size = fb at *
 have hf : kLLI.C v3 (some ⟨fb + 1 + 1 + 1 + 1 + 1 + 1, 0, none⟩) 3 [[[0, 0]], [[0, 0]], [[0, 1]]] := C_lits (xs := [[[0, 0]], [[0, 0]], [[0, 1]]]) [[.slice (some ⟨fb + 1, 0, none⟩) 1 1], [.slice (some ⟨fb + 1 + 1 + 1, 0, none⟩) 1 1], [.slice (some ⟨fb + 1 + 1 + 1 + 1 + 1, 0, none⟩) 1 1]] H3.out.1.1 ⟨K_sl (lit_li1 H3.out.2.2.2.2.2.1.1 H3.out.2.2.2.2.2.2.1.1) rfl (Nat.le_refl _), K_sl (lit_li1 H3.out.2.2.2.1.1 H3.out.2.2.2.2.1.1) rfl (Nat.le_refl _), K_sl (lit_li1 H3.out.2.1.1 H3.out.2.2.1.1) rfl (Nat.le_refl _), trivial⟩ (by decide)
 have hs : kI.C v3 (some ⟨sb, 0, none⟩) 4 [0, 2, 0, 1] := C_lits (xs := [0, 2, 0, 1]) [[.int .i64 0], [.int .i64 2], [.int .i64 0], [.int .i64 1]] H3.out.2.2.2.2.2.2.2.2.1.1 ⟨rfl, rfl, rfl, rfl, trivial⟩ (by decide)
 have H4 := Aside0.mk ((Al.row (H3.out.2.2.2.2.2.2.2) hf).row hs)
 clear H3
 generalize fb + 1 + 1 + 1 + 1 + 1 + 1 = fa at *
 clear hf hs
 have p0 : v3.cell? ⟨pb, 0, none⟩ = some (.int .i64 planP.N) := (blk_cell H4.out.2.2.1.1 0).trans rfl
 have p1 : v3.cell? ⟨pb, 1, none⟩ = some (.int .i64 planP.Wd) := (blk_cell H4.out.2.2.1.1 1).trans rfl
 have p2 : v3.cell? ⟨pb, 2, none⟩ = some (.slice eA planP.E.length 4) := (blk_cell H4.out.2.2.1.1 2).trans rfl
 have p3 : v3.cell? ⟨pb, 3, none⟩ = some (.int .i64 planP.workers) := (blk_cell H4.out.2.2.1.1 3).trans rfl
 have p4 : v3.cell? ⟨pb, 4, none⟩ = some (.slice mA planP.start.length 1) := (blk_cell H4.out.2.2.1.1 4).trans rfl
 go_wp2_with fail
 refine (res_ok ex_p1 (m := ([[0, 1]] : List (List Int))) rfl (paths_any planP.N planP.Wd planP.E eA 4 0 2 _ (H4.out.2.2.2.2.1.1).hE)).mono ?_
 rintro e v4 ⟨A1, c1, rfl, h1, -, hb⟩
 have H5 := Aside0.mk ((H4.out.up hb).row h1)
 clear H4
 clear hb h1
 clear p0 p1 p2 p3 p4
 go_upto_region 4 with fail
 have p0 : v4.cell? ⟨pb, 0, none⟩ = some (.int .i64 planP.N) := (blk_cell H5.out.2.2.2.1.1 0).trans rfl
 have p1 : v4.cell? ⟨pb, 1, none⟩ = some (.int .i64 planP.Wd) := (blk_cell H5.out.2.2.2.1.1 1).trans rfl
 have p2 : v4.cell? ⟨pb, 2, none⟩ = some (.slice eA planP.E.length 4) := (blk_cell H5.out.2.2.2.1.1 2).trans rfl
 have p3 : v4.cell? ⟨pb, 3, none⟩ = some (.int .i64 planP.workers) := (blk_cell H5.out.2.2.2.1.1 3).trans rfl
 have p4 : v4.cell? ⟨pb, 4, none⟩ = some (.slice mA planP.start.length 1) := (blk_cell H5.out.2.2.2.1.1 4).trans rfl
 go_wp2_with fail
 refine (res_ok ex_p2 (m := ([[1, 0]] : List (List Int))) rfl (paths_any planP.N planP.Wd planP.E eA 4 2 0 _ (H5.out.2.2.2.2.2.1.1).hE)).mono ?_
 rintro e v5 ⟨A2, c2, rfl, h1, -, hb⟩
 have H6 := Aside0.mk ((H5.out.up hb).row h1)
 clear H5
 clear hb h1
 clear p0 p1 p2 p3 p4
 go_upto_region 5 with fail
 have p0 : v5.cell? ⟨pb, 0, none⟩ = some (.int .i64 planP.N) := (blk_cell H6.out.2.2.2.2.1.1 0).trans rfl
 have p1 : v5.cell? ⟨pb, 1, none⟩ = some (.int .i64 planP.Wd) := (blk_cell H6.out.2.2.2.2.1.1 1).trans rfl
 have p2 : v5.cell? ⟨pb, 2, none⟩ = some (.slice eA planP.E.length 4) := (blk_cell H6.out.2.2.2.2.1.1 2).trans rfl
 have p3 : v5.cell? ⟨pb, 3, none⟩ = some (.int .i64 planP.workers) := (blk_cell H6.out.2.2.2.2.1.1 3).trans rfl
 have p4 : v5.cell? ⟨pb, 4, none⟩ = some (.slice mA planP.start.length 1) := (blk_cell H6.out.2.2.2.2.1.1 4).trans rfl
 go_wp2_with fail
 refine (res_ok ex_t (m := ([[[0, 0]], [[0, 0]], [[0, 1]]] : List (List (List Int)))) rfl (truth_any planP eA mA none 4 1 0 [] 0 (by decide) _ H6.out.2.2.2.2.2.2.1.1 (Kd.C_nil kI _) (Nat.le_refl _))).mono ?_
 rintro e v6 ⟨A3, c3, rfl, h1, -, hb⟩
 have H7 := Aside0.mk ((H6.out.up hb).row h1)
 clear H6
 clear hb h1
 clear p0 p1 p2 p3 p4
 go_upto_region 6 with fail
 have p0 : v6.cell? ⟨pb, 0, none⟩ = some (.int .i64 planP.N) := (blk_cell H7.out.2.2.2.2.2.1.1 0).trans rfl
 have p1 : v6.cell? ⟨pb, 1, none⟩ = some (.int .i64 planP.Wd) := (blk_cell H7.out.2.2.2.2.2.1.1 1).trans rfl
 have p2 : v6.cell? ⟨pb, 2, none⟩ = some (.slice eA planP.E.length 4) := (blk_cell H7.out.2.2.2.2.2.1.1 2).trans rfl
 have p3 : v6.cell? ⟨pb, 3, none⟩ = some (.int .i64 planP.workers) := (blk_cell H7.out.2.2.2.2.2.1.1 3).trans rfl
 have p4 : v6.cell? ⟨pb, 4, none⟩ = some (.slice mA planP.start.length 1) := (blk_cell H7.out.2.2.2.2.2.1.1 4).trans rfl
 go_wp2_with fail
 refine (res_ok ex_b0 (m := ([[], [], []] : List (List (List Int)))) rfl (belief_any planP eA mA none 4 1 0 [] 1 0 (by decide) _ H7.out.2.2.2.2.2.2.2.1.1 (Kd.C_nil kI _) (Nat.le_refl _))).mono ?_
 rintro e v7 ⟨A4, c4, rfl, h1, -, hb⟩
 have H8 := Aside0.mk ((H7.out.up hb).row h1)
 clear H7
 clear hb h1
 clear p0 p1 p2 p3 p4
 go_upto_region 7 with fail
 have p0 : v7.cell? ⟨pb, 0, none⟩ = some (.int .i64 planP.N) := (blk_cell H8.out.2.2.2.2.2.2.1.1 0).trans rfl
 have p1 : v7.cell? ⟨pb, 1, none⟩ = some (.int .i64 planP.Wd) := (blk_cell H8.out.2.2.2.2.2.2.1.1 1).trans rfl
 have p2 : v7.cell? ⟨pb, 2, none⟩ = some (.slice eA planP.E.length 4) := (blk_cell H8.out.2.2.2.2.2.2.1.1 2).trans rfl
 have p3 : v7.cell? ⟨pb, 3, none⟩ = some (.int .i64 planP.workers) := (blk_cell H8.out.2.2.2.2.2.2.1.1 3).trans rfl
 have p4 : v7.cell? ⟨pb, 4, none⟩ = some (.slice mA planP.start.length 1) := (blk_cell H8.out.2.2.2.2.2.2.1.1 4).trans rfl
 go_wp2_with fail
 refine (res_ok ex_b1 (m := ([[[0, 0]], [[0, 0]], [[0, 1]]] : List (List (List Int)))) rfl (belief_any planP eA mA none 4 1 0 [] 1 1 (by decide) _ H8.out.2.2.2.2.2.2.2.2.1.1 (Kd.C_nil kI _) (Nat.le_refl _))).mono ?_
 rintro e v8 ⟨A5, c5, rfl, h1, -, hb⟩
 have H9 := Aside0.mk ((H8.out.up hb).row h1)
 clear H8
 clear hb h1
 clear p0 p1 p2 p3 p4
 go_upto_region 8 with fail
 have p0 : v8.cell? ⟨pb, 0, none⟩ = some (.int .i64 planP.N) := (blk_cell H9.out.2.2.2.2.2.2.2.1.1 0).trans rfl
 have p1 : v8.cell? ⟨pb, 1, none⟩ = some (.int .i64 planP.Wd) := (blk_cell H9.out.2.2.2.2.2.2.2.1.1 1).trans rfl
 have p2 : v8.cell? ⟨pb, 2, none⟩ = some (.slice eA planP.E.length 4) := (blk_cell H9.out.2.2.2.2.2.2.2.1.1 2).trans rfl
 have p3 : v8.cell? ⟨pb, 3, none⟩ = some (.int .i64 planP.workers) := (blk_cell H9.out.2.2.2.2.2.2.2.1.1 3).trans rfl
 have p4 : v8.cell? ⟨pb, 4, none⟩ = some (.slice mA planP.start.length 1) := (blk_cell H9.out.2.2.2.2.2.2.2.1.1 4).trans rfl
 go_wp2_with fail
 refine (ex_run _ H9.out.2.2.2.2.2.2.2.2.2.1.1 H9.out.2.2.2.2.2.1.1).mono ?_
 rintro e v9 ⟨rfl, hb⟩
 have H10 := Aside0.mk (H9.out.up hb)
 clear H9
 clear hb
 clear p0 p1 p2 p3 p4
 have H11 := Aside0.mk ((H10.out).new (.cells #[.int .i64 3, .int .i64 3, .int .i64 2] 50) (b := v9.heap.size) (by simp))
 clear H10
 go_upto_region 9 with fail
 generalize (v9).alloc (.cells #[.int .i64 3, .int .i64 3, .int .i64 2] 50) = v10 at *
 generalize v9.heap.size = rb at *
 go_wp2_with fail
 have H12 := Aside0.mk (((H11.out).new (.cells #[.int .i64 0, .int .i64 1] 3) (b := v10.heap.size) (by simp)).new (.cells #[.slice (some ⟨v10.heap.size, 0, none⟩) 2 2] 36) (b := v10.heap.size + 1) (by simp))
 clear H11
 refine (equalLists_same _ _ _ _ _ [[0, 1]] H12.out.2.2.2.2.2.2.2.1.1 (lit_li1 H12.out.1.1 H12.out.2.1.1)).mono ?_
 rintro e v11 ⟨rfl, hb⟩
 have H13 := Aside0.mk (H12.out.up hb)
 clear H12
 clear hb
 have H14 := Aside0.mk (H13.out.2)
 clear H13
 have H15 := Aside0.mk (H14.out.2)
 clear H14
 generalize v10.heap.size = zr1 at *
 go_wp2_with fail
 have H16 := Aside0.mk (((H15.out).new (.cells #[.int .i64 1, .int .i64 0] 3) (b := v11.heap.size) (by simp)).new (.cells #[.slice (some ⟨v11.heap.size, 0, none⟩) 2 2] 36) (b := v11.heap.size + 1) (by simp))
 clear H15
 refine (equalLists_same _ _ _ _ _ [[1, 0]] H16.out.2.2.2.2.2.2.1.1 (lit_li1 H16.out.1.1 H16.out.2.1.1)).mono ?_
 rintro e v12 ⟨rfl, hb⟩
 have H17 := Aside0.mk (H16.out.up hb)
 clear H16
 clear hb
 have H18 := Aside0.mk (H17.out.2)
 clear H17
 have H19 := Aside0.mk (H18.out.2)
 clear H18
 generalize v11.heap.size = zr2 at *
 go_wp2_with fail
 refine (fronts_same _ _ _ _ _ [[[0, 0]], [[0, 0]], [[0, 1]]] H19.out.2.2.2.1.1 H19.out.2.2.2.2.2.2.2.1.1).mono ?_
 rintro e v13 ⟨rfl, hb⟩
 have H20 := Aside0.mk (H19.out.up hb)
 clear H19
 clear hb
 go_wp2_with fail
 have H21 := Aside0.mk ((H20.out).new (.cells (madeCells #[.slice none 0 0] 3) 28) (b := v13.heap.size) (by simp))
 clear H20
 refine (fronts_same _ _ _ _ _ [[], [], []] H21.out.2.2.2.1.1 (C_made H21.out.1.1 (by decide))).mono ?_
 rintro e v14 ⟨rfl, hb⟩
 have H22 := Aside0.mk (H21.out.up hb)
 clear H21
 clear hb
 have H23 := Aside0.mk (H22.out.2)
 clear H22
 generalize v13.heap.size = zr4 at *
 go_wp2_with fail
 refine (fronts_same _ _ _ _ _ [[[0, 0]], [[0, 0]], [[0, 1]]] H23.out.2.1.1 H23.out.2.2.2.2.2.2.2.1.1).mono ?_
 rintro e v15 ⟨rfl, hb⟩
 have H24 := Aside0.mk (H23.out.up hb)
 clear H23
 clear hb
 have q0 : v15.cell? ⟨rb, 0, none⟩ = some (.int .i64 3) := (blk_cell H24.out.1.1 0).trans rfl
 have q1 : v15.cell? ⟨rb, 1, none⟩ = some (.int .i64 3) := (blk_cell H24.out.1.1 1).trans rfl
 have q2 : v15.cell? ⟨rb, 2, none⟩ = some (.int .i64 2) := (blk_cell H24.out.1.1 2).trans rfl
 go_upto_region 11 with fail
 clear HQ HM q0 q1 q2
 have p0 : v15.cell? ⟨pb, 0, none⟩ = some (.int .i64 planP.N) := (blk_cell H24.out.2.2.2.2.2.2.2.2.1.1 0).trans rfl
 have p1 : v15.cell? ⟨pb, 1, none⟩ = some (.int .i64 planP.Wd) := (blk_cell H24.out.2.2.2.2.2.2.2.2.1.1 1).trans rfl
 have p2 : v15.cell? ⟨pb, 2, none⟩ = some (.slice eA planP.E.length 4) := (blk_cell H24.out.2.2.2.2.2.2.2.2.1.1 2).trans rfl
 have p3 : v15.cell? ⟨pb, 3, none⟩ = some (.int .i64 planP.workers) := (blk_cell H24.out.2.2.2.2.2.2.2.2.1.1 3).trans rfl
 have p4 : v15.cell? ⟨pb, 4, none⟩ = some (.slice mA planP.start.length 1) := (blk_cell H24.out.2.2.2.2.2.2.2.2.1.1 4).trans rfl
 go_wp2_with fail
 refine (res_ok (f := fun l => l) ex_l rfl (ledger_any planP eA mA (some ⟨sb, 0, none⟩) 4 1 4 [0, 2, 0, 1] 2 1 (by decide) _ H24.out.2.2.2.2.2.2.2.2.2.2.1.1 H24.out.2.2.2.2.2.2.1.1 (Nat.le_refl _))).mono ?_
 rintro e v16 ⟨A6, c6, rfl, h1, -, hb⟩
 have H25 := Aside0.mk ((H24.out.up hb).row h1)
 clear H24
 clear hb h1
 clear p0 p1 p2 p3 p4
 go_upto_region 12 with fail
 have p0 : v16.cell? ⟨pb, 0, none⟩ = some (.int .i64 planP.N) := (blk_cell H25.out.2.2.2.2.2.2.2.2.2.1.1 0).trans rfl
 have p1 : v16.cell? ⟨pb, 1, none⟩ = some (.int .i64 planP.Wd) := (blk_cell H25.out.2.2.2.2.2.2.2.2.2.1.1 1).trans rfl
 have p2 : v16.cell? ⟨pb, 2, none⟩ = some (.slice eA planP.E.length 4) := (blk_cell H25.out.2.2.2.2.2.2.2.2.2.1.1 2).trans rfl
 have p3 : v16.cell? ⟨pb, 3, none⟩ = some (.int .i64 planP.workers) := (blk_cell H25.out.2.2.2.2.2.2.2.2.2.1.1 3).trans rfl
 have p4 : v16.cell? ⟨pb, 4, none⟩ = some (.slice mA planP.start.length 1) := (blk_cell H25.out.2.2.2.2.2.2.2.2.2.1.1 4).trans rfl
 go_wp2_with fail
 refine (res_ok (f := fun l => l) ex_h rfl (held_any planP eA mA (some ⟨sb, 0, none⟩) 4 1 4 [0, 2, 0, 1] 2 0 (by decide) _ H25.out.2.2.2.2.2.2.2.2.2.2.2.1.1 H25.out.2.2.2.2.2.2.2.1.1 (Nat.le_refl _))).mono ?_
 rintro e v17 ⟨A7, c7, rfl, h1, -, hb⟩
 have H26 := Aside0.mk ((H25.out.up hb).row h1)
 clear H25
 clear hb h1
 clear p0 p1 p2 p3 p4
 go_upto_region 13 with fail
 have p0 : v17.cell? ⟨pb, 0, none⟩ = some (.int .i64 planP.N) := (blk_cell H26.out.2.2.2.2.2.2.2.2.2.2.1.1 0).trans rfl
 have p1 : v17.cell? ⟨pb, 1, none⟩ = some (.int .i64 planP.Wd) := (blk_cell H26.out.2.2.2.2.2.2.2.2.2.2.1.1 1).trans rfl
 have p2 : v17.cell? ⟨pb, 2, none⟩ = some (.slice eA planP.E.length 4) := (blk_cell H26.out.2.2.2.2.2.2.2.2.2.2.1.1 2).trans rfl
 have p3 : v17.cell? ⟨pb, 3, none⟩ = some (.int .i64 planP.workers) := (blk_cell H26.out.2.2.2.2.2.2.2.2.2.2.1.1 3).trans rfl
 have p4 : v17.cell? ⟨pb, 4, none⟩ = some (.slice mA planP.start.length 1) := (blk_cell H26.out.2.2.2.2.2.2.2.2.2.2.1.1 4).trans rfl
 refine start_ (n := 9) (S := fun V => V.cell? ⟨pb, 0, none⟩ = some (.int .i64 planP.N) ∧ V.cell? ⟨pb, 1, none⟩ = some (.int .i64 planP.Wd) ∧ V.cell? ⟨pb, 2, none⟩ = some (.slice eA planP.E.length 4) ∧ V.cell? ⟨pb, 3, none⟩ = some (.int .i64 planP.workers) ∧ V.cell? ⟨pb, 4, none⟩ = some (.slice mA planP.start.length 1)) (ds := []) (bs 9 0) (by kernel_rfl) rfl (by kernel_rfl) ⟨p0, p1, p2, p3, p4⟩ (fun hHeld => ?_)
 have H27 := Aside0.mk (H26.out.up (below_drew1 (Below.refl v17.heap.size v17)))
 clear H26
 generalize v17.drew = v18 at *
 have HSH := Lib.hid (fun V (hb : Below v18.heap.size v18 V) => (And.intro (pw_cell_below hb hHeld.1) (And.intro (pw_cell_below hb hHeld.2.1) (And.intro (pw_cell_below hb hHeld.2.2.1) (And.intro (pw_cell_below hb hHeld.2.2.2.1) (pw_cell_below hb hHeld.2.2.2.2))))))
 clear p0 p1 p2 p3 p4
 refine tk5 0 135 (bs 9 1) hHeld ?_
 refine on0 1 136 (bs 9 3) fun K hK => ?_
 refine va0 ?_
 have H28 := Aside0.mk ((H27.out).new (.cells #[.int .i64 5, .int .i64 1] 3) (b := v18.heap.size) (by simp))
 clear H27
 have hb1 := below_new v18 (.cells #[.int .i64 5, .int .i64 1] 3)
 refine hK.out _ _ (HSH.out _ hb1) (fun hHeld => ?_)
 clear hK K
 refine nm0 (some 136) ?_
 refine on0 2 137 (bs 9 7) fun K hK => ?_
 refine gs0 Tryz.func41 #[.int .i64 2, .slice (some ⟨v18.heap.size, 0, none⟩) 2 2] ?_
 refine (at_any 2 (some ⟨v18.heap.size, 0, none⟩) 2 2 _).mono ?_
 rintro e v19 ⟨rfl, hb⟩
 have H29 := Aside0.mk (H28.out.up hb)
 clear H28
 have hb2 := below_then hb1 hb1.size hb
 refine ⟨_, rfl, hK.out _ _ (HSH.out _ hb2) (fun hHeld => ?_)⟩
 clear hK K
 refine nm0 (some 137) ?_
 have hsz := hb2.size
 clear hb hb1
 generalize v18.heap.size = xb at *
 refine on0 3 138 (bs 9 15) fun K hK => ?_
 refine gs0 Tryz.func26 #[planV planP eA 4 mA 1, .slice none 0 0, .int .i64 1, .agg #[.int .i64 2, .slice (some ⟨xb, 0, none⟩) 2 2]] ?_
 refine (toldE_any planP eA mA none (some ⟨xb, 0, none⟩) 4 1 0 2 [] 1 2 [5, 1] _ H29.out.2.2.2.2.2.2.2.2.2.2.2.2.2.1.1 (Kd.C_nil kI _) (Nat.le_refl _) (lit_int2 H29.out.1.1)).mono ?_
 rintro e v20 ⟨rfl, hb⟩
 rw [ex_o1]
 simp only [toldR]
 have H30 := Aside0.mk (H29.out.up hb)
 clear H29
 have hb3 := below_then hb2 hsz hb
 refine ⟨_, rfl, hK.out _ _ (HSH.out _ hb3) (fun hHeld => ?_)⟩
 clear hK K
 refine nm0 (some 138) ?_
 clear hb hb2 hb3 hsz HSH hHeld
 have H31 := Aside0.mk (H30.out.2)
 clear H30
 skip
 refine pu 4 134 (bs 9 31) ?_
 refine pu 5 139 (bs 9 63) ?_
 refine pu 6 140 (bs 9 127) ?_
 refine pu 7 18 (bs 9 255) ?_
 refine pu 8 9 (bs 9 511) ?_
 refine dn0 ?_
 go_upto_region 14 with fail
 have p0 : v20.cell? ⟨pb, 0, none⟩ = some (.int .i64 planP.N) := (blk_cell H31.out.2.2.2.2.2.2.2.2.2.2.1.1 0).trans rfl
 have p1 : v20.cell? ⟨pb, 1, none⟩ = some (.int .i64 planP.Wd) := (blk_cell H31.out.2.2.2.2.2.2.2.2.2.2.1.1 1).trans rfl
 have p2 : v20.cell? ⟨pb, 2, none⟩ = some (.slice eA planP.E.length 4) := (blk_cell H31.out.2.2.2.2.2.2.2.2.2.2.1.1 2).trans rfl
 have p3 : v20.cell? ⟨pb, 3, none⟩ = some (.int .i64 planP.workers) := (blk_cell H31.out.2.2.2.2.2.2.2.2.2.2.1.1 3).trans rfl
 have p4 : v20.cell? ⟨pb, 4, none⟩ = some (.slice mA planP.start.length 1) := (blk_cell H31.out.2.2.2.2.2.2.2.2.2.2.1.1 4).trans rfl
 refine start_ (n := 9) (S := fun V => V.cell? ⟨pb, 0, none⟩ = some (.int .i64 planP.N) ∧ V.cell? ⟨pb, 1, none⟩ = some (.int .i64 planP.Wd) ∧ V.cell? ⟨pb, 2, none⟩ = some (.slice eA planP.E.length 4) ∧ V.cell? ⟨pb, 3, none⟩ = some (.int .i64 planP.workers) ∧ V.cell? ⟨pb, 4, none⟩ = some (.slice mA planP.start.length 1)) (ds := []) (bs 9 0) (by kernel_rfl) rfl (by kernel_rfl) ⟨p0, p1, p2, p3, p4⟩ (fun hHeld => ?_)
 have H32 := Aside0.mk (H31.out.up (below_drew1 (Below.refl v20.heap.size v20)))
 clear H31
 generalize v20.drew = v21 at *
 have HSH := Lib.hid (fun V (hb : Below v21.heap.size v21 V) => (And.intro (pw_cell_below hb hHeld.1) (And.intro (pw_cell_below hb hHeld.2.1) (And.intro (pw_cell_below hb hHeld.2.2.1) (And.intro (pw_cell_below hb hHeld.2.2.2.1) (pw_cell_below hb hHeld.2.2.2.2))))))
 clear p0 p1 p2 p3 p4
 refine tk5 0 142 (bs 9 1) hHeld ?_
 refine on0 1 143 (bs 9 3) fun K hK => ?_
 refine va0 ?_
 have H33 := Aside0.mk ((H32.out).new (.cells #[.int .i64 5, .int .i64 1] 3) (b := v21.heap.size) (by simp))
 clear H32
 have hb1 := below_new v21 (.cells #[.int .i64 5, .int .i64 1] 3)
 refine hK.out _ _ (HSH.out _ hb1) (fun hHeld => ?_)
 clear hK K
 refine nm0 (some 143) ?_
 refine on0 2 144 (bs 9 7) fun K hK => ?_
 refine gs0 Tryz.func41 #[.int .i64 2, .slice (some ⟨v21.heap.size, 0, none⟩) 2 2] ?_
 refine (at_any 2 (some ⟨v21.heap.size, 0, none⟩) 2 2 _).mono ?_
 rintro e v22 ⟨rfl, hb⟩
 have H34 := Aside0.mk (H33.out.up hb)
 clear H33
 have hb2 := below_then hb1 hb1.size hb
 refine ⟨_, rfl, hK.out _ _ (HSH.out _ hb2) (fun hHeld => ?_)⟩
 clear hK K
 refine nm0 (some 144) ?_
 have hsz := hb2.size
 clear hb hb1
 generalize v21.heap.size = xb at *
 refine on0 3 145 (bs 9 15) fun K hK => ?_
 refine gs0 Tryz.func26 #[planV planP eA 4 mA 1, .slice none 0 0, .int .i64 0, .agg #[.int .i64 2, .slice (some ⟨xb, 0, none⟩) 2 2]] ?_
 refine (toldE_any planP eA mA none (some ⟨xb, 0, none⟩) 4 1 0 2 [] 0 2 [5, 1] _ H34.out.2.2.2.2.2.2.2.2.2.2.2.2.2.1.1 (Kd.C_nil kI _) (Nat.le_refl _) (lit_int2 H34.out.1.1)).mono ?_
 rintro e v23 ⟨rfl, hb⟩
 rw [ex_o2]
 simp only [toldR]
 have H35 := Aside0.mk (H34.out.up hb)
 clear H34
 have hb3 := below_then hb2 hsz hb
 refine ⟨_, rfl, hK.out _ _ (HSH.out _ hb3) (fun hHeld => ?_)⟩
 clear hK K
 refine nm0 (some 145) ?_
 clear hb hb2 hb3 hsz HSH hHeld
 have H36 := Aside0.mk (H35.out.2)
 clear H35
 skip
 refine pu 4 141 (bs 9 31) ?_
 refine pu 5 146 (bs 9 63) ?_
 refine pu 6 147 (bs 9 127) ?_
 refine pu 7 19 (bs 9 255) ?_
 refine pu 8 11 (bs 9 511) ?_
 refine dn0 ?_
 go_upto_region 15 with fail
 have p0 : v23.cell? ⟨pb, 0, none⟩ = some (.int .i64 planP.N) := (blk_cell H36.out.2.2.2.2.2.2.2.2.2.2.1.1 0).trans rfl
 have p1 : v23.cell? ⟨pb, 1, none⟩ = some (.int .i64 planP.Wd) := (blk_cell H36.out.2.2.2.2.2.2.2.2.2.2.1.1 1).trans rfl
 have p2 : v23.cell? ⟨pb, 2, none⟩ = some (.slice eA planP.E.length 4) := (blk_cell H36.out.2.2.2.2.2.2.2.2.2.2.1.1 2).trans rfl
 have p3 : v23.cell? ⟨pb, 3, none⟩ = some (.int .i64 planP.workers) := (blk_cell H36.out.2.2.2.2.2.2.2.2.2.2.1.1 3).trans rfl
 have p4 : v23.cell? ⟨pb, 4, none⟩ = some (.slice mA planP.start.length 1) := (blk_cell H36.out.2.2.2.2.2.2.2.2.2.2.1.1 4).trans rfl
 refine start_ (n := 9) (S := fun V => V.cell? ⟨pb, 0, none⟩ = some (.int .i64 planP.N) ∧ V.cell? ⟨pb, 1, none⟩ = some (.int .i64 planP.Wd) ∧ V.cell? ⟨pb, 2, none⟩ = some (.slice eA planP.E.length 4) ∧ V.cell? ⟨pb, 3, none⟩ = some (.int .i64 planP.workers) ∧ V.cell? ⟨pb, 4, none⟩ = some (.slice mA planP.start.length 1)) (ds := []) (bs 9 0) (by kernel_rfl) rfl (by kernel_rfl) ⟨p0, p1, p2, p3, p4⟩ (fun hHeld => ?_)
 have H37 := Aside0.mk (H36.out.up (below_drew1 (Below.refl v23.heap.size v23)))
 clear H36
 generalize v23.drew = v24 at *
 have HSH := Lib.hid (fun V (hb : Below v24.heap.size v24 V) => (And.intro (pw_cell_below hb hHeld.1) (And.intro (pw_cell_below hb hHeld.2.1) (And.intro (pw_cell_below hb hHeld.2.2.1) (And.intro (pw_cell_below hb hHeld.2.2.2.1) (pw_cell_below hb hHeld.2.2.2.2))))))
 clear p0 p1 p2 p3 p4
 refine tk5 0 149 (bs 9 1) hHeld ?_
 refine on0 1 150 (bs 9 3) fun K hK => ?_
 refine va0 ?_
 have H38 := Aside0.mk ((H37.out).new (.cells #[.int .i64 5, .int .i64 0] 3) (b := v24.heap.size) (by simp))
 clear H37
 have hb1 := below_new v24 (.cells #[.int .i64 5, .int .i64 0] 3)
 refine hK.out _ _ (HSH.out _ hb1) (fun hHeld => ?_)
 clear hK K
 refine nm0 (some 150) ?_
 refine on0 2 151 (bs 9 7) fun K hK => ?_
 refine gs0 Tryz.func41 #[.int .i64 2, .slice (some ⟨v24.heap.size, 0, none⟩) 2 2] ?_
 refine (at_any 2 (some ⟨v24.heap.size, 0, none⟩) 2 2 _).mono ?_
 rintro e v25 ⟨rfl, hb⟩
 have H39 := Aside0.mk (H38.out.up hb)
 clear H38
 have hb2 := below_then hb1 hb1.size hb
 refine ⟨_, rfl, hK.out _ _ (HSH.out _ hb2) (fun hHeld => ?_)⟩
 clear hK K
 refine nm0 (some 151) ?_
 have hsz := hb2.size
 clear hb hb1
 generalize v24.heap.size = xb at *
 refine on0 3 152 (bs 9 15) fun K hK => ?_
 refine gs0 Tryz.func26 #[planV planP eA 4 mA 1, .slice none 0 0, .int .i64 1, .agg #[.int .i64 2, .slice (some ⟨xb, 0, none⟩) 2 2]] ?_
 refine (toldE_any planP eA mA none (some ⟨xb, 0, none⟩) 4 1 0 2 [] 1 2 [5, 0] _ H39.out.2.2.2.2.2.2.2.2.2.2.2.2.2.1.1 (Kd.C_nil kI _) (Nat.le_refl _) (lit_int2 H39.out.1.1)).mono ?_
 rintro e v26 ⟨rfl, hb⟩
 rw [ex_o3]
 simp only [toldR]
 have H40 := Aside0.mk (H39.out.up hb)
 clear H39
 have hb3 := below_then hb2 hsz hb
 refine ⟨_, rfl, hK.out _ _ (HSH.out _ hb3) (fun hHeld => ?_)⟩
 clear hK K
 refine nm0 (some 152) ?_
 clear hb hb2 hb3 hsz HSH hHeld
 have H41 := Aside0.mk (H40.out.2)
 clear H40
 skip
 refine pu 4 148 (bs 9 31) ?_
 refine pu 5 153 (bs 9 63) ?_
 refine pu 6 154 (bs 9 127) ?_
 refine pu 7 20 (bs 9 255) ?_
 refine pu 8 13 (bs 9 511) ?_
 refine dn0 ?_
 go_upto_region 16 with fail
 go_wp2_with fail
 have H42 := Aside0.mk ((H41.out).new (.cells #[.int .i64 0, .int .i64 0] 3) (b := v26.heap.size) (by simp))
 clear H41
 refine (at_any 0 (some ⟨v26.heap.size, 0, none⟩) 2 2 _).mono ?_
 rintro e v27 ⟨rfl, hb⟩
 have H43 := Aside0.mk (H42.out.up hb)
 clear H42
 clear hb
 generalize v26.heap.size = ma at *
 go_wp2_with fail
 have H44 := Aside0.mk ((H43.out).new (.cells #[.int .i64 0, .int .i64 0] 3) (b := v27.heap.size) (by simp))
 clear H43
 refine (at_any 1 (some ⟨v27.heap.size, 0, none⟩) 2 2 _).mono ?_
 rintro e v28 ⟨rfl, hb⟩
 have H45 := Aside0.mk (H44.out.up hb)
 clear H44
 clear hb
 generalize v27.heap.size = mb at *
 go_wp2_with fail
 have H46 := Aside0.mk ((H45.out).new (.cells #[.int .i64 0, .int .i64 1] 3) (b := v28.heap.size) (by simp))
 clear H45
 refine (at_any 2 (some ⟨v28.heap.size, 0, none⟩) 2 2 _).mono ?_
 rintro e v29 ⟨rfl, hb⟩
 have H47 := Aside0.mk (H46.out.up hb)
 clear H46
 clear hb
 generalize v28.heap.size = mc at *
 go_wp2_with fail
 have H48 := Aside0.mk ((H47.out).new (.cells #[.int .i64 0, .slice (some ⟨ma, 0, none⟩) 2 2, .int .i64 1, .int .i64 1, .slice (some ⟨mb, 0, none⟩) 2 2, .int .i64 (-1), .int .i64 2, .slice (some ⟨mc, 0, none⟩) 2 2, .int .i64 1] 83) (b := v29.heap.size) (by simp))
 clear H47
 have hl : kMs.C ((v29).alloc (.cells #[.int .i64 0, .slice (some ⟨ma, 0, none⟩) 2 2, .int .i64 1, .int .i64 1, .slice (some ⟨mb, 0, none⟩) 2 2, .int .i64 (-1), .int .i64 2, .slice (some ⟨mc, 0, none⟩) 2 2, .int .i64 1] 83)) (some ⟨v29.heap.size, 0, none⟩) 3 [((0, [0, 0]), 1), ((1, [0, 0]), -1), ((2, [0, 1]), 1)] := C_lits (xs := [((0, [0, 0]), 1), ((1, [0, 0]), -1), ((2, [0, 1]), 1)]) [[.int .i64 0, .slice (some ⟨ma, 0, none⟩) 2 2, .int .i64 1], [.int .i64 1, .slice (some ⟨mb, 0, none⟩) 2 2, .int .i64 (-1)], [.int .i64 2, .slice (some ⟨mc, 0, none⟩) 2 2, .int .i64 1]] H48.out.1.1 ⟨⟨_, _, rfl, ⟨_, _, rfl, rfl, K_li (lit_int2 H48.out.2.2.2.1.1) rfl (Nat.le_refl _)⟩, rfl⟩, ⟨_, _, rfl, ⟨_, _, rfl, rfl, K_li (lit_int2 H48.out.2.2.1.1) rfl (Nat.le_refl _)⟩, rfl⟩, ⟨_, _, rfl, ⟨_, _, rfl, rfl, K_li (lit_int2 H48.out.2.1.1) rfl (Nat.le_refl _)⟩, rfl⟩, trivial⟩ (by decide)
 refine (counts_same _ _ _ _ _ [((0, [0, 0]), 1), ((1, [0, 0]), -1), ((2, [0, 1]), 1)] H48.out.2.2.2.2.2.1.1 hl).mono ?_
 rintro e v30 ⟨rfl, hb⟩
 have H49 := Aside0.mk (H48.out.up hb)
 clear H48
 clear hb hl
 go_wp2_with fail
 have H50 := Aside0.mk ((H49.out).new (.cells #[.int .i64 0, .int .i64 1] 3) (b := v30.heap.size) (by simp))
 clear H49
 refine (at_any 2 (some ⟨v30.heap.size, 0, none⟩) 2 2 _).mono ?_
 rintro e v31 ⟨rfl, hb⟩
 have H51 := Aside0.mk (H50.out.up hb)
 clear H50
 clear hb
 generalize v30.heap.size = md at *
 go_wp2_with fail
 have H52 := Aside0.mk ((H51.out).new (.cells #[.int .i64 2, .slice (some ⟨md, 0, none⟩) 2 2] 57) (b := v31.heap.size) (by simp))
 clear H51
 have hl : kMk.C ((v31).alloc (.cells #[.int .i64 2, .slice (some ⟨md, 0, none⟩) 2 2] 57)) (some ⟨v31.heap.size, 0, none⟩) 1 [(2, [0, 1])] := C_lits (xs := [(2, [0, 1])]) [[.int .i64 2, .slice (some ⟨md, 0, none⟩) 2 2]] H52.out.1.1 ⟨⟨_, _, rfl, rfl, K_li (lit_int2 H52.out.2.1.1) rfl (Nat.le_refl _)⟩, trivial⟩ (by decide)
 refine (marks_same _ _ _ _ _ [(2, [0, 1])] H52.out.2.2.2.2.2.2.1.1 hl).mono ?_
 rintro e v32 ⟨rfl, hb⟩
 have H53 := Aside0.mk (H52.out.up hb)
 clear H52
 clear hb hl
 have p0 : v32.cell? ⟨pb, 0, none⟩ = some (.int .i64 planP.N) := (blk_cell H53.out.2.2.2.2.2.2.2.2.2.2.2.2.2.2.2.2.1.1 0).trans rfl
 have p1 : v32.cell? ⟨pb, 1, none⟩ = some (.int .i64 planP.Wd) := (blk_cell H53.out.2.2.2.2.2.2.2.2.2.2.2.2.2.2.2.2.1.1 1).trans rfl
 have p2 : v32.cell? ⟨pb, 2, none⟩ = some (.slice eA planP.E.length 4) := (blk_cell H53.out.2.2.2.2.2.2.2.2.2.2.2.2.2.2.2.2.1.1 2).trans rfl
 have p3 : v32.cell? ⟨pb, 3, none⟩ = some (.int .i64 planP.workers) := (blk_cell H53.out.2.2.2.2.2.2.2.2.2.2.2.2.2.2.2.2.1.1 3).trans rfl
 have p4 : v32.cell? ⟨pb, 4, none⟩ = some (.slice mA planP.start.length 1) := (blk_cell H53.out.2.2.2.2.2.2.2.2.2.2.2.2.2.2.2.2.1.1 4).trans rfl
 go_wp2_with fail
 refine (check_any planP eA mA 4 1 _ H53.out.2.2.2.2.2.2.2.2.2.2.2.2.2.2.2.2.2.2.1.1).mono ?_
 rintro e v33 ⟨rfl, hb⟩
 rw [ex_check]
 have H54 := Aside0.mk (H53.out.up hb)
 clear H53
 clear hb p0 p1 p2 p3 p4
 go_wp2_with fail
 go_ret
 exact ⟨rfl, H54.out.2.2.2.2.2.2.2.2.2.2.2.2.2.2.2.2.2.2.2.1.1⟩
end Go.Proofs.YtbkfnmgkcgnifaaGreat
namespace Go.Proofs.YtbkfnmgkcgnifaaGreat
open Go.RowKit Go.Shelf Go.Proofs.YtbkfnmgkcgnifaaGreatW.PrintWords Go.Proofs.YtbkfnmgkcgnifaaGreatW.PrintLast Mdl
theorem kLI_C {w : World} {base : Nat} {A : Option Addr} {n c : Nat} {l : List (List Int)} (h : kLI.R 36 w base (fun _ => True) (.slice A n c) l) : kLI.C w A l.length l := by
 obtain ⟨A', c', he⟩ := Kd.R_slice h
 injection he with _ e2 _
 subst e2
 exact (Kd.R_reads' h).2.2
set_option maxRecDepth 8000 in
set_option maxHeartbeats 8000000 in
theorem sPaths_any (N Wd x y : Int) (E : List Ed) (eA : Option Addr) (eC : Nat) (w : World) (hE : kE.C w eA E.length E) :
  Calls Tryz.prog 7 #[.agg #[.int .i64 N, .int .i64 Wd, .slice eA E.length eC], .int .i64 x, .int .i64 y] w fun e w' => ∃ v, e = .returned (.tuple #[v, .int .i64 (resOf (pathsP N Wd E x y)).2]) ∧ kLI.R 36 w' w.heap.size (fun _ => True) v ((resOf (pathsP N Wd E x y)).1.map (numsT Wd.toNat)) ∧ Below w.heap.size w w' := by
 have HE := Aside0.mk hE
 clear hE
 have hzb := below_new w (.cells #[.int .i64 N, .int .i64 Wd, .slice eA E.length eC] 24)
 have hgb := heap_alloc_new w (.cells #[.int .i64 N, .int .i64 Wd, .slice eA E.length eC] 24)
 cases hG : graphB N Wd E with
 | false =>
  have HF := Lib.hid (show pathsP N Wd E x y = .error 1 by unfold pathsP; rw [graph_none.2 hG])
  go_enter Tryz.func7, Tryz.ntmps7
  go_upto_region 1 with fail
  have g0 : (w.alloc (.cells #[.int .i64 N, .int .i64 Wd, .slice eA E.length eC] 24)).cell? ⟨w.heap.size, 0, none⟩ = some (.int .i64 N) := (blk_cell hgb 0).trans rfl
  have g1 : (w.alloc (.cells #[.int .i64 N, .int .i64 Wd, .slice eA E.length eC] 24)).cell? ⟨w.heap.size, 1, none⟩ = some (.int .i64 Wd) := (blk_cell hgb 1).trans rfl
  have g2 : (w.alloc (.cells #[.int .i64 N, .int .i64 Wd, .slice eA E.length eC] 24)).cell? ⟨w.heap.size, 2, none⟩ = some (.slice eA E.length eC) := (blk_cell hgb 2).trans rfl
  have HB1 := Aside0.mk hzb
  generalize w.alloc (.cells #[.int .i64 N, .int .i64 Wd, .slice eA E.length eC] 24) = w1 at *
  clear hzb hgb
  go_wp2_with fail
  refine (sisGraph_any N Wd E eA eC w1 (Kd.C_below HE.out HB1.out)).mono ?_
  rintro e w2 ⟨rfl, hb2⟩
  rw [hG]
  replace g0 := pw_cell_below hb2 g0
  replace g1 := pw_cell_below hb2 g1
  replace g2 := pw_cell_below hb2 g2
  have HB2 := Aside0.mk (below_then HB1.out HB1.out.size hb2)
  clear hb2 HB1
  go_wp2_with fail
  exact bodyPost_ret (v := .tuple #[.slice none 0 0, .int .i64 1]) (by simp [results, Tryz.results7, go_sem]) rfl ⟨.slice none 0 0, by rw [HF.out]; rfl, by rw [HF.out]; exact Kd.R_nil _ _ _ _ _, HB2.out⟩
 | true =>
  have HN := Lib.hid (graph_head hG)
  obtain ⟨ways, how⟩ : ∃ ways, openedP N Wd E = some ways := by cases ho : openedP N Wd E with | none => rw [graph_none.1 ho] at hG; cases hG | some ways => exact ⟨ways, rfl⟩
  have HO := Lib.hid how
  clear how
  have HN1 := Lib.hid (show wrap64 (N - 1) = N - 1 by have := HN.out; rw [w64_eq, w64_in (by omega) (by omega)])
  cases h1 : liesB x 0 (N - 1) with
  | false =>
   have HF := Lib.hid (show pathsP N Wd E x y = .error 2 by unfold pathsP; rw [HO.out]; simp only; rw [if_neg (fun hh => by have := (liesB_iff (n := x) (low := 0) (high := N - 1)).2 (by omega); rw [h1] at this; cases this)])
   go_enter Tryz.func7, Tryz.ntmps7
   go_upto_region 1 with fail
   have g0 : (w.alloc (.cells #[.int .i64 N, .int .i64 Wd, .slice eA E.length eC] 24)).cell? ⟨w.heap.size, 0, none⟩ = some (.int .i64 N) := (blk_cell hgb 0).trans rfl
   have g1 : (w.alloc (.cells #[.int .i64 N, .int .i64 Wd, .slice eA E.length eC] 24)).cell? ⟨w.heap.size, 1, none⟩ = some (.int .i64 Wd) := (blk_cell hgb 1).trans rfl
   have g2 : (w.alloc (.cells #[.int .i64 N, .int .i64 Wd, .slice eA E.length eC] 24)).cell? ⟨w.heap.size, 2, none⟩ = some (.slice eA E.length eC) := (blk_cell hgb 2).trans rfl
   have HB1 := Aside0.mk hzb
   generalize w.alloc (.cells #[.int .i64 N, .int .i64 Wd, .slice eA E.length eC] 24) = w1 at *
   clear hzb hgb
   go_wp2_with fail
   refine (sisGraph_any N Wd E eA eC w1 (Kd.C_below HE.out HB1.out)).mono ?_
   rintro e w2 ⟨rfl, hb2⟩
   rw [hG]
   replace g0 := pw_cell_below hb2 g0
   replace g1 := pw_cell_below hb2 g1
   replace g2 := pw_cell_below hb2 g2
   have HB2 := Aside0.mk (below_then HB1.out HB1.out.size hb2)
   clear hb2 HB1
   have hN1 := HN1.out
   go_wp2_with fail
   refine (lies_any x 0 (N - 1) w2).mono ?_
   rintro e w' ⟨rfl, rfl⟩
   rw [h1]
   go_wp2_with fail
   exact bodyPost_ret (v := .tuple #[.slice none 0 0, .int .i64 2]) (by simp [results, Tryz.results7, go_sem]) rfl ⟨.slice none 0 0, by rw [HF.out]; rfl, by rw [HF.out]; exact Kd.R_nil _ _ _ _ _, HB2.out⟩
  | true =>
   cases h2 : liesB y 0 (N - 1) with
   | false =>
    have HF := Lib.hid (show pathsP N Wd E x y = .error 2 by unfold pathsP; rw [HO.out]; simp only; rw [if_neg (fun hh => by have := (liesB_iff (n := y) (low := 0) (high := N - 1)).2 (by omega); rw [h2] at this; cases this)])
    go_enter Tryz.func7, Tryz.ntmps7
    go_upto_region 1 with fail
    have g0 : (w.alloc (.cells #[.int .i64 N, .int .i64 Wd, .slice eA E.length eC] 24)).cell? ⟨w.heap.size, 0, none⟩ = some (.int .i64 N) := (blk_cell hgb 0).trans rfl
    have g1 : (w.alloc (.cells #[.int .i64 N, .int .i64 Wd, .slice eA E.length eC] 24)).cell? ⟨w.heap.size, 1, none⟩ = some (.int .i64 Wd) := (blk_cell hgb 1).trans rfl
    have g2 : (w.alloc (.cells #[.int .i64 N, .int .i64 Wd, .slice eA E.length eC] 24)).cell? ⟨w.heap.size, 2, none⟩ = some (.slice eA E.length eC) := (blk_cell hgb 2).trans rfl
    have HB1 := Aside0.mk hzb
    generalize w.alloc (.cells #[.int .i64 N, .int .i64 Wd, .slice eA E.length eC] 24) = w1 at *
    clear hzb hgb
    go_wp2_with fail
    refine (sisGraph_any N Wd E eA eC w1 (Kd.C_below HE.out HB1.out)).mono ?_
    rintro e w2 ⟨rfl, hb2⟩
    rw [hG]
    replace g0 := pw_cell_below hb2 g0
    replace g1 := pw_cell_below hb2 g1
    replace g2 := pw_cell_below hb2 g2
    have HB2 := Aside0.mk (below_then HB1.out HB1.out.size hb2)
    clear hb2 HB1
    have hN1 := HN1.out
    go_wp2_with fail
    refine (lies_any x 0 (N - 1) w2).mono ?_
    rintro e w' ⟨rfl, rfl⟩
    rw [h1]
    go_wp2_with fail
    refine (lies_any y 0 (N - 1) w2).mono ?_
    rintro e w' ⟨rfl, rfl⟩
    rw [h2]
    go_wp2_with fail
    exact bodyPost_ret (v := .tuple #[.slice none 0 0, .int .i64 2]) (by simp [results, Tryz.results7, go_sem]) rfl ⟨.slice none 0 0, by rw [HF.out]; rfl, by rw [HF.out]; exact Kd.R_nil _ _ _ _ _, HB2.out⟩
   | true =>
    have hx := liesB_iff.1 h1
    have hy := liesB_iff.1 h2
    have hnw := HN.out
    obtain ⟨a, rfl⟩ : ∃ a : Nat, x = a := ⟨x.toNat, (Int.toNat_of_nonneg hx.1).symm⟩
    obtain ⟨b, rfl⟩ : ∃ b : Nat, y = b := ⟨y.toNat, (Int.toNat_of_nonneg hy.1).symm⟩
    obtain ⟨n, rfl⟩ : ∃ n : Nat, N = n := ⟨N.toNat, (Int.toNat_of_nonneg (by omega)).symm⟩
    obtain ⟨wd, rfl⟩ : ∃ wd : Nat, Wd = wd := ⟨Wd.toNat, (Int.toNat_of_nonneg (by omega)).symm⟩
    have ha : a < n := by omega
    have hb : b < n := by omega
    have hbE : (b : Int) < n := by omega
    have hb0 : (0 : Int) ≤ b := by omega
    have HF := Lib.hid (show pathsP n wd E a b = .ok (wayAt ways a b) by unfold pathsP; rw [HO.out]; simp only; rw [if_pos ⟨⟨by omega, by omega⟩, by omega, by omega⟩, Int.toNat_natCast])
    have HSW := Lib.hid (show (sumsT n E a n).getD b [] = wayAt ways a b from by have h := sums_way (a := a) (b := b) HO.out (by simpa using ha) (by simpa using hb); rwa [Int.toNat_natCast] at h)
    have HOK := Lib.hid (opened_ok HO.out)
    have HSL := Lib.hid (show (sumsT n E a n).length = n from (sums_inv (N := n) (fun e he => by have := edges_in HOK.out.2.1 (by omega) e he; omega) ha n).1.len)
    have HAB := Lib.hid (And.intro ha (And.intro hb (And.intro hbE hb0)))
    clear hx hy hnw ha hb hbE hb0
    go_enter Tryz.func7, Tryz.ntmps7
    go_upto_region 1 with fail
    have g0 : (w.alloc (.cells #[.int .i64 (n : Int), .int .i64 (wd : Int), .slice eA E.length eC] 24)).cell? ⟨w.heap.size, 0, none⟩ = some (.int .i64 (n : Int)) := (blk_cell hgb 0).trans rfl
    have g1 : (w.alloc (.cells #[.int .i64 (n : Int), .int .i64 (wd : Int), .slice eA E.length eC] 24)).cell? ⟨w.heap.size, 1, none⟩ = some (.int .i64 (wd : Int)) := (blk_cell hgb 1).trans rfl
    have g2 : (w.alloc (.cells #[.int .i64 (n : Int), .int .i64 (wd : Int), .slice eA E.length eC] 24)).cell? ⟨w.heap.size, 2, none⟩ = some (.slice eA E.length eC) := (blk_cell hgb 2).trans rfl
    have HB1 := Aside0.mk hzb
    generalize w.alloc (.cells #[.int .i64 (n : Int), .int .i64 (wd : Int), .slice eA E.length eC] 24) = w1 at *
    clear hzb hgb
    go_wp2_with fail
    refine (sisGraph_any (n : Int) (wd : Int) E eA eC w1 (Kd.C_below HE.out HB1.out)).mono ?_
    rintro e w2 ⟨rfl, hb2⟩
    rw [hG]
    replace g0 := pw_cell_below hb2 g0
    replace g1 := pw_cell_below hb2 g1
    replace g2 := pw_cell_below hb2 g2
    have HB2 := Aside0.mk (below_then HB1.out HB1.out.size hb2)
    clear hb2 HB1
    have hN1 := HN1.out
    go_wp2_with fail
    refine (lies_any (a : Int) 0 ((n : Int) - 1) w2).mono ?_
    rintro e w' ⟨rfl, rfl⟩
    rw [h1]
    go_wp2_with fail
    refine (lies_any (b : Int) 0 ((n : Int) - 1) w2).mono ?_
    rintro e w' ⟨rfl, rfl⟩
    rw [h2]
    clear hN1
    have hb0 := HAB.out.2.2.2
    have hbE := HAB.out.2.2.1
    have hnw := HN.out
    go_wp2_with fail
    refine (ssums_any n wd E eA eC a w2 (Kd.C_below HE.out HB2.out) (by omega) (by omega) (by omega) (by omega) HOK.out.1.2.2.2.2 HOK.out.2.1 HAB.out.1).mono ?_
    rintro e w3 ⟨v3, rfl, hR3, hb3⟩
    obtain ⟨g, cw, hve, -⟩ := Kd.R_form hR3 (by rw [List.length_map, HSL.out]; have := HN.out; omega)
    rw [List.length_map, HSL.out] at hve
    subst hve
    obtain ⟨sA, sC, zc, -, hcR⟩ := lli_at hR3 (k := b) HAB.out.2.1
    rw [numF_get, HSW.out] at zc hcR
    have HR := Aside0.mk (And.intro (Kd.R_lower hcR HB2.out.size) (below_then HB2.out HB2.out.size hb3))
    clear hR3 hb3 hcR g0 g1 g2
    go_wp2_with fail
    exact bodyPost_ret (v := .tuple #[.slice sA ((wayAt ways a b).map (numsT wd)).length sC, .int .i64 0]) (by simp [results, Tryz.results7, go_sem]) rfl ⟨_, by rw [HF.out]; rfl, by rw [HF.out, Int.toNat_natCast]; exact HR.out.1, HR.out.2⟩
set_option maxRecDepth 8000 in
set_option maxHeartbeats 8000000 in
theorem checks_walk (p : Plan) (eA mA : Option Addr) (eC mC : Nat) (x y : Int) (w : World) (hp : PlanAt w p eA mA) :
  Calls Tryz.prog 3 #[planV p eA eC mA mC, .int .i64 x, .int .i64 y] w fun e w' => e = .returned (.bool true) ∧ Below w.heap.size w w' := by
 have HP := Aside0.mk hp
 clear hp
 simp only [planV]
 obtain ⟨l, hl⟩ : ∃ l, (resOf (pathsP p.N p.Wd p.E x y)).1.map (numsT p.Wd.toNat) = l := ⟨_, rfl⟩
 obtain ⟨er, her⟩ : ∃ er, (resOf (pathsP p.N p.Wd p.E x y)).2 = er := ⟨_, rfl⟩
 have HLE := Lib.hid (And.intro hl her)
 clear hl her
 have hzb := below_new w (.cells #[.int .i64 p.N, .int .i64 p.Wd, .slice eA p.E.length eC, .int .i64 p.workers, .slice mA p.start.length mC] 27)
 have hgb := heap_alloc_new w (.cells #[.int .i64 p.N, .int .i64 p.Wd, .slice eA p.E.length eC, .int .i64 p.workers, .slice mA p.start.length mC] 27)
 go_enter Tryz.func3, Tryz.ntmps3
 go_upto_region 1 with fail
 have HB1 := Aside0.mk (And.intro hzb hgb)
 generalize w.alloc (.cells #[.int .i64 p.N, .int .i64 p.Wd, .slice eA p.E.length eC, .int .i64 p.workers, .slice mA p.start.length mC] 27) = w1 at *
 clear hzb hgb
 have p0 : w1.cell? ⟨w.heap.size, 0, none⟩ = some (.int .i64 p.N) := (blk_cell HB1.out.2 0).trans rfl
 have p1 : w1.cell? ⟨w.heap.size, 1, none⟩ = some (.int .i64 p.Wd) := (blk_cell HB1.out.2 1).trans rfl
 have p2 : w1.cell? ⟨w.heap.size, 2, none⟩ = some (.slice eA p.E.length eC) := (blk_cell HB1.out.2 2).trans rfl
 have p3 : w1.cell? ⟨w.heap.size, 3, none⟩ = some (.int .i64 p.workers) := (blk_cell HB1.out.2 3).trans rfl
 have p4 : w1.cell? ⟨w.heap.size, 4, none⟩ = some (.slice mA p.start.length mC) := (blk_cell HB1.out.2 4).trans rfl
 go_wp2_with fail
 refine (paths_any p.N p.Wd p.E eA eC x y w1 (Kd.C_below HP.out.hE HB1.out.1)).mono ?_
 rintro e w2 ⟨v2, rfl, hR2, hb2⟩
 rw [HLE.out.1] at hR2
 rw [HLE.out.2]
 obtain ⟨A2, c2, rfl⟩ := Kd.R_slice hR2
 have HR2 := Aside0.mk (kLI_C hR2)
 have HB2 := Aside0.mk (And.intro (below_then HB1.out.1 HB1.out.1.size hb2) (blk_below HB1.out.2 hb2))
 clear hR2 hb2 p0 p1 p2 p3 p4 HB1
 have p0 : w2.cell? ⟨w.heap.size, 0, none⟩ = some (.int .i64 p.N) := (blk_cell HB2.out.2 0).trans rfl
 have p1 : w2.cell? ⟨w.heap.size, 1, none⟩ = some (.int .i64 p.Wd) := (blk_cell HB2.out.2 1).trans rfl
 have p2 : w2.cell? ⟨w.heap.size, 2, none⟩ = some (.slice eA p.E.length eC) := (blk_cell HB2.out.2 2).trans rfl
 have p3 : w2.cell? ⟨w.heap.size, 3, none⟩ = some (.int .i64 p.workers) := (blk_cell HB2.out.2 3).trans rfl
 have p4 : w2.cell? ⟨w.heap.size, 4, none⟩ = some (.slice mA p.start.length mC) := (blk_cell HB2.out.2 4).trans rfl
 go_upto_region 2 with fail
 go_wp2_with fail
 refine (sPaths_any p.N p.Wd x y p.E eA eC w2 (Kd.C_below HP.out.hE HB2.out.1)).mono ?_
 rintro e w3 ⟨v3, rfl, hR3, hb3⟩
 rw [HLE.out.1] at hR3
 rw [HLE.out.2]
 obtain ⟨A3, c3, rfl⟩ := Kd.R_slice hR3
 have HR3 := Aside0.mk (And.intro (kLI_C hR3) (Kd.C_below HR2.out hb3))
 have HB3 := Aside0.mk (And.intro (below_then HB2.out.1 HB2.out.1.size hb3) (blk_below HB2.out.2 hb3))
 clear hR3 hb3 p0 p1 p2 p3 p4 HB2 HR2
 have p0 : w3.cell? ⟨w.heap.size, 0, none⟩ = some (.int .i64 p.N) := (blk_cell HB3.out.2 0).trans rfl
 have p1 : w3.cell? ⟨w.heap.size, 1, none⟩ = some (.int .i64 p.Wd) := (blk_cell HB3.out.2 1).trans rfl
 have p2 : w3.cell? ⟨w.heap.size, 2, none⟩ = some (.slice eA p.E.length eC) := (blk_cell HB3.out.2 2).trans rfl
 have p3 : w3.cell? ⟨w.heap.size, 3, none⟩ = some (.int .i64 p.workers) := (blk_cell HB3.out.2 3).trans rfl
 have p4 : w3.cell? ⟨w.heap.size, 4, none⟩ = some (.slice mA p.start.length mC) := (blk_cell HB3.out.2 4).trans rfl
 go_upto_region 3 with fail
 refine start_ (n := 19) (S := fun V => V.cell? ⟨w.heap.size, 0, none⟩ = some (.int .i64 p.N) ∧ V.cell? ⟨w.heap.size, 1, none⟩ = some (.int .i64 p.Wd) ∧ V.cell? ⟨w.heap.size, 2, none⟩ = some (.slice eA p.E.length eC) ∧ V.cell? ⟨w.heap.size, 3, none⟩ = some (.int .i64 p.workers) ∧ V.cell? ⟨w.heap.size, 4, none⟩ = some (.slice mA p.start.length mC)) (ds := []) (bs 19 0) (by kernel_rfl) rfl (by kernel_rfl) ⟨p0, p1, p2, p3, p4⟩ (fun hHeld => ?_)
 have HD := Aside0.mk (And.intro (below_drew1 HB3.out.1) (And.intro (Kd.C_below HR3.out.1 (below_drew1 (Below.refl _ _))) (Kd.C_below HR3.out.2 (below_drew1 (Below.refl _ _)))))
 clear p0 p1 p2 p3 p4 HB3 HR3
 generalize w3.drew = wd at *
 have HQ := Aside0.mk hHeld
 refine tk5 0 27 (bs 19 1) hHeld ?_
 refine tk5 2 29 (bs 19 5) hHeld ?_
 refine on0 1 28 (bs 19 7) fun K hK => ?_
 refine gs0 Tryz.func8 #[planV p eA eC mA mC] ?_
 refine (check_any p eA mA eC mC wd (HP.out.below HD.out.1)).mono ?_
 rintro e w4 ⟨rfl, hb4⟩
 have HB4 := Aside0.mk hb4
 clear hb4
 refine ⟨_, rfl, hK.out _ _ ⟨pw_cell_below HB4.out HQ.out.1, pw_cell_below HB4.out HQ.out.2.1, pw_cell_below HB4.out HQ.out.2.2.1, pw_cell_below HB4.out HQ.out.2.2.2.1, pw_cell_below HB4.out HQ.out.2.2.2.2⟩ (fun hHeld => ?_)⟩
 clear hK K
 refine nm0 (some 28) ?_
 refine on0 3 30 (bs 19 15) fun K hK => ?_
 refine gs0 Tryz.func9 #[planV p eA eC mA mC] ?_
 refine (sCheck_any p eA mA eC mC w4 ((HP.out.below HD.out.1).below HB4.out)).mono ?_
 rintro e w5 ⟨rfl, hb5⟩
 have HB5 := Aside0.mk (below_then HB4.out HB4.out.size hb5)
 clear hb5
 refine ⟨_, rfl, hK.out _ _ ⟨pw_cell_below HB5.out HQ.out.1, pw_cell_below HB5.out HQ.out.2.1, pw_cell_below HB5.out HQ.out.2.2.1, pw_cell_below HB5.out HQ.out.2.2.2.1, pw_cell_below HB5.out HQ.out.2.2.2.2⟩ (fun hHeld => ?_)⟩
 clear hK K
 refine nm0 (some 30) ?_
 generalize checkP p = cp at *
 refine pu 4 31 (bs 19 31) ?_
 refine pu 5 32 (bs 19 63) ?_
 refine pu 6 33 (bs 19 127) ?_
 refine pu 7 34 (bs 19 255) ?_
 refine on0 8 35 (bs 19 511) fun K hK => ?_
 refine gs0 Tryz.func10 #[.slice A2 l.length c2, .slice A3 l.length c3] ?_
 refine (equalLists_same A2 A3 c2 c3 w5 l (Kd.C_below HD.out.2.2 HB5.out) (Kd.C_below HD.out.2.1 HB5.out)).mono ?_
 rintro e w6 ⟨rfl, hb6⟩
 have HB6 := Aside0.mk (below_then HB5.out HB5.out.size hb6)
 clear hb6
 refine ⟨_, rfl, hK.out _ _ ⟨pw_cell_below HB6.out HQ.out.1, pw_cell_below HB6.out HQ.out.2.1, pw_cell_below HB6.out HQ.out.2.2.1, pw_cell_below HB6.out HQ.out.2.2.2.1, pw_cell_below HB6.out HQ.out.2.2.2.2⟩ (fun hHeld => ?_)⟩
 clear hK K
 refine nm0 (some 35) ?_
 refine pu 9 36 (bs 19 1023) ?_
 refine pu 10 37 (bs 19 2047) ?_
 refine pu 11 38 (bs 19 4095) ?_
 refine pu 12 39 (bs 19 8191) ?_
 refine pu 13 40 (bs 19 16383) ?_
 refine pu 14 41 (bs 19 32767) ?_
 refine pu 15 42 (bs 19 65535) ?_
 refine on0 16 43 (bs 19 131071) fun K hK => ?_
 refine gs0 Tryz.func11 #[] ?_
 refine (progressed_any w6).mono ?_
 rintro e w7 ⟨rfl, hb7⟩
 have HB7 := Aside0.mk (below_then HB6.out HB6.out.size hb7)
 clear hb7
 refine ⟨_, rfl, hK.out _ _ ⟨pw_cell_below HB7.out HQ.out.1, pw_cell_below HB7.out HQ.out.2.1, pw_cell_below HB7.out HQ.out.2.2.1, pw_cell_below HB7.out HQ.out.2.2.2.1, pw_cell_below HB7.out HQ.out.2.2.2.2⟩ (fun hHeld => ?_)⟩
 clear hK K
 refine nm0 (some 43) ?_
 refine pu 17 44 (bs 19 262143) ?_
 refine pu 18 6 (bs 19 524287) ?_
 refine dn0 ?_
 clear hHeld
 go_wp2_with fail
 go_ret
 exact ⟨rfl, below_then HD.out.1 HD.out.1.size HB7.out⟩
end Go.Proofs.YtbkfnmgkcgnifaaGreat
namespace Go.Proofs.YtbkfnmgkcgnifaaGreat
open Go.ChangeShapes Go.WideShapes Go.ChangeAt Go.Deep Go.RowKit Go.Shelf Go.Proofs.YtbkfnmgkcgnifaaGreatW.PrintWords Go.Proofs.YtbkfnmgkcgnifaaGreatW.PrintLast Mdl
section
variable {H : Type} {enc : TypeId × Value → H} {W : World} {base : Nat} {sp : Nat → Bool} {held : Bool}
def Opens (enc : TypeId × Value → H) (W : World) (base : Nat) (sp : Nat → Bool) (held : Bool) (t : TypeId) {α : Type} (d : Kd α) : Prop :=
 ∀ (fuel : Nat) (cs : List Value) (x : DataW H × List MemPlace), DataW.trod enc Tryz.prog W base sp held fuel t cs = some x → ∃ a, d.K W a cs
theorem opens_int : Opens enc W base sp held 3 kI := fun _ _ _ h => by
 obtain ⟨a, rfl, _⟩ := DataW.trod_int Tryz.underlying3 h
 exact ⟨a, rfl⟩
theorem opens_slice {t e : TypeId} {α : Type} {d : Kd α} (ht : Tryz.prog.underlying t = some (.slice e)) (hc : Tryz.prog.cellsOf e = d.sz) (h1 : Opens enc W base sp held e d) : Opens enc W base sp held t (Kd.slice e d) := fun fuel cs x h => by
 rcases DataW.trod_slice ht h with ⟨rfl, _⟩ | ⟨a, len, cap, elems, rest, n, _, rfl, _, _, hlc, hcm, hel, hget, _⟩
 ·exact ⟨[], none, 0, rfl, Nat.le_refl _, Kd.C_nil d W⟩
 ·have hex : ∀ i : Fin len, ∃ p : α, ∃ c : List Value, d.K W p c ∧ ∀ j u, c[j]? = some u → W.cell? (a.add (i * d.sz + j)) = some u := fun i => by
   have hg := hget i i.2
   rw [List.getElem?_eq_getElem (by omega)] at hg
   obtain ⟨c, hcells, htr⟩ := Option.bind_eq_some_iff.1 hg
   obtain ⟨p, hp⟩ := h1 _ _ _ htr
   obtain ⟨_, hl, hcell⟩ := World.cells?_some hcells
   refine ⟨p, c, hp, fun j u hu => ?_⟩
   obtain ⟨hj, _⟩ := List.getElem?_eq_some_iff.1 hu
   have := hcell j (by omega)
   rw [Addr.add_add, hc, hu] at this
   exact this
  refine ⟨List.ofFn fun i : Fin len => Classical.choose (hex i), some a, cap, by rw [List.length_ofFn], by rw [List.length_ofFn]; exact hlc, rfl, by rw [List.length_ofFn]; exact Nat.le_trans hlc hcm, fun _ => ⟨a, rfl, fun j p hj => ?_⟩⟩
  obtain ⟨hjl, rfl⟩ := List.getElem?_eq_some_iff.1 hj
  rw [List.length_ofFn] at hjl
  obtain ⟨c, hp, hcell⟩ := Classical.choose_spec (hex ⟨j, hjl⟩)
  rw [List.getElem_ofFn]
  exact ⟨c, d.K_len hp, hp, hcell⟩
theorem opens_ints : Opens enc W base sp held 36 kLI := opens_slice Tryz.underlying36 (by kernel_rfl) opens_int
theorem cells_int : Tryz.prog.cellsOf 3 = 1 := by kernel_rfl
theorem cells_ints : Tryz.prog.cellsOf 36 = 1 := by kernel_rfl
theorem cells_edges : Tryz.prog.cellsOf 22 = 1 := by kernel_rfl
theorem cells_msgs : Tryz.prog.cellsOf 25 = 1 := by kernel_rfl
theorem cells_edge : Tryz.prog.cellsOf 129 = 3 := by kernel_rfl
theorem cells_msg : Tryz.prog.cellsOf 77 = 3 := by kernel_rfl
theorem cells_amark : Tryz.prog.cellsOf 57 = 2 := by kernel_rfl
theorem cells_agraph : Tryz.prog.cellsOf 24 = 3 := by kernel_rfl
theorem cells_plan : Tryz.prog.cellsOf 27 = 5 := by kernel_rfl
set_option maxRecDepth 100000 in
theorem opens_amark : Opens enc W base sp held 57 (Kd.pair kI kLI) := fun fuel cs x h => by
 obtain ⟨y0, y1, n, _, hl, t0, t1⟩ := trod_struct2 Tryz.underlying57 h
 rw [cells_amark] at hl
 match cs, hl with
 | [c0, c1], _ =>
  simp only [cells_int, cells_ints, List.drop, List.take] at t0 t1
  obtain ⟨a, ha⟩ := opens_int _ _ _ t0
  obtain ⟨b, hb⟩ := opens_ints _ _ _ t1
  exact ⟨(a, b), [c0], [c1], rfl, ha, hb⟩
set_option maxRecDepth 100000 in
theorem opens_edge : Opens enc W base sp held 129 kE := fun fuel cs x h => by
 obtain ⟨y0, y1, y2, n, _, hl, t0, t1, t2⟩ := trod_struct3 Tryz.underlying129 h
 rw [cells_edge] at hl
 match cs, hl with
 | [c0, c1, c2], _ =>
  simp only [cells_int, cells_ints, List.drop, List.take] at t0 t1 t2
  obtain ⟨a, ha⟩ := opens_int _ _ _ t0
  obtain ⟨b, hb⟩ := opens_int _ _ _ t1
  obtain ⟨c, hc⟩ := opens_ints _ _ _ t2
  exact ⟨(a, b, c), [c0], [c1, c2], rfl, ha, [c1], [c2], rfl, hb, hc⟩
set_option maxRecDepth 100000 in
theorem opens_msg : Opens enc W base sp held 77 kMs := fun fuel cs x h => by
 obtain ⟨y0, y1, n, _, hl, t0, t1⟩ := trod_struct2 Tryz.underlying77 h
 rw [cells_msg] at hl
 match cs, hl with
 | [c0, c1, c2], _ =>
  simp only [cells_int, cells_amark, List.drop, List.take] at t0 t1
  obtain ⟨a, ha⟩ := opens_amark _ _ _ t0
  obtain ⟨b, hb⟩ := opens_int _ _ _ t1
  exact ⟨(a, b), [c0, c1], [c2], rfl, ha, hb⟩
set_option maxRecDepth 100000 in
theorem opens_plan {r : Reach} {b0 : Nat} {v : Value} {d : DataW H} {ps : List MemPlace} (hv : Value.okWide Tryz.prog W r b0 27 v) (h : DataW.Trod enc Tryz.prog W base sp held 27 v d ps) :
  ∃ (p : Plan) (eA mA : Option Addr) (eC mC : Nat), v = planV p eA eC mA mC ∧ PlanAt W p eA mA := by
 simp only [Value.okWide, Tryz.underlying27] at hv
 obtain ⟨cs, rfl, hs, _⟩ := hv
 obtain ⟨fuel, hf⟩ := h
 have hcs : (Value.agg cs).cells.toList = cs.toList := rfl
 rw [hcs] at hf
 obtain ⟨y0, y1, y2, n, _, hl, t0, t1, t2⟩ := trod_struct3 Tryz.underlying27 hf
 rw [cells_plan] at hl
 obtain ⟨l, hcl⟩ : ∃ l, cs = List.toArray l := ⟨cs.toList, rfl⟩
 subst hcl
 match l, hl with
 | [c0, c1, c2, c3, c4], _ =>
  simp only [cells_int, cells_agraph, cells_msgs, List.drop, List.take] at t0 t1 t2
  obtain ⟨z0, z1, z2, _, _, _, u0, u1, u2⟩ := trod_struct3 Tryz.underlying24 t0
  simp only [cells_int, cells_edges, List.drop, List.take] at u0 u1 u2
  obtain ⟨N, hN⟩ := opens_int _ _ _ u0
  obtain ⟨Wd, hW⟩ := opens_int _ _ _ u1
  obtain ⟨E, eA, eC, he, hle, hE⟩ := opens_slice (d := kE) Tryz.underlying22 cells_edge opens_edge _ _ _ u2
  obtain ⟨wk, hk⟩ := opens_int _ _ _ t1
  obtain ⟨S, mA, mC, hm, hlm, hS⟩ := opens_slice (d := kMs) Tryz.underlying25 cells_msg opens_msg _ _ _ t2
  have hN : [c0] = [.int .i64 N] := hN
  have hW : [c1] = [.int .i64 Wd] := hW
  have hk : [c3] = [.int .i64 wk] := hk
  injection hN with hN
  injection hW with hW
  injection hk with hk
  injection he with he
  injection hm with hm
  subst hN hW hk he hm
  exact ⟨⟨N, Wd, E, wk, S⟩, eA, mA, eC, mC, rfl, hE, hS⟩
end
end Go.Proofs.YtbkfnmgkcgnifaaGreat
