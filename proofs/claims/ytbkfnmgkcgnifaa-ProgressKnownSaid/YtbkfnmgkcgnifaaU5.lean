/- What the laws of deltaworkslaw23 share, the last part. -/
import Derived.Test.YtbkfnmgkcgnifaaU4
set_option linter.all false
namespace Go.Proofs.Ytbkfnmgkcgnifaa
open Go.RowKit Go.Shelf Go.Proofs.YtbkfnmgkcgnifaaW.PrintWords Go.Proofs.YtbkfnmgkcgnifaaW.PrintLast Mdl
set_option maxRecDepth 4000 in
theorem at_any (n : Int) (A : Option Addr) (len cap : Nat) (w : World) : Calls Try.prog 19 #[.int .i64 n, .slice A len cap] w fun e w' => e = .returned (.agg #[.int .i64 n, .slice A len cap]) ∧ Below w.heap.size w w' := by
 go_enter Try.func19, Try.ntmps19
 go_wp2_with fail
 exact bodyPost_ret (v := .agg #[.int .i64 n, .slice A len cap]) (by simp [results, Try.results19, go_sem]) rfl ⟨rfl, below_new _ _⟩
set_option maxRecDepth 4000 in
theorem edge_any (a b : Int) (A : Option Addr) (len cap : Nat) (w : World) : Calls Try.prog 40 #[.int .i64 a, .int .i64 b, .slice A len cap] w fun e w' => e = .returned (.agg #[.int .i64 a, .int .i64 b, .slice A len cap]) ∧ Below w.heap.size w w' := by
 go_enter Try.func40, Try.ntmps40
 go_wp2_with fail
 exact bodyPost_ret (v := .agg #[.int .i64 a, .int .i64 b, .slice A len cap]) (by simp [results, Try.results40, go_sem]) rfl ⟨rfl, below_new _ _⟩
def Lits {α : Type} (d : Kd α) (w : World) : List α → List (List Value) → Prop
 | [], [] => True
 | x :: xs, c :: cs => d.K w x c ∧ Lits d w xs cs
 | _, _ => False
theorem Lits.at_ {α : Type} {d : Kd α} {w : World} : ∀ {xs : List α} {css : List (List Value)}, Lits d w xs css → ∀ (j : Nat) (p : α), xs[j]? = some p → ∃ c, d.K w p c ∧ ∀ (i : Nat) (u : Value), c[i]? = some u → css.flatten[j * d.sz + i]? = some u
 | [], [], _, j, p, hj => by simp at hj
 | x :: xs, c :: cs, h, 0, p, hj => by
  simp at hj; subst hj
  refine ⟨c, h.1, fun i u hu => ?_⟩
  rw [Nat.zero_mul, Nat.zero_add, List.flatten_cons, List.getElem?_append_left (by
   have := (List.getElem?_eq_some_iff.1 hu).1; exact this)]
  exact hu
 | x :: xs, c :: cs, h, j + 1, p, hj => by
  obtain ⟨c', h1, h2⟩ := h.2.at_ j p (by simpa using hj)
  refine ⟨c', h1, fun i u hu => ?_⟩
  have hl := d.K_len h.1
  rw [List.flatten_cons, List.getElem?_append_right (by rw [hl, Nat.succ_mul]; omega), show (j + 1) * d.sz + i - c.length = j * d.sz + i by rw [hl, Nat.succ_mul]; omega]
  exact h2 i u hu
theorem C_lits {α : Type} {d : Kd α} {w : World} {g t : Nat} {xs : List α} (css : List (List Value)) (hb : w.heap[g]? = some (.cells css.flatten.toArray t (0, 0))) (hl : Lits d w xs css) (hm : xs.length ≤ 1000000) : d.C w (some ⟨g, 0, none⟩) xs.length xs := by
 refine ⟨rfl, by omega, fun _ => ⟨_, rfl, fun j p hj => ?_⟩⟩
 obtain ⟨c, h2, h3⟩ := hl.at_ j p hj
 refine ⟨c, d.K_len h2, h2, fun i u hu => ?_⟩
 rw [Addr.add_lit, blk_cell hb, Nat.zero_add]
 simpa using h3 i u hu
theorem lit_int2 {w : World} {g t : Nat} {a b : Int} (hb : w.heap[g]? = some (.cells #[.int .i64 a, .int .i64 b] t (0, 0))) : kI.C w (some ⟨g, 0, none⟩) 2 [a, b] :=
 C_lits (xs := [a, b]) [[.int .i64 a], [.int .i64 b]] hb ⟨rfl, rfl, trivial⟩ (by simp)
theorem K_li {w : World} {g : Nat} {l : List Int} {n c : Nat} (h : kI.C w (some ⟨g, 0, none⟩) n l) (hn : n = l.length) (hc : n ≤ c) : kLI.K w l [.slice (some ⟨g, 0, none⟩) n c] := by subst hn; exact ⟨_, _, rfl, hc, h⟩
def Mdl.planP : Plan := ⟨3, 2, [(0, 1, [0, 0]), (1, 2, [0, 1]), (2, 1, [0, 0]), (1, 0, [1, 0])], 2, [((0, [0, 0]), 0)]⟩
set_option maxRecDepth 8000 in
set_option maxHeartbeats 2000000 in
theorem plan_any (w : World) : Calls Try.prog 18 #[] w fun e w' => ∃ eA mA, e = .returned (planV planP eA 4 mA 1) ∧ PlanAt w' planP eA mA ∧ Below w.heap.size w w' := by
 have HE := fun a b A len cap w => Lib.hid (edge_any a b A len cap w)
 go_enter Try.func18, Try.ntmps18
 have hz1 : (w.alloc (.cells #[.int .i64 0, .int .i64 0, .slice none 0 0, .int .i64 0, .slice none 0 0] 29)).heap.size = w.heap.size + 1 := by simp
 have hp0 : (w.alloc (.cells #[.int .i64 0, .int .i64 0, .slice none 0 0, .int .i64 0, .slice none 0 0] 29)).heap[w.heap.size]? = some (.cells #[.int .i64 0, .int .i64 0, .slice none 0 0, .int .i64 0, .slice none 0 0] 29 (0, 0)) := heap_alloc_new w _
 have HB0 := Aside0.mk (And.intro (below_new w (.cells #[.int .i64 0, .int .i64 0, .slice none 0 0, .int .i64 0, .slice none 0 0] 29)) hp0)
 clear hp0
 go_upto_region 1 with fail
 generalize w.alloc (.cells #[.int .i64 0, .int .i64 0, .slice none 0 0, .int .i64 0, .slice none 0 0] 29) = v0 at *
 clear hz1
 go_wp2_with fail
 have bN0 := below_new v0 (.cells #[.int .i64 0, .int .i64 0] 3)
 have hI0 := heap_alloc_new v0 (.cells #[.int .i64 0, .int .i64 0] 3)
 refine (HE 0 1 _ 2 2 _).out.mono ?_
 rintro e v1 ⟨rfl, hc0⟩
 have HB1 := Aside0.mk (And.intro (below_then (below_then HB0.out.1 HB0.out.1.size bN0) (below_then HB0.out.1 HB0.out.1.size bN0).size hc0) (And.intro (blk_below (blk_below HB0.out.2 bN0) hc0) (blk_below hI0 hc0)))
 generalize v0.heap.size = g0 at *
 clear bN0 hI0 hc0 HB0
 go_wp2_with fail
 have bN1 := below_new v1 (.cells #[.int .i64 0, .int .i64 1] 3)
 have hI1 := heap_alloc_new v1 (.cells #[.int .i64 0, .int .i64 1] 3)
 refine (HE 1 2 _ 2 2 _).out.mono ?_
 rintro e v2 ⟨rfl, hc1⟩
 have HB2 := Aside0.mk (And.intro (below_then (below_then HB1.out.1 HB1.out.1.size bN1) (below_then HB1.out.1 HB1.out.1.size bN1).size hc1) (And.intro (blk_below (blk_below HB1.out.2.1 bN1) hc1) ( And.intro (blk_below (blk_below HB1.out.2.2 bN1) hc1) (blk_below hI1 hc1))))
 generalize v1.heap.size = g1 at *
 clear bN1 hI1 hc1 HB1
 go_wp2_with fail
 have bN2 := below_new v2 (.cells #[.int .i64 0, .int .i64 0] 3)
 have hI2 := heap_alloc_new v2 (.cells #[.int .i64 0, .int .i64 0] 3)
 refine (HE 2 1 _ 2 2 _).out.mono ?_
 rintro e v3 ⟨rfl, hc2⟩
 have HB3 := Aside0.mk (And.intro (below_then (below_then HB2.out.1 HB2.out.1.size bN2) (below_then HB2.out.1 HB2.out.1.size bN2).size hc2) (And.intro (blk_below (blk_below HB2.out.2.1 bN2) hc2) ( And.intro (blk_below (blk_below HB2.out.2.2.1 bN2) hc2) ( And.intro (blk_below (blk_below HB2.out.2.2.2 bN2) hc2) (blk_below hI2 hc2)))))
 generalize v2.heap.size = g2 at *
 clear bN2 hI2 hc2 HB2
 go_wp2_with fail
 have bN3 := below_new v3 (.cells #[.int .i64 1, .int .i64 0] 3)
 have hI3 := heap_alloc_new v3 (.cells #[.int .i64 1, .int .i64 0] 3)
 refine (HE 1 0 _ 2 2 _).out.mono ?_
 rintro e v4 ⟨rfl, hc3⟩
 have HB4 := Aside0.mk (And.intro (below_then (below_then HB3.out.1 HB3.out.1.size bN3) (below_then HB3.out.1 HB3.out.1.size bN3).size hc3) (And.intro (blk_below (blk_below HB3.out.2.1 bN3) hc3) ( And.intro (blk_below (blk_below HB3.out.2.2.1 bN3) hc3) ( And.intro (blk_below (blk_below HB3.out.2.2.2.1 bN3) hc3) ( And.intro (blk_below (blk_below HB3.out.2.2.2.2 bN3) hc3) (blk_below hI3 hc3))))))
 generalize v3.heap.size = g3 at *
 clear bN3 hI3 hc3 HB3
 go_upto_region 2 with fail
 have bN4 := below_new v4 (.cells #[.int .i64 0, .int .i64 1, .slice (some ⟨g0, 0, none⟩) 2 2, .int .i64 1, .int .i64 2, .slice (some ⟨g1, 0, none⟩) 2 2, .int .i64 2, .int .i64 1, .slice (some ⟨g2, 0, none⟩) 2 2, .int .i64 1, .int .i64 0, .slice (some ⟨g3, 0, none⟩) 2 2] 41)
 have hE4 := heap_alloc_new v4 (.cells #[.int .i64 0, .int .i64 1, .slice (some ⟨g0, 0, none⟩) 2 2, .int .i64 1, .int .i64 2, .slice (some ⟨g1, 0, none⟩) 2 2, .int .i64 2, .int .i64 1, .slice (some ⟨g2, 0, none⟩) 2 2, .int .i64 1, .int .i64 0, .slice (some ⟨g3, 0, none⟩) 2 2] 41)
 have hz5 : (v4.alloc (.cells #[.int .i64 0, .int .i64 1, .slice (some ⟨g0, 0, none⟩) 2 2, .int .i64 1, .int .i64 2, .slice (some ⟨g1, 0, none⟩) 2 2, .int .i64 2, .int .i64 1, .slice (some ⟨g2, 0, none⟩) 2 2, .int .i64 1, .int .i64 0, .slice (some ⟨g3, 0, none⟩) 2 2] 41)).heap.size = v4.heap.size + 1 := by simp
 have bN5 := below_new (v4.alloc (.cells #[.int .i64 0, .int .i64 1, .slice (some ⟨g0, 0, none⟩) 2 2, .int .i64 1, .int .i64 2, .slice (some ⟨g1, 0, none⟩) 2 2, .int .i64 2, .int .i64 1, .slice (some ⟨g2, 0, none⟩) 2 2, .int .i64 1, .int .i64 0, .slice (some ⟨g3, 0, none⟩) 2 2] 41)) (.cells #[.int .i64 3, .int .i64 2, .slice (some ⟨v4.heap.size, 0, none⟩) 4 4] 26)
 have hG5 := heap_alloc_new (v4.alloc (.cells #[.int .i64 0, .int .i64 1, .slice (some ⟨g0, 0, none⟩) 2 2, .int .i64 1, .int .i64 2, .slice (some ⟨g1, 0, none⟩) 2 2, .int .i64 2, .int .i64 1, .slice (some ⟨g2, 0, none⟩) 2 2, .int .i64 1, .int .i64 0, .slice (some ⟨g3, 0, none⟩) 2 2] 41)) (.cells #[.int .i64 3, .int .i64 2, .slice (some ⟨v4.heap.size, 0, none⟩) 4 4] 26)
 rw [hz5] at hG5
 have hb45 := below_then bN4 bN4.size bN5
 have HB5 := Aside0.mk (And.intro (below_then HB4.out.1 HB4.out.1.size hb45) (And.intro (blk_below HB4.out.2.1 hb45) (And.intro (blk_below HB4.out.2.2.1 hb45) (And.intro (blk_below HB4.out.2.2.2.1 hb45) (And.intro (blk_below HB4.out.2.2.2.2.1 hb45) (And.intro (blk_below HB4.out.2.2.2.2.2 hb45) (blk_below hE4 bN5)))))))
 have c0 : ((v4.alloc (.cells #[.int .i64 0, .int .i64 1, .slice (some ⟨g0, 0, none⟩) 2 2, .int .i64 1, .int .i64 2, .slice (some ⟨g1, 0, none⟩) 2 2, .int .i64 2, .int .i64 1, .slice (some ⟨g2, 0, none⟩) 2 2, .int .i64 1, .int .i64 0, .slice (some ⟨g3, 0, none⟩) 2 2] 41)).alloc (.cells #[.int .i64 3, .int .i64 2, .slice (some ⟨v4.heap.size, 0, none⟩) 4 4] 26)).cell? ⟨v4.heap.size + 1, 0, none⟩ = some (.int .i64 3) := (blk_cell hG5 0).trans rfl
 have c1 : ((v4.alloc (.cells #[.int .i64 0, .int .i64 1, .slice (some ⟨g0, 0, none⟩) 2 2, .int .i64 1, .int .i64 2, .slice (some ⟨g1, 0, none⟩) 2 2, .int .i64 2, .int .i64 1, .slice (some ⟨g2, 0, none⟩) 2 2, .int .i64 1, .int .i64 0, .slice (some ⟨g3, 0, none⟩) 2 2] 41)).alloc (.cells #[.int .i64 3, .int .i64 2, .slice (some ⟨v4.heap.size, 0, none⟩) 4 4] 26)).cell? ⟨v4.heap.size + 1, 1, none⟩ = some (.int .i64 2) := (blk_cell hG5 1).trans rfl
 have c2 : ((v4.alloc (.cells #[.int .i64 0, .int .i64 1, .slice (some ⟨g0, 0, none⟩) 2 2, .int .i64 1, .int .i64 2, .slice (some ⟨g1, 0, none⟩) 2 2, .int .i64 2, .int .i64 1, .slice (some ⟨g2, 0, none⟩) 2 2, .int .i64 1, .int .i64 0, .slice (some ⟨g3, 0, none⟩) 2 2] 41)).alloc (.cells #[.int .i64 3, .int .i64 2, .slice (some ⟨v4.heap.size, 0, none⟩) 4 4] 26)).cell? ⟨v4.heap.size + 1, 2, none⟩ = some (.slice (some ⟨v4.heap.size, 0, none⟩) 4 4) := (blk_cell hG5 2).trans rfl
 clear bN4 hE4 hz5 bN5 hG5 hb45 HB4
 generalize (v4.alloc (.cells #[.int .i64 0, .int .i64 1, .slice (some ⟨g0, 0, none⟩) 2 2, .int .i64 1, .int .i64 2, .slice (some ⟨g1, 0, none⟩) 2 2, .int .i64 2, .int .i64 1, .slice (some ⟨g2, 0, none⟩) 2 2, .int .i64 1, .int .i64 0, .slice (some ⟨g3, 0, none⟩) 2 2] 41)).alloc (.cells #[.int .i64 3, .int .i64 2, .slice (some ⟨v4.heap.size, 0, none⟩) 4 4] 26) = v5 at *
 generalize v4.heap.size = eb at *
 refine start_ (n := 7) (S := fun V => V.cell? ⟨eb + 1, 0, none⟩ = some (.int .i64 3) ∧ V.cell? ⟨eb + 1, 1, none⟩ = some (.int .i64 2) ∧ V.cell? ⟨eb + 1, 2, none⟩ = some (.slice (some ⟨eb, 0, none⟩) 4 4)) (ds := [6]) (bs 7 0) (by kernel_rfl) rfl (by kernel_rfl) ⟨c0, c1, c2⟩ (fun hHeld => ?_)
 have HD := Aside0.mk (below_drew1 (Below.refl v5.heap.size v5))
 have HSH := Lib.hid (fun V (hb : Below v5.heap.size v5 V) => (And.intro (pw_cell_below hb c0) (And.intro (pw_cell_below hb c1) (pw_cell_below hb c2))))
 clear c0 c1 c2
 generalize v5.drew = wd at *
 refine tk3 0 12 (bs 7 1) hHeld ?_
 refine on0 1 13 (bs 7 3) fun K hK => ?_
 refine va0 ?_
 have bN6 := below_new wd (.cells #[.int .i64 0, .int .i64 0] 3)
 have hI6 := heap_alloc_new wd (.cells #[.int .i64 0, .int .i64 0] 3)
 have hB6 := below_then HD.out HD.out.size bN6
 refine hK.out _ _ (HSH.out _ hB6) (fun hHeld => ?_)
 clear hK K
 refine nm0 (some 13) ?_
 refine on0 2 14 (bs 7 7) fun K hK => ?_
 refine gs0 Try.func19 #[.int .i64 0, .slice (some ⟨wd.heap.size, 0, none⟩) 2 2] ?_
 refine (at_any 0 (some ⟨wd.heap.size, 0, none⟩) 2 2 _).mono ?_
 rintro e v7 ⟨rfl, hb7⟩
 have hB7 := below_then hB6 hB6.size hb7
 have HI7 := Aside0.mk (And.intro hB7 (blk_below hI6 hb7))
 refine ⟨_, rfl, hK.out _ _ (HSH.out _ hB7) (fun hHeld => ?_)⟩
 clear hK K
 refine nm0 (some 14) ?_
 clear bN6 hI6 hB6 hb7 hB7
 generalize wd.heap.size = ib at *
 refine pu 3 15 (bs 7 15) ?_
 refine on0 4 16 (bs 7 31) fun K hK => ?_
 refine va0 ?_
 have bN8 := below_new v7 (.cells #[.int .i64 0, .slice (some ⟨ib, 0, none⟩) 2 2, .int .i64 0] 51)
 have hM8 := heap_alloc_new v7 (.cells #[.int .i64 0, .slice (some ⟨ib, 0, none⟩) 2 2, .int .i64 0] 51)
 have hB8 := below_then HI7.out.1 HI7.out.1.size bN8
 have HI8 := Aside0.mk (And.intro hB8 (And.intro (blk_below HI7.out.2 bN8) hM8))
 refine hK.out _ _ (HSH.out _ hB8) (fun hHeld => ?_)
 clear hK K
 refine nm0 (some 16) ?_
 clear bN8 hM8 HI7
 generalize v7.alloc (.cells #[.int .i64 0, .slice (some ⟨ib, 0, none⟩) 2 2, .int .i64 0] 51) = v8 at *
 generalize v7.heap.size = sb at *
 refine pu 5 17 (bs 7 63) ?_
 have HB8 := Aside0.mk (And.intro (below_then HB5.out.1 HB5.out.1.size hB8) (And.intro (blk_below HB5.out.2.1 hB8) (And.intro (blk_below HB5.out.2.2.1 hB8) (And.intro (blk_below HB5.out.2.2.2.1 hB8) (And.intro (blk_below HB5.out.2.2.2.2.1 hB8) (And.intro (blk_below HB5.out.2.2.2.2.2.1 hB8) (blk_below HB5.out.2.2.2.2.2.2 hB8)))))))
 clear hB8
 have z0 := (blk_cell HB8.out.2.1 0).trans rfl
 have z1 := (blk_cell HB8.out.2.1 1).trans rfl
 have z2 := (blk_cell HB8.out.2.1 2).trans rfl
 have z3 := (blk_cell HB8.out.2.1 3).trans rfl
 have z4 := (blk_cell HB8.out.2.1 4).trans rfl
 have y0 := blk_frozen HB8.out.2.1 0
 have y1 := blk_frozen HB8.out.2.1 1
 have y2 := blk_frozen HB8.out.2.1 2
 have y3 := blk_frozen HB8.out.2.1 3
 have y4 := blk_frozen HB8.out.2.1 4
 refine la0 6 (bs 7 127) (N := none) fun K hK => ?_
 refine sk0 ?_
 refine hK.out _ _ ?_
 clear hK K hHeld
 refine dn0 ?_
 have hfin := blk_put (blk_put (blk_put (blk_put (blk_put HB8.out.2.1 0 (.int .i64 3) rfl) 1 (.int .i64 2) rfl) 2 (.slice (some ⟨eb, 0, none⟩) 4 4) rfl) 3 (.int .i64 2) rfl) 4 (.slice (some ⟨sb, 0, none⟩) 1 1) rfl
 have hg := setCells_grown w.heap.size [.int .i64 3, .int .i64 2, .slice (some ⟨eb, 0, none⟩) 4 4, .int .i64 2, .slice (some ⟨sb, 0, none⟩) 1 1] 0 v8
 simp only [World.setCells] at hg
 generalize ((((v8.setCell ⟨w.heap.size, 0, none⟩ (.int .i64 3)).setCell ⟨w.heap.size, 1, none⟩ (.int .i64 2)).setCell ⟨w.heap.size, 2, none⟩ (.slice (some ⟨eb, 0, none⟩) 4 4)).setCell ⟨w.heap.size, 3, none⟩ (.int .i64 2)).setCell ⟨w.heap.size, 4, none⟩ (.slice (some ⟨sb, 0, none⟩) 1 1) = vF at *
 have hk : Kept v8 vF (fun b => b = w.heap.size) := ⟨hg.size, fun i hi hn => hg.block i hi (fun he => hn (by injection he))⟩
 have hwt : Typed v8 w.heap.size 29 := ⟨_, HB8.out.2.1⟩
 have hne : ∀ {b t : Nat} {cs : Array Value}, v8.heap[b]? = some (.cells cs t (0, 0)) → (29 == t) = false → ¬ b = w.heap.size := fun hb ht he => not_typed hwt ht (he ▸ ⟨_, hb⟩)
 have k0 := lit_int2 (blk_kept HB8.out.2.2.1 hk (hne HB8.out.2.2.1 rfl))
 have k1 := lit_int2 (blk_kept HB8.out.2.2.2.1 hk (hne HB8.out.2.2.2.1 rfl))
 have k2 := lit_int2 (blk_kept HB8.out.2.2.2.2.1 hk (hne HB8.out.2.2.2.2.1 rfl))
 have k3 := lit_int2 (blk_kept HB8.out.2.2.2.2.2.1 hk (hne HB8.out.2.2.2.2.2.1 rfl))
 have kE0 := blk_kept HB8.out.2.2.2.2.2.2 hk (hne HB8.out.2.2.2.2.2.2 rfl)
 have k4 := lit_int2 (blk_kept HI8.out.2.1 hk (hne HI8.out.2.1 rfl))
 have kM0 := blk_kept HI8.out.2.2 hk (hne HI8.out.2.2 rfl)
 have hP : PlanAt vF planP (some ⟨eb, 0, none⟩) (some ⟨sb, 0, none⟩) := ⟨C_lits (xs := planP.E) [[.int .i64 0, .int .i64 1, .slice (some ⟨g0, 0, none⟩) 2 2], [.int .i64 1, .int .i64 2, .slice (some ⟨g1, 0, none⟩) 2 2], [.int .i64 2, .int .i64 1, .slice (some ⟨g2, 0, none⟩) 2 2], [.int .i64 1, .int .i64 0, .slice (some ⟨g3, 0, none⟩) 2 2]] kE0
   ⟨⟨_, _, rfl, rfl, _, _, rfl, rfl, K_li k0 rfl (Nat.le_refl _)⟩, ⟨_, _, rfl, rfl, _, _, rfl, rfl, K_li k1 rfl (Nat.le_refl _)⟩, ⟨_, _, rfl, rfl, _, _, rfl, rfl, K_li k2 rfl (Nat.le_refl _)⟩, ⟨_, _, rfl, rfl, _, _, rfl, rfl, K_li k3 rfl (Nat.le_refl _)⟩, trivial⟩ (by decide),
  C_lits (xs := planP.start) [[.int .i64 0, .slice (some ⟨ib, 0, none⟩) 2 2, .int .i64 0]] kM0 ⟨⟨_, _, rfl, ⟨_, _, rfl, rfl, K_li k4 rfl (Nat.le_refl _)⟩, rfl⟩, trivial⟩ (by decide)⟩
 have hB : Below w.heap.size w vF := below_of_grown HB8.out.1 hg (Nat.le_refl _)
 have p0 := (blk_cell hfin 0).trans rfl
 have p1 := (blk_cell hfin 1).trans rfl
 have p2 := (blk_cell hfin 2).trans rfl
 have p3 := (blk_cell hfin 3).trans rfl
 have p4 := (blk_cell hfin 4).trans rfl
 have HF := Lib.hid (And.intro hP hB)
 clear hfin hg hk hwt hne k0 k1 k2 k3 kE0 k4 kM0 hP hB z0 z1 z2 z3 z4 y0 y1 y2 y3 y4
 go_wp2_with fail
 exact bodyPost_ret (v := planV planP (some ⟨eb, 0, none⟩) 4 (some ⟨sb, 0, none⟩) 1) (by simp [results, Try.results18, go_sem, p0, p1, p2, p3, p4]; rfl) rfl ⟨_, _, rfl, HF.out⟩
end Go.Proofs.Ytbkfnmgkcgnifaa
namespace Go.Proofs.Ytbkfnmgkcgnifaa.Mdl
theorem ex_check : checkP planP = 0 := by kernel_rfl
theorem ex_p1 : pathsP planP.N planP.Wd planP.E 0 2 = .ok [(0, 1, 0)] := by kernel_rfl
theorem ex_p2 : pathsP planP.N planP.Wd planP.E 2 0 = .ok [(1, 0, 0)] := by kernel_rfl
theorem ex_t : truthX planP [] 0 = .ok [[(0, 0, 0)], [(0, 0, 0)], [(0, 1, 0)]] := by kernel_rfl
theorem ex_b0 : beliefX planP [] 1 0 = .ok [[], [], []] := by kernel_rfl
theorem ex_b1 : beliefX planP [] 1 1 = .ok [[(0, 0, 0)], [(0, 0, 0)], [(0, 1, 0)]] := by kernel_rfl
theorem ex_r : runX planP [0, 2, 0, 1] = .ok (3, 3, 2) := by kernel_rfl
theorem ex_l : ledgerX planP [0, 2, 0, 1] 2 1 = .ok [((0, [0, 0]), 1), ((1, [0, 0]), -1), ((2, [0, 1]), 1)] := by kernel_rfl
theorem ex_h : heldX planP [0, 2, 0, 1] 2 0 = .ok [(2, [0, 1])] := by kernel_rfl
theorem ex_o1 : toldX planP [] 1 (2, [5, 1]) = .ok 2 := by kernel_rfl
theorem ex_o2 : toldX planP [] 0 (2, [5, 1]) = .ok 1 := by kernel_rfl
theorem ex_o3 : toldX planP [] 1 (2, [5, 0]) = .ok 0 := by kernel_rfl
end Go.Proofs.Ytbkfnmgkcgnifaa.Mdl
namespace Go.Proofs.Ytbkfnmgkcgnifaa
open Go.RowKit Go.Shelf Go.Proofs.YtbkfnmgkcgnifaaW.PrintWords Go.Proofs.YtbkfnmgkcgnifaaW.PrintLast Mdl
def Al : List (World → Prop) → World → Prop
 | [], _ => True
 | P :: Ps, w => (P w ∧ ∀ u u', P u → Below u.heap.size u u' → P u') ∧ Al Ps w
theorem Al.up : ∀ {Ps : List (World → Prop)} {w w' : World}, Al Ps w → Below w.heap.size w w' → Al Ps w'
 | [], _, _, _, _ => trivial
 | _ :: _, _, _, h, hb => ⟨⟨h.1.2 _ _ h.1.1 hb, h.1.2⟩, h.2.up hb⟩
theorem Al.start (w : World) : Al [fun u => Below w.heap.size w u] w := ⟨⟨Below.refl _ _, fun _ _ h hb => below_then h h.size hb⟩, trivial⟩
theorem Al.row {Ps : List (World → Prop)} {w : World} (h : Al Ps w) {α : Type} {d : Kd α} {A : Option Addr} {n : Nat} {xs : List α} (hr : d.C w A n xs) : Al ((fun u => d.C u A n xs) :: Ps) w := ⟨⟨hr, fun _ _ h hb => Kd.C_below h hb⟩, h⟩
theorem Al.blk {Ps : List (World → Prop)} {w : World} (h : Al Ps w) {g : Nat} {o : Obj} (hr : w.heap[g]? = some o) : Al ((fun u => u.heap[g]? = some o) :: Ps) w := ⟨⟨hr, fun _ _ h hb => blk_below h hb⟩, h⟩
theorem Al.plan {Ps : List (World → Prop)} {w : World} (h : Al Ps w) {p : Plan} {eA mA : Option Addr} (hr : PlanAt w p eA mA) : Al ((fun u => PlanAt u p eA mA) :: Ps) w := ⟨⟨hr, fun _ _ h hb => h.below hb⟩, h⟩
theorem Al.new {Ps : List (World → Prop)} {w : World} (h : Al Ps w) (o : Obj) {b : Nat} (hz : w.heap.size = b) : Al ((fun u => u.heap[b]? = some o) :: Ps) (w.alloc o) := by
 subst hz
 exact (h.up (below_new w o)).blk (heap_alloc_new w o)
theorem res_ok {α β : Type} {d : Kd β} {t : Nat} {f : List α → List β} {r : Except Int (List α)} {l : List α} {m : List β} {P : Program} {fn : FuncId} {args : Array Value} {w : World} (hr : r = .ok l) (hm : f l = m)
  (h : Calls P fn args w fun e w' => ∃ v, e = .returned (.tuple #[v, .int .i64 (resOf r).2]) ∧ d.R t w' w.heap.size (fun _ => True) v (f (resOf r).1) ∧ Below w.heap.size w w') :
  Calls P fn args w fun e w' => ∃ A c, e = .returned (.tuple #[.slice A m.length c, .int .i64 0]) ∧ d.C w' A m.length m ∧ m.length ≤ c ∧ Below w.heap.size w w' := by
 refine h.mono ?_
 rintro e w' ⟨v, rfl, h1, hb⟩
 subst hr hm
 obtain ⟨A, c, rfl, hl, hC⟩ := Kd.R_reads h1
 exact ⟨A, c, rfl, hC, hl, hb⟩
theorem K_sl {α : Type} {d : Kd α} {e : Nat} {w : World} {g n c : Nat} {l : List α} (h : d.C w (some ⟨g, 0, none⟩) n l) (hn : n = l.length) (hc : n ≤ c) : (Kd.slice e d).K w l [.slice (some ⟨g, 0, none⟩) n c] := by subst hn; exact ⟨_, _, rfl, hc, h⟩
theorem lit_li1 {w : World} {g g' t t' : Nat} {a b : Int} (h : w.heap[g]? = some (.cells #[.slice (some ⟨g', 0, none⟩) 2 2] t (0, 0))) (h' : w.heap[g']? = some (.cells #[.int .i64 a, .int .i64 b] t' (0, 0))) : kLI.C w (some ⟨g, 0, none⟩) 1 [[a, b]] :=
 C_lits (xs := [[a, b]]) [[.slice (some ⟨g', 0, none⟩) 2 2]] h ⟨K_sl (lit_int2 h') rfl (Nat.le_refl _), trivial⟩ (by simp)
section
variable (A B : Option Addr) (cA cB : Nat) (w : World)
theorem equalLists_same (l : List (List Int)) (hl : kLI.C w A l.length l) (hm : kLI.C w B l.length l) : Calls Try.prog 12 #[.slice A l.length cA, .slice B l.length cB] w fun e w' => e = .returned (.bool true) ∧ Below w.heap.size w w' :=
 (equalLists_any A B cA cB l l w hl hm).mono fun e w' h => ⟨by rw [h.1, decide_eq_true rfl], h.2⟩
theorem fronts_same (l : List (List (List Int))) (hl : kLLI.C w A l.length l) (hm : kLLI.C w B l.length l) : Calls Try.prog 27 #[.slice A l.length cA, .slice B l.length cB] w fun e w' => e = .returned (.bool true) ∧ Below w.heap.size w w' :=
 (fronts_any A B cA cB l l w hl hm).mono fun e w' h => ⟨by rw [h.1, decide_eq_true rfl], h.2⟩
theorem marks_same (l : List (Int × List Int)) (hl : kMk.C w A l.length l) (hm : kMk.C w B l.length l) : Calls Try.prog 30 #[.slice A l.length cA, .slice B l.length cB] w fun e w' => e = .returned (.bool true) ∧ Below w.heap.size w w' :=
 (marksL_any A B cA cB l l w hl hm).mono fun e w' h => ⟨by rw [h.1, decide_eq_true rfl], h.2⟩
theorem counts_same (l : List Msg) (hl : kMs.C w A l.length l) (hm : kMs.C w B l.length l) : Calls Try.prog 39 #[.slice A l.length cA, .slice B l.length cB] w fun e w' => e = .returned (.bool true) ∧ Below w.heap.size w w' :=
 (counts_any A B cA cB l l w hl hm).mono fun e w' h => ⟨by rw [h.1, decide_eq_true rfl], h.2⟩
end
theorem Try.infoLLI : (Try.prog.info? 32).map (fun i => (i.zero, i.size, i.bytes)) = some (some (.slice none 0 0), 1, 24) := by kernel_rfl
theorem made_fronts (m : Nat) (h : m ≤ 8) : ∀ W : World, (Instr.makeSlice 52 (.int .i64 (m : Int)) (.int .i64 (m : Int))).run Try.prog W = .ok (.slice (some ⟨W.heap.size, 0, none⟩) m m) (W.alloc (.cells (madeCells #[.slice none 0 0] m) 32)) :=
 print_make_of 52 32 _ 24 Try.underlying52 Try.infoLLI rfl (by decide) m (by omega)
theorem C_made {w : World} {g m t : Nat} (h : w.heap[g]? = some (.cells (madeCells #[.slice none 0 0] m) t (0, 0))) (hm : m ≤ 8) : kLLI.C w (some ⟨g, 0, none⟩) m (List.replicate m []) := by
 refine ⟨by simp, by omega, fun _ => ⟨_, rfl, fun j p hj => ?_⟩⟩
 obtain ⟨h1, rfl⟩ := List.getElem?_eq_some_iff.1 hj
 rw [List.getElem_replicate]
 rw [List.length_replicate] at h1
 refine ⟨[.slice none 0 0], rfl, ⟨none, 0, rfl, Nat.le_refl _, Kd.C_nil kLI w⟩, fun i u hu => ?_⟩
 rw [Addr.add_lit, blk_cell h, Nat.zero_add]
 cases i with
 | zero => rw [show kLLI.sz = 1 from rfl, Nat.mul_one, Nat.add_zero, made_cell h1]; exact hu
 | succ i => simp at hu
theorem eq_run (d : Nat) (a b c x y z : Int) (w : World) : (Op.equalIn (d + 3) 57 (.agg #[.int .i64 a, .int .i64 b, .int .i64 c]) (.agg #[.int .i64 x, .int .i64 y, .int .i64 z])).run Try.prog w = .ok ((a == x) && ((b == y) && (c == z))) w := by
 refine eqA_of Try.underlying57 (by kernel_rfl) ?_
 refine eqf_cons (a := .int .i64 a) (b := .int .i64 x) (by rfl) (by kernel_rfl) (by kernel_rfl) (eq_int _ _ _ _) ?_
 refine eqf_cons (a := .int .i64 b) (b := .int .i64 y) (by rfl) (by kernel_rfl) (by kernel_rfl) (eq_int _ _ _ _) ?_
 exact eqf_last (a := .int .i64 c) (b := .int .i64 z) (by rfl) (by kernel_rfl) (by kernel_rfl) (eq_int _ _ _ _)
theorem ne_run (a b c x y z : Int) (w : World) : (binOp .neq 57 (.agg #[.int .i64 a, .int .i64 b, .int .i64 c]) (.agg #[.int .i64 x, .int .i64 y, .int .i64 z])).run Try.prog w = .ok (.bool (!((a == x) && ((b == y) && (c == z))))) w := by
 have h := run_neq_struct (P := Try.prog) (w := w) 57 #[.int .i64 a, .int .i64 b, .int .i64 c] #[.int .i64 x, .int .i64 y, .int .i64 z]
 rw [h, eq_run 9997 a b c x y z w]; rfl
end Go.Proofs.Ytbkfnmgkcgnifaa
namespace Go.Proofs.Ytbkfnmgkcgnifaa
open Go.RowKit Go.Shelf Go.Proofs.YtbkfnmgkcgnifaaW.PrintWords Go.Proofs.YtbkfnmgkcgnifaaW.PrintLast Mdl
namespace Mdl
def turnP (n many : Int) : Int := if many < 1 then 0 else if n.tmod many < 0 then n.tmod many + many else n.tmod many
theorem turnP_range (n : Int) {many : Int} (h : 1 ≤ many) : 0 ≤ turnP n many ∧ turnP n many < many := by
 have h1 := Int.tmod_lt_of_pos n (show 0 < many by omega)
 have h2 := Int.lt_tmod_of_pos n (show 0 < many by omega)
 unfold turnP
 rw [if_neg (by omega)]
 split <;> omega
def nthP (l : List Int) (i : Int) : Int := if l = [] then 0 else l.getD (turnP i l.length).toNat 0
def leTo (s t : List Int) (n : Nat) : Bool := (List.range n).all fun k => decide (s.getD k 0 ≤ t.getD k 0)
def leL (s t : List Int) : Bool := leTo s t s.length
def pastQ (t s : List Int) : Bool := decide (s.length = t.length) && leL s t
def pastP (f : List (List Int)) (t : List Int) : Bool := f.any (pastQ t)
def onTo (f g : List (List (List Int))) (n : Nat) : Bool := (List.range n).all fun i => (g.getD i []).all (pastP (f.getD i []))
def onP (f g : List (List (List Int))) : Bool := decide (f.length = g.length) && onTo f g g.length
theorem all_grow {p : Nat → Bool} {k : Nat} (h : (List.range k).all p = true) (e : p k = true) : (List.range (k + 1)).all p = true := by rw [List.range_succ, List.all_append, h]; simp [e]
theorem all_fall {p : Nat → Bool} {k n : Nat} (hk : k < n) (e : p k = false) : (List.range n).all p = false := by
 rw [List.all_eq_false]; exact ⟨k, List.mem_range.2 hk, by simp [e]⟩
theorem any_grow {α : Type} {q : α → Bool} {l : List α} {k : Nat} (hk : k < l.length) (h : (l.take k).any q = false) (e : q l[k] = false) : (l.take (k + 1)).any q = false := by rw [List.take_succ_eq_append_getElem hk, List.any_append, h]; simp [e]
theorem any_hit {α : Type} {q : α → Bool} {l : List α} {k : Nat} (hk : k < l.length) (e : q l[k] = true) : l.any q = true := List.any_eq_true.2 ⟨_, List.getElem_mem hk, e⟩
end Mdl
set_option maxRecDepth 4000 in
set_option maxHeartbeats 1600000 in
theorem turn_any (n many : Int) (w : World) (h1 : 1 ≤ many) (h2 : many ≤ 1000000000000000) : Calls Try.prog 10 #[.int .i64 n, .int .i64 many] w fun e w' => e = .returned (.int .i64 (turnP n many)) ∧ w = w' := by
 have hmod := Int.tmod_lt_of_pos n (show 0 < many by omega)
 have hlow := Int.lt_tmod_of_pos n (show 0 < many by omega)
 by_cases h0 : n.tmod many < 0
 ·have HT := Lib.hid (show turnP n many = w64 (n.tmod many + many) by unfold turnP; rw [if_neg (by omega), if_pos h0, w64_in (by omega) (by omega)])
  have h1' : ¬ many < 1 := by omega
  have hz : ¬ many = 0 := by omega
  clear hmod hlow
  go_enter Try.func10, Try.ntmps10
  go_wp2
  go_ret
  exact ⟨ret_int (by rw [HT.out, w64_eq]), rfl⟩
 ·have HT := Lib.hid (show turnP n many = n.tmod many by unfold turnP; rw [if_neg (by omega), if_neg h0])
  have h1' : ¬ many < 1 := by omega
  have hz : ¬ many = 0 := by omega
  clear hmod hlow
  go_enter Try.func10, Try.ntmps10
  go_wp2
  go_ret
  exact ⟨ret_int HT.out.symm, rfl⟩
set_option maxRecDepth 4000 in
set_option maxHeartbeats 1600000 in
theorem nth_any (A : Option Addr) (c : Nat) (l : List Int) (i : Int) (w : World) (hl : kI.C w A l.length l) (hm : l.length ≤ 1000000000000000) : Calls Try.prog 31 #[.slice A l.length c, .int .i64 i] w fun e w' => e = .returned (.int .i64 (nthP l i)) ∧ w = w' := by
 by_cases hn : l = []
 ·subst hn
  simp only [List.length_nil]
  go_enter Try.func31, Try.ntmps31
  go_wp2
  go_ret
  exact ⟨rfl, rfl⟩
 ·have h1 := List.length_pos_iff.2 hn
  have ht := turnP_range i (many := l.length) (by omega)
  have HT := Lib.hid (turn_any i l.length w (by omega) (by omega))
  obtain ⟨ad, rfl, hc⟩ := at_int hl (k := (turnP i l.length).toNat) (by omega)
  have HN := Lib.hid (show nthP l i = l[(turnP i l.length).toNat]'(by omega) by unfold nthP; rw [if_neg hn, List.getD_eq_getElem?_getD, List.getElem?_eq_getElem (by omega)]; rfl)
  have hz : ¬ (l.length : Int) = 0 := by omega
  generalize l[(turnP i l.length).toNat]'(by omega) = x at *
  obtain ⟨k, hk⟩ : ∃ k : Nat, turnP i l.length = k := ⟨(turnP i l.length).toNat, by omega⟩
  rw [hk] at HT hc ht
  rw [Int.toNat_natCast] at hc
  have hlt := ht.2
  have h0 := ht.1
  clear hl hn hk ht
  go_enter Try.func31, Try.ntmps31
  go_wp2_with fail
  refine HT.out.mono ?_
  rintro e w1 ⟨rfl, rfl⟩
  go_wp2_with fail
  go_ret
  exact ⟨ret_int HN.out.symm, rfl⟩
set_option maxRecDepth 4000 in
set_option maxHeartbeats 1600000 in
theorem le_any (A B : Option Addr) (cA cB : Nat) (l m : List Int) (w : World) (hl : kI.C w A l.length l) (hm : kI.C w B m.length m) (hlen : l.length = m.length) :
  Calls Try.prog 38 #[.slice A l.length cA, .slice B m.length cB] w fun e w' => e = .returned (.bool (leL l m)) ∧ Below w.heap.size w w' := by
 have HL := Aside0.mk hl
 have HM := Aside0.mk hm
 have hlm := Kd.C_max hl
 have hmm := Kd.C_max hm
 clear hl hm
 go_enter Try.func38, Try.ntmps38
 go_wp2_with fail
 go_loopw [5] (fun i wr => ∃ k : Nat, i = .int .i64 k ∧ k ≤ l.length ∧ Aside0 (leTo l m k = true ∧ Below w.heap.size w wr)) (fun i _ => l.length - (intOf i).toNat)
 case atStart => exact ⟨0, rfl, Nat.zero_le _, ⟨rfl, Below.refl _ _⟩⟩
 case round =>
  obtain ⟨k, rfl, hk, hX⟩ := hrel
  by_cases hlt : k < l.length
  ·have hkm : k < m.length := by omega
   have hkE : (k : Int) < l.length := by omega
   have hkM : (k : Int) < m.length := by omega
   have hk0 : (0 : Int) ≤ k := by omega
   obtain ⟨ad, rfl, c1⟩ := at_int (Kd.C_below HL.out hX.out.2) hlt
   obtain ⟨ad2, rfl, c2⟩ := at_int (Kd.C_below HM.out hX.out.2) hkm
   have HG := Lib.hid (show (l[k] ≤ m[k] → leTo l m (k + 1) = true) ∧ (¬ l[k] ≤ m[k] → leL l m = false) from by
    have e1 : l.getD k 0 = l[k] := by rw [List.getD_eq_getElem?_getD, List.getElem?_eq_getElem hlt]; rfl
    have e2 : m.getD k 0 = m[k] := by rw [List.getD_eq_getElem?_getD, List.getElem?_eq_getElem hkm]; rfl
    exact ⟨fun h => all_grow hX.out.1 (by rw [e1, e2]; exact decide_eq_true h), fun h => all_fall (p := fun k => decide (l.getD k 0 ≤ m.getD k 0)) hlt (by rw [e1, e2]; exact decide_eq_false h)⟩)
   generalize l[k] = x at *
   generalize m[k] = y at *
   clear hkm
   go_upto_region 4 with fail
   refine start_ (n := 9) (S := fun w' => w'.cell? (ad.add k) = some (.int .i64 x) ∧ w'.cell? (ad2.add k) = some (.int .i64 y)) (ds := []) (bs 9 0) (by kernel_rfl) rfl (by kernel_rfl) ⟨c1, c2⟩ (fun hHeld => ?_)
   have HD := Aside0.mk (below_drew1 hX.out.2)
   generalize wr.drew = wd at *
   refine pu 0 12 (bs 9 1) ?_
   refine pu 1 13 (bs 9 3) ?_
   refine pu 2 14 (bs 9 7) ?_
   refine tk2 3 15 (bs 9 15) hHeld ?_
   refine pu 4 16 (bs 9 31) ?_
   refine pu 5 17 (bs 9 63) ?_
   refine pu 6 18 (bs 9 127) ?_
   refine tk2 7 19 (bs 9 255) hHeld ?_
   by_cases hxy : x ≤ y
   ·have hf : decide (y < x) = false := by simp; omega
    refine pu 8 20 (bs 9 511) ?_
    refine dn0 ?_
    go_wp2_with fail
    exact ⟨⟨k + 1, by go_num, by omega, ⟨HG.out.1 hxy, HD.out⟩⟩, by simp [intOf]; omega⟩
   ·skip
    have hf : y < x := by omega
    refine pu 8 20 (bs 9 511) ?_
    refine dn0 ?_
    go_wp2_with fail
    go_ret
    exact ⟨by rw [HG.out.2 hf]; rfl, HD.out⟩
  ·have hkE : ¬ ((k : Int) < l.length) := by omega
   have HE := Lib.hid (show leL l m = true by
    have h := hX.out.1
    rw [show k = l.length by omega] at h
    exact h)
   go_wp2_with fail
   go_ret
   exact ⟨by rw [HE.out]; rfl, hX.out.2⟩
set_option maxRecDepth 4000 in
set_option maxHeartbeats 1600000 in
theorem past_any (A B : Option Addr) (cA cB : Nat) (f : List (List Int)) (t : List Int) (w : World) (hl : kLI.C w A f.length f) (hm : kI.C w B t.length t) :
  Calls Try.prog 13 #[.slice A f.length cA, .slice B t.length cB] w fun e w' => e = .returned (.bool (pastP f t)) ∧ Below w.heap.size w w' := by
 have HL := Aside0.mk hl
 have HM := Aside0.mk hm
 have hlm := Kd.C_max hl
 have hmm := Kd.C_max hm
 clear hl hm
 go_enter Try.func13, Try.ntmps13
 go_wp2_with fail
 go_loopw [5] (fun i wr => ∃ k : Nat, i = .int .i64 k ∧ k ≤ f.length ∧ Aside0 ((f.take k).any (pastQ t) = false ∧ Below w.heap.size w wr)) (fun i _ => f.length - (intOf i).toNat)
 case atStart => exact ⟨0, rfl, Nat.zero_le _, ⟨rfl, Below.refl _ _⟩⟩
 case round =>
  obtain ⟨k, rfl, hk, hX⟩ := hrel
  by_cases hlt : k < f.length
  ·have hkE : (k : Int) < f.length := by omega
   have hk0 : (0 : Int) ≤ k := by omega
   obtain ⟨ad, sA, sC, rfl, c1, d1, _⟩ := at_li (Kd.C_below HL.out hX.out.2) hlt
   have HG := Lib.hid (show (pastQ t f[k] = false → (f.take (k + 1)).any (pastQ t) = false) ∧ (pastQ t f[k] = true → pastP f t = true) from ⟨any_grow hlt hX.out.1, any_hit hlt⟩)
   have d2 := Kd.C_below HM.out hX.out.2
   generalize f[k] = s at *
   by_cases hs : s.length = t.length
   ·have hsE : ((s.length : Int) == t.length) = true := by simp [hs]
    have hsD : (s.length : Int) = t.length := by omega
    have HC := Lib.hid (le_any sA B sC cB s t wr d1 d2 hs)
    have HS := Lib.hid hs
    clear d1 d2 hs
    go_wp2_with fail
    refine HC.out.mono ?_
    rintro e w4 ⟨rfl, hb⟩
    have HD := Aside0.mk (below_then hX.out.2 hX.out.2.size hb)
    have HQ := Lib.hid (show pastQ t s = leL s t by unfold pastQ; rw [decide_eq_true HS.out]; rfl)
    clear hb
    cases hle : leL s t
    ·go_wp2_with fail
     exact ⟨⟨k + 1, by go_num, by omega, ⟨HG.out.1 (by rw [HQ.out, hle]), HD.out⟩⟩, by simp [intOf]; omega⟩
    ·go_wp2_with fail
     go_ret
     exact ⟨by rw [HG.out.2 (by rw [HQ.out, hle])]; rfl, HD.out⟩
   ·have hsE : ((s.length : Int) == t.length) = false := by simp; omega
    have hsD : ¬ (s.length : Int) = t.length := by omega
    have HQ := Lib.hid (show pastQ t s = false by unfold pastQ; rw [decide_eq_false hs]; rfl)
    clear d1 d2 hs
    go_wp2_with fail
    exact ⟨⟨k + 1, by go_num, by omega, ⟨HG.out.1 HQ.out, hX.out.2⟩⟩, by simp [intOf]; omega⟩
  ·have hkE : ¬ ((k : Int) < f.length) := by omega
   have HE := Lib.hid (show pastP f t = false by
    have h := hX.out.1
    rw [List.take_of_length_le (by omega)] at h
    exact h)
   go_wp2_with fail
   go_ret
   exact ⟨by rw [HE.out]; rfl, hX.out.2⟩
set_option maxRecDepth 4000 in
set_option maxHeartbeats 1600000 in
theorem on_any (A B : Option Addr) (cA cB : Nat) (f g : List (List (List Int))) (w : World) (hl : kLLI.C w A f.length f) (hm : kLLI.C w B g.length g) :
  Calls Try.prog 28 #[.slice A f.length cA, .slice B g.length cB] w fun e w' => e = .returned (.bool (onP f g)) ∧ Below w.heap.size w w' := by
 have HL := Aside0.mk hl
 have HM := Aside0.mk hm
 have hlm := Kd.C_max hl
 have hmm := Kd.C_max hm
 clear hl hm
 by_cases hfg : f.length = g.length
 ·have HO := Lib.hid (show onP f g = onTo f g g.length by unfold onP; rw [decide_eq_true hfg]; rfl)
  have HFG := Lib.hid hfg
  have hE : ((f.length : Int) != g.length) = false := by simp [hfg]
  have hD : (f.length : Int) = g.length := by omega
  clear hfg
  go_enter Try.func28, Try.ntmps28
  go_wp2_with fail
  go_loopw [5] (fun i wr => ∃ k : Nat, i = .int .i64 k ∧ k ≤ g.length ∧ Aside0 (onTo f g k = true ∧ Below w.heap.size w wr)) (fun i _ => g.length - (intOf i).toNat)
  case atStart => exact ⟨0, rfl, Nat.zero_le _, ⟨rfl, Below.refl _ _⟩⟩
  case round =>
   obtain ⟨k, rfl, hk, hX⟩ := hrel
   by_cases hlt : k < g.length
   ·have hkE : (k : Int) < g.length := by omega
    have hkf : k < f.length := by have := HFG.out; omega
    have hkF : (k : Int) < f.length := by omega
    have hk0 : (0 : Int) ≤ k := by omega
    obtain ⟨ad, sA, sC, rfl, c1, d1, _⟩ := at_lli (Kd.C_below HM.out hX.out.2) hlt
    obtain ⟨ad2, tA, tC, rfl, c2, d2, _⟩ := at_lli (Kd.C_below HL.out hX.out.2) hkf
    have HG := Lib.hid (show (g[k].all (pastP f[k]) = true → onTo f g (k + 1) = true) ∧ (g[k].all (pastP f[k]) = false → onTo f g g.length = false) from by
     have e1 : g.getD k [] = g[k] := by rw [List.getD_eq_getElem?_getD, List.getElem?_eq_getElem hlt]; rfl
     have e2 : f.getD k [] = f[k] := by rw [List.getD_eq_getElem?_getD, List.getElem?_eq_getElem hkf]; rfl
     exact ⟨fun h => all_grow hX.out.1 (by rw [e1, e2]; exact h), fun h => all_fall (p := fun i => (g.getD i []).all (pastP (f.getD i []))) hlt (by rw [e1, e2]; exact h)⟩)
    have H1 := Aside0.mk (And.intro c1 (And.intro c2 (And.intro d1 d2)))
    clear c1 c2 d1 d2
    generalize g[k] = x at *
    generalize f[k] = y at *
    clear hkf
    go_wp2_with fail
    go_loopw [6] (fun i wq => ∃ j : Nat, i = .int .i64 j ∧ j ≤ x.length ∧ Aside0 ((x.take j).all (pastP y) = true ∧ Below wr.heap.size wr wq)) (fun i _ => x.length - (intOf i).toNat)
    case atStart => exact ⟨0, rfl, Nat.zero_le _, ⟨rfl, Below.refl _ _⟩⟩
    case round =>
     obtain ⟨j, rfl, hj, hY⟩ := hrel
     have c1 := pw_cell_below hY.out.2 H1.out.1
     by_cases hjt : j < x.length
     ·have c2 := pw_cell_below hY.out.2 H1.out.2.1
      have hjE : (j : Int) < x.length := by omega
      have hj0 : (0 : Int) ≤ j := by omega
      obtain ⟨ad3, uA, uC, rfl, c3, d3, _⟩ := at_li (Kd.C_below H1.out.2.2.1 hY.out.2) hjt
      have hxm := Kd.C_max H1.out.2.2.1
      have HJ := Lib.hid (show (pastP y x[j] = true → (x.take (j + 1)).all (pastP y) = true) ∧ (pastP y x[j] = false → x.all (pastP y) = false) from
       ⟨fun h => by rw [List.take_succ_eq_append_getElem hjt, List.all_append, hY.out.1]; simp [h], fun h => List.all_eq_false.2 ⟨_, List.getElem_mem hjt, by simp [h]⟩⟩)
      have HC := fun (wd : World) (hb : Below wr.heap.size wr wd) => Lib.hid (past_any tA uA tC uC y x[j] wd (Kd.C_below (Kd.C_below H1.out.2.2.2 hY.out.2) hb) (Kd.C_below d3 hb))
      have HC := Lib.hid HC
      clear d3
      generalize x[j] = t at *
      go_upto_region 9 with fail
      refine start_ (n := 13) (S := fun w' => w'.cell? (ad.add k) = some (.slice (some ad3) x.length sC) ∧ w'.cell? (ad2.add k) = some (.slice tA y.length tC) ∧ w'.cell? (ad3.add j) = some (.slice uA t.length uC)) (ds := []) (bs 13 0) (by kernel_rfl) rfl (by kernel_rfl) ⟨c1, c2, c3⟩ (fun hHeld => ?_)
      have HD := Aside0.mk (And.intro (below_drew1 hY.out.2) (below_drew1 (Below.refl wr.heap.size wr)))
      generalize wr.drew = wd at *
      refine pu 0 27 (bs 13 1) ?_
      refine pu 1 28 (bs 13 3) ?_
      refine pu 2 29 (bs 13 7) ?_
      refine tk3 3 30 (bs 13 15) hHeld ?_
      refine pu 4 31 (bs 13 31) ?_
      refine pu 5 32 (bs 13 63) ?_
      refine pu 6 33 (bs 13 127) ?_
      refine tk3 7 34 (bs 13 255) hHeld ?_
      refine pu 8 35 (bs 13 511) ?_
      refine pu 9 36 (bs 13 1023) ?_
      refine tk3 10 37 (bs 13 2047) hHeld ?_
      refine on0 11 38 (bs 13 4095) fun K hK => ?_
      refine gs0 Try.func13 #[.slice tA y.length tC, .slice uA t.length uC] ?_
      refine (HC.out wd HD.out.2).out.mono ?_
      rintro e w4 ⟨rfl, hb4⟩
      refine ⟨_, rfl, hK.out _ _ ⟨pw_cell_below hb4 hHeld.1, pw_cell_below hb4 hHeld.2.1, pw_cell_below hb4 hHeld.2.2⟩ (fun hHeld => ?_)⟩
      have HE := Aside0.mk (below_then HD.out.1 HD.out.1.size hb4)
      clear hb4
      clear hK K
      refine nm0 (some 38) ?_
      cases hp : pastP y t
      ·skip
       refine pu 12 39 (bs 13 8191) ?_
       refine dn0 ?_
       go_wp2_with fail
       go_ret
       exact ⟨by rw [HO.out, HG.out.2 (HJ.out.2 hp)]; rfl, below_then hX.out.2 hX.out.2.size HE.out⟩
      ·skip
       refine pu 12 39 (bs 13 8191) ?_
       refine dn0 ?_
       go_wp2_with fail
       exact ⟨⟨j + 1, by go_num, by omega, ⟨HJ.out.1 hp, HE.out⟩⟩, by simp [intOf]; omega⟩
     ·have hjE : ¬ (j : Int) < x.length := by omega
      have HE := Lib.hid (show x.all (pastP y) = true by
       have h := hY.out.1
       rw [List.take_of_length_le (by omega)] at h
       exact h)
      have hxm := Kd.C_max H1.out.2.2.1
      go_wp2_with fail
      exact ⟨⟨k + 1, by go_num, by omega, ⟨HG.out.1 HE.out, below_then hX.out.2 hX.out.2.size hY.out.2⟩⟩, by simp [intOf]; omega⟩
   ·have hkE : ¬ ((k : Int) < g.length) := by omega
    have HE := Lib.hid (show onTo f g g.length = true by
     have h := hX.out.1
     rwa [show k = g.length by omega] at h)
    go_wp2_with fail
    go_ret
    exact ⟨by rw [HO.out, HE.out]; rfl, hX.out.2⟩
 ·have HO := Lib.hid (show onP f g = false by unfold onP; rw [decide_eq_false hfg]; rfl)
  have hE : ((f.length : Int) != g.length) = true := by simp; omega
  have hD : ¬ (f.length : Int) = g.length := by omega
  clear hfg
  go_enter Try.func28, Try.ntmps28
  go_wp2_with fail
  go_ret
  exact ⟨by rw [HO.out]; rfl, Below.refl _ _⟩
end Go.Proofs.Ytbkfnmgkcgnifaa
namespace Go.Proofs.Ytbkfnmgkcgnifaa
open Go.RowKit Go.Shelf Go.Proofs.YtbkfnmgkcgnifaaW.PrintWords Go.Proofs.YtbkfnmgkcgnifaaW.PrintLast Mdl
namespace Mdl
def inL (B : Int) (l : List Int) : Prop := ∀ x ∈ l, 0 ≤ x ∧ x ≤ B
structure EdgeMade (N Wd : Int) (e : Ed) : Prop where
 from_ : 0 ≤ e.1 ∧ e.1 < N
 to_ : 0 ≤ e.2.1 ∧ e.2.1 < N
 wide : (e.2.2.length : Int) = Wd
 nums : inL 2 e.2.2
 up : e.2.1 ≤ e.1 → 1 ≤ e.2.2.sum
structure MsgMade (N Wd Wk : Int) (m : Msg) : Prop where
 node : 0 ≤ m.1.1 ∧ m.1.1 < N
 wide : (m.1.2.length : Int) = Wd
 nums : inL 3 m.1.2
 who : 0 ≤ m.2 ∧ m.2 < Wk
structure PlanMade (p : Plan) : Prop where
 N : 1 ≤ p.N ∧ p.N ≤ 5
 Wd : 1 ≤ p.Wd ∧ p.Wd ≤ 2
 Wk : 1 ≤ p.workers ∧ p.workers ≤ 3
 E : p.E.length ≤ 7 ∧ ∀ e ∈ p.E, EdgeMade p.N p.Wd e
 S : 1 ≤ p.start.length ∧ p.start.length ≤ 4 ∧ ∀ m ∈ p.start, MsgMade p.N p.Wd p.workers m
theorem sum_in {B : Int} : ∀ {l : List Int}, inL B l → 0 ≤ l.sum ∧ l.sum ≤ B * l.length
 | [], _ => by simp
 | x :: l, h => by
  have h1 := h x List.mem_cons_self
  have h2 := sum_in (l := l) (fun y hy => h y (List.mem_cons_of_mem _ hy))
  rw [List.sum_cons, List.length_cons]
  have : B * ((l.length : Int) + 1) = B * l.length + B := by rw [Int.mul_add, Int.mul_one]
  refine ⟨by omega, ?_⟩
  rw [show ((l.length + 1 : Nat) : Int) = (l.length : Int) + 1 by omega, this]; omega
end Mdl
set_option maxRecDepth 4000 in
set_option maxHeartbeats 1600000 in
theorem sum_any (A : Option Addr) (c : Nat) (l : List Int) (w : World) (hl : kI.C w A l.length l) (hin : inL 1000000 l) (hn : l.length ≤ 1000) :
  Calls Try.prog 15 #[.slice A l.length c] w fun e w' => e = .returned (.int .i64 l.sum) ∧ w = w' := by
 have HIN := Lib.hid hin
 have HL := Aside0.mk hl
 clear hin hl
 go_enter Try.func15, Try.ntmps15
 go_wp2_with fail
 go_loopw [3, 4] (fun s i wr => ∃ k : Nat, s = .int .i64 (l.take k).sum ∧ i = .int .i64 k ∧ k ≤ l.length ∧ wr = w) (fun _ i _ => l.length - (intOf i).toNat)
 case atStart => exact ⟨0, rfl, rfl, Nat.zero_le _, rfl⟩
 case round =>
  obtain ⟨k, rfl, rfl, hk, rfl⟩ := hrel
  by_cases hlt : k < l.length
  ·have hkE : (k : Int) < l.length := by omega
   have hk0 : (0 : Int) ≤ k := by omega
   obtain ⟨ad, rfl, c1⟩ := at_int HL.out hlt
   have hs := sum_in (l := l.take k) (B := 1000000) (fun x hx => HIN.out x (List.mem_of_mem_take hx))
   rw [List.length_take] at hs
   have hx := HIN.out _ (List.getElem_mem hlt)
   have HS := Lib.hid (show (l.take (k + 1)).sum = (l.take k).sum + l[k] by rw [List.take_succ_eq_append_getElem hlt, List.sum_append]; simp)
   have hw : wrap64 ((l.take k).sum + l[k]) = (l.take k).sum + l[k] := by rw [w64_eq, w64_in (by omega) (by omega)]
   generalize (l.take k).sum = s at *
   generalize l[k] = x at *
   clear hs hx
   go_wp2_with fail
   exact ⟨⟨k + 1, by rw [HS.out, hw], by go_num, by omega, trivial⟩, by simp [intOf]; omega⟩
  ·have hkE : ¬ ((k : Int) < l.length) := by omega
   have HE := Lib.hid (show (l.take k).sum = l.sum by rw [List.take_of_length_le (by omega)])
   go_wp2_with fail
   go_ret
   exact ⟨by rw [← HE.out]; rfl, rfl⟩
end Go.Proofs.Ytbkfnmgkcgnifaa
namespace Go.Proofs.Ytbkfnmgkcgnifaa
open Go.RowKit Go.Shelf Go.Proofs.YtbkfnmgkcgnifaaW.PrintWords Go.Proofs.YtbkfnmgkcgnifaaW.PrintLast Mdl
theorem Try.infoEdge : (Try.prog.info? 41).map (fun i => (i.zero, i.size, i.bytes)) = some (some (.agg #[.int .i64 0, .int .i64 0, .slice none 0 0]), 3, 40) := by kernel_rfl
theorem Try.infoMsg : (Try.prog.info? 51).map (fun i => (i.zero, i.size, i.bytes)) = some (some (.agg #[.int .i64 0, .slice none 0 0, .int .i64 0]), 3, 40) := by kernel_rfl
def MadeE (w : World) (rb pb : Nat) (N Wd Wk : Int) (k : Nat) (wr : World) : Prop := ∃ (es : List Ed) (A : Option Addr) (c : Nat), (es.length = k ∧ ∀ e ∈ es, EdgeMade N Wd e) ∧ wr.heap[pb]? = some (.cells #[.int .i64 N, .int .i64 Wd, .slice A k c, .int .i64 Wk, .slice none 0 0] 29 (0, 0)) ∧ kE.R 41 wr w.heap.size (fun _ => True) (.slice A k c) es ∧ wr.heap[rb]? = some (.cells #[.int .i64 0, .int .i64 0, .slice none 0 0, .int .i64 0, .slice none 0 0] 29 (0, 0)) ∧ Below w.heap.size w wr
def AddAt (we : World) (eb : Nat) (f t : Int) (k : Nat) (wq : World) : Prop := ∃ (l : List Int) (A : Option Addr) (c : Nat), (l.length = k ∧ inL 2 l) ∧ wq.heap[eb]? = some (.cells #[.int .i64 f, .int .i64 t, .slice A k c] 41 (0, 0)) ∧ kI.R 3 wq we.heap.size (fun _ => True) (.slice A k c) l ∧ Below we.heap.size we wq
theorem set3 {w : World} {g t : Nat} {a b c : Value} {x y z : Value} (h : w.heap[g]? = some (.cells #[a, b, c] t (0, 0))) : (((w.setCell ⟨g, 0, none⟩ x).setCell ⟨g, 1, none⟩ y).setCell ⟨g, 2, none⟩ z).heap[g]? = some (.cells #[x, y, z] t (0, 0)) :=
 blk_put (blk_put (blk_put h 0 x rfl) 1 y rfl) 2 z rfl
theorem below_set3 {w w1 : World} {g : Nat} {x y z : Value} (h : Below w.heap.size w w1) (hg : w.heap.size ≤ g) : Below w.heap.size w (((w1.setCell ⟨g, 0, none⟩ x).setCell ⟨g, 1, none⟩ y).setCell ⟨g, 2, none⟩ z) := ((h.setCell hg _).setCell hg _).setCell hg _
theorem blk_over {α : Type} {d : Kd α} {e base t g : Nat} {ok : Nat → Prop} {W w1 : World} {v : Value} {xs : List α} {cs : Array Value} (hb : W.heap[g]? = some (.cells cs t (0, 0))) (hR : d.R e W base ok v xs) (hg : W.grownBy w1 v.ownBlock) (ht : (t == e) = false) : w1.heap[g]? = some (.cells cs t (0, 0)) := by
 obtain ⟨inner, ho⟩ := Kd.R_own hR
 exact (hg.block g (blk_lt hb) (fun he => by
  have h1 := own_typed ho g he.symm
  exact not_typed ⟨_, hb⟩ ht h1)).trans hb
theorem AddAt.snoc {we w6 : World} {eb : Nat} {f t : Int} {la : List Int} {r : Int} {A6 A2 : Option Addr} {c6 c2 n j : Nat} {W : World} (hla : la.length = j ∧ inL 2 la) (hr : 0 ≤ r ∧ r < 3) (hn : (la ++ [r]).length = n) (hbk : w6.heap[eb]? = some (.cells #[.int .i64 f, .int .i64 t, .slice A2 j c2] 41 (0, 0)))
  (hR : kI.R 3 w6 we.heap.size (fun _ => True) (.slice A6 n c6) (la ++ [r])) (hb : Below we.heap.size we w6) (hge : we.heap.size ≤ eb) : AddAt we eb f t (j + 1) (w6.setCell ⟨eb, 2, none⟩ (.slice A6 n c6)) := by
 have hn2 : n = j + 1 := by rw [← hn, List.length_append, hla.1]; rfl
 subst hn2
 refine ⟨la ++ [r], A6, c6, ⟨by rw [List.length_append, hla.1]; rfl, fun x hx => ?_⟩, blk_put hbk 2 _ rfl, Kd.R_set hR hbk (fun q hq he => ?_) 2 _, hb.setCell hge _⟩
 ·rcases List.mem_append.1 hx with hx | hx
  ·exact hla.2 x hx
  ·rw [List.mem_singleton.1 hx]; omega
 ·rw [show kI.E = [] from rfl] at hq
  have : q = 3 := by simpa using hq
  rw [this] at he
  exact absurd he (by decide)
theorem ne_own {q g n c : Nat} (h : q ≠ g) : some q ≠ (Value.slice (some ⟨g, 0, none⟩) n c).ownBlock := fun he => h (by simpa [Value.ownBlock] using he)
theorem own_new {v1 : Value} {zb n c B S : Nat} (hat : v1.ownBlock = (Value.slice (some ⟨zb, 0, none⟩) n c).ownBlock ∨ ∃ b, v1.ownBlock = some b ∧ S ≤ b) (hz : B ≤ zb) (hS : B ≤ S) : ∀ q, v1.ownBlock = some q → B ≤ q := fun q hq => by
 rcases hat with h | ⟨b, h, hb⟩
 ·rw [h] at hq
  have : q = zb := Classical.byContradiction fun hn => ne_own hn hq.symm
  omega
 ·rw [h] at hq
  have : b = q := by injection hq
  omega
theorem R_typedI {base : Nat} {V : World} {v : Value} {l : List Int} (h : kI.R 3 V base (fun _ => True) v l) : kI.R 3 V base (fun q => Typed V q 3) v l := Kd.R_mono (Kd.R_bound h) (fun k hk => by
 obtain ⟨_, _, _, q, hq, hc⟩ := hk
 have : q = 3 := by rw [show kI.E = [] from rfl] at hq; simpa using hq
 subst this; exact hc)
theorem kE_M {base n c : Nat} {V : World} {A : Option Addr} {ok : Nat → Prop} {f t : Int} {l : List Int} (h : kI.R 3 V base ok (.slice A n c) l) : kE.M V base ok (f, t, l) [.int .i64 f, .int .i64 t, .slice A n c] := ⟨[_], [_, _], rfl, rfl, ⟨[_], [_], rfl, rfl, ⟨_, rfl, h⟩⟩⟩
theorem kE_types : ∀ q, q ∈ 41 :: kE.E → q ≠ 29 := by decide
theorem MadeE.snoc {w w7 : World} {N Wd Wk : Int} {k n7 c7 c1 n1 : Nat} {A7 A1 : Option Addr} {es : List Ed} {e : Ed} (hes : es.length = k ∧ ∀ e ∈ es, EdgeMade N Wd e) (he : EdgeMade N Wd e) (hn : (es ++ [e]).length = n7) (hpb : w7.heap[w.heap.size + 1]? = some (.cells #[.int .i64 N, .int .i64 Wd, .slice A1 n1 c1, .int .i64 Wk, .slice none 0 0] 29 (0, 0)))
  (hrb : w7.heap[w.heap.size]? = some (.cells #[.int .i64 0, .int .i64 0, .slice none 0 0, .int .i64 0, .slice none 0 0] 29 (0, 0))) (hR : kE.R 41 w7 w.heap.size (fun _ => True) (.slice A7 n7 c7) (es ++ [e])) (hb : Below w.heap.size w w7) :
  MadeE w w.heap.size (w.heap.size + 1) N Wd Wk (k + 1) (w7.setCell ⟨w.heap.size + 1, 2, none⟩ (.slice A7 n7 c7)) := by
 have hn2 : n7 = k + 1 := by rw [← hn, List.length_append, hes.1]; rfl
 subst hn2
 refine ⟨es ++ [e], A7, c7, ⟨hn, fun x hx => ?_⟩, blk_put hpb 2 _ rfl, Kd.R_set hR hpb kE_types 2 _, (Below.heap_setCell w7 ⟨w.heap.size + 1, 2, none⟩ _ w.heap.size (by simp)).trans hrb, hb.setCell (Nat.le_succ _) _⟩
 rcases List.mem_append.1 hx with hx | hx
 ·exact hes.2 x hx
 ·rw [List.mem_singleton.1 hx]; exact he
def MadeS (w : World) (N Wd Wk : Int) (es : List Ed) (eA : Option Addr) (nE eC : Nat) (k : Nat) (wr : World) : Prop := ∃ (ms : List Msg) (A : Option Addr) (c : Nat), (ms.length = k ∧ ∀ m ∈ ms, MsgMade N Wd Wk m) ∧ wr.heap[w.heap.size + 1]? = some (.cells #[.int .i64 N, .int .i64 Wd, .slice eA nE eC, .int .i64 Wk, .slice A k c] 29 (0, 0)) ∧ kE.R 41 wr w.heap.size (fun _ => True) (.slice eA nE eC) es ∧ kMs.R 51 wr w.heap.size (fun _ => True) (.slice A k c) ms ∧ wr.heap[w.heap.size]? = some (.cells #[.int .i64 0, .int .i64 0, .slice none 0 0, .int .i64 0, .slice none 0 0] 29 (0, 0)) ∧ Below w.heap.size w wr
def NumAt (B : Int) (we : World) (mb : Nat) (nd : Int) (k : Nat) (wq : World) : Prop := ∃ (l : List Int) (A : Option Addr) (c : Nat), (l.length = k ∧ inL B l) ∧ wq.heap[mb]? = some (.cells #[.int .i64 nd, .slice A k c] 48 (0, 0)) ∧ kI.R 3 wq we.heap.size (fun _ => True) (.slice A k c) l ∧ Below we.heap.size we wq
theorem NumAt.snoc {B : Int} {we w6 : World} {mb : Nat} {nd : Int} {la : List Int} {r : Int} {A6 A2 : Option Addr} {c6 c2 n j : Nat} (hla : la.length = j ∧ inL B la) (hr : 0 ≤ r ∧ r ≤ B) (hn : (la ++ [r]).length = n) (hbk : w6.heap[mb]? = some (.cells #[.int .i64 nd, .slice A2 j c2] 48 (0, 0)))
  (hR : kI.R 3 w6 we.heap.size (fun _ => True) (.slice A6 n c6) (la ++ [r])) (hb : Below we.heap.size we w6) (hge : we.heap.size ≤ mb) : NumAt B we mb nd (j + 1) (w6.setCell ⟨mb, 1, none⟩ (.slice A6 n c6)) := by
 have hn2 : n = j + 1 := by rw [← hn, List.length_append, hla.1]; rfl
 subst hn2
 refine ⟨la ++ [r], A6, c6, ⟨by rw [List.length_append, hla.1]; rfl, fun x hx => ?_⟩, blk_put hbk 1 _ rfl, Kd.R_set hR hbk (by decide) 1 _, hb.setCell hge _⟩
 rcases List.mem_append.1 hx with hx | hx
 ·exact hla.2 x hx
 ·rw [List.mem_singleton.1 hx]; omega
theorem kMs_M {base n c : Nat} {V : World} {A : Option Addr} {ok : Nat → Prop} {nd wk : Int} {l : List Int} (h : kI.R 3 V base ok (.slice A n c) l) : kMs.M V base ok ((nd, l), wk) [.int .i64 nd, .slice A n c, .int .i64 wk] := ⟨[_, _], [_], rfl, ⟨[_], [_], rfl, rfl, ⟨_, rfl, h⟩⟩, rfl⟩
theorem kMs_types : ∀ q, q ∈ 51 :: kMs.E → q ≠ 29 := by decide
theorem MadeS.snoc {w w7 : World} {N Wd Wk : Int} {es : List Ed} {eA : Option Addr} {nE eC k n7 c7 c1 n1 : Nat} {A7 A1 : Option Addr} {ms : List Msg} {m : Msg} (hes : ms.length = k ∧ ∀ m ∈ ms, MsgMade N Wd Wk m) (he : MsgMade N Wd Wk m) (hn : (ms ++ [m]).length = n7) (hpb : w7.heap[w.heap.size + 1]? = some (.cells #[.int .i64 N, .int .i64 Wd, .slice eA nE eC, .int .i64 Wk, .slice A1 n1 c1] 29 (0, 0)))
  (hE : kE.R 41 w7 w.heap.size (fun _ => True) (.slice eA nE eC) es) (hrb : w7.heap[w.heap.size]? = some (.cells #[.int .i64 0, .int .i64 0, .slice none 0 0, .int .i64 0, .slice none 0 0] 29 (0, 0))) (hR : kMs.R 51 w7 w.heap.size (fun _ => True) (.slice A7 n7 c7) (ms ++ [m])) (hb : Below w.heap.size w w7) :
  MadeS w N Wd Wk es eA nE eC (k + 1) (w7.setCell ⟨w.heap.size + 1, 4, none⟩ (.slice A7 n7 c7)) := by
 have hn2 : n7 = k + 1 := by rw [← hn, List.length_append, hes.1]; rfl
 subst hn2
 refine ⟨ms ++ [m], A7, c7, ⟨hn, fun x hx => ?_⟩, blk_put hpb 4 _ rfl, Kd.R_set hE hpb kE_types 4 _, Kd.R_set hR hpb kMs_types 4 _, (Below.heap_setCell w7 ⟨w.heap.size + 1, 4, none⟩ _ w.heap.size (by simp)).trans hrb, hb.setCell (Nat.le_succ _) _⟩
 rcases List.mem_append.1 hx with hx | hx
 ·exact hes.2 x hx
 ·rw [List.mem_singleton.1 hx]; exact he
theorem kE_over {α : Type} {d : Kd α} {e base b2 : Nat} {ok : Nat → Prop} {W w1 : World} {v u : Value} {xs : List α} {es : List Ed} (h : kE.R 41 W base (fun _ => True) u es) (hR : d.R e W b2 ok v xs) (hg : W.grownBy w1 v.ownBlock) (ht : (41 == e) = false) (ht2 : (3 == e) = false) : kE.R 41 w1 base (fun _ => True) u es := by
 obtain ⟨inner, ho⟩ := Kd.R_own hR
 refine Kd.R_mono (Kd.R_grown (Kd.R_bound h) hg (fun k hk he => ?_)) (fun _ _ => trivial)
 obtain ⟨_, _, _, q, hq, hc⟩ := hk
 have h1 := own_typed ho k he.symm
 rcases List.mem_cons.1 hq with hq | hq
 ·subst hq; exact not_typed hc ht h1
 ·have : q = 3 := by rw [show kE.E = [3] from rfl] at hq; simpa using hq
  subst this; exact not_typed hc ht2 h1
theorem R_overB {α : Type} {d : Kd α} {e base g t : Nat} {ok : Nat → Prop} {W w1 : World} {v : Value} {xs : List α} {cs : Array Value} (h : d.R e W base ok v xs) (hb : W.heap[g]? = some (.cells cs t (0, 0))) (ht : ∀ q, q ∈ e :: d.E → q ≠ t) (hg : W.grownBy w1 (some g)) : d.R e w1 base ok v xs :=
 Kd.R_mono (Kd.R_grown (Kd.R_types h hb ht) hg (fun k hk he => hk.2 (by injection he))) (fun _ hk => hk.1)
def EdgeAt (we : World) (eb : Nat) (N Wd f t : Int) (wq : World) : Prop := ∃ (l : List Int) (A : Option Addr) (n c : Nat), (EdgeMade N Wd (f, t, l) ∧ l.length = n) ∧ wq.heap[eb]? = some (.cells #[.int .i64 f, .int .i64 t, .slice A n c] 41 (0, 0)) ∧ kI.R 3 wq we.heap.size (fun _ => True) (.slice A n c) l ∧ Below we.heap.size we wq
theorem set0_sum {l : List Int} (hl : 0 < l.length) (hin : inL 2 l) : inL 2 (l.set 0 1) ∧ 1 ≤ (l.set 0 1).sum := by
 cases l with
 | nil => simp at hl
 | cons a l =>
  have h2 := sum_in (l := l) (fun y hy => hin y (List.mem_cons_of_mem _ hy))
  refine ⟨fun x hx => ?_, by rw [List.set_cons_zero, List.sum_cons]; omega⟩
  rw [List.set_cons_zero] at hx
  rcases List.mem_cons.1 hx with hx | hx
  ·omega
  ·exact hin x (List.mem_cons_of_mem _ hx)
theorem copy_rd {α : Type} {d : Kd α} {e base n c : Nat} {wd V : World} {A : Option Addr} {xs : List α} (h : d.R e wd base (fun _ => True) (.slice A n c) xs) (hb : Below wd.heap.size wd V) : ReadsRow (d.M V base (fun q => q < wd.heap.size)) d.sz V A n xs := by
 have h2 := Kd.R_below (Kd.R_mono (Kd.R_bound h) (fun k hk => hk.2.2.1)) hb
 obtain ⟨A', c', he, hl, hr⟩ := OwnRow.reads h2.2
 injection he with e1 e2 e3
 subst e1 e2
 exact hr.imp_ (Below.refl _ _) (fun _ _ hp => d.M_mono (fun k hk => hk.1) hp)
theorem R_empty {α : Type} (d : Kd α) (e base : Nat) (W : World) (hb : base ≤ W.heap.size) : d.R e (W.alloc (.cells #[] e)) base (fun _ => True) (.slice (some ⟨W.heap.size, 0, none⟩) 0 0) [] :=
 Kd.R_lower (base := W.heap.size) ⟨fun _ _ => trivial, [], World.ownsRow_made W #[] 0 (Nat.le_refl _) (Nat.zero_le _) (Nat.zero_mul _).symm, Reps.none _ _⟩ hb
theorem reads_one {α : Type} {Rr : α → List Value → Prop} {sz g t : Nat} {W : World} {x : α} {cs : List Value} (hb : W.heap[g]? = some (.cells cs.toArray t (0, 0))) (hl : cs.length = sz) (hx : Rr x cs) : ReadsRow Rr sz W (some ⟨g, 0, none⟩) 1 [x] := by
 refine ⟨rfl, by omega, fun _ => ⟨_, rfl, fun j p hj => ?_⟩⟩
 obtain ⟨h1, rfl⟩ := List.getElem?_eq_some_iff.1 hj
 have h1 : j < 1 := h1
 obtain rfl : j = 0 := by omega
 refine ⟨cs, hl, hx, fun i u hu => ?_⟩
 rw [Addr.add_lit, blk_cell hb, Nat.zero_add, Nat.zero_mul, Nat.zero_add]
 simpa using hu
set_option maxRecDepth 8000 in
set_option maxHeartbeats 8000000 in
theorem made_anyR (A : Option Addr) (c : Nat) (l : List Int) (w : World) (hl : kI.C w A l.length l) (hm : l.length ≤ 1000000000000000) :
  Calls Try.prog 9 #[.slice A l.length c] w fun e w' => ∃ p eA eC mA mC, e = .returned (planV p eA eC mA mC) ∧ PlanMade p ∧ PlanAt w' p eA mA ∧ p.E.length ≤ eC ∧ p.start.length ≤ mC ∧ Below w.heap.size w w' ∧ kMs.R 51 w' w.heap.size (fun _ => True) (.slice mA p.start.length mC) p.start := by
 have HN := Lib.hid (fun i W (hb : Below w.heap.size w W) => nth_any A c l i W (Kd.C_below hl hb) hm)
 have HT := Lib.hid (fun n many W (h1 : (1 : Int) ≤ many) (h2 : many ≤ 10) => turn_any n many W h1 (Int.le_trans h2 (by decide)))
 clear hl
 have hz1 : (w.alloc (.cells #[.int .i64 0, .int .i64 0, .slice none 0 0, .int .i64 0, .slice none 0 0] 29)).heap.size = w.heap.size + 1 := by simp
 have H0 := Aside0.mk ((Al.start w).new (.cells #[.int .i64 0, .int .i64 0, .slice none 0 0, .int .i64 0, .slice none 0 0] 29) (b := w.heap.size) rfl)
 go_enter Try.func9, Try.ntmps9
 go_upto_region 1 with fail
 generalize w.alloc (.cells #[.int .i64 0, .int .i64 0, .slice none 0 0, .int .i64 0, .slice none 0 0] 29) = v0 at *
 go_wp2_with fail
 refine (HN.out 0 _ H0.out.2.1.1).mono ?_
 rintro e w' ⟨rfl, rfl⟩
 generalize nthP l 0 = x0 at *
 go_wp2_with fail
 refine (HT.out _ 5 _ (by decide) (by decide)).mono ?_
 rintro e w' ⟨rfl, rfl⟩
 obtain ⟨N1, hN1⟩ : ∃ x, x = turnP x0 5 := ⟨_, rfl⟩
 rw [← hN1]
 have hN : 0 ≤ N1 ∧ N1 < 5 := by rw [hN1]; exact turnP_range _ (by decide)
 clear hN1
 go_wp2_with fail
 refine (HT.out _ 2 _ (by decide) (by decide)).mono ?_
 rintro e w' ⟨rfl, rfl⟩
 obtain ⟨Wd1, hWd1⟩ : ∃ x, x = turnP (wrap64 (x0.tdiv 5)) 2 := ⟨_, rfl⟩
 rw [← hWd1]
 have hWd : 0 ≤ Wd1 ∧ Wd1 < 2 := by rw [hWd1]; exact turnP_range _ (by decide)
 clear hWd1
 go_wp2_with fail
 refine (HT.out _ 3 _ (by decide) (by decide)).mono ?_
 rintro e w' ⟨rfl, rfl⟩
 obtain ⟨Wk1, hWk1⟩ : ∃ x, x = turnP (wrap64 (x0.tdiv 10)) 3 := ⟨_, rfl⟩
 rw [← hWk1]
 have hWk : 0 ≤ Wk1 ∧ Wk1 < 3 := by rw [hWk1]; exact turnP_range _ (by decide)
 clear hWk1
 go_upto_region 3 with fail
 obtain ⟨N, hN2⟩ : ∃ x, x = 1 + N1 := ⟨_, rfl⟩
 rw [← hN2]
 have hN3 : 1 ≤ N ∧ N ≤ 5 := by omega
 clear hN2 hN
 obtain ⟨Wd, hWd2⟩ : ∃ x, x = 1 + Wd1 := ⟨_, rfl⟩
 rw [← hWd2]
 have hWd3 : 1 ≤ Wd ∧ Wd ≤ 2 := by omega
 clear hWd2 hWd
 obtain ⟨Wk, hWk2⟩ : ∃ x, x = 1 + Wk1 := ⟨_, rfl⟩
 rw [← hWk2]
 have hWk3 : 1 ≤ Wk ∧ Wk ≤ 3 := by omega
 clear hWk2 hWk
 have H1 := Aside0.mk (H0.out.new (.cells #[.int .i64 N, .int .i64 Wd, .slice none 0 0, .int .i64 Wk, .slice none 0 0] 29) (b := w.heap.size + 1) hz1)
 clear H0
 generalize v0.alloc (.cells #[.int .i64 N, .int .i64 Wd, .slice none 0 0, .int .i64 Wk, .slice none 0 0] 29) = v1 at *
 obtain ⟨nE, hnE⟩ : ∃ n : Nat, turnP (wrap64 (x0.tdiv 30)) 8 = n := ⟨(turnP (wrap64 (x0.tdiv 30)) 8).toNat, by have := turnP_range (wrap64 (x0.tdiv 30)) (many := 8) (by decide); omega⟩
 have hnE7 : nE ≤ 7 := by have := turnP_range (wrap64 (x0.tdiv 30)) (many := 8) (by decide); omega
 have HX1 := Aside0.mk (show MadeE w w.heap.size (w.heap.size + 1) N Wd Wk 0 v1 from ⟨[], none, 0, ⟨rfl, fun e he => by cases he⟩, H1.out.1.1, Kd.R_nil _ _ _ _ _, H1.out.2.1.1, H1.out.2.2.1.1⟩)
 clear H1 hz1
 go_wp2_with fail
 go_loopw [5, 6] (fun a i wr => ∃ (z : Int) (k : Nat), a = .int .i64 z ∧ i = .int .i64 k ∧ k ≤ nE ∧ Aside0 (MadeE w w.heap.size (w.heap.size + 1) N Wd Wk k wr)) (fun _ i _ => nE - (intOf i).toNat)
 case atStart => exact ⟨1, 0, rfl, rfl, Nat.zero_le _, HX1⟩
 case round =>
  clear HX1
  obtain ⟨z, k, rfl, rfl, hk, hX⟩ := hrel
  go_wp2_with fail
  refine (HT.out _ 8 _ (by decide) (by decide)).mono ?_
  rintro e w' ⟨rfl, rfl⟩
  rw [hnE]
  by_cases hlt : k < nE
  ·have hkE : (k : Int) < nE := by omega
   obtain ⟨es, A1, c1, hes, hpb, hR, hrb, hB⟩ := hX.out
   have HB := Aside0.mk hB
   have HP := Aside0.mk (And.intro hpb hrb)
   have HR := Aside0.mk hR
   have HES := Lib.hid hes
   have p0 : wr.cell? ⟨w.heap.size + 1, 0, none⟩ = some (.int .i64 N) := (blk_cell hpb 0).trans rfl
   clear hX hes hpb hR hrb hB
   go_wp2_with fail
   refine (HN.out z _ HB.out).mono ?_
   rintro e w' ⟨rfl, rfl⟩
   generalize nthP l z = x at *
   go_upto_region 8 with fail
   refine start_ (n := 14) (S := fun V => V.cell? ⟨w.heap.size + 1, 0, none⟩ = some (.int .i64 N)) (ds := [13]) (bs 14 0) (by kernel_rfl) rfl (by kernel_rfl) p0 (fun hHeld => ?_)
   have HD := Aside0.mk (below_drew1 (Below.refl wr.heap.size wr))
   generalize wr.drew = wd at *
   clear p0
   refine pu 0 39 (bs 14 1) ?_
   refine pu 1 40 (bs 14 3) ?_
   refine pu 2 41 (bs 14 7) ?_
   refine tk1 3 42 (bs 14 15) hHeld ?_
   refine pu 5 44 (bs 14 47) ?_
   refine pu 6 45 (bs 14 111) ?_
   refine pu 7 46 (bs 14 239) ?_
   refine pu 8 47 (bs 14 495) ?_
   refine tk1 9 48 (bs 14 1007) hHeld ?_
   simp only [i64_w]
   refine join_ 1 (bs 14 8191) (fun g : Nat => [(43, .int .i64 (turnP x N)), (49, .int .i64 (turnP (wrap64 (x.tdiv 7)) N)), (50, .agg #[.int .i64 (turnP x N), .int .i64 (turnP (wrap64 (x.tdiv 7)) N), .slice none 0 0]), (8, .pointer (some ⟨g, 0, none⟩))]) (fun g V => V = wd.alloc (.cells #[.int .i64 0, .int .i64 0, .slice none 0 0] 41) ∧ g = wd.heap.size) ?_ ?_
   rotate_left
   ·intro hcont
    simp only [putAll, Act.put, List.setIfInBounds_toArray, List.set_cons_zero, List.set_cons_succ] at hcont
    have HCT := Lib.hid (fun g V hV => hcont g V hV)
    clear hcont
    refine two_ (i := 4) (j := 12) (Ni := some 43) (Nj := some 8) (bs 14 1023) (bs 14 5103) rfl rfl rfl rfl (by kernel_rfl) (by decide) (by decide) (fun K hK => ?_) (fun K hK => ?_)
    ·skip
     refine gs0 Try.func10 #[.int .i64 x, .int .i64 N] ?_
     refine (HT.out _ _ _ (by omega) (by omega)).mono ?_
     rintro e w' ⟨rfl, rfl⟩
     refine ⟨_, rfl, hK.out _ _ hHeld (fun hHeld => ?_)⟩
     clear hK K
     refine nm0 (some 43) ?_
     refine two_ (i := 10) (j := 12) (Ni := some 49) (Nj := some 8) (bs 14 2047) (bs 14 5119) rfl rfl rfl rfl (by kernel_rfl) (by decide) (by decide) (fun K hK => ?_) (fun K hK => ?_)
     ·skip
      refine gs0 Try.func10 #[.int .i64 (wrap64 (x.tdiv 7)), .int .i64 N] ?_
      refine (HT.out _ _ _ (by omega) (by omega)).mono ?_
      rintro e w' ⟨rfl, rfl⟩
      refine ⟨_, rfl, hK.out _ _ hHeld (fun hHeld => ?_)⟩
      clear hK K
      refine nm0 (some 49) ?_
      refine pu 11 50 (bs 14 4095) ?_
      refine on0 12 8 (bs 14 8191) fun K hK => ?_
      refine va0 ?_
      refine hK.out _ _ (pw_cell_below (below_new wd _) hHeld) (fun hHeld => ?_)
      clear hK K
      refine nm0 (some 8) ?_
      exact HCT.out _ _ ⟨rfl, rfl⟩
     ·skip
      refine va0 ?_
      refine hK.out _ _ (pw_cell_below (below_new wd _) hHeld) (fun hHeld => ?_)
      clear hK K
      refine nm0 (some 8) ?_
      refine on0 10 49 (bs 14 6143) fun K hK => ?_
      refine gs0 Try.func10 #[.int .i64 (wrap64 (x.tdiv 7)), .int .i64 N] ?_
      refine (HT.out _ _ _ (by omega) (by omega)).mono ?_
      rintro e w' ⟨rfl, rfl⟩
      refine ⟨_, rfl, hK.out _ _ hHeld (fun hHeld => ?_)⟩
      clear hK K
      refine nm0 (some 49) ?_
      refine pu 11 50 (bs 14 8191) ?_
      exact HCT.out _ _ ⟨rfl, rfl⟩
    ·skip
     refine va0 ?_
     refine hK.out _ _ (pw_cell_below (below_new wd _) hHeld) (fun hHeld => ?_)
     clear hK K
     refine nm0 (some 8) ?_
     refine on0 4 43 (bs 14 5119) fun K hK => ?_
     refine gs0 Try.func10 #[.int .i64 x, .int .i64 N] ?_
     refine (HT.out _ _ _ (by omega) (by omega)).mono ?_
     rintro e w' ⟨rfl, rfl⟩
     refine ⟨_, rfl, hK.out _ _ hHeld (fun hHeld => ?_)⟩
     clear hK K
     refine nm0 (some 43) ?_
     refine on0 10 49 (bs 14 6143) fun K hK => ?_
     refine gs0 Try.func10 #[.int .i64 (wrap64 (x.tdiv 7)), .int .i64 N] ?_
     refine (HT.out _ _ _ (by omega) (by omega)).mono ?_
     rintro e w' ⟨rfl, rfl⟩
     refine ⟨_, rfl, hK.out _ _ hHeld (fun hHeld => ?_)⟩
     clear hK K
     refine nm0 (some 49) ?_
     refine pu 11 50 (bs 14 8191) ?_
     exact HCT.out _ _ ⟨rfl, rfl⟩
   ·rintro g V ⟨rfl, rfl⟩
    refine norm_ (a' := ?_) ?_ ?_
    rotate_left
    ·show putAll _ _ = _
     simp only [putAll, Act.put, List.setIfInBounds_toArray, List.set_cons_zero, List.set_cons_succ]
     rfl
    have hf := turnP_range x (many := N) (by omega)
    have ht := turnP_range (wrap64 (x.tdiv 7)) (many := N) (by omega)
    generalize turnP x N = f at *
    generalize turnP (wrap64 (x.tdiv 7)) N = t at *
    have hbk := heap_alloc_new wd (.cells #[.int .i64 0, .int .i64 0, .slice none 0 0] 41)
    have hbw := below_then HD.out HD.out.size (below_new wd (.cells #[.int .i64 0, .int .i64 0, .slice none 0 0] 41))
    have hge := HD.out.size
    generalize wd.alloc (.cells #[.int .i64 0, .int .i64 0, .slice none 0 0] 41) = ve at *
    generalize wd.heap.size = eb at *
    have z0 := (blk_cell hbk 0).trans rfl
    have z1 := (blk_cell hbk 1).trans rfl
    have z2 := (blk_cell hbk 2).trans rfl
    have y0 := blk_frozen hbk 0
    have y1 := blk_frozen hbk 1
    have y2 := blk_frozen hbk 2
    refine la0 13 (bs 14 16383) (N := none) fun K hK => ?_
    refine sk0 ?_
    refine hK.out _ _ ?_
    clear hK K hHeld
    refine dn0 ?_
    have hX2 : AddAt wr eb f t 0 (((ve.setCell ⟨eb, 0, none⟩ (.int .i64 f)).setCell ⟨eb, 1, none⟩ (.int .i64 t)).setCell ⟨eb, 2, none⟩ (.slice none 0 0)) := ⟨[], none, 0, ⟨rfl, fun x hx => by cases hx⟩, set3 hbk, Kd.R_nil _ _ _ _ _, below_set3 hbw hge⟩
    generalize ((ve.setCell ⟨eb, 0, none⟩ (.int .i64 f)).setCell ⟨eb, 1, none⟩ (.int .i64 t)).setCell ⟨eb, 2, none⟩ (.slice none 0 0) = v2 at *
    have HX2 := Aside0.mk hX2
    have HGE := Lib.hid hge
    clear hge hX2 z0 z1 z2 y0 y1 y2 hbk hbw HD
    generalize wr = wo at *
    go_wp2_with fail
    go_loopw [9] (fun i wq => ∃ j : Nat, i = .int .i64 j ∧ (j : Int) ≤ Wd ∧ Aside0 (AddAt wo eb f t j wq)) (fun i _ => Wd.toNat - (intOf i).toNat)
    case atStart => exact ⟨0, rfl, by omega, HX2⟩
    case round =>
     clear HX2
     obtain ⟨j, rfl, hj, hY⟩ := hrel
     obtain ⟨la, A2, c2, hla, hbk, hR2, hBw⟩ := hY.out
     have HY := Aside0.mk (And.intro hla (And.intro hbk (And.intro hR2 hBw)))
     have hpb := blk_below HP.out.1 hBw
     have p1 : wr.cell? ⟨w.heap.size + 1, 1, none⟩ = some (.int .i64 Wd) := (blk_cell hpb 1).trans rfl
     have e2 : wr.cell? ⟨eb, 2, none⟩ = some (.slice A2 j c2) := (blk_cell hbk 2).trans rfl
     clear hla hR2 hBw hpb hbk
     by_cases hjt : (j : Int) < Wd
     ·clear hY
      go_upto_region 12 with fail
      refine start_ (n := 13) (S := fun V => V.cell? ⟨eb, 2, none⟩ = some (.slice A2 j c2)) (ds := [12]) (bs 13 0) (by kernel_rfl) rfl (by kernel_rfl) e2 (fun hHeld => ?_)
      have HD := Aside0.mk (below_drew1 (Below.refl wr.heap.size wr))
      generalize wr.drew = wd at *
      clear e2 p1
      refine pu 0 58 (bs 13 1) ?_
      refine tk1 1 59 (bs 13 3) hHeld ?_
      refine pu 2 60 (bs 13 7) ?_
      refine pu 3 61 (bs 13 15) ?_
      refine pu 4 62 (bs 13 31) ?_
      refine pu 5 63 (bs 13 63) ?_
      refine pu 6 64 (bs 13 127) ?_
      simp only [i64_w]
      have hBW := below_then HB.out HB.out.size (below_then HY.out.2.2.2 HY.out.2.2.2.size HD.out)
      refine on0 7 65 (bs 13 255) fun K hK => ?_
      refine gs0 Try.func31 #[.slice A l.length c, .int .i64 (wrap64 (wrap64 (z + 1) + j))] ?_
      refine (HN.out _ _ hBW).mono ?_
      rintro e w' ⟨rfl, rfl⟩
      refine ⟨_, rfl, hK.out _ _ hHeld (fun hHeld => ?_)⟩
      clear hK K
      refine nm0 (some 65) ?_
      generalize nthP l (wrap64 (wrap64 (z + 1) + j)) = y at *
      refine on0 8 66 (bs 13 511) fun K hK => ?_
      refine gs0 Try.func10 #[.int .i64 y, .int .i64 3] ?_
      refine (HT.out _ _ _ (by decide) (by decide)).mono ?_
      rintro e w' ⟨rfl, rfl⟩
      refine ⟨_, rfl, hK.out _ _ hHeld (fun hHeld => ?_)⟩
      clear hK K
      refine nm0 (some 66) ?_
      have hr := turnP_range y (many := 3) (by decide)
      generalize turnP y 3 = r at *
      refine on0 9 67 (bs 13 1023) fun K hK => ?_
      refine va0 ?_
      refine hK.out _ _ (pw_cell_below (below_new wd _) hHeld) (fun hHeld => ?_)
      clear hK K
      refine nm0 (some 67) ?_
      have hRd := Kd.R_below HY.out.2.2.1 HD.out
      have hbd := blk_below HY.out.2.1 HD.out
      have hBd := below_then HY.out.2.2.2 HY.out.2.2.2.size HD.out
      have HZ := Aside0.mk (And.intro hRd (And.intro hbd hBd))
      clear hRd hbd hBd hBW
      refine on0 10 68 (bs 13 2047) fun K hK => ?_
      refine Kd.R_append_step kI (w0 := wo) wo.heap.size (by rfl) (.tmp 59) (.tmp 67) 22 3 (.int .i64 0) 8 rfl Try.underlying22 Try.infoInt rfl (by decide) (by decide) (.slice A2 j c2) la r [.int .i64 r] (fun _ => True) (fun k => some k ≠ (Value.slice A2 j c2).ownBlock) rfl rfl rfl (fun _ h => ⟨trivial, h⟩) (fun _ _ => trivial) HZ.out.1 HZ.out.2.2 HZ.out.2.2.size (by have := HY.out.1.1; omega) ?_
      intro v6 w6 hR6 hb6 hg6 hat6
      have hbk6 := blk_over HZ.out.2.1 HZ.out.1 hg6 rfl
      refine hK.out _ _ ((blk_cell hbk6 2).trans rfl) (fun hHeld => ?_)
      clear hK K
      refine nm0 (some 68) ?_
      obtain ⟨A6, c6, hv6⟩ := Kd.R_slice hR6
      generalize hn6 : (la ++ [r]).length = n6 at hv6
      subst hv6
      have y2 := blk_frozen hbk6 2
      have z2 := (blk_cell hbk6 2).trans rfl
      have hS6 := AddAt.snoc (W := w6) HY.out.1 hr hn6 hbk6 hR6 hb6 HGE.out
      have HS6 := Aside0.mk hS6
      clear hS6 hR6 hb6 hg6 hat6 hbk6 hn6
      refine pu 11 69 (bs 13 4095) ?_
      refine la0 12 (bs 13 8191) (N := none) fun K hK => ?_
      refine sk0 ?_
      refine hK.out _ _ ?_
      clear hK K hHeld
      refine dn0 ?_
      go_wp2_with fail
      exact ⟨⟨j + 1, by go_num, by omega, HS6⟩, by simp [intOf]; omega⟩
     ·have HJW := Lib.hid (show (j : Int) = Wd by omega)
      clear hY
      have hbk := HY.out.2.1
      have e0 : wr.cell? ⟨eb, 0, none⟩ = some (.int .i64 f) := (blk_cell hbk 0).trans rfl
      have e1 : wr.cell? ⟨eb, 1, none⟩ = some (.int .i64 t) := (blk_cell hbk 1).trans rfl
      clear hbk
      have HSU := sum_any A2 c2 la wr (by have h := (Kd.R_reads' HY.out.2.2.1).2.2; exact h) (fun x hx => by have := HY.out.1.2 x hx; omega) (by have := HY.out.1.1; omega)
      rw [HY.out.1.1] at HSU
      have HSU := Lib.hid HSU
      obtain ⟨sm, hsm⟩ : ∃ s, s = la.sum := ⟨_, rfl⟩
      rw [← hsm] at HSU
      have HSM := Lib.hid hsm
      clear hsm
      obtain ⟨cb, hcb⟩ : ∃ b : Bool, b = (decide (t ≤ f) && decide (sm = 0)) := ⟨_, rfl⟩
      have HCB := Lib.hid hcb
      clear hcb
      go_upto_region 13 with fail
      clear p1 hj hjt
      go_cut [80] from 70 to 79 (fun s wx => s = .bool cb ∧ wr = wx)
      case first =>
       by_cases htf : t ≤ f
       ·go_wp2_with fail
        refine HSU.out.mono ?_
        rintro e w' ⟨rfl, rfl⟩
        go_wp2_with fail
        go_meet
        exact ⟨by rw [HCB.out, decide_eq_true htf]; rfl, rfl⟩
       ·have hft : f < t := by omega
        go_wp2_with fail
        go_meet
        exact ⟨by rw [HCB.out, decide_eq_false (Int.not_le.2 hft)]; rfl, rfl⟩
      case rest =>
       obtain ⟨rfl, rfl⟩ := hcut
       go_upto_if 80 with fail
       go_cut [] from 81 to 83 (fun wx => Aside0 (EdgeAt wo eb N Wd f t wx))
       case first =>
        cases cb with
        | true =>
         have hpos : 0 < la.length := by have := HY.out.1.1; have := HJW.out; omega
         obtain ⟨g, cap, hv, hg1, hg2, cells, hcell⟩ := Kd.R_form HY.out.2.2.1 hpos
         injection hv with hv1 hv2 hv3
         subst hv1
         obtain ⟨ad, had, hc0⟩ := at_int (show kI.C wr (some ⟨g, 0, none⟩) la.length la from by have h := (Kd.R_reads' HY.out.2.2.1).2.2; exact h) (k := 0) hpos
         injection had with had
         subst had
         rw [add_none] at hc0
         have hfz := blk_frozen hcell 0
         have HPU := Aside0.mk (Kd.R_putg (enc := fun n : Int => Value.int .i64 n) HY.out.2.2.1 0 1)
         have HTY := Aside0.mk (And.intro hpos (show Typed wr g 3 from ⟨_, hcell⟩))
         have hj0 : (0 : Int) < j := by have := HJW.out; omega
         generalize la[0] = a0 at *
         clear hpos hg1 hg2 hcell hv2 hv3
         go_wp2_with fail
         go_meet
         have hs := set0_sum HTY.out.1 HY.out.1.2
         have hgr := HPU.out.2
         have hne : g ≠ eb := fun he => not_typed HTY.out.2 rfl (by rw [he]; exact ⟨_, HY.out.2.1⟩)
         exact ⟨la.set 0 1, _, j, c2, ⟨⟨hf, ht, by rw [List.length_set, HY.out.1.1]; exact HJW.out, hs.1, fun _ => hs.2⟩, by rw [List.length_set]; exact HY.out.1.1⟩, (hgr.block eb (blk_lt HY.out.2.1) (fun he => hne (by injection he with he; exact he.symm))).trans HY.out.2.1, HPU.out.1, HY.out.2.2.2.grown hgr HY.out.2.2.2.size (fun k hk => by injection hk with hk; subst hk; exact Kd.R_base HY.out.2.2.1 g rfl)⟩
        | false =>
         go_wp2_with fail
         go_meet
         exact ⟨la, A2, j, c2, ⟨⟨hf, ht, by rw [HY.out.1.1]; exact HJW.out, HY.out.1.2, fun hle => by have h := HCB.out; rw [decide_eq_true hle] at h; have h2 := (sum_in HY.out.1.2).1; have h3 := HSM.out; have h4 : ¬ sm = 0 := of_decide_eq_false (by simpa using h.symm); show 1 ≤ la.sum; omega⟩, HY.out.1.1⟩, HY.out.2.1, HY.out.2.2.1, HY.out.2.2.2⟩
       case rest =>
        clear e0 e1 e2 HSU HSM HCB HY HJW
        obtain ⟨l2, A3, n3, c3, hle, hbk, hR3, hBw⟩ := hcut.out
        clear hcut
        have HR := Aside0.mk (Kd.R_below HR.out hBw)
        have HL3 := Lib.hid hle
        have HW := Aside0.mk (And.intro (blk_below HP.out.1 hBw) (And.intro (blk_below HP.out.2 hBw) (And.intro (below_then HB.out HB.out.size hBw) (And.intro hbk (And.intro (Kd.R_lower hR3 HB.out.size) hBw.size)))))
        have p2 : wc.cell? ⟨w.heap.size + 1, 2, none⟩ = some (.slice A1 k c1) := (blk_cell HW.out.1 2).trans rfl
        have e0 : wc.cell? ⟨eb, 0, none⟩ = some (.int .i64 f) := (blk_cell hbk 0).trans rfl
        have e1 : wc.cell? ⟨eb, 1, none⟩ = some (.int .i64 t) := (blk_cell hbk 1).trans rfl
        have e2 : wc.cell? ⟨eb, 2, none⟩ = some (.slice A3 n3 c3) := (blk_cell hbk 2).trans rfl
        clear hle hbk hR3 hBw HP HB
        go_upto_region 15 with fail
        refine start_ (n := 11) (S := fun V => V.cell? ⟨w.heap.size + 1, 2, none⟩ = some (.slice A1 k c1) ∧ V.cell? ⟨eb, 0, none⟩ = some (.int .i64 f) ∧ V.cell? ⟨eb, 1, none⟩ = some (.int .i64 t) ∧ V.cell? ⟨eb, 2, none⟩ = some (.slice A3 n3 c3)) (ds := [10]) (bs 11 0) (by kernel_rfl) rfl (by kernel_rfl) ⟨p2, e0, e1, e2⟩ (fun hHeld => ?_)
        have HD := Aside0.mk (below_drew1 (Below.refl wc.heap.size wc))
        have HX := Aside0.mk (And.intro (blk_below HW.out.1 HD.out) (And.intro (blk_below HW.out.2.1 HD.out) (And.intro (below_then HW.out.2.2.1 HW.out.2.2.1.size HD.out) (And.intro (blk_below HW.out.2.2.2.1 HD.out) (And.intro (Kd.R_below HW.out.2.2.2.2.1 HD.out) (Kd.R_below HR.out HD.out))))))
        generalize wc.drew = wd at *
        clear p2 e0 e1 e2 HW HR HD
        have HSH := Lib.hid (fun V (hb : Below wd.heap.size wd V) => (And.intro (pw_cell_below hb hHeld.1) (And.intro (pw_cell_below hb hHeld.2.1) (And.intro (pw_cell_below hb hHeld.2.2.1) (pw_cell_below hb hHeld.2.2.2)))))
        refine pu 1 85 (bs 11 2) ?_
        refine pu 2 86 (bs 11 6) ?_
        refine tk4 3 87 (bs 11 14) hHeld ?_
        refine tk4 5 89 (bs 11 46) hHeld ?_
        refine join_ 4 (bs 11 127) (fun g : Nat × (Option Addr × Nat × Nat) × Nat => [(84, .slice (some ⟨g.1, 0, none⟩) 0 0), (88, .slice g.2.1.1 g.2.1.2.1 g.2.1.2.2), (90, .slice (some ⟨g.2.2, 0, none⟩) 1 1)]) (fun g V => Below wd.heap.size wd V ∧ kE.R 41 V w.heap.size (fun _ => True) (.slice g.2.1.1 g.2.1.2.1 g.2.1.2.2) es ∧ V.heap[g.2.2]? = some (.cells #[.int .i64 f, .int .i64 t, .slice A3 n3 c3] 41 (0, 0)) ∧ ∀ q, (Value.slice g.2.1.1 g.2.1.2.1 g.2.1.2.2).ownBlock = some q → wd.heap.size ≤ q) ?_ ?_
        rotate_left
        ·intro hcont
         simp only [putAll, Act.put, List.setIfInBounds_toArray, List.set_cons_zero, List.set_cons_succ] at hcont
         have HCT := Lib.hid (fun g V hV => hcont g V hV)
         clear hcont
         have hwd : w.heap.size ≤ wd.heap.size := HX.out.2.2.1.size
         refine two_ (i := 0) (j := 6) (Ni := some 84) (Nj := some 90) (bs 11 47) (bs 11 110) rfl rfl rfl rfl (by kernel_rfl) (by decide) (by decide) (fun K hK => ?_) (fun K hK => ?_)
         ·skip
          refine va0 ?_
          refine hK.out _ _ (HSH.out _ (below_new wd _)) (fun hHeld => ?_)
          clear hK K
          refine nm0 (some 84) ?_
          have HZL := Lib.hid (Nat.le_refl wd.heap.size)
          refine two_ (i := 4) (j := 6) (Ni := some 88) (Nj := some 90) (bs 11 63) (bs 11 111) rfl rfl rfl rfl (by kernel_rfl) (by decide) (by decide) (fun K hK => ?_) (fun K hK => ?_)
          ·skip
           refine Kd.R_append_rows_step kE (Rr := kE.M (wd.alloc (.cells #[] 41)) w.heap.size (fun q => q < wd.heap.size)) (w0 := w) w.heap.size (by rfl) (.tmp 84) (.tmp 87) 24 41 _ 40 rfl Try.underlying24 Try.infoEdge rfl (by decide) (by decide) (.slice (some ⟨wd.heap.size, 0, none⟩) 0 0) [] es A1 k c1 (fun _ => True) (fun q => q < wd.heap.size) rfl rfl (R_empty kE 41 w.heap.size wd hwd) (copy_rd HX.out.2.2.2.2.2 (below_new wd (.cells #[] 41))) (fun _ _ h => h) (fun q hq => ⟨trivial, ne_own (Nat.ne_of_lt (Nat.lt_of_lt_of_le hq HZL.out))⟩) (fun _ _ => trivial) (below_then HX.out.2.2.1 hwd (below_new wd (.cells #[] 41))) (Nat.le_trans hwd ((below_new wd (.cells #[] 41))).size) (by simp; omega) ?_
           intro v1 w1 hR1 hb1 hg1 hat1
           obtain ⟨A5, c5, hv5⟩ := Kd.R_slice hR1
           rw [List.nil_append] at hR1 hv5
           generalize hn5 : es.length = n5 at hv5
           subst hv5
           have hbw1 := (below_new wd (.cells #[] 41)).grown hg1 (below_new wd (.cells #[] 41)).size (fun q hq => by injection hq with hq; subst hq; exact Nat.le_refl _)
           refine hK.out _ _ (HSH.out _ hbw1) (fun hHeld => ?_)
           clear hK K
           refine nm0 (some 88) ?_
           refine on0 6 90 (bs 11 127) fun K hK => ?_
           refine va0 ?_
           refine hK.out _ _ (HSH.out _ (below_alloc hbw1 _)) (fun hHeld => ?_)
           clear hK K
           refine nm0 (some 90) ?_
           exact HCT.out (wd.heap.size, (A5, n5, c5), w1.heap.size) _ ⟨below_alloc hbw1 _, Kd.R_below hR1 (below_new w1 _), heap_alloc_new w1 _, own_new hat1 HZL.out (below_new wd (.cells #[] 41)).size⟩
          ·skip
           refine va0 ?_
           refine hK.out _ _ (HSH.out _ (below_alloc (below_new wd (.cells #[] 41)) (.cells #[.int .i64 f, .int .i64 t, .slice A3 n3 c3] 41))) (fun hHeld => ?_)
           clear hK K
           refine nm0 (some 90) ?_
           refine on0 4 88 (bs 11 127) fun K hK => ?_
           have hz2 : (wd.alloc (.cells #[] 41)).heap.size = wd.heap.size + 1 := by simp
           refine Kd.R_append_rows_step kE (Rr := kE.M ((wd.alloc (.cells #[] 41)).alloc (.cells #[.int .i64 f, .int .i64 t, .slice A3 n3 c3] 41)) w.heap.size (fun q => q < wd.heap.size)) (w0 := w) w.heap.size (by rfl) (.tmp 84) (.tmp 87) 24 41 _ 40 rfl Try.underlying24 Try.infoEdge rfl (by decide) (by decide) (.slice (some ⟨wd.heap.size, 0, none⟩) 0 0) [] es A1 k c1 (fun _ => True) (fun q => q < wd.heap.size) rfl rfl (Kd.R_below (R_empty kE 41 w.heap.size wd hwd) (below_new _ (.cells #[.int .i64 f, .int .i64 t, .slice A3 n3 c3] 41))) (copy_rd HX.out.2.2.2.2.2 (below_alloc (below_new wd (.cells #[] 41)) (.cells #[.int .i64 f, .int .i64 t, .slice A3 n3 c3] 41))) (fun _ _ h => h) (fun q hq => ⟨trivial, ne_own (Nat.ne_of_lt (Nat.lt_of_lt_of_le hq HZL.out))⟩) (fun _ _ => trivial) (below_then HX.out.2.2.1 hwd (below_alloc (below_new wd (.cells #[] 41)) (.cells #[.int .i64 f, .int .i64 t, .slice A3 n3 c3] 41))) (Nat.le_trans hwd ((below_alloc (below_new wd (.cells #[] 41)) (.cells #[.int .i64 f, .int .i64 t, .slice A3 n3 c3] 41))).size) (by simp; omega) ?_
           intro v1 w1 hR1 hb1 hg1 hat1
           obtain ⟨A5, c5, hv5⟩ := Kd.R_slice hR1
           rw [List.nil_append] at hR1 hv5
           generalize hn5 : es.length = n5 at hv5
           subst hv5
           have hbw1 := ((below_alloc (below_new wd (.cells #[] 41)) (.cells #[.int .i64 f, .int .i64 t, .slice A3 n3 c3] 41))).grown hg1 ((below_alloc (below_new wd (.cells #[] 41)) (.cells #[.int .i64 f, .int .i64 t, .slice A3 n3 c3] 41))).size (fun q hq => by injection hq with hq; subst hq; exact Nat.le_refl _)
           have hbn := heap_alloc_new (wd.alloc (.cells #[] 41)) (.cells #[.int .i64 f, .int .i64 t, .slice A3 n3 c3] 41)
           rw [hz2] at hbn
           have hbg := (hg1.block (wd.heap.size + 1) (blk_lt hbn) (ne_own (by omega))).trans hbn
           refine hK.out _ _ (HSH.out _ hbw1) (fun hHeld => ?_)
           clear hK K
           refine nm0 (some 88) ?_
           exact HCT.out (wd.heap.size, (A5, n5, c5), wd.heap.size + 1) _ ⟨hbw1, hR1, hbg, own_new hat1 HZL.out (below_alloc (below_new wd (.cells #[] 41)) (.cells #[.int .i64 f, .int .i64 t, .slice A3 n3 c3] 41)).size⟩
         ·skip
          refine va0 ?_
          refine hK.out _ _ (HSH.out _ (below_new wd _)) (fun hHeld => ?_)
          clear hK K
          refine nm0 (some 90) ?_
          refine on0 0 84 (bs 11 111) fun K hK => ?_
          have hz2 : (wd.alloc (.cells #[.int .i64 f, .int .i64 t, .slice A3 n3 c3] 41)).heap.size = wd.heap.size + 1 := by simp
          refine va0 ?_
          refine hK.out _ _ (HSH.out _ (below_alloc (below_new wd (.cells #[.int .i64 f, .int .i64 t, .slice A3 n3 c3] 41)) (.cells #[] 41))) (fun hHeld => ?_)
          clear hK K
          refine nm0 (some 84) ?_
          have HZL := Lib.hid (Nat.le_succ wd.heap.size)
          have hze := R_empty kE 41 w.heap.size (wd.alloc (.cells #[.int .i64 f, .int .i64 t, .slice A3 n3 c3] 41)) (by omega)
          rw [hz2] at hze
          refine on0 4 88 (bs 11 127) fun K hK => ?_
          refine Kd.R_append_rows_step kE (Rr := kE.M ((wd.alloc (.cells #[.int .i64 f, .int .i64 t, .slice A3 n3 c3] 41)).alloc (.cells #[] 41)) w.heap.size (fun q => q < wd.heap.size)) (w0 := w) w.heap.size (by rfl) (.tmp 84) (.tmp 87) 24 41 _ 40 rfl Try.underlying24 Try.infoEdge rfl (by decide) (by decide) (.slice (some ⟨(wd.heap.size + 1), 0, none⟩) 0 0) [] es A1 k c1 (fun _ => True) (fun q => q < wd.heap.size) rfl rfl (hze) (copy_rd HX.out.2.2.2.2.2 (below_alloc (below_new wd (.cells #[.int .i64 f, .int .i64 t, .slice A3 n3 c3] 41)) (.cells #[] 41))) (fun _ _ h => h) (fun q hq => ⟨trivial, ne_own (Nat.ne_of_lt (Nat.lt_of_lt_of_le hq HZL.out))⟩) (fun _ _ => trivial) (below_then HX.out.2.2.1 hwd (below_alloc (below_new wd (.cells #[.int .i64 f, .int .i64 t, .slice A3 n3 c3] 41)) (.cells #[] 41))) (Nat.le_trans hwd ((below_alloc (below_new wd (.cells #[.int .i64 f, .int .i64 t, .slice A3 n3 c3] 41)) (.cells #[] 41))).size) (by simp; omega) ?_
          intro v1 w1 hR1 hb1 hg1 hat1
          obtain ⟨A5, c5, hv5⟩ := Kd.R_slice hR1
          rw [List.nil_append] at hR1 hv5
          generalize hn5 : es.length = n5 at hv5
          subst hv5
          have hbw1 := ((below_alloc (below_new wd (.cells #[.int .i64 f, .int .i64 t, .slice A3 n3 c3] 41)) (.cells #[] 41))).grown hg1 ((below_alloc (below_new wd (.cells #[.int .i64 f, .int .i64 t, .slice A3 n3 c3] 41)) (.cells #[] 41))).size (fun q hq => by injection hq with hq; subst hq; exact Nat.le_succ _)
          have hbg := (hg1.block wd.heap.size (by simp; omega) (ne_own (by omega))).trans (blk_below (heap_alloc_new wd (.cells #[.int .i64 f, .int .i64 t, .slice A3 n3 c3] 41)) (below_new _ _))
          refine hK.out _ _ (HSH.out _ hbw1) (fun hHeld => ?_)
          clear hK K
          refine nm0 (some 88) ?_
          exact HCT.out (wd.heap.size + 1, (A5, n5, c5), wd.heap.size) _ ⟨hbw1, hR1, hbg, own_new hat1 HZL.out (below_alloc (below_new wd (.cells #[.int .i64 f, .int .i64 t, .slice A3 n3 c3] 41)) (.cells #[] 41)).size⟩
        ·rintro ⟨gz, ⟨A5, n5, c5⟩, g9⟩ V ⟨hbV, hR5, hb9, how⟩
         simp only at hR5 hb9 how
         refine norm_ (a' := ?_) ?_ ?_
         rotate_left
         ·show putAll _ _ = _
          simp only [putAll, Act.put, List.setIfInBounds_toArray, List.set_cons_zero, List.set_cons_succ]
          rfl
         have hV := HSH.out _ hbV
         have hlt := blk_lt HX.out.2.2.2.1
         have HV := Aside0.mk (And.intro hR5 (And.intro hb9 (And.intro (blk_below HX.out.1 hbV) (And.intro (blk_below HX.out.2.1 hbV) (And.intro (below_then HX.out.2.2.1 HX.out.2.2.1.size hbV) (And.intro (Kd.R_below HX.out.2.2.2.2.1 hbV) (And.intro (blk_below HX.out.2.2.2.1 hbV) (show some eb ≠ (Value.slice A5 n5 c5).ownBlock from fun he => absurd (how eb he.symm) (by omega)))))))))
         clear hbV hR5 hb9 how hlt HX
         refine on0 7 91 (bs 11 255) fun K hK => ?_
         refine Kd.R_append_rows_step kE (Rr := kE.M V w.heap.size (fun q => Typed V q 3)) (w0 := w) w.heap.size (by rfl) (.tmp 88) (.tmp 90) 24 41 _ 40 rfl Try.underlying24 Try.infoEdge rfl (by decide) (by decide) (.slice A5 n5 c5) es [(f, t, l2)] (some ⟨g9, 0, none⟩) 1 1 (fun _ => True) (fun q => Typed V q 3) rfl rfl HV.out.1 (reads_one (cs := [.int .i64 f, .int .i64 t, .slice A3 n3 c3]) HV.out.2.1 rfl (kE_M (R_typedI HV.out.2.2.2.2.2.1))) (fun _ _ h => h) (fun q hq => ⟨trivial, fun he => not_typed hq rfl (own_typed (Kd.R_own HV.out.1).choose_spec q he.symm)⟩) (fun _ _ => trivial) HV.out.2.2.2.2.1 HV.out.2.2.2.2.1.size (by have := HES.out.1; omega) ?_
         intro v7 w7 hR7 hb7 hg7 hat7
         obtain ⟨A7, c7, hv7⟩ := Kd.R_slice hR7
         generalize hn7 : (es ++ [(f, t, l2)]).length = n7 at hv7
         subst hv7
         have hpb7 := blk_over HV.out.2.2.1 HV.out.1 hg7 rfl
         have hrb7 := blk_over HV.out.2.2.2.1 HV.out.1 hg7 rfl
         have heb7 := (hg7.block eb (blk_lt HV.out.2.2.2.2.2.2.1) HV.out.2.2.2.2.2.2.2).trans HV.out.2.2.2.2.2.2.1
         refine hK.out _ _ ⟨(blk_cell hpb7 2).trans rfl, (blk_cell heb7 0).trans rfl, (blk_cell heb7 1).trans rfl, (blk_cell heb7 2).trans rfl⟩ (fun hHeld => ?_)
         clear hK K
         refine nm0 (some 91) ?_
         have y2 := blk_frozen hpb7 2
         have z2 := (blk_cell hpb7 2).trans rfl
         have HM7 := Aside0.mk (MadeE.snoc HES.out HL3.out.1 hn7 hpb7 hrb7 hR7 hb7)
         clear hR7 hb7 hg7 hat7 hpb7 hrb7 heb7 HV hV hn7
         refine pu 8 92 (bs 11 511) ?_
         refine pu 9 93 (bs 11 1023) ?_
         refine la0 10 (bs 11 2047) (N := none) fun K hK => ?_
         refine sk0 ?_
         refine hK.out _ _ ?_
         clear hK K hHeld y2 z2 HSH HL3
         refine dn0 ?_
         go_wp2_with fail
         exact ⟨⟨_, k + 1, rfl, by go_num, by omega, HM7⟩, by simp [intOf]; omega⟩
  ·have hkE : ¬ (k : Int) < nE := by omega
   have hkn : k = nE := by omega
   have hX2 := hX.out
   rw [hkn] at hX2
   obtain ⟨es, eA, eC, hes, hpb, hR, hrb, hB⟩ := hX2
   obtain ⟨nS, hnS⟩ : ∃ n : Nat, 1 + turnP (wrap64 (x0.tdiv 240)) 4 = n := ⟨(1 + turnP (wrap64 (x0.tdiv 240)) 4).toNat, by have := turnP_range (wrap64 (x0.tdiv 240)) (many := 4) (by decide); omega⟩
   have hnS4 : 1 ≤ nS ∧ nS ≤ 4 := by have := turnP_range (wrap64 (x0.tdiv 240)) (many := 4) (by decide); omega
   have HX1 := Aside0.mk (show MadeS w N Wd Wk es eA nE eC 0 wr from ⟨[], none, 0, ⟨rfl, fun e he => by cases he⟩, hpb, hR, Kd.R_nil _ _ _ _ _, hrb, hB⟩)
   have HES := Lib.hid hes
   clear hX hes hpb hR hrb hB hkn hnE
   go_wp2_with fail
   go_loopw [5, 10] (fun a i wr => ∃ (z : Int) (k : Nat), a = .int .i64 z ∧ i = .int .i64 k ∧ k ≤ nS ∧ Aside0 (MadeS w N Wd Wk es eA nE eC k wr)) (fun _ i _ => nS - (intOf i).toNat)
   case atStart => exact ⟨_, 0, rfl, rfl, Nat.zero_le _, HX1⟩
   case round =>
    clear HX1 hkE hlt hk
    obtain ⟨z, k, rfl, rfl, hk, hX⟩ := hrel
    go_wp2_with fail
    refine (HT.out _ 4 _ (by decide) (by decide)).mono ?_
    rintro e w' ⟨rfl, rfl⟩
    obtain ⟨tn, htn⟩ : ∃ t, t = turnP (wrap64 (x0.tdiv 240)) 4 := ⟨_, rfl⟩
    rw [← htn] at hnS ⊢
    have HNS := Lib.hid hnS
    have hnS5 : tn < nS ∧ nS ≤ tn + 1 := by omega
    have hnS6 : 0 ≤ tn := by omega
    clear htn hnS
    by_cases hlt : k < nS
    ·have hkE : (k : Int) < 1 + tn := by omega
     obtain ⟨ms, A1, c1, hms, hpb, hE, hR, hrb, hB⟩ := hX.out
     have HB := Aside0.mk hB
     have HP := Aside0.mk (And.intro hpb hrb)
     have HR := Aside0.mk (And.intro hE hR)
     have HMS := Lib.hid hms
     have p0 : wr.cell? ⟨w.heap.size + 1, 0, none⟩ = some (.int .i64 N) := (blk_cell hpb 0).trans rfl
     clear hX hms hpb hE hR hrb hB
     go_wp2_with fail
     refine (HN.out z _ HB.out).mono ?_
     rintro e w' ⟨rfl, rfl⟩
     generalize nthP l z = x at *
     go_wp2_with fail
     refine (HT.out x N _ (by omega) (by omega)).mono ?_
     rintro e w' ⟨rfl, rfl⟩
     have hnd := turnP_range x (many := N) (by omega)
     generalize turnP x N = nd at *
     have hbk := heap_alloc_new wr (.cells #[.int .i64 nd, .slice none 0 0] 48)
     have HX2 := Aside0.mk (show NumAt 3 wr wr.heap.size nd 0 (wr.alloc (.cells #[.int .i64 nd, .slice none 0 0] 48)) from ⟨[], none, 0, ⟨rfl, fun x hx => by cases hx⟩, hbk, Kd.R_nil _ _ _ _ _, below_new wr _⟩)
     clear hbk p0
     go_upto_region 22 with fail
     obtain ⟨mb, hmb⟩ : ∃ mb, mb = wr.heap.size := ⟨_, rfl⟩
     rw [← hmb] at HX2 ⊢
     have HGE := Lib.hid (show wr.heap.size ≤ mb by omega)
     clear hmb
     generalize wr.alloc (.cells #[.int .i64 nd, .slice none 0 0] 48) = v2 at *
     generalize wr = wo at *
     go_wp2_with fail
     go_loopw [13] (fun i wq => ∃ j : Nat, i = .int .i64 j ∧ (j : Int) ≤ Wd ∧ Aside0 (NumAt 3 wo mb nd j wq)) (fun i _ => Wd.toNat - (intOf i).toNat)
     case atStart => exact ⟨0, rfl, by omega, HX2⟩
     case round =>
      clear HX2
      obtain ⟨j, rfl, hj, hY⟩ := hrel
      obtain ⟨la, A2, c2, hla, hbk, hR2, hBw⟩ := hY.out
      have HY := Aside0.mk (And.intro hla (And.intro hbk (And.intro hR2 hBw)))
      have hpb := blk_below HP.out.1 hBw
      have p1 : wr.cell? ⟨w.heap.size + 1, 1, none⟩ = some (.int .i64 Wd) := (blk_cell hpb 1).trans rfl
      have e1 : wr.cell? ⟨mb, 1, none⟩ = some (.slice A2 j c2) := (blk_cell hbk 1).trans rfl
      clear hla hR2 hBw hpb
      by_cases hjt : (j : Int) < Wd
      ·clear hY hbk
       go_upto_region 25 with fail
       refine start_ (n := 13) (S := fun V => V.cell? ⟨mb, 1, none⟩ = some (.slice A2 j c2)) (ds := [12]) (bs 13 0) (by kernel_rfl) rfl (by kernel_rfl) e1 (fun hHeld => ?_)
       have HD := Aside0.mk (below_drew1 (Below.refl wr.heap.size wr))
       generalize wr.drew = wd at *
       clear e1 p1
       refine pu 0 120 (bs 13 1) ?_
       refine tk1 1 121 (bs 13 3) hHeld ?_
       refine pu 2 122 (bs 13 7) ?_
       refine pu 3 123 (bs 13 15) ?_
       refine pu 4 124 (bs 13 31) ?_
       refine pu 5 125 (bs 13 63) ?_
       refine pu 6 126 (bs 13 127) ?_
       simp only [i64_w]
       have hBW := below_then HB.out HB.out.size (below_then HY.out.2.2.2 HY.out.2.2.2.size HD.out)
       refine on0 7 127 (bs 13 255) fun K hK => ?_
       refine gs0 Try.func31 #[.slice A l.length c, .int .i64 (wrap64 (wrap64 (z + 1) + j))] ?_
       refine (HN.out _ _ hBW).mono ?_
       rintro e w' ⟨rfl, rfl⟩
       refine ⟨_, rfl, hK.out _ _ hHeld (fun hHeld => ?_)⟩
       clear hK K
       refine nm0 (some 127) ?_
       generalize nthP l (wrap64 (wrap64 (z + 1) + j)) = y at *
       refine on0 8 128 (bs 13 511) fun K hK => ?_
       refine gs0 Try.func10 #[.int .i64 y, .int .i64 4] ?_
       refine (HT.out _ _ _ (by decide) (by decide)).mono ?_
       rintro e w' ⟨rfl, rfl⟩
       refine ⟨_, rfl, hK.out _ _ hHeld (fun hHeld => ?_)⟩
       clear hK K
       refine nm0 (some 128) ?_
       have hr := turnP_range y (many := 4) (by decide)
       generalize turnP y 4 = r at *
       refine on0 9 129 (bs 13 1023) fun K hK => ?_
       refine va0 ?_
       refine hK.out _ _ (pw_cell_below (below_new wd _) hHeld) (fun hHeld => ?_)
       clear hK K
       refine nm0 (some 129) ?_
       have hRd := Kd.R_below HY.out.2.2.1 HD.out
       have hbd := blk_below HY.out.2.1 HD.out
       have hBd := below_then HY.out.2.2.2 HY.out.2.2.2.size HD.out
       have HZ := Aside0.mk (And.intro hRd (And.intro hbd hBd))
       clear hRd hbd hBd hBW
       refine on0 10 130 (bs 13 2047) fun K hK => ?_
       refine Kd.R_append_step kI (w0 := wo) wo.heap.size (by rfl) (.tmp 121) (.tmp 129) 22 3 (.int .i64 0) 8 rfl Try.underlying22 Try.infoInt rfl (by decide) (by decide) (.slice A2 j c2) la r [.int .i64 r] (fun _ => True) (fun k => some k ≠ (Value.slice A2 j c2).ownBlock) rfl rfl rfl (fun _ h => ⟨trivial, h⟩) (fun _ _ => trivial) HZ.out.1 HZ.out.2.2 HZ.out.2.2.size (by have := HY.out.1.1; omega) ?_
       intro v6 w6 hR6 hb6 hg6 hat6
       have hbk6 := blk_over HZ.out.2.1 HZ.out.1 hg6 rfl
       refine hK.out _ _ ((blk_cell hbk6 1).trans rfl) (fun hHeld => ?_)
       clear hK K
       refine nm0 (some 130) ?_
       obtain ⟨A6, c6, hv6⟩ := Kd.R_slice hR6
       generalize hn6 : (la ++ [r]).length = n6 at hv6
       subst hv6
       have y2 := blk_frozen hbk6 1
       have z2 := (blk_cell hbk6 1).trans rfl
       have hS6 := NumAt.snoc HY.out.1 ⟨hr.1, by omega⟩ hn6 hbk6 hR6 hb6 HGE.out
       have HS6 := Aside0.mk hS6
       clear hS6 hR6 hb6 hg6 hat6 hbk6 hn6
       refine pu 11 131 (bs 13 4095) ?_
       refine la0 12 (bs 13 8191) (N := none) fun K hK => ?_
       refine sk0 ?_
       refine hK.out _ _ ?_
       clear hK K hHeld
       refine dn0 ?_
       go_wp2_with fail
       exact ⟨⟨j + 1, by go_num, by omega, HS6⟩, by simp [intOf]; omega⟩
      ·have HJW := Lib.hid (show (j : Int) = Wd by omega)
       have e0 : wr.cell? ⟨mb, 0, none⟩ = some (.int .i64 nd) := (blk_cell hbk 0).trans rfl
       have hBw := HY.out.2.2.2
       have hpb := blk_below HP.out.1 hBw
       have p4 : wr.cell? ⟨w.heap.size + 1, 4, none⟩ = some (.slice A1 k c1) := (blk_cell hpb 4).trans rfl
       have p3 : wr.cell? ⟨w.heap.size + 1, 3, none⟩ = some (.int .i64 Wk) := (blk_cell hpb 3).trans rfl
       clear hbk hpb hY
       go_upto_region 26 with fail
       clear p1 hj hjt
       refine start_ (n := 15) (S := fun V => V.cell? ⟨w.heap.size + 1, 4, none⟩ = some (.slice A1 k c1) ∧ V.cell? ⟨mb, 0, none⟩ = some (.int .i64 nd) ∧ V.cell? ⟨mb, 1, none⟩ = some (.slice A2 j c2) ∧ V.cell? ⟨w.heap.size + 1, 3, none⟩ = some (.int .i64 Wk)) (ds := [14]) (bs 15 0) (by kernel_rfl) rfl (by kernel_rfl) ⟨p4, e0, e1, p3⟩ (fun hHeld => ?_)
       have hBd := below_then hBw hBw.size (below_drew1 (Below.refl wr.heap.size wr))
       have HX := Aside0.mk (And.intro (blk_below HP.out.1 hBd) (And.intro (blk_below HP.out.2 hBd) (And.intro (below_then HB.out HB.out.size hBd) (And.intro (Kd.R_lower (Kd.R_below HY.out.2.2.1 (below_drew1 (Below.refl wr.heap.size wr))) HB.out.size) (And.intro (Kd.R_below HR.out.1 hBd) (And.intro (Kd.R_below HR.out.2 hBd) (blk_below HY.out.2.1 (below_drew1 (Below.refl wr.heap.size wr)))))))))
       have HLA := Lib.hid HY.out.1
       generalize wr.drew = wd at *
       clear p4 e0 e1 p3 hBw hBd HY HP HB HR
       have HSH := Lib.hid (fun V (hb : Below wd.heap.size wd V) => (And.intro (pw_cell_below hb hHeld.1) (And.intro (pw_cell_below hb hHeld.2.1) (And.intro (pw_cell_below hb hHeld.2.2.1) (pw_cell_below hb hHeld.2.2.2)))))
       refine pu 1 133 (bs 15 2) ?_
       refine tk4 2 134 (bs 15 6) hHeld ?_
       refine tk4 4 136 (bs 15 22) hHeld ?_
       refine pu 5 137 (bs 15 54) ?_
       refine pu 6 138 (bs 15 118) ?_
       refine pu 7 139 (bs 15 246) ?_
       refine tk4 8 140 (bs 15 502) hHeld ?_
       simp only [i64_w]
       have hwd : w.heap.size ≤ wd.heap.size := HX.out.2.2.1.size
       refine on0 0 132 (bs 15 503) fun K hK => ?_
       refine va0 ?_
       refine hK.out _ _ (HSH.out _ (below_new wd _)) (fun hHeld => ?_)
       clear hK K
       refine nm0 (some 132) ?_
       refine on0 3 135 (bs 15 511) fun K hK => ?_
       refine Kd.R_append_rows_step kMs (Rr := kMs.M (wd.alloc (.cells #[] 51)) w.heap.size (fun q => q < wd.heap.size)) (w0 := w) w.heap.size (by rfl) (.tmp 132) (.tmp 134) 27 51 _ 40 rfl Try.underlying27 Try.infoMsg rfl (by decide) (by decide) (.slice (some ⟨wd.heap.size, 0, none⟩) 0 0) [] ms A1 k c1 (fun _ => True) (fun q => q < wd.heap.size) rfl rfl (R_empty kMs 51 w.heap.size wd hwd) (copy_rd HX.out.2.2.2.2.2.1 (below_new wd _)) (fun _ _ h => h) (fun q hq => ⟨trivial, ne_own (Nat.ne_of_lt hq)⟩) (fun _ _ => trivial) (below_then HX.out.2.2.1 hwd (below_new wd _)) (Nat.le_trans hwd (below_new wd (.cells #[] 51)).size) (by simp; omega) ?_
       intro v1 w1 hR1 hb1 hg1 hat1
       obtain ⟨A5, c5, hv5⟩ := Kd.R_slice hR1
       rw [List.nil_append] at hR1 hv5
       generalize hn5 : ms.length = n5 at hv5
       subst hv5
       have hbw1 := (below_new wd (.cells #[] 51)).grown hg1 (below_new wd (.cells #[] 51)).size (fun q hq => by injection hq with hq; subst hq; exact Nat.le_refl _)
       refine hK.out _ _ (HSH.out _ hbw1) (fun hHeld => ?_)
       clear hK K
       refine nm0 (some 135) ?_
       have how := own_new hat1 (Nat.le_refl wd.heap.size) (below_new wd (.cells #[] 51)).size
       have hne : some mb ≠ (Value.slice A5 n5 c5).ownBlock := fun he => absurd (how mb he.symm) (by have := blk_lt HX.out.2.2.2.2.2.2; omega)
       have HV := Aside0.mk (And.intro hR1 (And.intro hne (And.intro (blk_below HX.out.1 hbw1) (And.intro (blk_below HX.out.2.1 hbw1) (And.intro (below_then HX.out.2.2.1 HX.out.2.2.1.size hbw1) (And.intro (Kd.R_below HX.out.2.2.2.1 hbw1) (And.intro (Kd.R_below HX.out.2.2.2.2.1 hbw1) (blk_below HX.out.2.2.2.2.2.2 hbw1))))))))
       clear hR1 hb1 hg1 hat1 hbw1 how hne HX HSH hn5
       refine on0 9 141 (bs 15 1023) fun K hK => ?_
       refine gs0 Try.func10 #[.int .i64 (wrap64 (x.tdiv 11)), .int .i64 Wk] ?_
       refine (HT.out _ _ _ (by omega) (by omega)).mono ?_
       rintro e w' ⟨rfl, rfl⟩
       refine ⟨_, rfl, hK.out _ _ hHeld (fun hHeld => ?_)⟩
       clear hK K
       refine nm0 (some 141) ?_
       have hwk := turnP_range (wrap64 (x.tdiv 11)) (many := Wk) (by omega)
       generalize turnP (wrap64 (x.tdiv 11)) Wk = wk at *
       refine pu 10 142 (bs 15 2047) ?_
       refine on0 11 143 (bs 15 4095) fun K hK => ?_
       refine va0 ?_
       refine hK.out _ _ (⟨pw_cell_below (below_new w1 _) hHeld.1, pw_cell_below (below_new w1 _) hHeld.2.1, pw_cell_below (below_new w1 _) hHeld.2.2.1, pw_cell_below (below_new w1 _) hHeld.2.2.2⟩) (fun hHeld => ?_)
       clear hK K
       refine nm0 (some 143) ?_
       refine on0 12 144 (bs 15 8191) fun K hK => ?_
       refine Kd.R_append_step kMs (w0 := w) w.heap.size (by rfl) (.tmp 135) (.tmp 143) 27 51 _ 40 rfl Try.underlying27 Try.infoMsg rfl (by decide) (by decide) (.slice A5 n5 c5) ms ((nd, la), wk) [.int .i64 nd, .slice A2 j c2, .int .i64 wk] (fun _ => True) (fun q => Typed w1 q 3) rfl rfl (kMs_M (R_typedI HV.out.2.2.2.2.2.1)) (fun q hq => ⟨trivial, fun he => not_typed hq rfl (own_typed (Kd.R_own HV.out.1).choose_spec q he.symm)⟩) (fun _ _ => trivial) HV.out.1 HV.out.2.2.2.2.1 HV.out.2.2.2.2.1.size (by have := HMS.out.1; omega) ?_
       intro v7 w7 hR7 hb7 hg7 hat7
       obtain ⟨A7, c7, hv7⟩ := Kd.R_slice hR7
       generalize hn7 : (ms ++ [((nd, la), wk)]).length = n7 at hv7
       subst hv7
       have hpb7 := blk_over HV.out.2.2.1 HV.out.1 hg7 rfl
       have hrb7 := blk_over HV.out.2.2.2.1 HV.out.1 hg7 rfl
       have heb7 := (hg7.block mb (blk_lt HV.out.2.2.2.2.2.2.2) HV.out.2.1).trans HV.out.2.2.2.2.2.2.2
       have hE7 := kE_over HV.out.2.2.2.2.2.2.1 HV.out.1 hg7 rfl rfl
       refine hK.out _ _ ⟨(blk_cell hpb7 4).trans rfl, (blk_cell heb7 0).trans rfl, (blk_cell heb7 1).trans rfl, (blk_cell hpb7 3).trans rfl⟩ (fun hHeld => ?_)
       clear hK K
       refine nm0 (some 144) ?_
       have y2 := blk_frozen hpb7 4
       have z2 := (blk_cell hpb7 4).trans rfl
       have HM7 := Aside0.mk (MadeS.snoc HMS.out ⟨hnd, by show (la.length : Int) = Wd; rw [HLA.out.1]; exact HJW.out, HLA.out.2, hwk⟩ hn7 hpb7 hE7 hrb7 hR7 hb7)
       clear hR7 hb7 hg7 hat7 hpb7 hrb7 heb7 hE7 HV hn7
       refine pu 13 145 (bs 15 16383) ?_
       refine la0 14 (bs 15 32767) (N := none) fun K hK => ?_
       refine sk0 ?_
       refine hK.out _ _ ?_
       clear hK K hHeld y2 z2
       refine dn0 ?_
       go_wp2_with fail
       exact ⟨⟨_, k + 1, rfl, by go_num, by omega, HM7⟩, by simp [intOf]; omega⟩
    ·have hkE : ¬ (k : Int) < 1 + tn := by omega
     have hkn : k = nS := by omega
     have hX2 := hX.out
     rw [hkn] at hX2
     obtain ⟨ms, mA, mC, hms, hpb, hE, hR, hrb, hB⟩ := hX2
     have p0 : wr.cell? ⟨w.heap.size + 1, 0, none⟩ = some (.int .i64 N) := (blk_cell hpb 0).trans rfl
     have p1 : wr.cell? ⟨w.heap.size + 1, 1, none⟩ = some (.int .i64 Wd) := (blk_cell hpb 1).trans rfl
     have p2 : wr.cell? ⟨w.heap.size + 1, 2, none⟩ = some (.slice eA nE eC) := (blk_cell hpb 2).trans rfl
     have p3 : wr.cell? ⟨w.heap.size + 1, 3, none⟩ = some (.int .i64 Wk) := (blk_cell hpb 3).trans rfl
     have p4 : wr.cell? ⟨w.heap.size + 1, 4, none⟩ = some (.slice mA nS mC) := (blk_cell hpb 4).trans rfl
     have z0 := (blk_cell hrb 0).trans rfl
     have z1 := (blk_cell hrb 1).trans rfl
     have z2 := (blk_cell hrb 2).trans rfl
     have z3 := (blk_cell hrb 3).trans rfl
     have z4 := (blk_cell hrb 4).trans rfl
     have y0 := blk_frozen hrb 0
     have y1 := blk_frozen hrb 1
     have y2 := blk_frozen hrb 2
     have y3 := blk_frozen hrb 3
     have y4 := blk_frozen hrb 4
     have HF := Aside0.mk (And.intro hms (And.intro hE (And.intro hR (And.intro hrb hB))))
     clear hX hms hpb hE hR hrb hB hkn
     go_wp2_with fail
     have hrb := HF.out.2.2.2.1
     have hfin := blk_put (blk_put (blk_put (blk_put (blk_put (hrb) 0 (.int .i64 N) rfl) 1 (.int .i64 Wd) rfl) 2 (.slice eA nE eC) rfl) 3 (.int .i64 Wk) rfl) 4 (.slice mA nS mC) rfl
     have hg := setCells_grown w.heap.size [.int .i64 N, .int .i64 Wd, .slice eA nE eC, .int .i64 Wk, .slice mA nS mC] 0 wr
     simp only [World.setCells] at hg
     generalize (((((wr).setCell ⟨w.heap.size, 0, none⟩ (.int .i64 N)).setCell ⟨w.heap.size, 1, none⟩ (.int .i64 Wd)).setCell ⟨w.heap.size, 2, none⟩ (.slice eA nE eC)).setCell ⟨w.heap.size, 3, none⟩ (.int .i64 Wk)).setCell ⟨w.heap.size, 4, none⟩ (.slice mA nS mC) = vF at *
     have hEF := R_overB HF.out.2.1 hrb kE_types hg
     have hSF := R_overB HF.out.2.2.1 hrb kMs_types hg
     have q0 := (blk_cell hfin 0).trans rfl
     have q1 := (blk_cell hfin 1).trans rfl
     have q2 := (blk_cell hfin 2).trans rfl
     have q3 := (blk_cell hfin 3).trans rfl
     have q4 := (blk_cell hfin 4).trans rfl
     refine bodyPost_ret (v := .agg #[.int .i64 N, .int .i64 Wd, .slice eA nE eC, .int .i64 Wk, .slice mA nS mC]) (by simp [results, Try.results9, go_sem, q0, q1, q2, q3, q4]) rfl ⟨⟨N, Wd, es, Wk, ms⟩, eA, eC, mA, mC, by simp only [planV]; rw [HES.out.1, HF.out.1.1], ⟨hN3, hWd3, hWk3, ⟨by show es.length ≤ 7; rw [HES.out.1]; exact hnE7, HES.out.2⟩, ⟨by show 1 ≤ ms.length; rw [HF.out.1.1]; exact hnS4.1, by show ms.length ≤ 4; rw [HF.out.1.1]; exact hnS4.2, HF.out.1.2⟩⟩, ⟨(Kd.R_reads' hEF).2.2, (Kd.R_reads' hSF).2.2⟩, ?_, ?_, HF.out.2.2.2.2.grown hg HF.out.2.2.2.2.size (fun k hk => by injection hk with hk; subst hk; exact Nat.le_refl _), ?_⟩
     ·rw [show es.length = nE from HES.out.1]; exact (Kd.R_reads' hEF).2.1
     ·rw [show ms.length = nS from HF.out.1.1]; exact (Kd.R_reads' hSF).2.1
     ·show kMs.R _ _ _ _ (.slice mA ms.length mC) ms; rw [show ms.length = nS from HF.out.1.1]; exact hSF
theorem made_any (A : Option Addr) (c : Nat) (l : List Int) (w : World) (hl : kI.C w A l.length l) (hm : l.length ≤ 1000000000000000) :
  Calls Try.prog 9 #[.slice A l.length c] w fun e w' => ∃ p eA eC mA mC, e = .returned (planV p eA eC mA mC) ∧ PlanMade p ∧ PlanAt w' p eA mA ∧ p.E.length ≤ eC ∧ p.start.length ≤ mC ∧ Below w.heap.size w w' :=
 (made_anyR A c l w hl hm).mono fun e w' ⟨p, eA, eC, mA, mC, h, h1, h2, h3, h4, h5, _⟩ => ⟨p, eA, eC, mA, mC, h, h1, h2, h3, h4, h5⟩
end Go.Proofs.Ytbkfnmgkcgnifaa
namespace Go.Proofs.Ytbkfnmgkcgnifaa
open Go.RowKit Go.Shelf Go.Proofs.YtbkfnmgkcgnifaaW.PrintWords Go.Proofs.YtbkfnmgkcgnifaaW.PrintLast Mdl
theorem ex_run (w : World) {eA mA sA : Option Addr} (hp : PlanAt w planP eA mA) (hs : kI.C w sA 4 [0, 2, 0, 1]) : Calls Try.prog 22 #[planV planP eA 4 mA 1, .slice sA 4 4] w fun e w' => e = .returned (.tuple #[.agg #[.int .i64 3, .int .i64 3, .int .i64 2], .int .i64 0]) ∧ Below w.heap.size w w' := by
 refine (run_any planP eA mA sA 4 1 4 [0, 2, 0, 1] w hp hs (Nat.le_refl _)).mono ?_
 rintro e w' ⟨rfl, hb⟩
 rw [ex_r]
 exact ⟨rfl, hb⟩
set_option maxRecDepth 8000 in
set_option maxHeartbeats 8000000 in
theorem progressed_any (w : World) : Calls Try.prog 17 #[] w fun e w' => e = .returned (.bool true) ∧ Below w.heap.size w w' := by
 have HP := fun w => Lib.hid (plan_any w)
 have H0 := Aside0.mk (Al.start w)
 go_enter Try.func17, Try.ntmps17
 go_upto_region 1 with fail
 go_wp2_with fail
 refine (HP _).out.mono ?_
 rintro e v1 ⟨eA, mA, rfl, hp, hb⟩
 have H1 := Aside0.mk ((H0.out.up hb).plan hp)
 clear H0
 simp only [planV]
 clear hp hb HP
 have HM : ∀ w : World, (Instr.makeSlice 52 (.int .i64 3) (.int .i64 3)).run Try.prog w = .ok (.slice (some ⟨w.heap.size, 0, none⟩) 3 3) (w.alloc (.cells (madeCells #[.slice none 0 0] 3) 32)) := made_fronts 3 (by decide)
 have HQ : ∀ w, (binOp .neq 57 (.agg #[.int .i64 3, .int .i64 3, .int .i64 2]) (.agg #[.int .i64 3, .int .i64 3, .int .i64 2])).run Try.prog w = .ok (.bool false) w := ne_run 3 3 2 3 3 2
 have H2 := Aside0.mk (((H1.out).new (.cells #[.int .i64 0, .int .i64 2, .int .i64 0, .int .i64 1] 3) (b := v1.heap.size) (by simp)).new (.cells #[.int .i64 planP.N, .int .i64 planP.Wd, .slice eA planP.E.length 4, .int .i64 planP.workers, .slice mA planP.start.length 1] 29) (b := v1.heap.size + 1) (by simp))
 clear H1
 go_upto_region 2 with fail
 generalize ((v1).alloc (.cells #[.int .i64 0, .int .i64 2, .int .i64 0, .int .i64 1] 3)).alloc (.cells #[.int .i64 planP.N, .int .i64 planP.Wd, .slice eA planP.E.length 4, .int .i64 planP.workers, .slice mA planP.start.length 1] 29) = v2 at *
 generalize hsb : v1.heap.size = sb at *
 generalize hpb : sb + 1 = pb at *
 clear hsb hpb
 have H3 := Aside0.mk ((((((((H2.out).new (.cells #[.int .i64 0, .int .i64 0] 3) (b := v2.heap.size) (by simp)).new (.cells #[.slice (some ⟨v2.heap.size, 0, none⟩) 2 2] 22) (b := v2.heap.size + 1) (by simp)).new (.cells #[.int .i64 0, .int .i64 0] 3) (b := v2.heap.size + 1 + 1) (by simp)).new (.cells #[.slice (some ⟨v2.heap.size + 1 + 1, 0, none⟩) 2 2] 22) (b := v2.heap.size + 1 + 1 + 1) (by simp)).new (.cells #[.int .i64 0, .int .i64 1] 3) (b := v2.heap.size + 1 + 1 + 1 + 1) (by simp)).new (.cells #[.slice (some ⟨v2.heap.size + 1 + 1 + 1 + 1, 0, none⟩) 2 2] 22) (b := v2.heap.size + 1 + 1 + 1 + 1 + 1) (by simp)).new (.cells #[.slice (some ⟨v2.heap.size + 1, 0, none⟩) 1 1, .slice (some ⟨v2.heap.size + 1 + 1 + 1, 0, none⟩) 1 1, .slice (some ⟨v2.heap.size + 1 + 1 + 1 + 1 + 1, 0, none⟩) 1 1] 32) (b := v2.heap.size + 1 + 1 + 1 + 1 + 1 + 1) (by simp))
 clear H2
 go_upto_region 3 with fail
 generalize (((((((v2).alloc (.cells #[.int .i64 0, .int .i64 0] 3)).alloc (.cells #[.slice (some ⟨v2.heap.size, 0, none⟩) 2 2] 22)).alloc (.cells #[.int .i64 0, .int .i64 0] 3)).alloc (.cells #[.slice (some ⟨v2.heap.size + 1 + 1, 0, none⟩) 2 2] 22)).alloc (.cells #[.int .i64 0, .int .i64 1] 3)).alloc (.cells #[.slice (some ⟨v2.heap.size + 1 + 1 + 1 + 1, 0, none⟩) 2 2] 22)).alloc (.cells #[.slice (some ⟨v2.heap.size + 1, 0, none⟩) 1 1, .slice (some ⟨v2.heap.size + 1 + 1 + 1, 0, none⟩) 1 1, .slice (some ⟨v2.heap.size + 1 + 1 + 1 + 1 + 1, 0, none⟩) 1 1] 32) = v3 at *
 generalize v2.heap.size = fb at *
 have hf : kLLI.C v3 (some ⟨fb + 1 + 1 + 1 + 1 + 1 + 1, 0, none⟩) 3 [[[0, 0]], [[0, 0]], [[0, 1]]] := C_lits (xs := [[[0, 0]], [[0, 0]], [[0, 1]]]) [[.slice (some ⟨fb + 1, 0, none⟩) 1 1], [.slice (some ⟨fb + 1 + 1 + 1, 0, none⟩) 1 1], [.slice (some ⟨fb + 1 + 1 + 1 + 1 + 1, 0, none⟩) 1 1]] H3.out.1.1 ⟨K_sl (lit_li1 H3.out.2.2.2.2.2.1.1 H3.out.2.2.2.2.2.2.1.1) rfl (Nat.le_refl _), K_sl (lit_li1 H3.out.2.2.2.1.1 H3.out.2.2.2.2.1.1) rfl (Nat.le_refl _), K_sl (lit_li1 H3.out.2.1.1 H3.out.2.2.1.1) rfl (Nat.le_refl _), trivial⟩ (by decide)
 have hs : kI.C v3 (some ⟨sb, 0, none⟩) 4 [0, 2, 0, 1] := C_lits (xs := [0, 2, 0, 1]) [[.int .i64 0], [.int .i64 2], [.int .i64 0], [.int .i64 1]] H3.out.2.2.2.2.2.2.2.2.1.1 ⟨rfl, rfl, rfl, rfl, trivial⟩ (by decide)
 have H4 := Aside0.mk ((Al.row (H3.out.2.2.2.2.2.2.2) hf).row hs)
 clear H3
 generalize fb + 1 + 1 + 1 + 1 + 1 + 1 = fa at *
 clear hf hs
 have p0 : v3.cell? ⟨pb, 0, none⟩ = some (.int .i64 planP.N) := (blk_cell H4.out.2.2.1.1 0).trans rfl
 have p1 : v3.cell? ⟨pb, 1, none⟩ = some (.int .i64 planP.Wd) := (blk_cell H4.out.2.2.1.1 1).trans rfl
 have p2 : v3.cell? ⟨pb, 2, none⟩ = some (.slice eA planP.E.length 4) := (blk_cell H4.out.2.2.1.1 2).trans rfl
 have p3 : v3.cell? ⟨pb, 3, none⟩ = some (.int .i64 planP.workers) := (blk_cell H4.out.2.2.1.1 3).trans rfl
 have p4 : v3.cell? ⟨pb, 4, none⟩ = some (.slice mA planP.start.length 1) := (blk_cell H4.out.2.2.1.1 4).trans rfl
 go_wp2_with fail
 refine (res_ok ex_p1 (m := ([[0, 1]] : List (List Int))) rfl (paths_any planP.N planP.Wd planP.E eA 4 0 2 _ (H4.out.2.2.2.2.1.1).hE)).mono ?_
 rintro e v4 ⟨A1, c1, rfl, h1, -, hb⟩
 have H5 := Aside0.mk ((H4.out.up hb).row h1)
 clear H4
 clear hb h1
 clear p0 p1 p2 p3 p4
 go_upto_region 4 with fail
 have p0 : v4.cell? ⟨pb, 0, none⟩ = some (.int .i64 planP.N) := (blk_cell H5.out.2.2.2.1.1 0).trans rfl
 have p1 : v4.cell? ⟨pb, 1, none⟩ = some (.int .i64 planP.Wd) := (blk_cell H5.out.2.2.2.1.1 1).trans rfl
 have p2 : v4.cell? ⟨pb, 2, none⟩ = some (.slice eA planP.E.length 4) := (blk_cell H5.out.2.2.2.1.1 2).trans rfl
 have p3 : v4.cell? ⟨pb, 3, none⟩ = some (.int .i64 planP.workers) := (blk_cell H5.out.2.2.2.1.1 3).trans rfl
 have p4 : v4.cell? ⟨pb, 4, none⟩ = some (.slice mA planP.start.length 1) := (blk_cell H5.out.2.2.2.1.1 4).trans rfl
 go_wp2_with fail
 refine (res_ok ex_p2 (m := ([[1, 0]] : List (List Int))) rfl (paths_any planP.N planP.Wd planP.E eA 4 2 0 _ (H5.out.2.2.2.2.2.1.1).hE)).mono ?_
 rintro e v5 ⟨A2, c2, rfl, h1, -, hb⟩
 have H6 := Aside0.mk ((H5.out.up hb).row h1)
 clear H5
 clear hb h1
 clear p0 p1 p2 p3 p4
 go_upto_region 5 with fail
 have p0 : v5.cell? ⟨pb, 0, none⟩ = some (.int .i64 planP.N) := (blk_cell H6.out.2.2.2.2.1.1 0).trans rfl
 have p1 : v5.cell? ⟨pb, 1, none⟩ = some (.int .i64 planP.Wd) := (blk_cell H6.out.2.2.2.2.1.1 1).trans rfl
 have p2 : v5.cell? ⟨pb, 2, none⟩ = some (.slice eA planP.E.length 4) := (blk_cell H6.out.2.2.2.2.1.1 2).trans rfl
 have p3 : v5.cell? ⟨pb, 3, none⟩ = some (.int .i64 planP.workers) := (blk_cell H6.out.2.2.2.2.1.1 3).trans rfl
 have p4 : v5.cell? ⟨pb, 4, none⟩ = some (.slice mA planP.start.length 1) := (blk_cell H6.out.2.2.2.2.1.1 4).trans rfl
 go_wp2_with fail
 refine (res_ok ex_t (m := ([[[0, 0]], [[0, 0]], [[0, 1]]] : List (List (List Int)))) rfl (truth_any planP eA mA none 4 1 0 [] 0 (by decide) _ H6.out.2.2.2.2.2.2.1.1 (Kd.C_nil kI _) (Nat.le_refl _))).mono ?_
 rintro e v6 ⟨A3, c3, rfl, h1, -, hb⟩
 have H7 := Aside0.mk ((H6.out.up hb).row h1)
 clear H6
 clear hb h1
 clear p0 p1 p2 p3 p4
 go_upto_region 6 with fail
 have p0 : v6.cell? ⟨pb, 0, none⟩ = some (.int .i64 planP.N) := (blk_cell H7.out.2.2.2.2.2.1.1 0).trans rfl
 have p1 : v6.cell? ⟨pb, 1, none⟩ = some (.int .i64 planP.Wd) := (blk_cell H7.out.2.2.2.2.2.1.1 1).trans rfl
 have p2 : v6.cell? ⟨pb, 2, none⟩ = some (.slice eA planP.E.length 4) := (blk_cell H7.out.2.2.2.2.2.1.1 2).trans rfl
 have p3 : v6.cell? ⟨pb, 3, none⟩ = some (.int .i64 planP.workers) := (blk_cell H7.out.2.2.2.2.2.1.1 3).trans rfl
 have p4 : v6.cell? ⟨pb, 4, none⟩ = some (.slice mA planP.start.length 1) := (blk_cell H7.out.2.2.2.2.2.1.1 4).trans rfl
 go_wp2_with fail
 refine (res_ok ex_b0 (m := ([[], [], []] : List (List (List Int)))) rfl (belief_any planP eA mA none 4 1 0 [] 1 0 (by decide) _ H7.out.2.2.2.2.2.2.2.1.1 (Kd.C_nil kI _) (Nat.le_refl _))).mono ?_
 rintro e v7 ⟨A4, c4, rfl, h1, -, hb⟩
 have H8 := Aside0.mk ((H7.out.up hb).row h1)
 clear H7
 clear hb h1
 clear p0 p1 p2 p3 p4
 go_upto_region 7 with fail
 have p0 : v7.cell? ⟨pb, 0, none⟩ = some (.int .i64 planP.N) := (blk_cell H8.out.2.2.2.2.2.2.1.1 0).trans rfl
 have p1 : v7.cell? ⟨pb, 1, none⟩ = some (.int .i64 planP.Wd) := (blk_cell H8.out.2.2.2.2.2.2.1.1 1).trans rfl
 have p2 : v7.cell? ⟨pb, 2, none⟩ = some (.slice eA planP.E.length 4) := (blk_cell H8.out.2.2.2.2.2.2.1.1 2).trans rfl
 have p3 : v7.cell? ⟨pb, 3, none⟩ = some (.int .i64 planP.workers) := (blk_cell H8.out.2.2.2.2.2.2.1.1 3).trans rfl
 have p4 : v7.cell? ⟨pb, 4, none⟩ = some (.slice mA planP.start.length 1) := (blk_cell H8.out.2.2.2.2.2.2.1.1 4).trans rfl
 go_wp2_with fail
 refine (res_ok ex_b1 (m := ([[[0, 0]], [[0, 0]], [[0, 1]]] : List (List (List Int)))) rfl (belief_any planP eA mA none 4 1 0 [] 1 1 (by decide) _ H8.out.2.2.2.2.2.2.2.2.1.1 (Kd.C_nil kI _) (Nat.le_refl _))).mono ?_
 rintro e v8 ⟨A5, c5, rfl, h1, -, hb⟩
 have H9 := Aside0.mk ((H8.out.up hb).row h1)
 clear H8
 clear hb h1
 clear p0 p1 p2 p3 p4
 go_upto_region 8 with fail
 have p0 : v8.cell? ⟨pb, 0, none⟩ = some (.int .i64 planP.N) := (blk_cell H9.out.2.2.2.2.2.2.2.1.1 0).trans rfl
 have p1 : v8.cell? ⟨pb, 1, none⟩ = some (.int .i64 planP.Wd) := (blk_cell H9.out.2.2.2.2.2.2.2.1.1 1).trans rfl
 have p2 : v8.cell? ⟨pb, 2, none⟩ = some (.slice eA planP.E.length 4) := (blk_cell H9.out.2.2.2.2.2.2.2.1.1 2).trans rfl
 have p3 : v8.cell? ⟨pb, 3, none⟩ = some (.int .i64 planP.workers) := (blk_cell H9.out.2.2.2.2.2.2.2.1.1 3).trans rfl
 have p4 : v8.cell? ⟨pb, 4, none⟩ = some (.slice mA planP.start.length 1) := (blk_cell H9.out.2.2.2.2.2.2.2.1.1 4).trans rfl
 go_wp2_with fail
 refine (ex_run _ H9.out.2.2.2.2.2.2.2.2.2.1.1 H9.out.2.2.2.2.2.1.1).mono ?_
 rintro e v9 ⟨rfl, hb⟩
 have H10 := Aside0.mk (H9.out.up hb)
 clear H9
 clear hb
 clear p0 p1 p2 p3 p4
 have H11 := Aside0.mk ((H10.out).new (.cells #[.int .i64 3, .int .i64 3, .int .i64 2] 57) (b := v9.heap.size) (by simp))
 clear H10
 go_upto_region 9 with fail
 generalize (v9).alloc (.cells #[.int .i64 3, .int .i64 3, .int .i64 2] 57) = v10 at *
 generalize v9.heap.size = rb at *
 go_wp2_with fail
 have H12 := Aside0.mk (((H11.out).new (.cells #[.int .i64 0, .int .i64 1] 3) (b := v10.heap.size) (by simp)).new (.cells #[.slice (some ⟨v10.heap.size, 0, none⟩) 2 2] 22) (b := v10.heap.size + 1) (by simp))
 clear H11
 refine (equalLists_same _ _ _ _ _ [[0, 1]] H12.out.2.2.2.2.2.2.2.1.1 (lit_li1 H12.out.1.1 H12.out.2.1.1)).mono ?_
 rintro e v11 ⟨rfl, hb⟩
 have H13 := Aside0.mk (H12.out.up hb)
 clear H12
 clear hb
 have H14 := Aside0.mk (H13.out.2)
 clear H13
 have H15 := Aside0.mk (H14.out.2)
 clear H14
 generalize v10.heap.size = zr1 at *
 go_wp2_with fail
 have H16 := Aside0.mk (((H15.out).new (.cells #[.int .i64 1, .int .i64 0] 3) (b := v11.heap.size) (by simp)).new (.cells #[.slice (some ⟨v11.heap.size, 0, none⟩) 2 2] 22) (b := v11.heap.size + 1) (by simp))
 clear H15
 refine (equalLists_same _ _ _ _ _ [[1, 0]] H16.out.2.2.2.2.2.2.1.1 (lit_li1 H16.out.1.1 H16.out.2.1.1)).mono ?_
 rintro e v12 ⟨rfl, hb⟩
 have H17 := Aside0.mk (H16.out.up hb)
 clear H16
 clear hb
 have H18 := Aside0.mk (H17.out.2)
 clear H17
 have H19 := Aside0.mk (H18.out.2)
 clear H18
 generalize v11.heap.size = zr2 at *
 go_wp2_with fail
 refine (fronts_same _ _ _ _ _ [[[0, 0]], [[0, 0]], [[0, 1]]] H19.out.2.2.2.1.1 H19.out.2.2.2.2.2.2.2.1.1).mono ?_
 rintro e v13 ⟨rfl, hb⟩
 have H20 := Aside0.mk (H19.out.up hb)
 clear H19
 clear hb
 go_wp2_with fail
 have H21 := Aside0.mk ((H20.out).new (.cells (madeCells #[.slice none 0 0] 3) 32) (b := v13.heap.size) (by simp))
 clear H20
 refine (fronts_same _ _ _ _ _ [[], [], []] H21.out.2.2.2.1.1 (C_made H21.out.1.1 (by decide))).mono ?_
 rintro e v14 ⟨rfl, hb⟩
 have H22 := Aside0.mk (H21.out.up hb)
 clear H21
 clear hb
 have H23 := Aside0.mk (H22.out.2)
 clear H22
 generalize v13.heap.size = zr4 at *
 go_wp2_with fail
 refine (fronts_same _ _ _ _ _ [[[0, 0]], [[0, 0]], [[0, 1]]] H23.out.2.1.1 H23.out.2.2.2.2.2.2.2.1.1).mono ?_
 rintro e v15 ⟨rfl, hb⟩
 have H24 := Aside0.mk (H23.out.up hb)
 clear H23
 clear hb
 have q0 : v15.cell? ⟨rb, 0, none⟩ = some (.int .i64 3) := (blk_cell H24.out.1.1 0).trans rfl
 have q1 : v15.cell? ⟨rb, 1, none⟩ = some (.int .i64 3) := (blk_cell H24.out.1.1 1).trans rfl
 have q2 : v15.cell? ⟨rb, 2, none⟩ = some (.int .i64 2) := (blk_cell H24.out.1.1 2).trans rfl
 go_upto_region 11 with fail
 clear HQ HM q0 q1 q2
 have p0 : v15.cell? ⟨pb, 0, none⟩ = some (.int .i64 planP.N) := (blk_cell H24.out.2.2.2.2.2.2.2.2.1.1 0).trans rfl
 have p1 : v15.cell? ⟨pb, 1, none⟩ = some (.int .i64 planP.Wd) := (blk_cell H24.out.2.2.2.2.2.2.2.2.1.1 1).trans rfl
 have p2 : v15.cell? ⟨pb, 2, none⟩ = some (.slice eA planP.E.length 4) := (blk_cell H24.out.2.2.2.2.2.2.2.2.1.1 2).trans rfl
 have p3 : v15.cell? ⟨pb, 3, none⟩ = some (.int .i64 planP.workers) := (blk_cell H24.out.2.2.2.2.2.2.2.2.1.1 3).trans rfl
 have p4 : v15.cell? ⟨pb, 4, none⟩ = some (.slice mA planP.start.length 1) := (blk_cell H24.out.2.2.2.2.2.2.2.2.1.1 4).trans rfl
 go_wp2_with fail
 refine (res_ok (f := fun l => l) ex_l rfl (ledger_any planP eA mA (some ⟨sb, 0, none⟩) 4 1 4 [0, 2, 0, 1] 2 1 (by decide) _ H24.out.2.2.2.2.2.2.2.2.2.2.1.1 H24.out.2.2.2.2.2.2.1.1 (Nat.le_refl _))).mono ?_
 rintro e v16 ⟨A6, c6, rfl, h1, -, hb⟩
 have H25 := Aside0.mk ((H24.out.up hb).row h1)
 clear H24
 clear hb h1
 clear p0 p1 p2 p3 p4
 go_upto_region 12 with fail
 have p0 : v16.cell? ⟨pb, 0, none⟩ = some (.int .i64 planP.N) := (blk_cell H25.out.2.2.2.2.2.2.2.2.2.1.1 0).trans rfl
 have p1 : v16.cell? ⟨pb, 1, none⟩ = some (.int .i64 planP.Wd) := (blk_cell H25.out.2.2.2.2.2.2.2.2.2.1.1 1).trans rfl
 have p2 : v16.cell? ⟨pb, 2, none⟩ = some (.slice eA planP.E.length 4) := (blk_cell H25.out.2.2.2.2.2.2.2.2.2.1.1 2).trans rfl
 have p3 : v16.cell? ⟨pb, 3, none⟩ = some (.int .i64 planP.workers) := (blk_cell H25.out.2.2.2.2.2.2.2.2.2.1.1 3).trans rfl
 have p4 : v16.cell? ⟨pb, 4, none⟩ = some (.slice mA planP.start.length 1) := (blk_cell H25.out.2.2.2.2.2.2.2.2.2.1.1 4).trans rfl
 go_wp2_with fail
 refine (res_ok (f := fun l => l) ex_h rfl (held_any planP eA mA (some ⟨sb, 0, none⟩) 4 1 4 [0, 2, 0, 1] 2 0 (by decide) _ H25.out.2.2.2.2.2.2.2.2.2.2.2.1.1 H25.out.2.2.2.2.2.2.2.1.1 (Nat.le_refl _))).mono ?_
 rintro e v17 ⟨A7, c7, rfl, h1, -, hb⟩
 have H26 := Aside0.mk ((H25.out.up hb).row h1)
 clear H25
 clear hb h1
 clear p0 p1 p2 p3 p4
 go_upto_region 13 with fail
 have p0 : v17.cell? ⟨pb, 0, none⟩ = some (.int .i64 planP.N) := (blk_cell H26.out.2.2.2.2.2.2.2.2.2.2.1.1 0).trans rfl
 have p1 : v17.cell? ⟨pb, 1, none⟩ = some (.int .i64 planP.Wd) := (blk_cell H26.out.2.2.2.2.2.2.2.2.2.2.1.1 1).trans rfl
 have p2 : v17.cell? ⟨pb, 2, none⟩ = some (.slice eA planP.E.length 4) := (blk_cell H26.out.2.2.2.2.2.2.2.2.2.2.1.1 2).trans rfl
 have p3 : v17.cell? ⟨pb, 3, none⟩ = some (.int .i64 planP.workers) := (blk_cell H26.out.2.2.2.2.2.2.2.2.2.2.1.1 3).trans rfl
 have p4 : v17.cell? ⟨pb, 4, none⟩ = some (.slice mA planP.start.length 1) := (blk_cell H26.out.2.2.2.2.2.2.2.2.2.2.1.1 4).trans rfl
 refine start_ (n := 9) (S := fun V => V.cell? ⟨pb, 0, none⟩ = some (.int .i64 planP.N) ∧ V.cell? ⟨pb, 1, none⟩ = some (.int .i64 planP.Wd) ∧ V.cell? ⟨pb, 2, none⟩ = some (.slice eA planP.E.length 4) ∧ V.cell? ⟨pb, 3, none⟩ = some (.int .i64 planP.workers) ∧ V.cell? ⟨pb, 4, none⟩ = some (.slice mA planP.start.length 1)) (ds := []) (bs 9 0) (by kernel_rfl) rfl (by kernel_rfl) ⟨p0, p1, p2, p3, p4⟩ (fun hHeld => ?_)
 have H27 := Aside0.mk (H26.out.up (below_drew1 (Below.refl v17.heap.size v17)))
 clear H26
 generalize v17.drew = v18 at *
 have HSH := Lib.hid (fun V (hb : Below v18.heap.size v18 V) => (And.intro (pw_cell_below hb hHeld.1) (And.intro (pw_cell_below hb hHeld.2.1) (And.intro (pw_cell_below hb hHeld.2.2.1) (And.intro (pw_cell_below hb hHeld.2.2.2.1) (pw_cell_below hb hHeld.2.2.2.2))))))
 clear p0 p1 p2 p3 p4
 refine tk5 0 135 (bs 9 1) hHeld ?_
 refine on0 1 136 (bs 9 3) fun K hK => ?_
 refine va0 ?_
 have H28 := Aside0.mk ((H27.out).new (.cells #[.int .i64 5, .int .i64 1] 3) (b := v18.heap.size) (by simp))
 clear H27
 have hb1 := below_new v18 (.cells #[.int .i64 5, .int .i64 1] 3)
 refine hK.out _ _ (HSH.out _ hb1) (fun hHeld => ?_)
 clear hK K
 refine nm0 (some 136) ?_
 refine on0 2 137 (bs 9 7) fun K hK => ?_
 refine gs0 Try.func19 #[.int .i64 2, .slice (some ⟨v18.heap.size, 0, none⟩) 2 2] ?_
 refine (at_any 2 (some ⟨v18.heap.size, 0, none⟩) 2 2 _).mono ?_
 rintro e v19 ⟨rfl, hb⟩
 have H29 := Aside0.mk (H28.out.up hb)
 clear H28
 have hb2 := below_then hb1 hb1.size hb
 refine ⟨_, rfl, hK.out _ _ (HSH.out _ hb2) (fun hHeld => ?_)⟩
 clear hK K
 refine nm0 (some 137) ?_
 have hsz := hb2.size
 clear hb hb1
 generalize v18.heap.size = xb at *
 refine on0 3 138 (bs 9 15) fun K hK => ?_
 refine gs0 Try.func23 #[planV planP eA 4 mA 1, .slice none 0 0, .int .i64 1, .agg #[.int .i64 2, .slice (some ⟨xb, 0, none⟩) 2 2]] ?_
 refine (toldE_any planP eA mA none (some ⟨xb, 0, none⟩) 4 1 0 2 [] 1 2 [5, 1] _ H29.out.2.2.2.2.2.2.2.2.2.2.2.2.2.1.1 (Kd.C_nil kI _) (Nat.le_refl _) (lit_int2 H29.out.1.1)).mono ?_
 rintro e v20 ⟨rfl, hb⟩
 rw [ex_o1]
 simp only [toldR]
 have H30 := Aside0.mk (H29.out.up hb)
 clear H29
 have hb3 := below_then hb2 hsz hb
 refine ⟨_, rfl, hK.out _ _ (HSH.out _ hb3) (fun hHeld => ?_)⟩
 clear hK K
 refine nm0 (some 138) ?_
 clear hb hb2 hb3 hsz HSH hHeld
 have H31 := Aside0.mk (H30.out.2)
 clear H30
 skip
 refine pu 4 134 (bs 9 31) ?_
 refine pu 5 139 (bs 9 63) ?_
 refine pu 6 140 (bs 9 127) ?_
 refine pu 7 18 (bs 9 255) ?_
 refine pu 8 9 (bs 9 511) ?_
 refine dn0 ?_
 go_upto_region 14 with fail
 have p0 : v20.cell? ⟨pb, 0, none⟩ = some (.int .i64 planP.N) := (blk_cell H31.out.2.2.2.2.2.2.2.2.2.2.1.1 0).trans rfl
 have p1 : v20.cell? ⟨pb, 1, none⟩ = some (.int .i64 planP.Wd) := (blk_cell H31.out.2.2.2.2.2.2.2.2.2.2.1.1 1).trans rfl
 have p2 : v20.cell? ⟨pb, 2, none⟩ = some (.slice eA planP.E.length 4) := (blk_cell H31.out.2.2.2.2.2.2.2.2.2.2.1.1 2).trans rfl
 have p3 : v20.cell? ⟨pb, 3, none⟩ = some (.int .i64 planP.workers) := (blk_cell H31.out.2.2.2.2.2.2.2.2.2.2.1.1 3).trans rfl
 have p4 : v20.cell? ⟨pb, 4, none⟩ = some (.slice mA planP.start.length 1) := (blk_cell H31.out.2.2.2.2.2.2.2.2.2.2.1.1 4).trans rfl
 refine start_ (n := 9) (S := fun V => V.cell? ⟨pb, 0, none⟩ = some (.int .i64 planP.N) ∧ V.cell? ⟨pb, 1, none⟩ = some (.int .i64 planP.Wd) ∧ V.cell? ⟨pb, 2, none⟩ = some (.slice eA planP.E.length 4) ∧ V.cell? ⟨pb, 3, none⟩ = some (.int .i64 planP.workers) ∧ V.cell? ⟨pb, 4, none⟩ = some (.slice mA planP.start.length 1)) (ds := []) (bs 9 0) (by kernel_rfl) rfl (by kernel_rfl) ⟨p0, p1, p2, p3, p4⟩ (fun hHeld => ?_)
 have H32 := Aside0.mk (H31.out.up (below_drew1 (Below.refl v20.heap.size v20)))
 clear H31
 generalize v20.drew = v21 at *
 have HSH := Lib.hid (fun V (hb : Below v21.heap.size v21 V) => (And.intro (pw_cell_below hb hHeld.1) (And.intro (pw_cell_below hb hHeld.2.1) (And.intro (pw_cell_below hb hHeld.2.2.1) (And.intro (pw_cell_below hb hHeld.2.2.2.1) (pw_cell_below hb hHeld.2.2.2.2))))))
 clear p0 p1 p2 p3 p4
 refine tk5 0 142 (bs 9 1) hHeld ?_
 refine on0 1 143 (bs 9 3) fun K hK => ?_
 refine va0 ?_
 have H33 := Aside0.mk ((H32.out).new (.cells #[.int .i64 5, .int .i64 1] 3) (b := v21.heap.size) (by simp))
 clear H32
 have hb1 := below_new v21 (.cells #[.int .i64 5, .int .i64 1] 3)
 refine hK.out _ _ (HSH.out _ hb1) (fun hHeld => ?_)
 clear hK K
 refine nm0 (some 143) ?_
 refine on0 2 144 (bs 9 7) fun K hK => ?_
 refine gs0 Try.func19 #[.int .i64 2, .slice (some ⟨v21.heap.size, 0, none⟩) 2 2] ?_
 refine (at_any 2 (some ⟨v21.heap.size, 0, none⟩) 2 2 _).mono ?_
 rintro e v22 ⟨rfl, hb⟩
 have H34 := Aside0.mk (H33.out.up hb)
 clear H33
 have hb2 := below_then hb1 hb1.size hb
 refine ⟨_, rfl, hK.out _ _ (HSH.out _ hb2) (fun hHeld => ?_)⟩
 clear hK K
 refine nm0 (some 144) ?_
 have hsz := hb2.size
 clear hb hb1
 generalize v21.heap.size = xb at *
 refine on0 3 145 (bs 9 15) fun K hK => ?_
 refine gs0 Try.func23 #[planV planP eA 4 mA 1, .slice none 0 0, .int .i64 0, .agg #[.int .i64 2, .slice (some ⟨xb, 0, none⟩) 2 2]] ?_
 refine (toldE_any planP eA mA none (some ⟨xb, 0, none⟩) 4 1 0 2 [] 0 2 [5, 1] _ H34.out.2.2.2.2.2.2.2.2.2.2.2.2.2.1.1 (Kd.C_nil kI _) (Nat.le_refl _) (lit_int2 H34.out.1.1)).mono ?_
 rintro e v23 ⟨rfl, hb⟩
 rw [ex_o2]
 simp only [toldR]
 have H35 := Aside0.mk (H34.out.up hb)
 clear H34
 have hb3 := below_then hb2 hsz hb
 refine ⟨_, rfl, hK.out _ _ (HSH.out _ hb3) (fun hHeld => ?_)⟩
 clear hK K
 refine nm0 (some 145) ?_
 clear hb hb2 hb3 hsz HSH hHeld
 have H36 := Aside0.mk (H35.out.2)
 clear H35
 skip
 refine pu 4 141 (bs 9 31) ?_
 refine pu 5 146 (bs 9 63) ?_
 refine pu 6 147 (bs 9 127) ?_
 refine pu 7 19 (bs 9 255) ?_
 refine pu 8 11 (bs 9 511) ?_
 refine dn0 ?_
 go_upto_region 15 with fail
 have p0 : v23.cell? ⟨pb, 0, none⟩ = some (.int .i64 planP.N) := (blk_cell H36.out.2.2.2.2.2.2.2.2.2.2.1.1 0).trans rfl
 have p1 : v23.cell? ⟨pb, 1, none⟩ = some (.int .i64 planP.Wd) := (blk_cell H36.out.2.2.2.2.2.2.2.2.2.2.1.1 1).trans rfl
 have p2 : v23.cell? ⟨pb, 2, none⟩ = some (.slice eA planP.E.length 4) := (blk_cell H36.out.2.2.2.2.2.2.2.2.2.2.1.1 2).trans rfl
 have p3 : v23.cell? ⟨pb, 3, none⟩ = some (.int .i64 planP.workers) := (blk_cell H36.out.2.2.2.2.2.2.2.2.2.2.1.1 3).trans rfl
 have p4 : v23.cell? ⟨pb, 4, none⟩ = some (.slice mA planP.start.length 1) := (blk_cell H36.out.2.2.2.2.2.2.2.2.2.2.1.1 4).trans rfl
 refine start_ (n := 9) (S := fun V => V.cell? ⟨pb, 0, none⟩ = some (.int .i64 planP.N) ∧ V.cell? ⟨pb, 1, none⟩ = some (.int .i64 planP.Wd) ∧ V.cell? ⟨pb, 2, none⟩ = some (.slice eA planP.E.length 4) ∧ V.cell? ⟨pb, 3, none⟩ = some (.int .i64 planP.workers) ∧ V.cell? ⟨pb, 4, none⟩ = some (.slice mA planP.start.length 1)) (ds := []) (bs 9 0) (by kernel_rfl) rfl (by kernel_rfl) ⟨p0, p1, p2, p3, p4⟩ (fun hHeld => ?_)
 have H37 := Aside0.mk (H36.out.up (below_drew1 (Below.refl v23.heap.size v23)))
 clear H36
 generalize v23.drew = v24 at *
 have HSH := Lib.hid (fun V (hb : Below v24.heap.size v24 V) => (And.intro (pw_cell_below hb hHeld.1) (And.intro (pw_cell_below hb hHeld.2.1) (And.intro (pw_cell_below hb hHeld.2.2.1) (And.intro (pw_cell_below hb hHeld.2.2.2.1) (pw_cell_below hb hHeld.2.2.2.2))))))
 clear p0 p1 p2 p3 p4
 refine tk5 0 149 (bs 9 1) hHeld ?_
 refine on0 1 150 (bs 9 3) fun K hK => ?_
 refine va0 ?_
 have H38 := Aside0.mk ((H37.out).new (.cells #[.int .i64 5, .int .i64 0] 3) (b := v24.heap.size) (by simp))
 clear H37
 have hb1 := below_new v24 (.cells #[.int .i64 5, .int .i64 0] 3)
 refine hK.out _ _ (HSH.out _ hb1) (fun hHeld => ?_)
 clear hK K
 refine nm0 (some 150) ?_
 refine on0 2 151 (bs 9 7) fun K hK => ?_
 refine gs0 Try.func19 #[.int .i64 2, .slice (some ⟨v24.heap.size, 0, none⟩) 2 2] ?_
 refine (at_any 2 (some ⟨v24.heap.size, 0, none⟩) 2 2 _).mono ?_
 rintro e v25 ⟨rfl, hb⟩
 have H39 := Aside0.mk (H38.out.up hb)
 clear H38
 have hb2 := below_then hb1 hb1.size hb
 refine ⟨_, rfl, hK.out _ _ (HSH.out _ hb2) (fun hHeld => ?_)⟩
 clear hK K
 refine nm0 (some 151) ?_
 have hsz := hb2.size
 clear hb hb1
 generalize v24.heap.size = xb at *
 refine on0 3 152 (bs 9 15) fun K hK => ?_
 refine gs0 Try.func23 #[planV planP eA 4 mA 1, .slice none 0 0, .int .i64 1, .agg #[.int .i64 2, .slice (some ⟨xb, 0, none⟩) 2 2]] ?_
 refine (toldE_any planP eA mA none (some ⟨xb, 0, none⟩) 4 1 0 2 [] 1 2 [5, 0] _ H39.out.2.2.2.2.2.2.2.2.2.2.2.2.2.1.1 (Kd.C_nil kI _) (Nat.le_refl _) (lit_int2 H39.out.1.1)).mono ?_
 rintro e v26 ⟨rfl, hb⟩
 rw [ex_o3]
 simp only [toldR]
 have H40 := Aside0.mk (H39.out.up hb)
 clear H39
 have hb3 := below_then hb2 hsz hb
 refine ⟨_, rfl, hK.out _ _ (HSH.out _ hb3) (fun hHeld => ?_)⟩
 clear hK K
 refine nm0 (some 152) ?_
 clear hb hb2 hb3 hsz HSH hHeld
 have H41 := Aside0.mk (H40.out.2)
 clear H40
 skip
 refine pu 4 148 (bs 9 31) ?_
 refine pu 5 153 (bs 9 63) ?_
 refine pu 6 154 (bs 9 127) ?_
 refine pu 7 20 (bs 9 255) ?_
 refine pu 8 13 (bs 9 511) ?_
 refine dn0 ?_
 go_upto_region 16 with fail
 go_wp2_with fail
 have H42 := Aside0.mk ((H41.out).new (.cells #[.int .i64 0, .int .i64 0] 3) (b := v26.heap.size) (by simp))
 clear H41
 refine (at_any 0 (some ⟨v26.heap.size, 0, none⟩) 2 2 _).mono ?_
 rintro e v27 ⟨rfl, hb⟩
 have H43 := Aside0.mk (H42.out.up hb)
 clear H42
 clear hb
 generalize v26.heap.size = ma at *
 go_wp2_with fail
 have H44 := Aside0.mk ((H43.out).new (.cells #[.int .i64 0, .int .i64 0] 3) (b := v27.heap.size) (by simp))
 clear H43
 refine (at_any 1 (some ⟨v27.heap.size, 0, none⟩) 2 2 _).mono ?_
 rintro e v28 ⟨rfl, hb⟩
 have H45 := Aside0.mk (H44.out.up hb)
 clear H44
 clear hb
 generalize v27.heap.size = mb at *
 go_wp2_with fail
 have H46 := Aside0.mk ((H45.out).new (.cells #[.int .i64 0, .int .i64 1] 3) (b := v28.heap.size) (by simp))
 clear H45
 refine (at_any 2 (some ⟨v28.heap.size, 0, none⟩) 2 2 _).mono ?_
 rintro e v29 ⟨rfl, hb⟩
 have H47 := Aside0.mk (H46.out.up hb)
 clear H46
 clear hb
 generalize v28.heap.size = mc at *
 go_wp2_with fail
 have H48 := Aside0.mk ((H47.out).new (.cells #[.int .i64 0, .slice (some ⟨ma, 0, none⟩) 2 2, .int .i64 1, .int .i64 1, .slice (some ⟨mb, 0, none⟩) 2 2, .int .i64 (-1), .int .i64 2, .slice (some ⟨mc, 0, none⟩) 2 2, .int .i64 1] 76) (b := v29.heap.size) (by simp))
 clear H47
 have hl : kMs.C ((v29).alloc (.cells #[.int .i64 0, .slice (some ⟨ma, 0, none⟩) 2 2, .int .i64 1, .int .i64 1, .slice (some ⟨mb, 0, none⟩) 2 2, .int .i64 (-1), .int .i64 2, .slice (some ⟨mc, 0, none⟩) 2 2, .int .i64 1] 76)) (some ⟨v29.heap.size, 0, none⟩) 3 [((0, [0, 0]), 1), ((1, [0, 0]), -1), ((2, [0, 1]), 1)] := C_lits (xs := [((0, [0, 0]), 1), ((1, [0, 0]), -1), ((2, [0, 1]), 1)]) [[.int .i64 0, .slice (some ⟨ma, 0, none⟩) 2 2, .int .i64 1], [.int .i64 1, .slice (some ⟨mb, 0, none⟩) 2 2, .int .i64 (-1)], [.int .i64 2, .slice (some ⟨mc, 0, none⟩) 2 2, .int .i64 1]] H48.out.1.1 ⟨⟨_, _, rfl, ⟨_, _, rfl, rfl, K_li (lit_int2 H48.out.2.2.2.1.1) rfl (Nat.le_refl _)⟩, rfl⟩, ⟨_, _, rfl, ⟨_, _, rfl, rfl, K_li (lit_int2 H48.out.2.2.1.1) rfl (Nat.le_refl _)⟩, rfl⟩, ⟨_, _, rfl, ⟨_, _, rfl, rfl, K_li (lit_int2 H48.out.2.1.1) rfl (Nat.le_refl _)⟩, rfl⟩, trivial⟩ (by decide)
 refine (counts_same _ _ _ _ _ [((0, [0, 0]), 1), ((1, [0, 0]), -1), ((2, [0, 1]), 1)] H48.out.2.2.2.2.2.1.1 hl).mono ?_
 rintro e v30 ⟨rfl, hb⟩
 have H49 := Aside0.mk (H48.out.up hb)
 clear H48
 clear hb hl
 go_wp2_with fail
 have H50 := Aside0.mk ((H49.out).new (.cells #[.int .i64 0, .int .i64 1] 3) (b := v30.heap.size) (by simp))
 clear H49
 refine (at_any 2 (some ⟨v30.heap.size, 0, none⟩) 2 2 _).mono ?_
 rintro e v31 ⟨rfl, hb⟩
 have H51 := Aside0.mk (H50.out.up hb)
 clear H50
 clear hb
 generalize v30.heap.size = md at *
 go_wp2_with fail
 have H52 := Aside0.mk ((H51.out).new (.cells #[.int .i64 2, .slice (some ⟨md, 0, none⟩) 2 2] 48) (b := v31.heap.size) (by simp))
 clear H51
 have hl : kMk.C ((v31).alloc (.cells #[.int .i64 2, .slice (some ⟨md, 0, none⟩) 2 2] 48)) (some ⟨v31.heap.size, 0, none⟩) 1 [(2, [0, 1])] := C_lits (xs := [(2, [0, 1])]) [[.int .i64 2, .slice (some ⟨md, 0, none⟩) 2 2]] H52.out.1.1 ⟨⟨_, _, rfl, rfl, K_li (lit_int2 H52.out.2.1.1) rfl (Nat.le_refl _)⟩, trivial⟩ (by decide)
 refine (marks_same _ _ _ _ _ [(2, [0, 1])] H52.out.2.2.2.2.2.2.1.1 hl).mono ?_
 rintro e v32 ⟨rfl, hb⟩
 have H53 := Aside0.mk (H52.out.up hb)
 clear H52
 clear hb hl
 have p0 : v32.cell? ⟨pb, 0, none⟩ = some (.int .i64 planP.N) := (blk_cell H53.out.2.2.2.2.2.2.2.2.2.2.2.2.2.2.2.2.1.1 0).trans rfl
 have p1 : v32.cell? ⟨pb, 1, none⟩ = some (.int .i64 planP.Wd) := (blk_cell H53.out.2.2.2.2.2.2.2.2.2.2.2.2.2.2.2.2.1.1 1).trans rfl
 have p2 : v32.cell? ⟨pb, 2, none⟩ = some (.slice eA planP.E.length 4) := (blk_cell H53.out.2.2.2.2.2.2.2.2.2.2.2.2.2.2.2.2.1.1 2).trans rfl
 have p3 : v32.cell? ⟨pb, 3, none⟩ = some (.int .i64 planP.workers) := (blk_cell H53.out.2.2.2.2.2.2.2.2.2.2.2.2.2.2.2.2.1.1 3).trans rfl
 have p4 : v32.cell? ⟨pb, 4, none⟩ = some (.slice mA planP.start.length 1) := (blk_cell H53.out.2.2.2.2.2.2.2.2.2.2.2.2.2.2.2.2.1.1 4).trans rfl
 go_wp2_with fail
 refine (check_any planP eA mA 4 1 _ H53.out.2.2.2.2.2.2.2.2.2.2.2.2.2.2.2.2.2.2.1.1).mono ?_
 rintro e v33 ⟨rfl, hb⟩
 rw [ex_check]
 have H54 := Aside0.mk (H53.out.up hb)
 clear H53
 clear hb p0 p1 p2 p3 p4
 go_wp2_with fail
 go_ret
 exact ⟨rfl, H54.out.2.2.2.2.2.2.2.2.2.2.2.2.2.2.2.2.2.2.2.1.1⟩
end Go.Proofs.Ytbkfnmgkcgnifaa
namespace Go.Proofs.Ytbkfnmgkcgnifaa.Mdl
def LeT (a b : Tm) : Prop := a.1 ≤ b.1 ∧ a.2.1 ≤ b.2.1 ∧ a.2.2 ≤ b.2.2
theorem leT_iff {a b : Tm} : leT a b = true ↔ LeT a b := by simp [leT, LeT, and_assoc]
theorem LeT.refl (a : Tm) : LeT a a := ⟨Int.le_refl _, Int.le_refl _, Int.le_refl _⟩
theorem LeT.trans {a b c : Tm} (h : LeT a b) (k : LeT b c) : LeT a c := ⟨Int.le_trans h.1 k.1, Int.le_trans h.2.1 k.2.1, Int.le_trans h.2.2 k.2.2⟩
theorem LeT.anti {a b : Tm} (h : LeT a b) (k : LeT b a) : a = b := Prod.ext (Int.le_antisymm h.1 k.1) (Prod.ext (Int.le_antisymm h.2.1 k.2.1) (Int.le_antisymm h.2.2 k.2.2))
def addT (a b : Tm) : Tm := (a.1 + b.1, a.2.1 + b.2.1, a.2.2 + b.2.2)
def TmIn (B : Int) (t : Tm) : Prop := (0 ≤ t.1 ∧ t.1 ≤ B) ∧ (0 ≤ t.2.1 ∧ t.2.1 ≤ B) ∧ (0 ≤ t.2.2 ∧ t.2.2 ≤ B)
theorem TmIn.mono {B C : Int} {t : Tm} (h : TmIn B t) (hB : B ≤ C) : TmIn C t := by unfold TmIn at *; omega
theorem plusT_add {a b : Tm} {B C : Int} (ha : TmIn B a) (hb : TmIn C b) (hB : B + C ≤ 1000000000) : plusT a b = addT a b ∧ TmIn (B + C) (addT a b) := by
 unfold TmIn at *
 refine ⟨?_, by simp only [addT]; omega⟩
 simp only [plusT, addT]
 rw [w64_in (by omega) (by omega), w64_in (by omega) (by omega), w64_in (by omega) (by omega)]
theorem firstsFold_sub : ∀ (d out : List Tm) (x : Tm), x ∈ d.foldl stepF out → x ∈ out ∨ x ∈ d
 | [], _, _, h => .inl h
 | t :: d, out, x, h => by
  rcases firstsFold_sub d (stepF out t) x h with h | h
  ·unfold stepF at h
   split at h
   ·exact .inl h
   ·rcases List.mem_append.1 h with h | h
    ·exact .inl h
    ·rw [List.mem_singleton.1 h]; exact .inr List.mem_cons_self
  ·exact .inr (List.mem_cons_of_mem _ h)
theorem firstsFold_keep : ∀ (d out : List Tm) (x : Tm), x ∈ out → x ∈ d.foldl stepF out
 | [], _, _, h => h
 | t :: d, out, x, h => firstsFold_keep d (stepF out t) x (by unfold stepF; split; exact h; exact List.mem_append_left _ h)
theorem firstsFold_cover : ∀ (d out : List Tm) (y : Tm), y ∈ d → ∃ x ∈ d.foldl stepF out, LeT x y
 | t :: d, out, y, h => by
  rcases List.mem_cons.1 h with h | h
  ·subst h
   by_cases hc : out.any (fun o => leT o y) = true
   ·obtain ⟨o, ho, hl⟩ := List.any_eq_true.1 hc
    exact ⟨o, firstsFold_keep d (stepF out y) o (by unfold stepF; rw [if_pos hc]; exact ho), leT_iff.1 hl⟩
   ·exact ⟨y, firstsFold_keep d (stepF out y) y (by unfold stepF; rw [if_neg hc]; simp), LeT.refl _⟩
  ·exact firstsFold_cover d (stepF out t) y h
def Apart (l : List Tm) : Prop := l.Pairwise (fun a b => ¬ LeT a b ∧ ¬ LeT b a)
theorem le_cmp {a b : Tm} (h : LeT a b) : cmpT a b ≤ 0 := by
 rw [cmpT_le]; unfold LeT at h; omega
theorem firstsFold_apart : ∀ (d out : List Tm), Apart out → Strict (out ++ d) → Apart (d.foldl stepF out) ∧ Strict (d.foldl stepF out)
 | [], out, h, hs => ⟨h, by simpa using hs⟩
 | t :: d, out, h, hs => by
  have hs2 := List.pairwise_append.1 hs
  rw [List.foldl_cons]
  by_cases hc : out.any (fun o => leT o t) = true
  ·rw [show stepF out t = out by unfold stepF; rw [if_pos hc]]
   exact firstsFold_apart d out h (List.pairwise_append.2 ⟨hs2.1, (List.pairwise_cons.1 hs2.2.1).2, fun a ha b hb => hs2.2.2 a ha b (List.mem_cons_of_mem _ hb)⟩)
  ·rw [show stepF out t = out ++ [t] by unfold stepF; rw [if_neg hc]]
   refine firstsFold_apart d _ (List.pairwise_append.2 ⟨h, List.pairwise_singleton _ _, fun a ha b hb => ?_⟩) (by simpa using hs)
   rw [List.mem_singleton.1 hb]
   refine ⟨fun hl => hc (List.any_eq_true.2 ⟨a, ha, leT_iff.2 hl⟩), fun hl => ?_⟩
   have h1 := le_cmp hl
   have h2 := hs2.2.2 a ha t List.mem_cons_self
   rw [cmpT_neg] at h1; omega
theorem firsts_base (l : List Tm) : Strict (dedup (sortT l)) ∧ ∀ x, x ∈ dedup (sortT l) ↔ x ∈ l := by
 obtain ⟨s1, p1⟩ := sortL_spec ordT (l := l) (fun _ _ => trivial)
 exact ⟨dedup_strict _ s1, fun x => (dedup_mem _ _).trans p1.mem_iff⟩
theorem firsts_sub {l : List Tm} {x : Tm} (h : x ∈ firstsT l) : x ∈ l := by
 rcases firstsFold_sub _ _ _ h with h | h
 ·cases h
 ·exact ((firsts_base l).2 x).1 h
theorem firsts_cover {l : List Tm} {y : Tm} (h : y ∈ l) : ∃ x ∈ firstsT l, LeT x y := firstsFold_cover _ _ _ (((firsts_base l).2 y).2 h)
theorem firsts_apart (l : List Tm) : Apart (firstsT l) ∧ Strict (firstsT l) := firstsFold_apart _ [] List.Pairwise.nil (by simpa using (firsts_base l).1)
theorem apart_eq : ∀ {l : List Tm}, Apart l → ∀ {x y : Tm}, x ∈ l → y ∈ l → LeT x y → x = y
 | a :: l, h, x, y, hx, hy, hl => by
  have h1 := List.pairwise_cons.1 h
  rcases List.mem_cons.1 hx with hx | hx <;> rcases List.mem_cons.1 hy with hy | hy
  ·rw [hx, hy]
  ·exact absurd (hx ▸ hl) (h1.1 y hy).1
  ·exact absurd (hy ▸ hl) (h1.1 x hx).2
  ·exact apart_eq h1.2 hx hy hl
theorem firsts_eq {l : List Tm} {x y : Tm} (hx : x ∈ firstsT l) (hy : y ∈ firstsT l) (h : LeT x y) : x = y := apart_eq (firsts_apart l).1 hx hy h
theorem firsts_one {l : List Tm} {z : Tm} (hz : z ∈ l) (h : ∀ x ∈ l, x = z) : firstsT l = [z] := by
 obtain ⟨x, hx, _⟩ := firsts_cover hz
 have h2 : ∀ x ∈ firstsT l, x = z := fun x hx => h x (firsts_sub hx)
 have ha := (firsts_apart l).1
 match hf : firstsT l with
 | [] => rw [hf] at hx; cases hx
 | [a] => rw [hf] at h2; rw [h2 a List.mem_cons_self]
 | a :: b :: r =>
  rw [hf] at ha h2
  have e1 := h2 a List.mem_cons_self
  have e2 := h2 b (List.mem_cons_of_mem _ List.mem_cons_self)
  rw [e1, e2] at ha
  exact absurd (LeT.refl z) ((List.pairwise_cons.1 ha).1 z List.mem_cons_self).1
def IsWay (E : List Ed) (b : Int) : Int → List Ed → Prop
 | a, [] => a = b
 | a, e :: P => e ∈ E ∧ e.1 = a ∧ IsWay E b e.2.1 P
def sumW : List Ed → Tm
 | [] => (0, 0, 0)
 | e :: P => addT (tmOf e.2.2) (sumW P)
def sumS (s : Tm) (P : List Ed) : Tm := P.foldl (fun s e => plusT s (tmOf e.2.2)) s
def Free : List Bool → Nat → List Ed → Prop
 | _, _, [] => True
 | on, n, e :: P => (on.set n true).getD e.2.1.toNat false = false ∧ Free (on.set n true) e.2.1.toNat P
theorem IsWay.append {E : List Ed} {b c : Int} : ∀ {P : List Ed} {a : Int} {Q : List Ed}, IsWay E b a P → IsWay E c b Q → IsWay E c a (P ++ Q)
 | [], _, _, h, k => by cases h; exact k
 | _ :: _, _, _, h, k => ⟨h.1, h.2.1, h.2.2.append k⟩
theorem addT_zero (s : Tm) : addT s (0, 0, 0) = s := by simp [addT]
theorem zero_addT (s : Tm) : addT (0, 0, 0) s = s := by simp [addT]
theorem addT_assoc (a b c : Tm) : addT (addT a b) c = addT a (addT b c) := by simp [addT, Int.add_assoc]
theorem sumW_append : ∀ (P Q : List Ed), sumW (P ++ Q) = addT (sumW P) (sumW Q)
 | [], Q => (zero_addT _).symm
 | e :: P, Q => by simp only [List.cons_append, sumW, sumW_append P Q, addT_assoc]
def EdIn (N : Int) (E : List Ed) : Prop := ∀ e ∈ E, (0 ≤ e.1 ∧ e.1 < N) ∧ (0 ≤ e.2.1 ∧ e.2.1 < N) ∧ TmIn 100 (tmOf e.2.2)
theorem way_mem {E : List Ed} {b : Int} : ∀ {P : List Ed} {a : Int}, IsWay E b a P → ∀ e ∈ P, e ∈ E
 | _ :: P, _, h, e, he => by
  rcases List.mem_cons.1 he with he | he
  ·rw [he]; exact h.1
  ·exact way_mem h.2.2 e he
theorem sumW_in {E : List Ed} {N : Int} (hE : EdIn N E) : ∀ {P : List Ed}, (∀ e ∈ P, e ∈ E) → TmIn (100 * P.length) (sumW P)
 | [], _ => by simp [TmIn, sumW]
 | e :: P, h => by
  have h1 := (hE e (h e List.mem_cons_self)).2.2
  have h2 := sumW_in hE (P := P) (fun x hx => h x (List.mem_cons_of_mem _ hx))
  unfold TmIn at *
  simp only [sumW, addT, List.length_cons]
  omega
theorem sumS_eq {E : List Ed} {N : Int} (hE : EdIn N E) : ∀ {P : List Ed} {s : Tm} {B : Int}, (∀ e ∈ P, e ∈ E) → TmIn B s → B + 100 * P.length ≤ 1000000 → sumS s P = addT s (sumW P)
 | [], s, B, _, _, _ => (addT_zero s).symm
 | e :: P, s, B, h, hs, hB => by
  rw [List.length_cons] at hB
  obtain ⟨e1, e2⟩ := plusT_add hs (hE e (h e List.mem_cons_self)).2.2 (by omega)
  have := sumS_eq hE (P := P) (s := plusT s (tmOf e.2.2)) (B := B + 100) (fun x hx => h x (List.mem_cons_of_mem _ hx)) (by rw [e1]; exact e2) (by omega)
  show sumS (plusT s (tmOf e.2.2)) P = _
  rw [this, e1, addT_assoc]; rfl
theorem fold_mem {start : Int} {n : Nat} {sum : Tm} {on1 : List Bool} {rec} {K : Nat} {S : Ed → Nat → Tm → Prop} {E : List Ed}
  (hrec : ∀ e ∈ E, e.1 = (n : Int) → on1.getD e.2.1.toNat false = false → ∀ r x, r.length = K → rec e.2.1.toNat (plusT sum (tmOf e.2.2)) r on1 = some x → x.length = K ∧ ∀ v, v < K → ∀ t, t ∈ x.getD v [] ↔ t ∈ r.getD v [] ∨ S e v t) :
  ∀ (F : List Ed) (r r' : List (List Tm)), (∀ e ∈ F, e ∈ E) → r.length = K → F.foldl (edgeS start n sum on1 rec) (some r) = some r' → r'.length = K ∧ ∀ v, v < K → ∀ t, t ∈ r'.getD v [] ↔ t ∈ r.getD v [] ∨ ∃ e ∈ F, e.1 = (n : Int) ∧ on1.getD e.2.1.toNat false = false ∧ S e v t
 | [], r, r', _, hr, he => by cases he; exact ⟨hr, fun v _ t => by simp⟩
 | e :: F, r, r', hF, hr, he => by
  rw [List.foldl_cons] at he
  cases hx : edgeS start n sum on1 rec (some r) e with
  | none => rw [hx, foldl_none] at he; cases he
  | some x =>
   rw [hx] at he
   simp only [edgeS, Option.bind_some] at hx
   have ih := fun hxl => fold_mem hrec F x r' (fun e he => hF e (List.mem_cons_of_mem _ he)) hxl he
   split at hx
   ·rename_i hc
    split at hx
    ·cases hx
    ·cases hx
     obtain ⟨h1, h2⟩ := ih hr
     refine ⟨h1, fun v hv t => (h2 v hv t).trans ?_⟩
     constructor
     ·rintro (h | ⟨e', he', h⟩)
      ·exact .inl h
      ·exact .inr ⟨e', List.mem_cons_of_mem _ he', h⟩
     ·rintro (h | ⟨e', he', h1, h2, h3⟩)
      ·exact .inl h
      ·rcases List.mem_cons.1 he' with he' | he'
       ·subst he'
        rcases hc with hc | hc
        ·exact absurd h1 hc
        ·rw [h2] at hc; cases hc
       ·exact .inr ⟨e', he', h1, h2, h3⟩
   ·rename_i hc
    have hc1 : e.1 = (n : Int) := Classical.byContradiction fun h => hc (.inl h)
    have hc2 : on1.getD e.2.1.toNat false = false := by
     cases h : on1.getD e.2.1.toNat false with
     | false => rfl
     | true => exact absurd (.inr h) hc
    obtain ⟨g1, g2⟩ := hrec e (hF e List.mem_cons_self) hc1 hc2 r x hr hx
    obtain ⟨h1, h2⟩ := ih g1
    refine ⟨h1, fun v hv t => (h2 v hv t).trans ?_⟩
    rw [g2 v hv t]
    constructor
    ·rintro ((h | h) | ⟨e', he', h⟩)
     ·exact .inl h
     ·exact .inr ⟨e, List.mem_cons_self, hc1, hc2, h⟩
     ·exact .inr ⟨e', List.mem_cons_of_mem _ he', h⟩
    ·rintro (h | ⟨e', he', h1, h2, h3⟩)
     ·exact .inl (.inl h)
     ·rcases List.mem_cons.1 he' with he' | he'
      ·subst he'; exact .inl (.inr h3)
      ·exact .inr ⟨e', he', h1, h2, h3⟩
theorem mem_walk {E : List Ed} {start : Int} {K : Nat} (hE : ∀ e ∈ E, 0 ≤ e.2.1 ∧ e.2.1.toNat < K) : ∀ (f n : Nat) (sum : Tm) (rows : List (List Tm)) (on : List Bool) (rows' : List (List Tm)), rows.length = K → n < K → walkP E start f n sum rows on = some rows' →
  rows'.length = K ∧ ∀ v, v < K → ∀ t, t ∈ rows'.getD v [] ↔ t ∈ rows.getD v [] ∨ ∃ P, P.length < f ∧ IsWay E (v : Int) (n : Int) P ∧ Free on n P ∧ sumS sum P = t
 | 0, n, sum, rows, on, rows', hr, hn, he => by
  simp only [walkP] at he; cases he
  exact ⟨hr, fun v _ t => ⟨.inl, fun h => h.elim id (fun ⟨P, hP, _⟩ => absurd hP (by omega))⟩⟩
 | f + 1, n, sum, rows, on, rows', hr, hn, he => by
  simp only [walkP] at he
  obtain ⟨h1, h2⟩ := fold_mem (K := K) (E := E) (S := fun e v t => ∃ P, P.length < f ∧ IsWay E (v : Int) e.2.1 P ∧ Free (on.set n true) e.2.1.toNat P ∧ sumS (plusT sum (tmOf e.2.2)) P = t)
   (fun e he h0 ho r x hr hx => by
    obtain ⟨a, b⟩ := mem_walk hE f _ _ r _ x hr (hE e he).2 hx
    refine ⟨a, fun v hv t => (b v hv t).trans ?_⟩
    rw [Int.toNat_of_nonneg (hE e he).1]) E _ rows' (fun _ h => h) (by rw [List.length_set]; exact hr) he
  refine ⟨h1, fun v hv t => (h2 v hv t).trans ?_⟩
  have hset : t ∈ (rows.set n (rows.getD n [] ++ [sum])).getD v [] ↔ t ∈ rows.getD v [] ∨ (v = n ∧ sum = t) := by
   by_cases hvn : v = n
   ·subst hvn
    rw [getD_set_self _ _ _ _ (by omega), List.mem_append, List.mem_singleton]
    exact ⟨fun h => h.imp id (fun h => ⟨rfl, h.symm⟩), fun h => h.imp id (fun h => h.2.symm)⟩
   ·rw [getD_set_ne _ _ _ (Ne.symm hvn)]
    exact ⟨.inl, fun h => h.elim id (fun h => absurd h.1 hvn)⟩
  rw [hset]
  constructor
  ·rintro ((h | ⟨rfl, rfl⟩) | ⟨e, he, h0, ho, P, hP, hw, hf, hs⟩)
   ·exact .inl h
   ·exact .inr ⟨[], by simp, rfl, trivial, rfl⟩
   ·exact .inr ⟨e :: P, by rw [List.length_cons]; omega, ⟨he, h0, hw⟩, ⟨ho, hf⟩, hs⟩
  ·rintro (h | ⟨P, hP, hw, hf, hs⟩)
   ·exact .inl (.inl h)
   ·cases P with
    | nil =>
     have hw : (n : Int) = v := hw
     exact .inl (.inr ⟨by omega, hs⟩)
    | cons e P =>
     exact .inr ⟨e, hw.1, hw.2.1, hf.1, P, by rw [List.length_cons] at hP; omega, hw.2.2, hf.2, hs⟩
def tgts (P : List Ed) : List Int := P.map (·.2.1)
theorem sum_le {E : List Ed} {N : Int} (hE : EdIn N E) {e : Ed} (he : e ∈ E) {Y P : List Ed} (h : LeT (sumW Y) (sumW P)) : LeT (sumW (e :: Y)) (sumW (e :: P)) ∧ LeT (sumW Y) (sumW (e :: P)) := by
 have := (hE e he).2.2
 unfold TmIn at this
 unfold LeT at *
 simp only [sumW, addT]
 omega
theorem way_cut {E : List Ed} {N : Int} (hE : EdIn N E) {b a : Int} : ∀ (P : List Ed) (n : Int), IsWay E b n P → a ∈ n :: tgts P → (n :: tgts P).Nodup → ∃ Y, IsWay E b a Y ∧ (a :: tgts Y).Nodup ∧ LeT (sumW Y) (sumW P)
 | [], n, h, ha, hn => by
  rcases List.mem_cons.1 ha with ha | ha
  ·subst ha; exact ⟨[], h, hn, LeT.refl _⟩
  ·cases ha
 | e :: P, n, h, ha, hn => by
  rcases List.mem_cons.1 ha with ha | ha
  ·subst ha; exact ⟨_, h, hn, LeT.refl _⟩
  ·obtain ⟨Y, h1, h2, h3⟩ := way_cut hE P e.2.1 h.2.2 ha (List.nodup_cons.1 hn).2
   exact ⟨Y, h1, h2, (sum_le hE h.1 h3).2⟩
theorem way_simple {E : List Ed} {N : Int} (hE : EdIn N E) {b : Int} : ∀ (P : List Ed) (a : Int), IsWay E b a P → ∃ Y, IsWay E b a Y ∧ (a :: tgts Y).Nodup ∧ LeT (sumW Y) (sumW P)
 | [], a, h => ⟨[], h, by simp [tgts], LeT.refl _⟩
 | e :: P, a, h => by
  obtain ⟨Y, h1, h2, h3⟩ := way_simple hE P e.2.1 h.2.2
  by_cases ha : a ∈ e.2.1 :: tgts Y
  ·obtain ⟨Z, g1, g2, g3⟩ := way_cut hE Y e.2.1 h1 ha h2
   exact ⟨Z, g1, g2, (sum_le hE h.1 (g3.trans h3)).2⟩
  ·exact ⟨e :: Y, ⟨h.1, h.2.1, h1⟩, List.nodup_cons.2 ⟨ha, h2⟩, (sum_le hE h.1 h3).1⟩
theorem nodup_le : ∀ (N : Nat) (l : List Int), l.Nodup → (∀ x ∈ l, 0 ≤ x ∧ x < N) → l.length ≤ N
 | 0, [], _, _ => Nat.le_refl _
 | 0, x :: l, _, h => by have := h x List.mem_cons_self; omega
 | N + 1, l, hn, h => by
  by_cases hm : (N : Int) ∈ l
  ·have h1 := List.length_erase_of_mem hm
   have h2 := nodup_le N (l.erase (N : Int)) (hn.erase _) (fun x hx => by
    have h3 := (List.Nodup.mem_erase_iff hn).1 hx
    have := h x h3.2
    have := h3.1
    omega)
   omega
  ·have := nodup_le N l hn (fun x hx => by
    have h1 := h x hx
    have : x ≠ N := fun he => hm (he ▸ hx)
    omega)
   omega
theorem free_of {E : List Ed} {N : Int} (hE : EdIn N E) {b : Int} : ∀ (P : List Ed) (n : Int) (on : List Bool), 0 ≤ n → IsWay E b n P → (n :: tgts P).Nodup → (∀ x ∈ tgts P, on.getD x.toNat false = false) → Free on n.toNat P
 | [], _, _, _, _, _, _ => trivial
 | e :: P, n, on, h0, h, hn, ho => by
  have hp := List.nodup_cons.1 hn
  have hset : ∀ x ∈ tgts (e :: P), (on.set n.toNat true).getD x.toNat false = false := fun x hx => by
   have hne : n ≠ x := fun he => hp.1 (he ▸ hx)
   have h1 := ho x hx
   have hx0 : 0 ≤ x := by
    obtain ⟨e', he', rfl⟩ := List.mem_map.1 hx
    exact (hE e' (way_mem h e' he')).2.1.1
   rw [getD_set_ne _ _ _ (show n.toNat ≠ x.toNat by omega)]
   exact h1
  exact ⟨hset _ List.mem_cons_self, free_of hE P e.2.1 _ (hE e h.1).2.1.1 h.2.2 hp.2 (fun x hx => hset x (List.mem_cons_of_mem _ hx))⟩
theorem free_ne : ∀ (P : List Ed) (n : Nat) (on : List Bool) (m : Nat), m < on.length → (on.set n true).getD m false = true → Free on n P → ∀ e ∈ P, e.2.1.toNat ≠ m
 | e :: P, n, on, m, hm, ho, h, x, hx => by
  rcases List.mem_cons.1 hx with hx | hx
  ·subst hx
   intro he
   have := h.1
   rw [he, ho] at this; cases this
  ·refine free_ne P _ (on.set n true) m (by rw [List.length_set]; exact hm) ?_ h.2 x hx
   by_cases hk : e.2.1.toNat = m
   ·rw [hk, getD_set_self _ _ _ _ (by rw [List.length_set]; exact hm)]
   ·rw [getD_set_ne _ _ _ hk]; exact ho
theorem way_last {E : List Ed} {b : Int} : ∀ {P : List Ed} {a : Int}, IsWay E b a P → P ≠ [] → ∃ X e, P = X ++ [e] ∧ IsWay E e.1 a X ∧ e ∈ E ∧ e.2.1 = b
 | [e], a, h, _ => ⟨[], e, rfl, h.2.1.symm, h.1, h.2.2⟩
 | e :: e2 :: P, a, h, _ => by
  obtain ⟨X, x, h1, h2, h3, h4⟩ := way_last h.2.2 (by simp)
  exact ⟨e :: X, x, by rw [h1]; rfl, ⟨h.1, h.2.1, h2⟩, h3, h4⟩
theorem mapM_idx {α β : Type} {f : α → Option β} : ∀ {l : List α} {r : List β}, l.mapM f = some r → ∀ (i : Nat) (x : α), l[i]? = some x → ∃ y, r[i]? = some y ∧ f x = some y
 | [], r, h, i, x, hi => by simp at hi
 | a :: l, r, h, i, x, hi => by
  rw [List.mapM_cons] at h
  cases hx : f a with
  | none => rw [hx] at h; cases h
  | some y =>
   cases hl : l.mapM f with
   | none => rw [hx, hl] at h; cases h
   | some ys =>
    rw [hx, hl] at h
    injection h with h
    subst h
    cases i with
    | zero => simp at hi; subst hi; exact ⟨y, rfl, hx⟩
    | succ i => simpa using mapM_idx hl i x (by simpa using hi)
theorem edges_in {N Wd : Int} {E : List Ed} (h : ∀ e ∈ E, edgeOk N Wd e = true) (hW : Wd ≤ 3) : EdIn N E := fun e he => by
 have h1 := h e he
 simp only [edgeOk, Bool.and_eq_true, decide_eq_true_eq] at h1
 obtain ⟨h1, h2, h3, h4⟩ := h1
 refine ⟨h1, h2, ?_⟩
 unfold withinB at h4
 simp only [Bool.not_eq_true', List.any_eq_false] at h4
 have hk : ∀ k, 0 ≤ e.2.2.getD k 0 ∧ e.2.2.getD k 0 ≤ 100 := fun k => by
  rw [List.getD_eq_getElem?_getD]
  cases hg : e.2.2[k]? with
  | none => simp
  | some x =>
   have := h4 x (List.mem_of_getElem? hg)
   simp only [outB, Bool.or_eq_true, decide_eq_true_eq, not_or] at this
   simp only [Option.getD_some]; omega
 exact ⟨hk 0, hk 1, hk 2⟩
theorem way_eq {N Wd : Int} {E : List Ed} {ways : Ways} (h : openedP N Wd E = some ways) {a b : Int} (ha : 0 ≤ a ∧ a < N) (hb : 0 ≤ b ∧ b < N) :
  ∃ l, wayAt ways a b.toNat = firstsT l ∧ ∀ t, t ∈ l ↔ ∃ P, P.length < N.toNat ∧ IsWay E b a P ∧ Free (List.replicate N.toNat false) a.toNat P ∧ sumW P = t := by
 obtain ⟨⟨h1, h8, _, h3, h16⟩, he, hm⟩ := opened_ok h
 have hE := edges_in he h3
 obtain ⟨y, hy, hf⟩ := mapM_idx hm a.toNat a.toNat (by rw [List.getElem?_range (by omega)])
 unfold fromP at hf
 obtain ⟨rows, hw, hr⟩ := Option.map_eq_some_iff.1 hf
 obtain ⟨g1, g2⟩ := mem_walk (K := N.toNat) (fun e h => by have := (hE e h).2.1; omega) _ _ _ _ _ _ (by simp) (by omega) hw
 refine ⟨rows.getD b.toNat [], ?_, fun t => (g2 b.toNat (by omega) t).trans ?_⟩
 ·unfold wayAt
  rw [List.getD_eq_getElem?_getD (l := ways), hy, Option.getD_some, ← hr, List.getD_eq_getElem?_getD, List.getElem?_map, List.getElem?_eq_getElem (by omega : b.toNat < rows.length), List.getD_eq_getElem?_getD, List.getElem?_eq_getElem (by omega : b.toNat < rows.length)]
  rfl
 ·have hrep : (List.replicate N.toNat ([] : List Tm)).getD b.toNat [] = [] := by
   rw [List.getD_eq_getElem?_getD, List.getElem?_replicate]; split <;> rfl
  rw [hrep, Int.toNat_of_nonneg ha.1, Int.toNat_of_nonneg hb.1]
  constructor
  ·rintro (h | ⟨P, hP, hw, hf, hs⟩)
   ·cases h
   ·refine ⟨P, hP, hw, hf, ?_⟩
    rw [sumS_eq hE (B := 0) (way_mem hw) (by simp [TmIn]) (by omega), zero_addT] at hs
    exact hs
  ·rintro ⟨P, hP, hw, hf, hs⟩
   refine .inr ⟨P, hP, hw, hf, ?_⟩
   rw [sumS_eq hE (B := 0) (way_mem hw) (by simp [TmIn]) (by omega), zero_addT]
   exact hs
theorem way_sound {N Wd : Int} {E : List Ed} {ways : Ways} (h : openedP N Wd E = some ways) {a b : Int} (ha : 0 ≤ a ∧ a < N) (hb : 0 ≤ b ∧ b < N) {t : Tm} (ht : t ∈ wayAt ways a b.toNat) : ∃ P, P.length < 8 ∧ IsWay E b a P ∧ sumW P = t := by
 obtain ⟨l, h1, h2⟩ := way_eq h ha hb
 rw [h1] at ht
 obtain ⟨P, hP, hw, _, hs⟩ := (h2 t).1 (firsts_sub ht)
 have := (opened_ok h).1.2.1
 exact ⟨P, by omega, hw, hs⟩
theorem way_cover {N Wd : Int} {E : List Ed} {ways : Ways} (h : openedP N Wd E = some ways) {a b : Int} (ha : 0 ≤ a ∧ a < N) (hb : 0 ≤ b ∧ b < N) {P : List Ed} (hw : IsWay E b a P) : ∃ t ∈ wayAt ways a b.toNat, LeT t (sumW P) := by
 obtain ⟨l, h1, h2⟩ := way_eq h ha hb
 obtain ⟨⟨g1, g8, _, g3, g16⟩, he, _⟩ := opened_ok h
 have hE := edges_in he g3
 obtain ⟨Y, k1, k2, k3⟩ := way_simple hE P a hw
 have hin : ∀ x ∈ a :: tgts Y, 0 ≤ x ∧ x < (N.toNat : Int) := fun x hx => by
  rcases List.mem_cons.1 hx with hx | hx
  ·omega
  ·obtain ⟨e, he, rfl⟩ := List.mem_map.1 hx
   have := (hE e (way_mem k1 e he)).2.1
   omega
 have hlen := nodup_le N.toNat _ k2 hin
 rw [List.length_cons, tgts, List.length_map] at hlen
 have hfree := free_of hE Y a (List.replicate N.toNat false) ha.1 k1 k2 (fun x hx => by
  rw [List.getD_eq_getElem?_getD, List.getElem?_replicate]; split <;> rfl)
 obtain ⟨t, ht, hle⟩ := firsts_cover ((h2 (sumW Y)).2 ⟨Y, by omega, k1, hfree, rfl⟩)
 exact ⟨t, by rw [h1]; exact ht, hle.trans k3⟩
theorem way_eq_of_le {ways : Ways} {N Wd : Int} {E : List Ed} (h : openedP N Wd E = some ways) {a b : Int} (ha : 0 ≤ a ∧ a < N) (hb : 0 ≤ b ∧ b < N) {x y : Tm} (hx : x ∈ wayAt ways a b.toNat) (hy : y ∈ wayAt ways a b.toNat) (hl : LeT x y) : x = y := by
 obtain ⟨l, h1, _⟩ := way_eq h ha hb
 rw [h1] at hx hy
 exact firsts_eq hx hy hl
theorem way_self {N Wd : Int} {E : List Ed} {ways : Ways} (h : openedP N Wd E = some ways) {a : Int} (ha : 0 ≤ a ∧ a < N) : wayAt ways a a.toNat = [(0, 0, 0)] := by
 obtain ⟨l, h1, h2⟩ := way_eq h ha ha
 obtain ⟨⟨g1, g8, _, g3, g16⟩, he, _⟩ := opened_ok h
 have hE := edges_in he g3
 rw [h1]
 refine firsts_one ((h2 _).2 ⟨[], by simp; omega, rfl, trivial, rfl⟩) (fun x hx => ?_)
 obtain ⟨P, hP, hw, hf, hs⟩ := (h2 x).1 hx
 cases P with
 | nil => exact hs.symm
 | cons e P =>
  obtain ⟨X, e', h3, _, h5, h6⟩ := way_last hw (by simp)
  have := free_ne _ _ _ a.toNat (by rw [List.length_replicate]; omega) (getD_set_self _ _ _ _ (by rw [List.length_replicate]; omega)) hf e' (by rw [h3]; simp)
  rw [h6] at this
  exact absurd rfl this
end Go.Proofs.Ytbkfnmgkcgnifaa.Mdl
namespace Go.Proofs.Ytbkfnmgkcgnifaa.Mdl
def dn : Note → Mk → Int
 | [], _ => 0
 | e :: n, x => (if e.1 = x then e.2 else 0) + dn n x
def dsum : List Note → Mk → Int
 | [], _ => 0
 | p :: q, x => dn p x + dsum q x
def rsum : List (List Note) → Mk → Int
 | [], _ => 0
 | q :: r, x => dsum q x + rsum r x
def gsum : List Led → Mk → Int
 | [], _ => 0
 | L :: l, x => getL L x + gsum l x
theorem dn_append : ∀ (a b : Note) (x : Mk), dn (a ++ b) x = dn a x + dn b x
 | [], b, x => by simp [dn]
 | e :: a, b, x => by simp only [List.cons_append, dn, dn_append a b x]; omega
theorem dsum_append : ∀ (a b : List Note) (x : Mk), dsum (a ++ b) x = dsum a x + dsum b x
 | [], b, x => by simp [dsum]
 | e :: a, b, x => by simp only [List.cons_append, dsum, dsum_append a b x]; omega
theorem rsum_set (q : List Note) (x : Mk) : ∀ (r : List (List Note)) (k : Nat), k < r.length → rsum (r.set k q) x + dsum (r.getD k []) x = rsum r x + dsum q x
 | p :: r, 0, _ => by simp [rsum]; omega
 | p :: r, k + 1, h => by
  have := rsum_set q x r k (by simpa using h)
  simp only [List.set_cons_succ, rsum, List.getD_cons_succ]; omega
theorem gsum_set (L : Led) (x : Mk) : ∀ (r : List Led) (k : Nat), k < r.length → gsum (r.set k L) x + getL (r.getD k []) x = gsum r x + getL L x
 | p :: r, 0, _ => by simp [gsum]; omega
 | p :: r, k + 1, h => by
  have := gsum_set L x r k (by simpa using h)
  simp only [List.set_cons_succ, gsum, List.getD_cons_succ]; omega
theorem getL_cons (e : Mk × Int) (L : Led) (x : Mk) : getL (e :: L) x = if e.1 = x then e.2 else getL L x := by
 unfold getL
 split
 ·rename_i h; rw [List.find?_cons_of_pos (by simpa using h)]; rfl
 ·rename_i h; rw [List.find?_cons_of_neg (by simpa using h)]
theorem getL_filter {m x : Mk} (h : x ≠ m) : ∀ L : Led, getL (L.filter (fun e => !(e.1 == m))) x = getL L x
 | [] => rfl
 | y :: L => by
  by_cases hy : y.1 = m
  ·rw [List.filter_cons_of_neg (by simpa using hy), getL_filter h L, getL_cons, if_neg (by rw [hy]; exact Ne.symm h)]
  ·rw [List.filter_cons_of_pos (by simpa using hy), getL_cons, getL_cons, getL_filter h L]
theorem getL_ins (m : Mk) (s : Int) (x : Mk) : ∀ {L : Led}, (∀ e ∈ L, e.1 ≠ m) → getL (insK m s L) x = if x = m then s else getL L x
 | [], _ => by
  rw [show insK m s [] = [(m, s)] from rfl, getL_cons]
  by_cases h : x = m
  ·subst h; simp
  ·rw [if_neg (Ne.symm h), if_neg h]
 | y :: L, hL => by
  have hy := hL y List.mem_cons_self
  have ih := getL_ins m s x (L := L) (fun e he => hL e (List.mem_cons_of_mem _ he))
  unfold insK
  split
  ·rw [getL_cons, ih, getL_cons]
   by_cases h : x = m
   ·subst h; rw [if_neg hy, if_pos rfl, if_pos rfl]
   ·rw [if_neg h, if_neg h]
  ·rw [getL_cons]
   by_cases h : x = m
   ·subst h; simp
   ·rw [if_neg (Ne.symm h), if_neg h]
theorem getL_enter (L : Led) (m : Mk) (n : Int) (x : Mk) : getL (enterL L m n) x = if x = m then w64 (getL L m + n) else getL L x := by
 unfold enterL
 split
 ·rename_i h0
  by_cases h : x = m
  ·subst h; rw [getL_none not_key, if_pos rfl, h0]
  ·rw [getL_filter h, if_neg h]
 ·rw [getL_ins m _ x not_key]
  by_cases h : x = m
  ·rw [if_pos h, if_pos h]
  ·rw [if_neg h, if_neg h, getL_filter h]
theorem enter_nz {L : Led} (m : Mk) (n : Int) (h : ∀ e ∈ L, e.2 ≠ 0) : ∀ e ∈ enterL L m n, e.2 ≠ 0 := by
 intro e he
 unfold enterL at he
 split at he
 ·exact h e (List.mem_filter.1 he).1
 ·rename_i h0
  rcases List.mem_cons.1 ((insK_perm _ _ _).mem_iff.1 he) with he | he
  ·rw [he]; exact h0
  ·exact h e (List.mem_filter.1 he).1
theorem read_nz : ∀ (note : Note) {L : Led}, (∀ e ∈ L, e.2 ≠ 0) → ∀ e ∈ readL L note, e.2 ≠ 0
 | [], _, h => h
 | x :: note, _, h => read_nz note (enter_nz x.1 x.2 h)
theorem getL_read : ∀ (note : Note) (L : Led) (B : Int), (∀ x, -B ≤ getL L x ∧ getL L x ≤ B) → (∀ e ∈ note, -1 ≤ e.2 ∧ e.2 ≤ 1) → B + note.length ≤ 1000000 → ∀ x, getL (readL L note) x = getL L x + dn note x
 | [], L, B, _, _, _, x => by simp [dn, readL]
 | e :: note, L, B, hL, hn, hB, x => by
  rw [List.length_cons] at hB
  have he := hn e List.mem_cons_self
  have hm := hL e.1
  have hw : w64 (getL L e.1 + e.2) = getL L e.1 + e.2 := w64_in (by omega) (by omega)
  have hg : ∀ y, getL (enterL L e.1 e.2) y = getL L y + (if e.1 = y then e.2 else 0) := fun y => by
   rw [getL_enter, hw]
   by_cases h : y = e.1
   ·subst h; simp
   ·rw [if_neg h, if_neg (Ne.symm h)]; omega
  have ih := getL_read note (enterL L e.1 e.2) (B + 1) (fun y => by
   rw [hg y]
   have := hL y
   split <;> omega) (fun y hy => hn y (List.mem_cons_of_mem _ hy)) (by omega) x
  show getL (readL (enterL L e.1 e.2) note) x = _
  rw [ih, hg x, dn]; omega
theorem getL_bd {L : Led} (h : Pos L) (m : Mk) : 0 ≤ getL L m ∧ getL L m ≤ cnt L := by
 by_cases hm : m ∈ L.map (·.1)
 ·have := getL_le h hm; omega
 ·rw [getL_none (fun e he hk => hm (List.mem_map.2 ⟨e, he, hk⟩))]; omega
theorem gsum_bd : ∀ {has : List Led}, (∀ L ∈ has, Pos L) → ∀ x, 0 ≤ gsum has x ∧ gsum has x ≤ msgs has
 | [], _, x => by simp [gsum, msgs]
 | L :: l, h, x => by
  have h1 := getL_bd (h L List.mem_cons_self) x
  have h2 := gsum_bd (has := l) (fun L hL => h L (List.mem_cons_of_mem _ hL)) x
  have e : msgs (L :: l) = cnt L + msgs l := by simp [msgs]
  simp only [gsum]; omega
theorem gsum_pos : ∀ {has : List Led}, (∀ L ∈ has, Pos L) → ∀ {x}, 0 < gsum has x → ∃ L ∈ has, 0 < getL L x
 | L :: l, h, x, hx => by
  by_cases h0 : 0 < getL L x
  ·exact ⟨L, List.mem_cons_self, h0⟩
  ·simp only [gsum] at hx
   obtain ⟨M, hM, h1⟩ := gsum_pos (has := l) (fun L hL => h L (List.mem_cons_of_mem _ hL)) (x := x) (by omega)
   exact ⟨M, List.mem_cons_of_mem _ hM, h1⟩
theorem gsum_ge : ∀ {has : List Led}, (∀ L ∈ has, Pos L) → ∀ {x} {L}, L ∈ has → getL L x ≤ gsum has x
 | K :: l, h, x, L, hL => by
  have h1 := getL_bd (h K List.mem_cons_self) x
  have hl : ∀ L ∈ l, Pos L := fun L hL => h L (List.mem_cons_of_mem _ hL)
  simp only [gsum]
  rcases List.mem_cons.1 hL with hL | hL
  ·rw [hL]; have := (gsum_bd hl x).1; omega
  ·have := gsum_ge hl (x := x) hL; omega
theorem dn_bd : ∀ {note : Note}, (∀ e ∈ note, -1 ≤ e.2 ∧ e.2 ≤ 1) → ∀ x, - (note.length : Int) ≤ dn note x ∧ dn note x ≤ note.length
 | [], _, x => by simp [dn]
 | e :: n, h, x => by
  have h1 := h e List.mem_cons_self
  have h2 := dn_bd (note := n) (fun e he => h e (List.mem_cons_of_mem _ he)) x
  simp only [dn, List.length_cons]
  split <;> omega
theorem dsum_bd : ∀ {q : List Note}, (∀ p ∈ q, ∀ e ∈ p, -1 ≤ e.2 ∧ e.2 ≤ 1) → ∀ x, - (((q.map List.length).sum : Nat) : Int) ≤ dsum q x ∧ dsum q x ≤ ((q.map List.length).sum : Nat)
 | [], _, x => by simp [dsum]
 | e :: n, h, x => by
  have h1 := dn_bd (h e List.mem_cons_self) x
  have h2 := dsum_bd (q := n) (fun e he => h e (List.mem_cons_of_mem _ he)) x
  simp only [dsum, List.map_cons, List.sum_cons]
  omega
theorem rsum_bd : ∀ {r : List (List Note)}, (∀ q ∈ r, ∀ p ∈ q, ∀ e ∈ p, -1 ≤ e.2 ∧ e.2 ≤ 1) → ∀ x, - ((qEnts r : Nat) : Int) ≤ rsum r x ∧ rsum r x ≤ (qEnts r : Nat)
 | [], _, x => by simp [rsum, qEnts]
 | e :: n, h, x => by
  have h1 := dsum_bd (h e List.mem_cons_self) x
  have h2 := rsum_bd (r := n) (fun e he => h e (List.mem_cons_of_mem _ he)) x
  have e : qEnts (e :: n) = (e.map List.length).sum + qEnts n := by simp [qEnts]
  simp only [rsum]
  omega
def MkIn (N c : Int) (m : Mk) : Prop := nodeOk N m ∧ TmIn c m.2
theorem MkIn.mono {N c d : Int} {m : Mk} (h : MkIn N c m) (hc : c ≤ d) : MkIn N d m := ⟨h.1, h.2.mono hc⟩
def EdgeM (E : List Ed) (m m' : Mk) : Prop := ∃ d ∈ E, d.1 = m.1 ∧ m' = (d.2.1, addT m.2 (tmOf d.2.2))
def NoteUp (E : List Ed) (N c : Int) (note : Note) : Prop := ∃ m rest, note = (m, -1) :: rest ∧ MkIn N c m ∧ ∀ e ∈ rest, e.2 = 1 ∧ EdgeM E m e.1 ∧ MkIn N c e.1
theorem NoteUp.mono {E : List Ed} {N c d : Int} {note : Note} (h : NoteUp E N c note) (hc : c ≤ d) : NoteUp E N d note := by
 obtain ⟨m, rest, h1, h2, h3⟩ := h
 exact ⟨m, rest, h1, h2.mono hc, fun e he => ⟨(h3 e he).1, (h3 e he).2.1, (h3 e he).2.2.mono hc⟩⟩
theorem NoteUp.one {E : List Ed} {N c : Int} {note : Note} (h : NoteUp E N c note) : ∀ e ∈ note, -1 ≤ e.2 ∧ e.2 ≤ 1 := by
 obtain ⟨m, rest, rfl, h2, h3⟩ := h
 intro e he
 rcases List.mem_cons.1 he with he | he
 ·subst he; exact ⟨Int.le_refl _, show (-1 : Int) ≤ 1 by decide⟩
 ·have := (h3 e he).1; omega
theorem NoteUp.mem {E : List Ed} {N c : Int} {note : Note} (h : NoteUp E N c note) : ∀ e ∈ note, MkIn N c e.1 := by
 obtain ⟨m, rest, rfl, h2, h3⟩ := h
 intro e he
 rcases List.mem_cons.1 he with he | he
 ·rw [he]; exact h2
 ·exact (h3 e he).2.2
def cB (script : List Int) : Int := 1100000 - 100 * script.length
theorem cB_tail (s : List Int) : cB s ≤ cB s.tail := by unfold cB; rw [List.length_tail]; omega
theorem cB_tail1 {s : List Int} (h : s ≠ []) : cB s + 100 = cB s.tail := by
 have := List.length_pos_iff.2 h
 unfold cB; rw [List.length_tail]; omega
theorem cB_le (s : List Int) : cB s ≤ 1100000 := by unfold cB; omega
structure WK (E : List Ed) (N : Int) (m : Mk) (has0 : List Led) (ms0 : Nat) (sent0 : Int) (sl0 : Nat) (s : WS) : Prop where
 acc : ∀ x, gsum s.has x = gsum has0 x + dn s.note x
 note : NoteUp E N (cB s.script) s.note ∧ s.note.head? = some (m, -1)
 hasT : ∀ L ∈ s.has, ∀ e ∈ L, MkIn N (cB s.script) e.1
 msg : (msgs s.has : Int) = ms0 + (s.sent - sent0)
 snt : sent0 ≤ s.sent ∧ s.sent + s.script.length ≤ sent0 + sl0
theorem edge_know {E : List Ed} {N : Int} (hE : EdIn N E) {W : Nat} {m : Mk} {has0 : List Led} {ms0 sl0 : Nat} {sent0 : Int} (hs0 : 0 ≤ sent0 ∧ sent0 ≤ 100000) (hms : ms0 + sl0 ≤ 100000) {s : WS} {e : Ed} (he : e ∈ E) (hi : HasInv W N s.has) (h : WK E N m has0 ms0 sent0 sl0 s) : WK E N m has0 ms0 sent0 sl0 (edgeW W m s e) ∧ HasInv W N (edgeW W m s e).has := by
 have hsn := h.snt
 have hmg := h.msg
 refine ⟨?_, (edgeW_inv hi (by omega) (hE e he).2.1).has⟩
 unfold edgeW
 split
 ·rename_i hem
  have hct := cB_tail s.script
  split
  ·exact ⟨h.acc, ⟨h.note.1.mono hct, h.note.2⟩, fun L hL e he => (h.hasT L hL e he).mono hct, h.msg, h.snt.1, by simp only [List.length_tail]; omega⟩
  ·rename_i h0
   have hr := numP_range s.script (show (1 : Int) ≤ (W : Int) + 1 by omega)
   have hne : s.script ≠ [] := fun hs => by rw [hs] at h0; exact h0 (numP_nil _)
   have hlp := List.length_pos_iff.2 hne
   have hj : (numP s.script ((W : Int) + 1) - 1).toNat < s.has.length := by rw [hi.len]; omega
   generalize (numP s.script ((W : Int) + 1) - 1).toNat = j at *
   have hP := hi.pos _ (getD_mem hj [])
   have hle := cnt_le_msgs hj
   obtain ⟨hnu, hhd⟩ := h.note
   obtain ⟨m1, rest, hn, hm1, hrest⟩ := hnu
   have hmm : m1 = m := by rw [hn] at hhd; simp at hhd; exact hhd
   subst hmm
   obtain ⟨hpl, hpi⟩ := plusT_add hm1.2 (hE e he).2.2 (by have := cB_le s.script; omega)
   rw [cB_tail1 hne] at hpi
   rw [hpl]
   have hm' : MkIn N (cB s.script.tail) (e.2.1, addT m1.2 (tmOf e.2.2)) := ⟨(hE e he).2.1, hpi⟩
   have hed : EdgeM E m1 (e.2.1, addT m1.2 (tmOf e.2.2)) := ⟨e, he, hem, rfl⟩
   generalize (e.2.1, addT m1.2 (tmOf e.2.2)) = m' at *
   obtain ⟨g1, g2⟩ := hP.enter1 m' (by omega)
   have hms2 := msgs_set (enterL (s.has.getD j []) m' 1) hj
   have hb := getL_bd hP m'
   have hw : w64 (getL (s.has.getD j []) m' + 1) = getL (s.has.getD j []) m' + 1 := w64_in (by omega) (by omega)
   have hws : w64 (s.sent + 1) = s.sent + 1 := w64_in (by omega) (by omega)
   refine ⟨fun x => ?_, ⟨⟨m1, rest ++ [(m', 1)], by simp only; rw [hn]; rfl, hm1.mono hct, fun x hx => ?_⟩, by simp only; rw [hn]; rfl⟩, fun L hL x hx => ?_, ?_, ?_, ?_⟩
   ·have h1 := gsum_set (enterL (s.has.getD j []) m' 1) x s.has j hj
    have h2 := h.acc x
    simp only
    rw [dn_append]
    rw [getL_enter, hw] at h1
    by_cases hx : x = m'
    ·subst hx
     rw [if_pos rfl] at h1
     simp only [dn, if_pos]; omega
    ·rw [if_neg hx] at h1
     simp only [dn, if_neg (Ne.symm hx)]; omega
   ·rcases List.mem_append.1 hx with hx | hx
    ·obtain ⟨a, b, c⟩ := hrest x hx
     exact ⟨a, b, c.mono hct⟩
    ·rw [List.mem_singleton.1 hx]; exact ⟨rfl, hed, hm'⟩
   ·rcases List.mem_or_eq_of_mem_set hL with hL | rfl
    ·exact (h.hasT L hL x hx).mono hct
    ·rcases mem_enterL hx with hx | hx
     ·rw [hx]; exact hm'
     ·exact (h.hasT _ (getD_mem hj []) x hx).mono hct
   ·simp only; rw [hws]; omega
   ·simp only; rw [hws]; omega
   ·simp only [List.length_tail]; rw [hws]; omega
 ·exact h
theorem fold_know {E : List Ed} {N : Int} (hE : EdIn N E) {W : Nat} {m : Mk} {has0 : List Led} {ms0 sl0 : Nat} {sent0 : Int} (hs0 : 0 ≤ sent0 ∧ sent0 ≤ 100000) (hms : ms0 + sl0 ≤ 100000) : ∀ (F : List Ed) (s : WS), (∀ e ∈ F, e ∈ E) → HasInv W N s.has → WK E N m has0 ms0 sent0 sl0 s → WK E N m has0 ms0 sent0 sl0 (F.foldl (edgeW W m) s)
 | [], _, _, _, h => h
 | e :: F, s, hF, hi, h => by
  obtain ⟨h1, h2⟩ := edge_know hE hs0 hms (hF e List.mem_cons_self) hi h
  exact fold_know hE hs0 hms F _ (fun x hx => hF x (List.mem_cons_of_mem _ hx)) h2 h1
theorem mem_putQ2 {P : Note → Prop} {ns : List (List (List Note))} {i k : Nat} {q : List Note} (h : ∀ r ∈ ns, ∀ q ∈ r, ∀ note ∈ q, P note) (hq : ∀ note ∈ q, P note) (hi : i < ns.length) : ∀ r ∈ putQ ns i k q, ∀ q ∈ r, ∀ note ∈ q, P note := by
 intro r hr p hp
 simp only [putQ] at hr
 rcases List.mem_or_eq_of_mem_set hr with hr | rfl
 ·exact h r hr p hp
 ·rcases List.mem_or_eq_of_mem_set hp with hp | rfl
  ·exact h _ (getD_mem hi []) p hp
  ·exact hq
theorem qOf_mem {P : Note → Prop} {ns : List (List (List Note))} {i k : Nat} (h : ∀ r ∈ ns, ∀ q ∈ r, ∀ note ∈ q, P note) : ∀ note ∈ qOf ns i k, P note := by
 intro note hn
 unfold qOf at hn
 by_cases hi : i < ns.length
 ·by_cases hk : k < (ns.getD i []).length
  ·exact h _ (getD_mem hi []) _ (getD_mem hk []) note hn
  ·rw [List.getD_eq_getElem?_getD (l := ns.getD i []), List.getElem?_eq_none (by omega)] at hn
   cases hn
 ·rw [List.getD_eq_getElem?_getD (l := ns), List.getElem?_eq_none (by omega)] at hn
  simp at hn
theorem putQ_rsum {ns : List (List (List Note))} {i k : Nat} (q : List Note) {W : Nat} (h : ns.length = W ∧ ∀ r ∈ ns, r.length = W) (hi : i < W) (hk : k < W) (x : Mk) : rsum ((putQ ns i k q).getD i []) x + dsum (qOf ns i k) x = rsum (ns.getD i []) x + dsum q x := by
 have e : (putQ ns i k q).getD i [] = (ns.getD i []).set k q := by unfold putQ; exact getD_set_self _ _ _ _ (by rw [h.1]; exact hi)
 rw [e]
 exact rsum_set q x _ k (by rw [h.2 _ (getD_mem (by rw [h.1]; exact hi) [])]; exact hk)
structure PushK (P : Note → Prop) (W i : Nat) (note : Note) (n : Nat) (ns ns' : List (List (List Note))) : Prop where
 len : ns'.length = W ∧ ∀ r ∈ ns', r.length = W
 tot : qNotes ns' + (if i < n then 1 else 0) = qNotes ns + n
 row : ∀ j x, rsum (ns'.getD j []) x = rsum (ns.getD j []) x + (if j < n ∧ j ≠ i then dn note x else 0)
 mem : ∀ r ∈ ns', ∀ q ∈ r, ∀ p ∈ q, P p
theorem push_know {P : Note → Prop} {W i : Nat} {note : Note} {ns : List (List (List Note))} (hi : i < W) (h : ns.length = W ∧ ∀ r ∈ ns, r.length = W) (hn : ∀ r ∈ ns, ∀ q ∈ r, ∀ p ∈ q, P p) (hx : P note) :
  ∀ n, n ≤ W → PushK P W i note n ns ((List.range n).foldl (pushStep i note) ns)
 | 0, _ => ⟨h, by simp, fun j x => by simp, hn⟩
 | n + 1, hW => by
  have ih := push_know hi h hn hx n (by omega)
  rw [List.range_succ, List.foldl_append]
  generalize (List.range n).foldl (pushStep i note) ns = ns1 at *
  simp only [List.foldl_cons, List.foldl_nil]
  unfold pushStep
  by_cases hni : n = i
  ·subst hni
   rw [if_pos rfl]
   refine ⟨ih.len, ?_, fun j x => ?_, ih.mem⟩
   ·have := ih.tot
    rw [if_neg (by omega)] at this
    rw [if_pos (by omega)]; omega
   ·rw [ih.row j x]
    by_cases hj : j < n ∧ j ≠ n
    ·rw [if_pos hj, if_pos ⟨by omega, hj.2⟩]
    ·rw [if_neg hj, if_neg (by omega)]
  ·rw [if_neg hni]
   have hq : (ns1.getD n []).getD i [] = qOf ns1 n i := rfl
   rw [hq]
   refine ⟨putQ_len ih.len (by omega), ?_, fun j x => ?_, mem_putQ2 ih.mem (fun p hp => ?_) (by rw [ih.len.1]; omega)⟩
   ·have h1 := putQ_notes (qOf ns1 n i ++ [note]) ih.len (show n < W by omega) hi
    rw [List.length_append, List.length_singleton] at h1
    have := ih.tot
    by_cases hin : i < n
    ·rw [if_pos hin] at this; rw [if_pos (by omega)]; omega
    ·rw [if_neg hin] at this; rw [if_neg (by omega)]; omega
   ·by_cases hj : n = j
    ·subst hj
     have h1 := putQ_rsum (qOf ns1 n i ++ [note]) ih.len (show n < W by omega) hi x
     rw [dsum_append] at h1
     have := ih.row n x
     rw [if_neg (by omega)] at this
     rw [if_pos ⟨by omega, hni⟩]
     simp only [dsum] at h1
     omega
    ·rw [putQ_row_ne _ hj, ih.row j x]
     by_cases hj2 : j < n ∧ j ≠ i
     ·rw [if_pos hj2, if_pos ⟨by omega, hj2.2⟩]
     ·rw [if_neg hj2, if_neg (by omega)]
   ·rcases List.mem_append.1 hp with hp | hp
    ·exact qOf_mem ih.mem p hp
    ·rw [List.mem_singleton.1 hp]; exact hx
structure Know (E : List Ed) (N : Int) (W : Nat) (n0 s0 : Int) (st : St) : Prop where
 hasT : ∀ L ∈ st.has, ∀ e ∈ L, MkIn N (cB st.script) e.1
 noteU : ∀ r ∈ st.notes, ∀ q ∈ r, ∀ p ∈ q, NoteUp E N (cB st.script) p
 ledT : ∀ L ∈ st.led, ∀ e ∈ L, MkIn N (cB st.script) e.1 ∧ e.2 ≠ 0
 acc : ∀ i, i < W → ∀ x, getL (st.ledOf i) x + rsum (st.notes.getD i []) x = gsum st.has x
 pos : 0 ≤ st.works ∧ 0 ≤ st.nts ∧ 0 ≤ st.sent
 steps : st.works + st.nts + phi st ≤ 1232
 sent : st.sent + st.script.length ≤ s0
 made : st.works + msgs st.has = n0 + st.sent
 told : st.nts + qNotes st.notes = st.works * (W - 1)
structure Turns (E : List Ed) (N : Int) (W : Nat) (st st' : St) : Prop where
 led : ∀ i, i < W → (∀ x, getL (st'.ledOf i) x = getL (st.ledOf i) x) ∨ ∃ p, NoteUp E N 1100000 p ∧ ∀ x, getL (st'.ledOf i) x = getL (st.ledOf i) x + dn p x
 has : (∀ x, gsum st'.has x = gsum st.has x) ∨ ∃ p m, NoteUp E N 1100000 p ∧ p.head? = some (m, -1) ∧ 0 < gsum st.has m ∧ ∀ x, gsum st'.has x = gsum st.has x + dn p x
 one : st'.works + st'.nts = st.works + st.nts + 1
theorem led_bd {E : List Ed} {N : Int} {W : Nat} {n0 s0 : Int} {st : St} (h : Know E N W n0 s0 st) (hr : Reach W N st) {i : Nat} (hi : i < W) (x : Mk) : -1000 ≤ getL (st.ledOf i) x ∧ getL (st.ledOf i) x ≤ 1000 := by
 have h1 := h.acc i hi x
 have h2 := gsum_bd hr.inv.has.pos x
 have h3 := rsum_bd (r := st.notes.getD i []) (fun q hq p hp => (h.noteU _ (getD_mem (by rw [hr.inv.nlen.1]; exact hi) []) q hq p hp).one) x
 have h4 := hr.phi
 have h5 := hr.psi i hi
 unfold phi at h4
 unfold psi at h5
 omega
theorem len_take {st : St} {W : Nat} {N : Int} (hr : Reach W N st) {i k : Nat} {note : Note} {q : List Note} (hi : i < W) (hk : k < W) (hq : st.queue i k = note :: q) : note.length ≤ 616 := by
 have h5 := hr.psi i hi
 have h1 := sum_get_le (fun q : List Note => (q.map List.length).sum) [] (st.notes.getD i []) k (by rw [hr.inv.nlen.2 _ (getD_mem (by rw [hr.inv.nlen.1]; exact hi) [])]; exact hk)
 have e : (st.notes.getD i []).getD k [] = note :: q := hq
 rw [e] at h1
 simp only [List.map_cons, List.sum_cons] at h1
 unfold psi qEnts at h5
 omega
theorem work_know {E : List Ed} {N : Int} {W : Nat} {n0 s0 : Int} {st : St} (hE : EdIn N E) (hW4 : W ≤ 4) (h : Know E N W n0 s0 st) (hr : Reach W N st) (hs0 : s0 ≤ 300) {i : Nat} {m : Mk} (hi : i < W) (hm : ∃ v, (m, v) ∈ st.hasOf i) (hph : phi (workS E W st i m) < phi st) : Know E N W n0 s0 (workS E W st i m) ∧ Turns E N W st (workS E W st i m) := by
 obtain ⟨v, hv⟩ := hm
 have hil : i < st.has.length := by rw [hr.inv.has.len]; exact hi
 have hmem := getD_mem hil ([] : Led)
 have hle := cnt_le_msgs hil
 have hp4 := hr.phi
 unfold phi at hp4
 have hst := h.steps
 obtain ⟨hp1, hp2, hp3⟩ := h.pos
 have hsent := h.sent
 have hP : Pos (st.has.getD i []) := hr.inv.has.pos _ hmem
 have hv : (m, v) ∈ st.has.getD i [] := hv
 obtain ⟨g1, g2⟩ := hP.enterN hv (by omega)
 have hms := msgs_set (enterL (st.has.getD i []) m (-1)) hil
 have hgm : getL (st.has.getD i []) m = v := getL_mem hP.nodup hv
 have hv1 := hP.pos _ hv
 have hbd := getL_bd hP m
 have hmk : MkIn N (cB st.script) m := h.hasT _ hmem _ hv
 have hGm : 0 < gsum st.has m := by
  have := gsum_ge hr.inv.has.pos (x := m) hmem
  omega
 have hh0 : HasInv W N (st.has.set i (enterL (st.has.getD i []) m (-1))) := hr.inv.has.set i g1 (fun x hx => by
  rcases mem_enterL hx with hx | hx
  ·rw [hx]; exact hmk.1
  ·exact hr.inv.has.node _ hmem x hx)
 have hw : w64 (getL (st.has.getD i []) m + -1) = getL (st.has.getD i []) m + -1 := w64_in (by omega) (by omega)
 have hwk : WK E N m st.has (msgs (st.has.set i (enterL (st.has.getD i []) m (-1)))) st.sent st.script.length ⟨st.has.set i (enterL (st.has.getD i []) m (-1)), st.script, st.sent, [(m, -1)]⟩ := by
  refine ⟨fun x => ?_, ⟨⟨m, [], rfl, hmk, fun e he => by cases he⟩, rfl⟩, fun L hL x hx => ?_, by simp, Int.le_refl _, Int.le_refl _⟩
  ·have h1 := gsum_set (enterL (st.has.getD i []) m (-1)) x st.has i hil
   rw [getL_enter, hw] at h1
   by_cases hx : x = m
   ·subst hx
    rw [if_pos rfl] at h1
    simp only [dn, if_pos]; omega
   ·rw [if_neg hx] at h1
    simp only [dn, if_neg (Ne.symm hx)]; omega
  ·rcases List.mem_or_eq_of_mem_set hL with hL | rfl
   ·exact h.hasT L hL x hx
   ·rcases mem_enterL hx with hx | hx
    ·rw [hx]; exact hmk
    ·exact h.hasT _ hmem x hx
 have hk := fold_know hE (W := W) ⟨hp3, by omega⟩ (by omega) E _ (fun _ h => h) hh0 hwk
 have eW : E.foldl (edgeW W m) ⟨st.has.set i (enterL (st.has.getD i []) m (-1)), st.script, st.sent, [(m, -1)]⟩ = workW E W st i m := rfl
 rw [eW] at hk
 have e1 : (workS E W st i m).has = (workW E W st i m).has := rfl
 have e2 : (workS E W st i m).script = (workW E W st i m).script := rfl
 have e3 : (workS E W st i m).sent = (workW E W st i m).sent := rfl
 have e4 : (workS E W st i m).led = st.led.set i (readL (st.ledOf i) (workW E W st i m).note) := rfl
 have e5 : (workS E W st i m).notes = (List.range W).foldl (pushStep i (workW E W st i m).note) st.notes := rfl
 have e6 : (workS E W st i m).works = w64 (st.works + 1) := rfl
 have e7 : (workS E W st i m).nts = st.nts := rfl
 generalize workS E W st i m = st' at *
 generalize workW E W st i m = s at *
 have hws : st'.works = st.works + 1 := by rw [e6]; exact w64_in (by omega) (by omega)
 have hsl : cB st.script ≤ cB s.script := by
  have := hk.snt
  unfold cB; omega
 have hnl : s.note.length ≤ 1000 := by
  obtain ⟨⟨m1, rest, hn, _, hrest⟩, _⟩ := hk.note
  have hone : ∀ (r : Note), (∀ e ∈ r, e.2 = 1) → True := fun _ _ => trivial
  have hI := (fold_inv (W := W) (N := N) (m := m) E ⟨st.has.set i (enterL (st.has.getD i []) m (-1)), st.script, st.sent, [(m, -1)]⟩ hh0 (by simp only; omega) (fun e he => (hE e he).2.1)).ent
  rw [show E.foldl (edgeW W m) ⟨st.has.set i (enterL (st.has.getD i []) m (-1)), st.script, st.sent, [(m, -1)]⟩ = s from eW] at hI
  simp only [List.length_singleton] at hI
  omega
 have hone := hk.note.1.one
 have hread := getL_read s.note (st.ledOf i) 1000 (led_bd h hr hi) hone (by omega)
 have hpk := push_know (P := NoteUp E N (cB s.script)) (note := s.note) hi hr.inv.nlen (fun r hr q hq p hp => (h.noteU r hr q hq p hp).mono hsl) hk.note.1 W (Nat.le_refl _)
 rw [← e5] at hpk
 have hled : ∀ j, j < W → st'.ledOf j = if j = i then readL (st.ledOf i) s.note else st.ledOf j := fun j _ => by
  simp only [St.ledOf] at *
  rw [e4]
  exact ledOf_set hr.inv.llen hi _
 have htot := hpk.tot
 rw [if_pos hi] at htot
 have hmade := h.made
 have htold := h.told
 have hmsg := hk.msg
 have hsnt := hk.snt
 refine ⟨⟨?_, ?_, ?_, fun j hj x => ?_, ?_, ?_, ?_, ?_, ?_⟩, ⟨fun j hj => ?_, .inr ⟨s.note, m, hk.note.1.mono (cB_le _), hk.note.2, hGm, fun x => by rw [e1]; exact hk.acc x⟩, by rw [hws, e7]; omega⟩⟩
 ·rw [e1, e2]; exact hk.hasT
 ·rw [e2]; exact hpk.mem
 ·rw [e2, e4]
  intro L hL e he
  rcases List.mem_or_eq_of_mem_set hL with hL | rfl
  ·exact ⟨(h.ledT L hL e he).1.mono hsl, (h.ledT L hL e he).2⟩
  ·have hmi := getD_mem (l := st.led) (i := i) (by rw [hr.inv.llen]; exact hi) []
   refine ⟨?_, read_nz _ (fun e he => (h.ledT _ hmi e he).2) e he⟩
   rcases mem_readL _ _ he with ⟨y, hy, hk2⟩ | he
   ·rw [hk2]; exact hk.note.1.mem y hy
   ·exact (h.ledT _ hmi e he).1.mono hsl
 ·have h1 := h.acc j hj x
  rw [hled j hj, hpk.row j x, e1, hk.acc x]
  by_cases hji : j = i
  ·subst hji
   rw [if_pos rfl, hread x, if_neg (by omega)]; omega
  ·rw [if_neg hji, if_pos ⟨hj, hji⟩]; omega
 ·rw [hws, e7, e3]; omega
 ·rw [hws, e7]; omega
 ·rw [e3, e2]; omega
 ·rw [hws, e1, e3]
  omega
 ·rw [hws, e7]
  have : (st.works + 1) * ((W : Int) - 1) = st.works * ((W : Int) - 1) + ((W : Int) - 1) := by rw [Int.add_mul, Int.one_mul]
  rw [this, ← htold]
  omega
 ·rw [hled j hj]
  by_cases hji : j = i
  ·subst hji
   rw [if_pos rfl]
   exact .inr ⟨s.note, hk.note.1.mono (cB_le _), hread⟩
  ·rw [if_neg hji]
   exact .inl fun _ => rfl
theorem take_know {E : List Ed} {N : Int} {W : Nat} {n0 s0 : Int} {st : St} (h : Know E N W n0 s0 st) (hr : Reach W N st) {i k : Nat} (hi : i < W) (hk : k < W) (hq : st.queue i k ≠ []) (hph : phi (takeS st i k) < phi st) : Know E N W n0 s0 (takeS st i k) ∧ Turns E N W st (takeS st i k) := by
 obtain ⟨hp1, hp2, hp3⟩ := h.pos
 have hst := h.steps
 have hp4 := hr.phi
 have htold := h.told
 cases hqq : st.queue i k with
 | nil => exact absurd hqq hq
 | cons note q =>
  have hq2 : qOf st.notes i k = note :: q := hqq
  have hnu : ∀ p ∈ note :: q, NoteUp E N (cB st.script) p := by
   rw [← hq2]; exact qOf_mem h.noteU
  have hn := hnu note List.mem_cons_self
  have et : takeS st i k = { st with led := st.led.set i (readL (st.ledOf i) note), notes := putQ st.notes i k q, nts := w64 (st.nts + 1) } := by
   unfold takeS; rw [hqq]; rfl
  rw [et] at hph ⊢
  have hws : w64 (st.nts + 1) = st.nts + 1 := w64_in (by omega) (by omega)
  rw [hws] at hph ⊢
  have hread := getL_read note (st.ledOf i) 1000 (led_bd h hr hi) hn.one (by have := len_take hr hi hk hqq; omega)
  have hled : ∀ j, (st.led.set i (readL (st.ledOf i) note)).getD j [] = if j = i then readL (st.ledOf i) note else st.ledOf j := fun j => ledOf_set hr.inv.llen hi _
  refine ⟨⟨h.hasT, mem_putQ2 h.noteU (fun p hp => hnu p (List.mem_cons_of_mem _ hp)) (by rw [hr.inv.nlen.1]; exact hi), fun L hL e he => ?_, fun j hj x => ?_, ⟨hp1, by simp only; omega, hp3⟩, by simp only; omega, h.sent, h.made, ?_⟩, ⟨fun j hj => ?_, .inl fun _ => rfl, by simp only; omega⟩⟩
  ·rcases List.mem_or_eq_of_mem_set hL with hL | rfl
   ·exact h.ledT L hL e he
   ·have hmi := getD_mem (l := st.led) (i := i) (by rw [hr.inv.llen]; exact hi) []
    refine ⟨?_, read_nz _ (fun e he => (h.ledT _ hmi e he).2) e he⟩
    rcases mem_readL _ _ he with ⟨y, hy, hk2⟩ | he
    ·rw [hk2]; exact hn.mem y hy
    ·exact (h.ledT _ hmi e he).1
  ·have h1 := h.acc j hj x
   show getL ((st.led.set i (readL (st.ledOf i) note)).getD j []) x + rsum ((putQ st.notes i k q).getD j []) x = gsum st.has x
   rw [hled j]
   by_cases hji : j = i
   ·subst hji
    have h2 := putQ_rsum q hr.inv.nlen hi hk x
    rw [hq2] at h2
    simp only [dsum] at h2
    rw [if_pos rfl, hread x]; omega
   ·rw [if_neg hji, putQ_row_ne _ (Ne.symm hji)]; exact h1
  ·have h1 := putQ_notes q hr.inv.nlen hi hk
   rw [hq2, List.length_cons] at h1
   simp only; omega
  ·show (∀ x, getL ((st.led.set i (readL (st.ledOf i) note)).getD j []) x = _) ∨ ∃ p, _ ∧ ∀ x, getL ((st.led.set i (readL (st.ledOf i) note)).getD j []) x = _
   rw [hled j]
   by_cases hji : j = i
   ·subst hji
    rw [if_pos rfl]
    exact .inr ⟨note, hn.mono (cB_le _), hread⟩
   ·rw [if_neg hji]
    exact .inl fun _ => rfl
theorem step_know {E : List Ed} {N : Int} {W : Nat} {n0 s0 : Int} {st st' : St} (hE : EdIn N E) (hW : W ≤ 4) (h : Know E N W n0 s0 st) (hr : Reach W N st) (hs0 : s0 ≤ 300) (hs : stepS E W st = some st') : Know E N W n0 s0 st' ∧ Turns E N W st st' := by
 have hto : ∀ e ∈ E, 0 ≤ e.2.1 ∧ e.2.1 < N := fun e he => (hE e he).2.1
 unfold stepS at hs
 cases hm : movesS W st with
 | nil => rw [hm] at hs; cases hs
 | cons a l =>
  rw [hm] at hs
  simp only [Option.some.injEq] at hs
  generalize hmv : (a :: l).getD (numP st.script ((l.length : Int) + 1)).toNat a = mv at *
  have hmem : mv ∈ movesS W st := by rw [hm]; exact getD_some_mem List.mem_cons_self hmv
  have hok := (mem_moves hmem).script st.script.tail
  have hct := cB_tail st.script
  have hph2 : phi { st with script := st.script.tail } ≤ phi st := by simp only [phi, List.length_tail]; omega
  have h2 : Know E N W n0 s0 { st with script := st.script.tail } := ⟨fun L hL e he => (h.hasT L hL e he).mono hct, fun r hr q hq p hp => (h.noteU r hr q hq p hp).mono hct, fun L hL e he => ⟨(h.ledT L hL e he).1.mono hct, (h.ledT L hL e he).2⟩, h.acc, h.pos, by have := h.steps; simp only; omega, by have := h.sent; simp only [List.length_tail]; omega, h.made, h.told⟩
  have hr2 : Reach W N { st with script := st.script.tail } := ⟨⟨hr.inv.has, hr.inv.llen, hr.inv.nlen, hr.inv.ledN, hr.inv.noteN⟩, by have := hr.phi; omega, fun i hi => Nat.le_trans (by simp only [psi, List.length_tail, St.ledOf]; omega) (hr.psi i hi)⟩
  have hmi := (moveS_inv (E := E) hr2.inv hW hto (by have := hr2.phi; omega) hok).phi
  have key : Know E N W n0 s0 (moveS E W { st with script := st.script.tail } mv) ∧ Turns E N W { st with script := st.script.tail } (moveS E W { st with script := st.script.tail } mv) := by
   cases mv with
   | work i m => exact work_know hE hW h2 hr2 hs0 hok.1 hok.2 hmi
   | take i k => exact take_know h2 hr2 hok.1 hok.2.1 hok.2.2 hmi
  rw [hs] at key
  exact ⟨key.1, key.2.led, key.2.has, key.2.one⟩
end Go.Proofs.Ytbkfnmgkcgnifaa.Mdl
namespace Go.Proofs.Ytbkfnmgkcgnifaa.Mdl
theorem start_fold {W : Nat} {N : Int} : ∀ (ms : List Msg) (L : Led) (has : List Led), HasInv W N has → msgs has + ms.length ≤ 1000 → (∀ m ∈ ms, nodeOk N (startMk m) ∧ m.2.toNat < W) → (∀ x, getL L x = gsum has x) →
  ∀ x, getL (ms.foldl (fun L m => enterL L (startMk m) 1) L) x = gsum (ms.foldl hasStep has) x
 | [], _, _, _, _, _, h => h
 | m :: ms, L, has, hi, hc, hm, h => by
  obtain ⟨hn, hw⟩ := hm m List.mem_cons_self
  have hl : m.2.toNat < has.length := by rw [hi.len]; exact hw
  have hle := cnt_le_msgs hl
  rw [List.length_cons] at hc
  have hP := hi.pos _ (getD_mem hl [])
  obtain ⟨g1, g2⟩ := hP.enter1 (startMk m) (by omega)
  have hms := msgs_set (enterL (has.getD m.2.toNat []) (startMk m) 1) hl
  have h2 : HasInv W N (hasStep has m) := hi.set _ g1 (fun e he => by
   rcases mem_enterL he with he | he
   ·rw [he]; exact hn
   ·exact hi.node _ (getD_mem hl []) e he)
  have e2 : msgs (hasStep has m) = msgs has + 1 := by unfold hasStep; omega
  have hb := getL_bd hP (startMk m)
  have hg := gsum_bd hi.pos (startMk m)
  refine start_fold ms _ _ h2 (by omega) (fun x hx => hm x (List.mem_cons_of_mem _ hx)) (fun x => ?_)
  have h3 := gsum_set (enterL (has.getD m.2.toNat []) (startMk m) 1) x has m.2.toNat hl
  have h4 := h x
  have h5 := h (startMk m)
  rw [getL_enter] at h3 ⊢
  show _ = gsum (has.set _ _) x
  by_cases hx : x = startMk m
  ·subst hx
   rw [if_pos rfl, w64_in (by omega) (by omega)] at h3 ⊢
   omega
  ·rw [if_neg hx] at h3 ⊢
   omega
theorem msgOk_in {N Wd workers : Int} {m : Msg} (h : msgOk N Wd workers m = true) : TmIn 1048576 (startMk m).2 := by
 simp only [msgOk, Bool.and_eq_true, decide_eq_true_eq] at h
 obtain ⟨_, _, h4, _⟩ := h
 unfold withinB at h4
 simp only [Bool.not_eq_true', List.any_eq_false] at h4
 have hk : ∀ k, 0 ≤ m.1.2.getD k 0 ∧ m.1.2.getD k 0 ≤ 1048576 := fun k => by
  rw [List.getD_eq_getElem?_getD]
  cases hg : m.1.2[k]? with
  | none => simp
  | some x =>
   have := h4 x (List.mem_of_getElem? hg)
   simp only [outB, Bool.or_eq_true, decide_eq_true_eq, not_or] at this
   simp only [Option.getD_some]; omega
 exact ⟨hk 0, hk 1, hk 2⟩
theorem startLed_mem : ∀ (ms : List Msg) (L : Led) {P : Mk → Prop}, (∀ e ∈ L, P e.1 ∧ e.2 ≠ 0) → (∀ m ∈ ms, P (startMk m)) → ∀ e ∈ ms.foldl (fun L m => enterL L (startMk m) 1) L, P e.1 ∧ e.2 ≠ 0
 | [], _, _, h, _ => h
 | m :: ms, L, P, h, hm => startLed_mem ms _ (fun e he => ⟨by
   rcases mem_enterL he with he | he
   ·rw [he]; exact hm m List.mem_cons_self
   ·exact (h e he).1, enter_nz _ _ (fun e he => (h e he).2) e he⟩) (fun x hx => hm x (List.mem_cons_of_mem _ hx))
theorem startHas_mem : ∀ (ms : List Msg) (has : List Led) {P : Mk → Prop}, (∀ L ∈ has, ∀ e ∈ L, P e.1) → (∀ m ∈ ms, P (startMk m)) → ∀ L ∈ ms.foldl hasStep has, ∀ e ∈ L, P e.1
 | [], _, _, h, _ => h
 | m :: ms, has, P, h, hm => startHas_mem ms _ (fun L hL e he => by
   unfold hasStep at hL
   rcases List.mem_or_eq_of_mem_set hL with hL | rfl
   ·exact h L hL e he
   ·rcases mem_enterL he with he | he
    ·rw [he]; exact hm m List.mem_cons_self
    ·by_cases hi : m.2.toNat < has.length
     ·exact h _ (getD_mem hi []) e he
     ·rw [List.getD_eq_getElem?_getD, List.getElem?_eq_none (by omega)] at he; cases he) (fun x hx => hm x (List.mem_cons_of_mem _ hx))
theorem rsum_rep (W : Nat) (x : Mk) : rsum (List.replicate W []) x = 0 := by
 induction W with
 | zero => rfl
 | succ n ih => rw [List.replicate_succ]; simp only [rsum, dsum, ih]; rfl
theorem gsum_rep (W : Nat) (x : Mk) : gsum (List.replicate W []) x = 0 := by
 induction W with
 | zero => rfl
 | succ n ih => rw [List.replicate_succ]; simp only [gsum, ih]; rfl
theorem begin_know {p : Plan} {ways : Ways} {script : List Int} {W : Nat} (h : plannedP p = some ways) (hs : script.length ≤ 300) (hW : p.workers = W) : Know p.E p.N W p.start.length script.length (beginS W p.start script) := by
 have hR := begin_reach h hs hW
 obtain ⟨_, ⟨h1, h4, h8⟩, hm⟩ := planned_ok h
 have hc : (1048576 : Int) ≤ cB script := by unfold cB; omega
 have hin : ∀ m ∈ p.start, MkIn p.N (cB script) (startMk m) := fun m hx => ⟨msgOk_node (hm m hx), (msgOk_in (hm m hx)).mono hc⟩
 have h0 : HasInv W p.N (List.replicate W []) := ⟨by simp, fun L hL => by rw [List.eq_of_mem_replicate hL]; exact ⟨List.nodup_nil, fun e he => by cases he⟩, fun L hL => by rw [List.eq_of_mem_replicate hL]; exact fun e he => by cases he⟩
 have hm0 : msgs (List.replicate W ([] : Led)) = 0 := sum_zero _ _ (fun L hL => by rw [List.eq_of_mem_replicate hL]; rfl)
 have hb := startHas_inv p.start _ h0 (by omega) (fun m hx => ⟨msgOk_node (hm m hx), by have := msgOk_who (hm m hx); omega⟩)
 have hq0 : qNotes (List.replicate W (List.replicate W [])) = 0 := sum_zero _ _ (fun r hr => by rw [List.eq_of_mem_replicate hr]; exact sum_zero _ _ (fun q hq => by rw [List.eq_of_mem_replicate hq]; rfl))
 refine ⟨?_, fun r hr q hq p hp => ?_, fun L hL => ?_, fun i hi x => ?_, ⟨Int.le_refl _, Int.le_refl _, Int.le_refl _⟩, ?_, ?_, ?_, ?_⟩
 ·exact startHas_mem _ _ (fun L hL e he => by rw [List.eq_of_mem_replicate hL] at he; cases he) hin
 ·rw [List.eq_of_mem_replicate (show r ∈ List.replicate W (List.replicate W []) from hr)] at hq
  rw [List.eq_of_mem_replicate hq] at hp
  cases hp
 ·rw [List.eq_of_mem_replicate (show L ∈ List.replicate W (startLed p.start) from hL)]
  exact startLed_mem _ _ (fun e he => by cases he) hin
 ·have e1 : (beginS W p.start script).ledOf i = startLed p.start := by
   show (List.replicate W (startLed p.start)).getD i [] = _
   rw [List.getD_eq_getElem?_getD, List.getElem?_replicate, if_pos hi]; rfl
  have e2 : (beginS W p.start script).notes.getD i [] = List.replicate W [] := by
   show (List.replicate W (List.replicate W [])).getD i [] = _
   rw [List.getD_eq_getElem?_getD, List.getElem?_replicate, if_pos hi]; rfl
  rw [e1, e2, rsum_rep, Int.add_zero]
  exact start_fold _ _ _ h0 (by omega) (fun m hx => ⟨msgOk_node (hm m hx), by have := msgOk_who (hm m hx); omega⟩) (fun x => by rw [gsum_rep]; rfl) x
 ·have := hR.phi
  show (0 : Int) + 0 + _ ≤ 1232
  omega
 ·show (0 : Int) + _ ≤ _
  simp [beginS]
 ·show (0 : Int) + _ = _ + 0
  have : msgs (beginS W p.start script).has = 0 + p.start.length := by rw [← hm0]; exact hb.2
  omega
 ·show (0 : Int) + (qNotes (List.replicate W (List.replicate W [])) : Nat) = 0 * _
  rw [hq0, Int.zero_mul]; rfl
def Le (E : List Ed) (m m' : Mk) : Prop := ∃ P, IsWay E m'.1 m.1 P ∧ LeT (addT m.2 (sumW P)) m'.2
theorem Le.refl (E : List Ed) (m : Mk) : Le E m m := ⟨[], rfl, by simp only [sumW, addT_zero]; exact LeT.refl _⟩
theorem Le.trans {E : List Ed} {a b c : Mk} (h : Le E a b) (k : Le E b c) : Le E a c := by
 obtain ⟨P, h1, h2⟩ := h
 obtain ⟨Q, k1, k2⟩ := k
 refine ⟨P ++ Q, h1.append k1, ?_⟩
 rw [sumW_append]
 unfold LeT at *
 simp only [addT] at *
 omega
theorem EdgeM.le {E : List Ed} {m m' : Mk} (h : EdgeM E m m') : Le E m m' := by
 obtain ⟨d, h1, h2, rfl⟩ := h
 exact ⟨[d], ⟨h1, h2, rfl⟩, by simp only [sumW, addT_zero]; exact LeT.refl _⟩
def sum3 (t : Tm) : Int := t.1 + t.2.1 + t.2.2
def UpE (E : List Ed) : Prop := ∀ e ∈ E, e.1 < e.2.1 ∨ 1 ≤ sum3 (tmOf e.2.2)
def rank (m : Mk) : Int := 8 * sum3 m.2 + m.1
theorem rank_lt {E : List Ed} {N : Int} (hU : UpE E) (hE : EdIn N E) (hN : N ≤ 8) {m m' : Mk} (h : EdgeM E m m') : rank m < rank m' := by
 obtain ⟨d, h1, h2, rfl⟩ := h
 have h3 := hU d h1
 obtain ⟨h4, h5, h6⟩ := hE d h1
 unfold TmIn at h6
 unfold rank
 simp only [addT, sum3] at *
 omega
theorem rank_nn {N c : Int} {m : Mk} (h : MkIn N c m) : 0 ≤ rank m := by
 obtain ⟨h1, h2⟩ := h
 unfold nodeOk at h1
 unfold TmIn at h2
 simp only [rank, sum3]; omega
theorem dn_ones : ∀ {rest : Note} {x : Mk}, (∀ e ∈ rest, e.2 = 1) → 0 ≤ dn rest x ∧ (0 < dn rest x → ∃ e ∈ rest, e.1 = x)
 | [], x, _ => by simp [dn]
 | e :: r, x, h => by
  obtain ⟨h1, h2⟩ := dn_ones (rest := r) (x := x) (fun e he => h e (List.mem_cons_of_mem _ he))
  have h3 := h e List.mem_cons_self
  simp only [dn]
  by_cases he : e.1 = x
  ·rw [if_pos he]
   exact ⟨by omega, fun _ => ⟨e, List.mem_cons_self, he⟩⟩
  ·rw [if_neg he]
   refine ⟨by omega, fun hp => ?_⟩
   obtain ⟨y, hy, hk⟩ := h2 (by omega)
   exact ⟨y, List.mem_cons_of_mem _ hy, hk⟩
structure UpN (E : List Ed) (N : Int) (p : Note) (m : Mk) : Prop where
 low : dn p m = -1
 pos : ∀ x, 0 < dn p x → EdgeM E m x
 neg : ∀ x, dn p x < 0 → x = m
 in_ : ∃ c, MkIn N c m
 off : ∀ x, rank x < rank m → dn p x = 0
theorem NoteUp.up {E : List Ed} {N c : Int} {p : Note} (hU : UpE E) (hE : EdIn N E) (hN : N ≤ 8) (h : NoteUp E N c p) : ∃ m, UpN E N p m ∧ p.head? = some (m, -1) := by
 obtain ⟨m, rest, rfl, hm, hr⟩ := h
 have hones : ∀ e ∈ rest, e.2 = 1 := fun e he => (hr e he).1
 have hrm : dn rest m = 0 := by
  obtain ⟨h1, h2⟩ := dn_ones (x := m) hones
  by_cases h0 : 0 < dn rest m
  ·obtain ⟨e, he, hk⟩ := h2 h0
   have := rank_lt hU hE hN (hr e he).2.1
   rw [hk] at this; omega
  ·omega
 refine ⟨m, ⟨by simp only [dn, if_pos]; rw [hrm]; rfl, fun x hx => ?_, fun x hx => ?_, ⟨c, hm⟩, fun x hx => ?_⟩, rfl⟩
 ·obtain ⟨h1, h2⟩ := dn_ones (x := x) hones
  simp only [dn] at hx
  have : 0 < dn rest x := by split at hx <;> omega
  obtain ⟨e, he, rfl⟩ := h2 this
  exact (hr e he).2.1
 ·obtain ⟨h1, h2⟩ := dn_ones (x := x) hones
  simp only [dn] at hx
  split at hx
  ·rename_i h; exact h.symm
  ·omega
 ·obtain ⟨h1, h2⟩ := dn_ones (x := x) hones
  have hne : m ≠ x := fun he => by rw [he] at hx; omega
  simp only [dn, if_neg hne]
  by_cases h0 : 0 < dn rest x
  ·obtain ⟨e, he, rfl⟩ := h2 h0
   have := rank_lt hU hE hN (hr e he).2.1
   omega
  ·omega
theorem dsum_pos : ∀ {q : List Note} {x : Mk}, 0 < dsum q x → ∃ p' ∈ q, 0 < dn p' x
 | a :: q, x, hd => by
  by_cases h0 : 0 < dn a x
  ·exact ⟨a, List.mem_cons_self, h0⟩
  ·simp only [dsum] at hd
   obtain ⟨y, hy, hk⟩ := dsum_pos (q := q) (x := x) (by omega)
   exact ⟨y, List.mem_cons_of_mem _ hy, hk⟩
theorem dsum_neg : ∀ {q : List Note} {x : Mk} {p : Note}, p ∈ q → dn p x < 0 → 0 ≤ dsum q x → ∃ p' ∈ q, 0 < dn p' x
 | a :: q, x, p, hp, hn, hd => by
  by_cases h0 : 0 < dn a x
  ·exact ⟨a, List.mem_cons_self, h0⟩
  ·simp only [dsum] at hd
   rcases List.mem_cons.1 hp with hp | hp
   ·subst hp
    exact dsum_pos (q := q) (x := x) (by omega) |>.imp fun y hy => ⟨List.mem_cons_of_mem _ hy.1, hy.2⟩
   ·obtain ⟨y, hy, hk⟩ := dsum_neg hp hn (by omega)
    exact ⟨y, List.mem_cons_of_mem _ hy, hk⟩
theorem up_sum {E : List Ed} {N : Int} (hU : UpE E) (hE : EdIn N E) (hN : N ≤ 8) {q : List Note} (hq : ∀ p ∈ q, ∃ m, UpN E N p m) : ∀ (n : Nat) (x : Mk), (rank x).toNat ≤ n → ∀ p ∈ q, 0 < dn p x → ∃ s, Le E s x ∧ rank s < rank x ∧ dsum q s < 0 := by
 intro n
 induction n with
 | zero =>
  intro x hx p hp hd
  obtain ⟨m, hm⟩ := hq p hp
  obtain ⟨c, hc⟩ := hm.in_
  have h1 := rank_lt hU hE hN (hm.pos x hd)
  have h2 := rank_nn hc
  omega
 | succ n ih =>
  intro x hx p hp hd
  obtain ⟨m, hm⟩ := hq p hp
  obtain ⟨c, hc⟩ := hm.in_
  have he := hm.pos x hd
  have h1 := rank_lt hU hE hN he
  have h2 := rank_nn hc
  by_cases h0 : dsum q m < 0
  ·exact ⟨m, he.le, h1, h0⟩
  ·obtain ⟨p2, hp2, hd2⟩ := dsum_neg hp (by rw [hm.low]; decide) (show 0 ≤ dsum q m by omega)
   obtain ⟨s, g1, g2, g3⟩ := ih m (by omega) p2 hp2 hd2
   exact ⟨s, g1.trans he.le, by omega, g3⟩
theorem up_sum2 {E : List Ed} {N : Int} (hU : UpE E) (hE : EdIn N E) (hN : N ≤ 8) {q : List Note} (hq : ∀ p ∈ q, ∃ m, UpN E N p m) {x : Mk} (hx : 0 < dsum q x) : ∃ s, Le E s x ∧ rank s < rank x ∧ dsum q s < 0 := by
 obtain ⟨p, hp, hd⟩ := dsum_pos hx
 exact up_sum hU hE hN hq _ x (Nat.le_refl _) p hp hd
theorem rsum_flat : ∀ (r : List (List Note)) (x : Mk), rsum r x = dsum r.flatten x
 | [], _ => rfl
 | q :: r, x => by rw [List.flatten_cons, dsum_append, ← rsum_flat r x]; rfl
theorem row_up {E : List Ed} {N : Int} {W : Nat} {n0 s0 : Int} {st : St} (hU : UpE E) (hE : EdIn N E) (hN : N ≤ 8) (h : Know E N W n0 s0 st) (hr : Reach W N st) {i : Nat} (hi : i < W) : ∀ p ∈ (st.notes.getD i []).flatten, ∃ m, UpN E N p m := by
 intro p hp
 obtain ⟨q, hq, hpq⟩ := List.mem_flatten.1 hp
 obtain ⟨m, hm, _⟩ := (h.noteU _ (getD_mem (by rw [hr.inv.nlen.1]; exact hi) []) q hq p hpq).up hU hE hN
 exact ⟨m, hm⟩
theorem safe {E : List Ed} {N : Int} {W : Nat} {n0 s0 : Int} {st : St} (hU : UpE E) (hE : EdIn N E) (hN : N ≤ 8) (h : Know E N W n0 s0 st) (hr : Reach W N st) {i : Nat} (hi : i < W) {x : Mk} (hx : 0 < gsum st.has x) : ∃ y, Le E y x ∧ 0 < getL (st.ledOf i) y := by
 by_cases h0 : 0 < getL (st.ledOf i) x
 ·exact ⟨x, Le.refl _ _, h0⟩
 ·have h1 := h.acc i hi x
  rw [rsum_flat] at h1
  obtain ⟨s, g1, _, g3⟩ := up_sum2 hU hE hN (row_up hU hE hN h hr hi) (x := x) (by omega)
  have h2 := h.acc i hi s
  rw [rsum_flat] at h2
  have h3 := (gsum_bd hr.inv.has.pos s).1
  exact ⟨s, g1, by omega⟩
theorem led_back {E : List Ed} {N : Int} {W : Nat} {n0 s0 : Int} {st st' : St} (hU : UpE E) (hE : EdIn N E) (hN : N ≤ 8) (ht : Turns E N W st st') (h : Know E N W n0 s0 st') (hr : Reach W N st') {i : Nat} (hi : i < W) {y : Mk} (hy : 0 < getL (st'.ledOf i) y) : ∃ x, Le E x y ∧ 0 < getL (st.ledOf i) x := by
 rcases ht.led i hi with h1 | ⟨p, hp, h1⟩
 ·exact ⟨y, Le.refl _ _, by rw [← h1]; exact hy⟩
 ·obtain ⟨m, hm, _⟩ := hp.up hU hE hN
  by_cases h0 : 0 < getL (st.ledOf i) y
  ·exact ⟨y, Le.refl _ _, h0⟩
  ·have hle := (hm.pos y (by have := h1 y; omega)).le
   by_cases h2 : 0 < getL (st.ledOf i) m
   ·exact ⟨m, hle, h2⟩
   ·have h3 := h.acc i hi m
    have h4 := (gsum_bd hr.inv.has.pos m).1
    have h5 := h1 m
    rw [hm.low] at h5
    rw [rsum_flat] at h3
    obtain ⟨s, g1, g2, g3⟩ := up_sum2 hU hE hN (row_up hU hE hN h hr hi) (x := m) (by omega)
    have h6 := h.acc i hi s
    have h7 := (gsum_bd hr.inv.has.pos s).1
    have h8 := h1 s
    rw [hm.off s g2] at h8
    rw [rsum_flat] at h6
    exact ⟨s, g1.trans hle, by omega⟩
theorem has_back {E : List Ed} {N : Int} {W : Nat} {st st' : St} (hU : UpE E) (hE : EdIn N E) (hN : N ≤ 8) (ht : Turns E N W st st') {y : Mk} (hy : 0 < gsum st'.has y) : ∃ x, Le E x y ∧ 0 < gsum st.has x := by
 rcases ht.has with h1 | ⟨p, m, hp, hhd, hm0, h1⟩
 ·exact ⟨y, Le.refl _ _, by rw [← h1]; exact hy⟩
 ·obtain ⟨m', hm, hh2⟩ := hp.up hU hE hN
  have : m' = m := by rw [hh2] at hhd; simpa using hhd
  subst this
  by_cases h0 : 0 < gsum st.has y
  ·exact ⟨y, Le.refl _ _, h0⟩
  ·exact ⟨m', (hm.pos y (by have := h1 y; omega)).le, hm0⟩
end Go.Proofs.Ytbkfnmgkcgnifaa.Mdl
namespace Go.Proofs.Ytbkfnmgkcgnifaa.Mdl
theorem sum_tm : ∀ {l : List Int}, l.length ≤ 3 → sum3 (tmOf l) = l.sum
 | [], _ => rfl
 | [a], _ => by simp [sum3, tmOf]
 | [a, b], _ => by simp [sum3, tmOf]
 | [a, b, c], _ => by show a + b + c = [a, b, c].sum; simp [Int.add_assoc]
 | _ :: _ :: _ :: _ :: _, h => by simp at h
theorem within_in {B : Int} {l : List Int} (h : inL B l) : withinB B l = true := by
 unfold withinB
 simp only [Bool.not_eq_true', List.any_eq_false]
 intro x hx
 have := h x hx
 simp only [outB, Bool.or_eq_true, decide_eq_true_eq, not_or]; omega
theorem inL.mono {B C : Int} {l : List Int} (h : inL B l) (hB : B ≤ C) : inL C l := fun x hx => by have := h x hx; omega
theorem EdgeMade.ok {N Wd : Int} {e : Ed} (h : EdgeMade N Wd e) : edgeOk N Wd e = true := by
 simp only [edgeOk, Bool.and_eq_true, decide_eq_true_eq]
 exact ⟨h.from_, h.to_, h.wide, within_in (h.nums.mono (by decide))⟩
theorem PlanMade.up {p : Plan} (h : PlanMade p) : UpE p.E := fun e he => by
 have h1 := h.E.2 e he
 by_cases hle : e.2.1 ≤ e.1
 ·right
  have := h1.up hle
  rw [sum_tm (by have := h1.wide; have := h.Wd; omega)]; exact this
 ·left; omega
theorem PlanMade.in_ {p : Plan} (h : PlanMade p) : EdIn p.N p.E := edges_in (fun e he => (h.E.2 e he).ok) (by have := h.Wd; omega)
theorem fold_some {start : Int} {n : Nat} {sum : Tm} {on1 : List Bool} {rec} {E : List Ed} (hb : ∀ e ∈ E, ¬ (e.1 = (n : Int) ∧ e.2.1 = start ∧ plusT sum (tmOf e.2.2) = (0, 0, 0))) (hrec : ∀ e ∈ E, e.1 = (n : Int) → ∀ r, ∃ x, rec e.2.1.toNat (plusT sum (tmOf e.2.2)) r on1 = some x) : ∀ (F : List Ed) (r : List (List Tm)), (∀ e ∈ F, e ∈ E) → ∃ x, F.foldl (edgeS start n sum on1 rec) (some r) = some x
 | [], r, _ => ⟨r, rfl⟩
 | e :: F, r, hF => by
  have he := hF e List.mem_cons_self
  have : ∃ x, edgeS start n sum on1 rec (some r) e = some x := by
   simp only [edgeS, Option.bind_some]
   split
   ·rw [if_neg (hb e he)]; exact ⟨r, rfl⟩
   ·rename_i hc
    exact hrec e he (Classical.byContradiction fun h => hc (.inl h)) r
  obtain ⟨x, hx⟩ := this
  rw [List.foldl_cons, hx]
  exact fold_some hb hrec F x (fun y hy => hF y (List.mem_cons_of_mem _ hy))
theorem zero_parts {a b : Tm} {B C : Int} (ha : TmIn B a) (hb : TmIn C b) (h : addT a b = (0, 0, 0)) : sum3 a = 0 ∧ sum3 b = 0 := by
 unfold TmIn at ha hb
 simp only [addT, Prod.mk.injEq] at h
 simp only [sum3]; omega
theorem sum_zero3 {a : Tm} {B : Int} (ha : TmIn B a) (h : sum3 a = 0) : a = (0, 0, 0) := by
 obtain ⟨x, y, z⟩ := a
 unfold TmIn at ha
 simp only [sum3] at *
 simp only [Prod.mk.injEq]; omega
theorem walk_some {E : List Ed} {N : Int} (hE : EdIn N E) (hU : UpE E) (start : Int) : ∀ (f n : Nat) (sum : Tm) (rows : List (List Tm)) (on : List Bool) (B : Int), TmIn B sum → B + 100 * f ≤ 100000 → (sum3 sum = 0 → start ≤ n) → ∃ x, walkP E start f n sum rows on = some x
 | 0, _, _, rows, _, _, _, _, _ => ⟨rows, rfl⟩
 | f + 1, n, sum, rows, on, B, hs, hB, h0 => by
  simp only [walkP]
  have hadd := fun e (he : e ∈ E) => plusT_add hs (hE e he).2.2 (by omega)
  refine fold_some (E := E) (fun e he hc => ?_) (fun e he hn r => ?_) E _ (fun _ h => h)
  ·obtain ⟨c1, c2, c3⟩ := hc
   rw [(hadd e he).1] at c3
   obtain ⟨z1, z2⟩ := zero_parts hs (hE e he).2.2 c3
   have h1 := h0 z1
   have h2 := hU e he
   omega
  ·rw [(hadd e he).1]
   refine walk_some hE hU start f _ _ r _ (B + 100) (hadd e he).2 (by omega) (fun hz => ?_)
   have h3 := sum_zero3 (hadd e he).2 hz
   obtain ⟨z1, z2⟩ := zero_parts hs (hE e he).2.2 h3
   have h1 := h0 z1
   have h2 := hU e he
   have h4 := (hE e he).2.1
   omega
theorem mapM_some {α β : Type} {f : α → Option β} : ∀ (l : List α), (∀ x ∈ l, ∃ y, f x = some y) → ∃ r, l.mapM f = some r
 | [], _ => ⟨[], rfl⟩
 | x :: l, h => by
  obtain ⟨y, hy⟩ := h x List.mem_cons_self
  obtain ⟨r, hr⟩ := mapM_some l (fun z hz => h z (List.mem_cons_of_mem _ hz))
  exact ⟨y :: r, by rw [List.mapM_cons, hy, hr]; rfl⟩
theorem made_planned {p : Plan} (h : PlanMade p) : ∃ ways, plannedP p = some ways := by
 obtain ⟨ways, hw⟩ := mapM_some (f := fromP p.E p.N.toNat) (List.range p.N.toNat) (fun x hx => by
  unfold fromP
  obtain ⟨rows, hr⟩ := walk_some h.in_ h.up x p.N.toNat x (0, 0, 0) (List.replicate p.N.toNat []) (List.replicate p.N.toNat false) 0 (by simp [TmIn]) (by have := h.N; omega) (fun _ => Int.le_refl _)
  exact ⟨_, by rw [hr]; rfl⟩)
 have ho : openedP p.N p.Wd p.E = some ways := by
  unfold openedP
  rw [if_pos ⟨⟨h.N.1, by have := h.N; omega, h.Wd.1, by have := h.Wd; omega, by have := h.E.1; omega⟩, List.all_eq_true.2 fun e he => (h.E.2 e he).ok⟩]
  exact hw
 refine ⟨ways, ?_⟩
 unfold plannedP
 rw [ho]
 simp only
 rw [if_pos]
 refine ⟨⟨h.Wk.1, by have := h.Wk; omega, by have := h.S; omega⟩, List.all_eq_true.2 fun m hm => ?_⟩
 have h1 := h.S.2.2 m hm
 simp only [msgOk, Bool.and_eq_true, decide_eq_true_eq]
 exact ⟨h1.node, h1.wide, within_in (h1.nums.mono (by decide)), h1.who.1, h1.who.2⟩
structure Good (p : Plan) (ways : Ways) : Prop where
 made : PlanMade p
 plan : plannedP p = some ways
theorem Good.open_ {p : Plan} {ways : Ways} (h : Good p ways) : openedP p.N p.Wd p.E = some ways := (planned_ok h.plan).1
theorem Good.begun {p : Plan} {ways : Ways} (h : Good p ways) {script : List Int} (hs : script.length ≤ 300) {n who : Int} (hn : 0 ≤ n) (h0 : 0 ≤ who) (h1 : who < p.workers) : begunP p script n who = .ok ways := by
 unfold begunP
 rw [h.plan]
 simp only
 rw [if_pos hs, if_pos ⟨hn, h0, h1⟩]
def stAt (p : Plan) (script : List Int) (n : Nat) : St := iterS p.E p.workers.toNat n (beginS p.workers.toNat p.start script)
theorem iterS_snoc (E : List Ed) (W : Nat) : ∀ (n : Nat) (st : St), iterS E W (n + 1) st = match stepS E W (iterS E W n st) with
  | none => iterS E W n st
  | some st' => st'
 | 0, st => by
  show iterS E W 1 st = match stepS E W st with | none => st | some st' => st'
  unfold iterS
  cases stepS E W st <;> rfl
 | n + 1, st => by
  conv => lhs; unfold iterS
  conv => rhs; unfold iterS
  cases hs : stepS E W st with
  | none => simp only [hs]
  | some st' => exact iterS_snoc E W n st'
structure Here (p : Plan) (script : List Int) (st : St) : Prop where
 reach : Reach p.workers.toNat p.N st
 know : Know p.E p.N p.workers.toNat p.start.length script.length st
theorem Good.here {p : Plan} {ways : Ways} (h : Good p ways) {script : List Int} (hs : script.length ≤ 300) : ∀ n, Here p script (stAt p script n)
 | 0 => ⟨begin_reach h.plan hs (by have := h.made.Wk; omega), begin_know h.plan hs (by have := h.made.Wk; omega)⟩
 | n + 1 => by
  have ih := h.here hs n
  unfold stAt at *
  rw [iterS_snoc]
  cases he : stepS p.E p.workers.toNat (iterS p.E p.workers.toNat n (beginS p.workers.toNat p.start script)) with
  | none => exact ih
  | some st' => exact ⟨(ih.reach.step (by have := h.made.Wk; omega) (fun e he => (h.made.in_ e he).2.1) he).1, (step_know h.made.in_ (by have := h.made.Wk; omega) ih.know ih.reach (by omega) he).1⟩
theorem Good.turns {p : Plan} {ways : Ways} (h : Good p ways) {script : List Int} (hs : script.length ≤ 300) (n : Nat) : stAt p script (n + 1) = stAt p script n ∨ Turns p.E p.N p.workers.toNat (stAt p script n) (stAt p script (n + 1)) := by
 have ih := h.here hs n
 unfold stAt at *
 rw [iterS_snoc]
 cases he : stepS p.E p.workers.toNat (iterS p.E p.workers.toNat n (beginS p.workers.toNat p.start script)) with
 | none => exact .inl rfl
 | some st' => exact .inr (step_know h.made.in_ (by have := h.made.Wk; omega) ih.know ih.reach (by omega) he).2
theorem Good.N8 {p : Plan} {ways : Ways} (h : Good p ways) : p.N ≤ 8 := by have := h.made.N; omega
theorem Good.has_later {p : Plan} {ways : Ways} (h : Good p ways) {script : List Int} (hs : script.length ≤ 300) (n : Nat) : ∀ (d : Nat) (y : Mk), 0 < gsum (stAt p script (n + d)).has y → ∃ x, Le p.E x y ∧ 0 < gsum (stAt p script n).has x
 | 0, y, hy => ⟨y, Le.refl _ _, hy⟩
 | d + 1, y, hy => by
  rcases h.turns hs (n + d) with he | ht
  ·rw [show n + (d + 1) = n + d + 1 from rfl, he] at hy
   exact h.has_later hs n d y hy
  ·obtain ⟨z, h1, h2⟩ := has_back h.made.up h.made.in_ h.N8 ht hy
   obtain ⟨x, h3, h4⟩ := h.has_later hs n d z h2
   exact ⟨x, h3.trans h1, h4⟩
theorem posL_mem {L : Led} (hn : (L.map (·.1)).Nodup) {m : Mk} : m ∈ posL L ↔ 0 < getL L m := by
 unfold posL
 constructor
 ·intro h
  obtain ⟨e, he, rfl⟩ := List.mem_map.1 h
  obtain ⟨h1, h2⟩ := List.mem_filter.1 he
  rw [getL_mem (v := e.2) hn h1]
  simpa using h2
 ·intro h
  by_cases hk : ∀ e ∈ L, e.1 ≠ m
  ·rw [getL_none hk] at h; omega
  ·obtain ⟨e, he⟩ := Classical.not_forall.1 hk
   obtain ⟨h1, h2⟩ := Classical.not_imp.1 he
   have h2 : e.1 = m := Classical.byContradiction h2
   subst h2
   rw [getL_mem (v := e.2) hn h1] at h
   exact List.mem_map.2 ⟨e, List.mem_filter.2 ⟨h1, by simpa using h⟩, rfl⟩
theorem truth_mem {W : Nat} {N : Int} {st : St} (hr : Reach W N st) {m : Mk} : m ∈ truthMs W st ↔ 0 < gsum st.has m := by
 unfold truthMs
 rw [List.mem_flatMap]
 constructor
 ·rintro ⟨i, hi, hm⟩
  have hil : i < st.has.length := by rw [hr.inv.has.len]; exact List.mem_range.1 hi
  have hP := hr.inv.has.pos _ (getD_mem hil [])
  have h1 := (posL_mem (L := st.hasOf i) hP.nodup).1 hm
  have h2 := gsum_ge hr.inv.has.pos (x := m) (getD_mem hil [])
  have h3 : st.hasOf i = st.has.getD i [] := rfl
  rw [h3] at h1; omega
 ·intro h
  obtain ⟨L, hL, h1⟩ := gsum_pos hr.inv.has.pos h
  obtain ⟨i, hi, rfl⟩ := List.mem_iff_getElem.1 hL
  refine ⟨i, List.mem_range.2 (by rw [← hr.inv.has.len]; exact hi), ?_⟩
  have e : st.hasOf i = st.has[i] := by unfold St.hasOf; rw [List.getD_eq_getElem?_getD, List.getElem?_eq_getElem hi]; rfl
  rw [e]
  exact (posL_mem (hr.inv.has.pos _ hL).nodup).2 h1
theorem led_mem {W : Nat} {N : Int} {st : St} (hr : Reach W N st) {i : Nat} (hi : i < W) {m : Mk} : m ∈ posL (st.ledOf i) ↔ 0 < getL (st.ledOf i) m :=
 posL_mem (hr.inv.ledN _ (getD_mem (l := st.led) (by rw [hr.inv.llen]; exact hi) [])).1
theorem led_in {E : List Ed} {N : Int} {W : Nat} {n0 s0 : Int} {st : St} (h : Know E N W n0 s0 st) (hr : Reach W N st) {i : Nat} (hi : i < W) : ∀ m ∈ posL (st.ledOf i), MkIn N 1100000 m := fun m hm => by
 obtain ⟨e, he, rfl⟩ := List.mem_map.1 hm
 exact ((h.ledT _ (getD_mem (l := st.led) (by rw [hr.inv.llen]; exact hi) []) e (List.mem_filter.1 he).1).1).mono (cB_le _)
theorem has_in {E : List Ed} {N : Int} {W : Nat} {n0 s0 : Int} {st : St} (h : Know E N W n0 s0 st) (hr : Reach W N st) : ∀ m ∈ truthMs W st, MkIn N 1100000 m := fun m hm => by
 obtain ⟨i, hi, hm⟩ := List.mem_flatMap.1 hm
 obtain ⟨e, he, rfl⟩ := List.mem_map.1 hm
 have hil : i < st.has.length := by rw [hr.inv.has.len]; exact List.mem_range.1 hi
 exact (h.hasT _ (getD_mem hil []) e (List.mem_filter.1 he).1).mono (cB_le _)
theorem front_get {n : Nat} {ways : Ways} {xs : List Mk} {k : Nat} (hk : k < n) : (frontP n ways xs).getD k [] = firstsT (rowP ways xs k) := by
 unfold frontP
 rw [List.getD_eq_getElem?_getD, List.getElem?_map, List.getElem?_range hk]; rfl
theorem front_len2 (n : Nat) (ways : Ways) (xs : List Mk) : (frontP n ways xs).length = n := by simp [frontP]
theorem front_sound {p : Plan} {ways : Ways} (h : Good p ways) {xs : List Mk} (hx : ∀ m ∈ xs, MkIn p.N 1100000 m) {k : Nat} (hk : k < p.N.toNat) {t : Tm} (ht : t ∈ (frontP p.N.toNat ways xs).getD k []) : ∃ m ∈ xs, Le p.E m ((k : Int), t) := by
 rw [front_get hk] at ht
 obtain ⟨m, hm, ht⟩ := List.mem_flatMap.1 (firsts_sub ht)
 obtain ⟨s, hs, rfl⟩ := List.mem_map.1 ht
 obtain ⟨hn, htm⟩ := hx m hm
 have hs : s ∈ wayAt ways m.1 (k : Int).toNat := hs
 obtain ⟨P, hP, hw, rfl⟩ := way_sound h.open_ hn (b := k) (by omega) hs
 refine ⟨m, hm, P, hw, ?_⟩
 have hsi := sumW_in h.made.in_ (way_mem hw)
 rw [(plusT_add htm hsi (by omega)).1]
 exact LeT.refl _
theorem front_cover {p : Plan} {ways : Ways} (h : Good p ways) {xs : List Mk} (hx : ∀ m ∈ xs, MkIn p.N 1100000 m) {k : Nat} (hk : k < p.N.toNat) {m : Mk} (hm : m ∈ xs) {t : Tm} (hl : Le p.E m ((k : Int), t)) : ∃ s ∈ (frontP p.N.toNat ways xs).getD k [], LeT s t := by
 obtain ⟨P, hw, hle⟩ := hl
 obtain ⟨hn, htm⟩ := hx m hm
 obtain ⟨u, hu, hul⟩ := way_cover h.open_ hn (b := k) (by omega) hw
 obtain ⟨Q, hQ, hwQ, rfl⟩ := way_sound h.open_ hn (b := k) (by omega) hu
 have hsi := sumW_in h.made.in_ (way_mem hwQ)
 rw [front_get hk]
 obtain ⟨s, hs, hsl⟩ := firsts_cover (l := rowP ways xs k) (y := plusT m.2 (sumW Q)) (List.mem_flatMap.2 ⟨m, hm, List.mem_map.2 ⟨_, hu, rfl⟩⟩)
 refine ⟨s, hs, hsl.trans (LeT.trans ?_ hle)⟩
 rw [(plusT_add htm hsi (by omega)).1]
 unfold LeT at *
 simp only [addT]; omega
theorem front_on {p : Plan} {ways : Ways} (h : Good p ways) {xs ys : List Mk} (hx : ∀ m ∈ xs, MkIn p.N 1100000 m) (hy : ∀ m ∈ ys, MkIn p.N 1100000 m) (hxy : ∀ y ∈ ys, ∃ x ∈ xs, Le p.E x y) {k : Nat} (hk : k < p.N.toNat) : ∀ t ∈ (frontP p.N.toNat ways ys).getD k [], ∃ s ∈ (frontP p.N.toNat ways xs).getD k [], LeT s t := fun t ht => by
 obtain ⟨y, hy1, hl⟩ := front_sound h hy hk ht
 obtain ⟨x, hx1, hl2⟩ := hxy y hy1
 exact front_cover h hx hk hx1 (hl2.trans hl)
abbrev numF (wd : Nat) (f : List (List Tm)) : List (List (List Int)) := f.map (List.map (numsT wd))
theorem nums_getD (wd : Nat) (t : Tm) (k : Nat) : (numsT wd t).getD k 0 = if k < wd then [t.1, t.2.1, t.2.2].getD k 0 else 0 := by
 unfold numsT
 rw [List.getD_eq_getElem?_getD, List.getElem?_take]
 split <;> simp
theorem le_nums {wd : Nat} (hw : wd ≤ 3) {a b : Tm} (h : LeT a b) : leL (numsT wd a) (numsT wd b) = true := by
 unfold leL leTo
 rw [List.all_eq_true]
 intro k hk
 have hk := List.mem_range.1 hk
 rw [length_numsT _ hw] at hk
 rw [nums_getD, nums_getD, if_pos hk, if_pos hk]
 unfold LeT at h
 match k, hk with
 | 0, _ => simpa using h.1
 | 1, _ => simpa using h.2.1
 | 2, _ => simpa using h.2.2
 | k + 3, hk => omega
theorem past_nums {wd : Nat} (hw : wd ≤ 3) {f : List Tm} {t : Tm} (h : ∃ s ∈ f, LeT s t) : pastP (f.map (numsT wd)) (numsT wd t) = true := by
 obtain ⟨s, hs, hl⟩ := h
 unfold pastP
 rw [List.any_eq_true]
 exact ⟨_, List.mem_map.2 ⟨s, hs, rfl⟩, by unfold pastQ; rw [length_numsT _ hw, length_numsT _ hw, decide_eq_true rfl, le_nums hw hl]; rfl⟩
theorem numF_get (wd : Nat) (f : List (List Tm)) (k : Nat) : (numF wd f).getD k [] = (f.getD k []).map (numsT wd) := by
 rw [List.getD_eq_getElem?_getD, List.getElem?_map, List.getD_eq_getElem?_getD]
 cases f[k]? <;> rfl
theorem on_nums {wd : Nat} (hw : wd ≤ 3) {f g : List (List Tm)} (hl : f.length = g.length) (h : ∀ k, k < g.length → ∀ t ∈ g.getD k [], ∃ s ∈ f.getD k [], LeT s t) : onP (numF wd f) (numF wd g) = true := by
 unfold onP onTo
 rw [decide_eq_true (by simp [hl]), Bool.true_and, List.all_eq_true]
 intro k hk
 have hk := List.mem_range.1 hk
 rw [List.length_map] at hk
 rw [List.all_eq_true, numF_get, numF_get]
 intro t ht
 obtain ⟨u, hu, rfl⟩ := List.mem_map.1 ht
 exact past_nums hw (h k hk u hu)
theorem front_onP {p : Plan} {ways : Ways} (h : Good p ways) {xs ys : List Mk} (hx : ∀ m ∈ xs, MkIn p.N 1100000 m) (hy : ∀ m ∈ ys, MkIn p.N 1100000 m) (hxy : ∀ y ∈ ys, ∃ x ∈ xs, Le p.E x y) : onP (numF p.Wd.toNat (frontP p.N.toNat ways xs)) (numF p.Wd.toNat (frontP p.N.toNat ways ys)) = true :=
 on_nums (by have := h.made.Wd; omega) (by rw [front_len2, front_len2]) (fun k hk => front_on h hx hy hxy (by rwa [front_len2] at hk))
def truthF (p : Plan) (ways : Ways) (script : List Int) (n : Nat) : List (List (List Int)) := numF p.Wd.toNat (frontP p.N.toNat ways (truthMs p.workers.toNat (stAt p script n)))
def beliefF (p : Plan) (ways : Ways) (script : List Int) (n who : Nat) : List (List (List Int)) := numF p.Wd.toNat (frontP p.N.toNat ways (posL ((stAt p script n).ledOf who)))
theorem Good.truthX {p : Plan} {ways : Ways} (h : Good p ways) {script : List Int} (hs : script.length ≤ 300) (n : Nat) : ∃ r, Mdl.truthX p script n = .ok r ∧ numF p.Wd.toNat r = truthF p ways script n := by
 refine ⟨_, ?_, rfl⟩
 unfold Mdl.truthX
 rw [h.begun hs (by omega) (Int.le_refl _) (by have := h.made.Wk; omega)]
 rfl
theorem Good.beliefX {p : Plan} {ways : Ways} (h : Good p ways) {script : List Int} (hs : script.length ≤ 300) (n : Nat) {who : Nat} (hw : (who : Int) < p.workers) : ∃ r, Mdl.beliefX p script n who = .ok r ∧ numF p.Wd.toNat r = beliefF p ways script n who := by
 refine ⟨_, ?_, rfl⟩
 unfold Mdl.beliefX
 rw [h.begun hs (by omega) (by omega) hw]
 rfl
theorem safe_truth {p : Plan} {ways : Ways} (h : Good p ways) {script : List Int} (hs : script.length ≤ 300) (n d : Nat) : onP (truthF p ways script n) (truthF p ways script (n + d)) = true := by
 have h1 := h.here hs n
 have h2 := h.here hs (n + d)
 refine front_onP h (has_in h1.know h1.reach) (has_in h2.know h2.reach) (fun y hy => ?_)
 obtain ⟨x, hl, hx⟩ := h.has_later hs n d y ((truth_mem h2.reach).1 hy)
 exact ⟨x, (truth_mem h1.reach).2 hx, hl⟩
theorem safe_belief {p : Plan} {ways : Ways} (h : Good p ways) {script : List Int} (hs : script.length ≤ 300) (n d : Nat) {who : Nat} (hw : (who : Int) < p.workers) : onP (beliefF p ways script n who) (truthF p ways script (n + d)) = true := by
 have h1 := h.here hs n
 have h2 := h.here hs (n + d)
 have hw2 : who < p.workers.toNat := by omega
 refine front_onP h (led_in h1.know h1.reach hw2) (has_in h2.know h2.reach) (fun y hy => ?_)
 obtain ⟨x, hl, hx⟩ := h.has_later hs n d y ((truth_mem h2.reach).1 hy)
 obtain ⟨z, hl2, hz⟩ := safe h.made.up h.made.in_ h.N8 h1.know h1.reach hw2 hx
 exact ⟨z, (led_mem h1.reach hw2).2 hz, hl2.trans hl⟩
end Go.Proofs.Ytbkfnmgkcgnifaa.Mdl
namespace Go.Proofs.Ytbkfnmgkcgnifaa.Mdl
structure Ended (W : Nat) (st : St) : Prop where
 has : ∀ i, i < W → st.hasOf i = []
 queue : ∀ i k, i < W → k < W → st.queue i k = []
theorem ended_of {E : List Ed} {W : Nat} {st : St} (h : stepS E W st = none) : Ended W st := by
 have hm : movesS W st = [] := by
  unfold stepS at h
  cases hm : movesS W st with
  | nil => rfl
  | cons a l => rw [hm] at h; cases h
 rw [movesS_eq] at hm
 obtain ⟨h1, h2⟩ := List.append_eq_nil_iff.1 hm
 refine ⟨fun i hi => ?_, fun i k hi hk => ?_⟩
 ·have := (List.flatMap_eq_nil_iff.1 h1) i (List.mem_range.2 hi)
  unfold fW at this
  have h3 := congrArg List.length this
  rw [List.length_map, sortM_len, List.length_map] at h3
  exact List.eq_nil_of_length_eq_zero h3
 ·have h3 := (List.flatMap_eq_nil_iff.1 h2) i (List.mem_range.2 hi)
  unfold fT at h3
  have h4 := (List.flatMap_eq_nil_iff.1 h3) k (List.mem_range.2 hk)
  unfold gT at h4
  split at h4
  ·assumption
  ·cases h4
theorem all_nil {α : Type} {d : List α} {l : List (List α)} (hd : d = []) (h : ∀ i, i < l.length → l.getD i d = []) : ∀ x ∈ l, x = [] := fun x hx => by
 obtain ⟨i, hi, rfl⟩ := List.mem_iff_getElem.1 hx
 have := h i hi
 rwa [List.getD_eq_getElem?_getD, List.getElem?_eq_getElem hi] at this
theorem gsum_nil : ∀ {has : List Led}, (∀ L ∈ has, L = []) → ∀ x, gsum has x = 0
 | [], _, _ => rfl
 | L :: l, h, x => by
  rw [gsum, h L List.mem_cons_self, gsum_nil (fun L hL => h L (List.mem_cons_of_mem _ hL))]; rfl
theorem rsum_nil : ∀ {r : List (List Note)}, (∀ q ∈ r, q = []) → ∀ x, rsum r x = 0
 | [], _, _ => rfl
 | q :: r, h, x => by
  rw [rsum, h q List.mem_cons_self, rsum_nil (fun L hL => h L (List.mem_cons_of_mem _ hL))]; rfl
theorem Ended.led {E : List Ed} {N : Int} {W : Nat} {n0 s0 : Int} {st : St} (h : Ended W st) (hk : Know E N W n0 s0 st) (hr : Reach W N st) {i : Nat} (hi : i < W) : st.ledOf i = [] := by
 have hg : ∀ x, getL (st.ledOf i) x = 0 := fun x => by
  have h1 := hk.acc i hi x
  rw [gsum_nil (all_nil rfl (fun j hj => h.has j (by rw [← hr.inv.has.len]; exact hj))) x, rsum_nil (all_nil rfl (fun k hk2 => h.queue i k hi (by
   rw [hr.inv.nlen.2 _ (getD_mem (by rw [hr.inv.nlen.1]; exact hi) [])] at hk2; exact hk2))) x] at h1
  omega
 have hm : st.ledOf i ∈ st.led := getD_mem (by rw [hr.inv.llen]; exact hi) []
 cases hL : st.ledOf i with
 | nil => rfl
 | cons e l =>
  have he : e ∈ st.ledOf i := by rw [hL]; exact List.mem_cons_self
  have h1 := getL_mem (L := st.ledOf i) (m := e.1) (v := e.2) (hr.inv.ledN _ hm).1 he
  have h2 := (hk.ledT _ hm e he).2
  rw [hg] at h1
  exact absurd h1.symm h2
theorem Ended.sums {E : List Ed} {N : Int} {W : Nat} {n0 s0 : Int} {st : St} (h : Ended W st) (hk : Know E N W n0 s0 st) (hr : Reach W N st) : st.works = n0 + st.sent ∧ st.nts = st.works * (W - 1) := by
 have h1 := hk.made
 have h2 := hk.told
 have e1 : msgs st.has = 0 := sum_zero _ _ (fun L hL => by rw [all_nil rfl (fun j hj => h.has j (by rw [← hr.inv.has.len]; exact hj)) L hL]; rfl)
 have e2 : qNotes st.notes = 0 := sum_zero _ _ (fun r hr2 => by
  obtain ⟨i, hi, rfl⟩ := List.mem_iff_getElem.1 hr2
  have hi2 : i < W := by rw [← hr.inv.nlen.1]; exact hi
  have e : st.notes.getD i [] = st.notes[i] := by rw [List.getD_eq_getElem?_getD, List.getElem?_eq_getElem hi]; rfl
  refine sum_zero _ _ (fun q hq => ?_)
  rw [all_nil (d := []) rfl (fun k hk2 => by
   have := h.queue i k hi2 (by rw [← hr.inv.nlen.2 _ hr2]; exact hk2)
   unfold St.queue at this
   rwa [e] at this) q hq]
  rfl)
 omega
def stC (p : Plan) (script : List Int) (n : Nat) : Int := (stAt p script n).works + (stAt p script n).nts
theorem Good.counts {p : Plan} {ways : Ways} (h : Good p ways) {script : List Int} (hs : script.length ≤ 300) : ∀ n : Nat, (stC p script n = n ∨ stepS p.E p.workers.toNat (stAt p script n) = none) ∧ ∃ m : Nat, stC p script n = m ∧ stAt p script m = stAt p script n
 | 0 => ⟨.inl rfl, 0, rfl, rfl⟩
 | n + 1 => by
  obtain ⟨ih, m, ih1, ih2⟩ := h.counts hs n
  cases he : stepS p.E p.workers.toNat (stAt p script n) with
  | none =>
   have e : stAt p script (n + 1) = stAt p script n := by unfold stAt at *; rw [iterS_snoc, he]
   refine ⟨.inr (by rw [e]; exact he), m, by unfold stC at *; rw [e]; exact ih1, by rw [e]; exact ih2⟩
  | some st' =>
   have e : stAt p script (n + 1) = st' := by unfold stAt at *; rw [iterS_snoc, he]
   have ht := (step_know h.made.in_ (by have := h.made.Wk; omega) (h.here hs n).know (h.here hs n).reach (by omega) he).2.one
   have hc : stC p script n = n := ih.resolve_right (by rw [he]; simp)
   have hc2 : stC p script (n + 1) = ((n + 1 : Nat) : Int) := by unfold stC at *; rw [e]; omega
   exact ⟨.inl hc2, n + 1, hc2, rfl⟩
theorem Good.stops {p : Plan} {ways : Ways} (h : Good p ways) {script : List Int} (hs : script.length ≤ 300) {n : Nat} (hn : 1233 ≤ n) : stepS p.E p.workers.toNat (stAt p script n) = none := by
 refine (h.counts hs n).1.resolve_left (fun hc => ?_)
 have := (h.here hs n).know.steps
 unfold stC at hc
 omega
structure EndOf (p : Plan) (ways : Ways) (script : List Int) (works nts sent : Nat) : Prop where
 run : runX p script = .ok (works, nts, sent)
 works_ : (works : Int) = p.start.length + sent
 nts_ : (nts : Int) = works * (p.workers - 1)
 sent_ : sent ≤ script.length
 all : works + nts ≤ 1232
 ended : Ended p.workers.toNat (stAt p script (works + nts))
 led : ∀ i, i < p.workers.toNat → (stAt p script (works + nts)).ledOf i = []
theorem Good.ends {p : Plan} {ways : Ways} (h : Good p ways) {script : List Int} (hs : script.length ≤ 300) : ∃ works nts sent, EndOf p ways script works nts sent := by
 have hW := h.made.Wk
 have hh := h.here hs 1233
 have hst := h.stops hs (Nat.le_refl 1233)
 have hen := ended_of hst
 obtain ⟨s1, s2⟩ := hen.sums hh.know hh.reach
 have hp := hh.know.pos
 have hsn := hh.know.sent
 have hsteps := hh.know.steps
 obtain ⟨_, m, hm1, hm2⟩ := h.counts hs 1233
 refine ⟨(stAt p script 1233).works.toNat, (stAt p script 1233).nts.toNat, (stAt p script 1233).sent.toNat, ?_⟩
 have em : (stAt p script 1233).works.toNat + (stAt p script 1233).nts.toNat = m := by unfold stC at hm1; omega
 have eW : ((p.workers.toNat : Nat) : Int) = p.workers := by omega
 rw [eW] at s2
 refine ⟨?_, by omega, by rw [Int.toNat_of_nonneg hp.1, Int.toNat_of_nonneg hp.2.1]; exact s2, by omega, by omega, by rw [em, hm2]; exact hen, fun i hi => by rw [em, hm2]; exact hen.led hh.know hh.reach hi⟩
 unfold runX
 rw [h.begun hs (by omega) (Int.le_refl _) (by omega)]
 show Except.ok ((stAt p script 1233).works, (stAt p script 1233).nts, (stAt p script 1233).sent) = _
 rw [Int.toNat_of_nonneg hp.1, Int.toNat_of_nonneg hp.2.1, Int.toNat_of_nonneg hp.2.2]
theorem firsts_nil : firstsT [] = [] := by decide
theorem front_nil (n : Nat) (ways : Ways) : frontP n ways [] = List.replicate n [] := by
 unfold frontP
 rw [List.eq_replicate_iff]
 refine ⟨by simp, fun x hx => ?_⟩
 obtain ⟨k, _, rfl⟩ := List.mem_map.1 hx
 exact firsts_nil
theorem numF_nil (wd n : Nat) : numF wd (List.replicate n []) = List.replicate n [] := by simp [numF]
theorem EndOf.truth {p : Plan} {ways : Ways} {script : List Int} {a b c : Nat} (h : EndOf p ways script a b c) : truthF p ways script (a + b) = List.replicate p.N.toNat [] := by
 unfold truthF
 have : truthMs p.workers.toNat (stAt p script (a + b)) = [] := by
  unfold truthMs
  rw [List.flatMap_eq_nil_iff]
  intro i hi
  rw [h.ended.has i (List.mem_range.1 hi)]; rfl
 rw [this, front_nil, numF_nil]
theorem EndOf.belief {p : Plan} {ways : Ways} {script : List Int} {a b c : Nat} (h : EndOf p ways script a b c) {who : Nat} (hw : who < p.workers.toNat) : beliefF p ways script (a + b) who = List.replicate p.N.toNat [] := by
 unfold beliefF
 rw [h.led who hw]
 show numF _ (frontP _ _ []) = _
 rw [front_nil, numF_nil]
theorem Good.heldX {p : Plan} {ways : Ways} (h : Good p ways) {script : List Int} (hs : script.length ≤ 300) (n : Nat) {who : Nat} (hw : (who : Int) < p.workers) : Mdl.heldX p script n who = .ok (heldL p.Wd.toNat ((stAt p script n).hasOf who)) := by
 unfold Mdl.heldX
 rw [h.begun hs (by omega) (by omega) hw]
 rfl
theorem Good.ledgerX {p : Plan} {ways : Ways} (h : Good p ways) {script : List Int} (hs : script.length ≤ 300) (n : Nat) {who : Nat} (hw : (who : Int) < p.workers) : Mdl.ledgerX p script n who = .ok (ledgerL p.Wd.toNat ((stAt p script n).ledOf who)) := by
 unfold Mdl.ledgerX
 rw [h.begun hs (by omega) (by omega) hw]
 rfl
def heldF (p : Plan) (script : List Int) (n who : Nat) : List (Int × List Int) := heldL p.Wd.toNat ((stAt p script n).hasOf who)
def ledgerF (p : Plan) (script : List Int) (n who : Nat) : List Msg := ledgerL p.Wd.toNat ((stAt p script n).ledOf who)
theorem EndOf.held {p : Plan} {ways : Ways} {script : List Int} {a b c : Nat} (h : EndOf p ways script a b c) {who : Nat} (hw : (who : Int) < p.workers) : heldF p script (a + b) who = [] := by
 unfold heldF; rw [h.ended.has who (by omega)]; rfl
theorem EndOf.ledger {p : Plan} {ways : Ways} {script : List Int} {a b c : Nat} (h : EndOf p ways script a b c) {who : Nat} (hw : (who : Int) < p.workers) : ledgerF p script (a + b) who = [] := by
 unfold ledgerF; rw [h.led who (by omega)]; rfl
end Go.Proofs.Ytbkfnmgkcgnifaa.Mdl
namespace Go.Proofs.Ytbkfnmgkcgnifaa
open Go.RowKit Go.Shelf Go.Proofs.YtbkfnmgkcgnifaaW.PrintWords Go.Proofs.YtbkfnmgkcgnifaaW.PrintLast Mdl
theorem Al.since {Ps : List (World → Prop)} {w0 w : World} (h : Al Ps w) (hb : Below w0.heap.size w0 w) : Al ((fun u => Below w0.heap.size w0 u) :: Ps) w := ⟨⟨hb, fun _ _ h k => below_then h h.size k⟩, h⟩
theorem C_cut {w : World} {A : Option Addr} {l : List Int} (h : kI.C w A l.length l) (m : Nat) : kI.C w A (l.take m).length (l.take m) := by
 by_cases hm : m ≤ l.length
 ·exact Kd.C_take h hm
 ·rw [List.take_of_length_le (by omega)]; exact h
theorem cut_len (l : List Int) (m : Nat) : (if (m : Int) < (l.length : Int) then (m : Int) else (l.length : Int)).toNat = (l.take m).length := by
 rw [List.length_take]; split <;> omega
theorem made_frontsI {N : Int} (h0 : 1 ≤ N) (h8 : N ≤ 8) (W : World) : (Instr.makeSlice 52 (.int .i64 N) (.int .i64 N)).run Try.prog W = .ok (.slice (some ⟨W.heap.size, 0, none⟩) N.toNat N.toNat) (W.alloc (.cells (madeCells #[.slice none 0 0] N.toNat) 32)) := by
 have h := made_fronts N.toNat (by omega) W
 rwa [Int.toNat_of_nonneg (by omega)] at h
section
variable {p : Plan} {ways : Ways} {eA mA sA : Option Addr} {eC mC sC : Nat} {sc : List Int} {w : World}
theorem truth_ok (h : Mdl.Good p ways) (hs : sc.length ≤ 300) (n : Nat) (hn : n ≤ 9000) (hp : PlanAt w p eA mA) (hc : kI.C w sA sc.length sc) (hl : sc.length ≤ sC) : Calls Try.prog 20 #[planV p eA eC mA mC, .slice sA sc.length sC, .int .i64 n] w fun e w' => ∃ A c, e = .returned (.tuple #[.slice A (truthF p ways sc n).length c, .int .i64 0]) ∧ kLLI.C w' A (truthF p ways sc n).length (truthF p ways sc n) ∧ (truthF p ways sc n).length ≤ c ∧ Below w.heap.size w w' := by
 obtain ⟨r, h1, h2⟩ := h.truthX hs n
 exact res_ok h1 h2 (truth_any p eA mA sA eC mC sC sc n (by omega) w hp hc hl)
theorem belief_ok (h : Mdl.Good p ways) (hs : sc.length ≤ 300) (n who : Nat) (hn : n ≤ 9000) (hw : (who : Int) < p.workers) (hp : PlanAt w p eA mA) (hc : kI.C w sA sc.length sc) (hl : sc.length ≤ sC) : Calls Try.prog 21 #[planV p eA eC mA mC, .slice sA sc.length sC, .int .i64 n, .int .i64 who] w fun e w' => ∃ A c, e = .returned (.tuple #[.slice A (beliefF p ways sc n who).length c, .int .i64 0]) ∧ kLLI.C w' A (beliefF p ways sc n who).length (beliefF p ways sc n who) ∧ (beliefF p ways sc n who).length ≤ c ∧ Below w.heap.size w w' := by
 obtain ⟨r, h1, h2⟩ := h.beliefX hs n hw
 exact res_ok h1 h2 (belief_any p eA mA sA eC mC sC sc n who (by omega) w hp hc hl)
theorem held_ok (h : Mdl.Good p ways) (hs : sc.length ≤ 300) (n who : Nat) (hn : n ≤ 9000) (hw : (who : Int) < p.workers) (hp : PlanAt w p eA mA) (hc : kI.C w sA sc.length sc) (hl : sc.length ≤ sC) : Calls Try.prog 26 #[planV p eA eC mA mC, .slice sA sc.length sC, .int .i64 n, .int .i64 who] w fun e w' => ∃ A c, e = .returned (.tuple #[.slice A (heldF p sc n who).length c, .int .i64 0]) ∧ kMk.C w' A (heldF p sc n who).length (heldF p sc n who) ∧ (heldF p sc n who).length ≤ c ∧ Below w.heap.size w w' :=
 res_ok (f := fun l => l) (h.heldX hs n hw) rfl (held_any p eA mA sA eC mC sC sc n who (by omega) w hp hc hl)
theorem ledger_ok (h : Mdl.Good p ways) (hs : sc.length ≤ 300) (n who : Nat) (hn : n ≤ 9000) (hw : (who : Int) < p.workers) (hp : PlanAt w p eA mA) (hc : kI.C w sA sc.length sc) (hl : sc.length ≤ sC) : Calls Try.prog 25 #[planV p eA eC mA mC, .slice sA sc.length sC, .int .i64 n, .int .i64 who] w fun e w' => ∃ A c, e = .returned (.tuple #[.slice A (ledgerF p sc n who).length c, .int .i64 0]) ∧ kMs.C w' A (ledgerF p sc n who).length (ledgerF p sc n who) ∧ (ledgerF p sc n who).length ≤ c ∧ Below w.heap.size w w' :=
 res_ok (f := fun l => l) (h.ledgerX hs n hw) rfl (ledger_any p eA mA sA eC mC sC sc n who (by omega) w hp hc hl)
theorem run_ok {a b c : Nat} (hr : runX p sc = .ok (a, b, c)) (hp : PlanAt w p eA mA) (hc : kI.C w sA sc.length sc) (hl : sc.length ≤ sC) : Calls Try.prog 22 #[planV p eA eC mA mC, .slice sA sc.length sC] w fun e w' => e = .returned (.tuple #[.agg #[.int .i64 a, .int .i64 b, .int .i64 c], .int .i64 0]) ∧ Below w.heap.size w w' := by
 refine (run_any p eA mA sA eC mC sC sc w hp hc hl).mono ?_
 rintro e w' ⟨rfl, hb⟩
 rw [hr]
 exact ⟨rfl, hb⟩
theorem fronts_eq {A B : Option Addr} {cA cB n m : Nat} {f g : List (List (List Int))} (hl : kLLI.C w A n f) (hm : kLLI.C w B m g) (hn : f.length = n) (hm2 : g.length = m) (h : f = g) : Calls Try.prog 27 #[.slice A n cA, .slice B m cB] w fun e w' => e = .returned (.bool true) ∧ Below w.heap.size w w' := by
 subst hn hm2 h
 exact fronts_same A B cA cB w f hl hm
theorem on_true {A B : Option Addr} {cA cB : Nat} {f g : List (List (List Int))} (hl : kLLI.C w A f.length f) (hm : kLLI.C w B g.length g) (h : onP f g = true) : Calls Try.prog 28 #[.slice A f.length cA, .slice B g.length cB] w fun e w' => e = .returned (.bool true) ∧ Below w.heap.size w w' :=
 (on_any A B cA cB f g w hl hm).mono fun e w' hh => ⟨by rw [hh.1, h], hh.2⟩
theorem progressed_fin {P : Ending → World → Prop} {w0 : World} (hb : Below w0.heap.size w0 w) (h : ∀ w', Below w0.heap.size w0 w' → P (.returned (.bool true)) w') : Calls Try.prog 17 #[] w P :=
 (progressed_any w).mono fun e w' hh => by rw [hh.1]; exact h w' (below_then hb hb.size hh.2)
end
end Go.Proofs.Ytbkfnmgkcgnifaa
namespace Go.Proofs.Ytbkfnmgkcgnifaa.Mdl
structure AllM (P : Mk → Prop) (st : St) : Prop where
 has : ∀ L ∈ st.has, ∀ e ∈ L, P e.1
 led : ∀ L ∈ st.led, ∀ e ∈ L, P e.1
 notes : ∀ r ∈ st.notes, ∀ q ∈ r, ∀ p ∈ q, ∀ e ∈ p, P e.1
theorem led_all {P : Mk → Prop} {L : Led} (h : ∀ e ∈ L, P e.1) {note : Note} (hn : ∀ e ∈ note, P e.1) : ∀ e ∈ readL L note, P e.1 := fun e he => by
 rcases mem_readL _ _ he with ⟨x, hx, hk⟩ | he
 ·rw [hk]; exact hn x hx
 ·exact h e he
theorem set_all {P : Mk → Prop} {ls : List Led} (h : ∀ L ∈ ls, ∀ e ∈ L, P e.1) {i : Nat} {L : Led} (hL : ∀ e ∈ L, P e.1) : ∀ M ∈ ls.set i L, ∀ e ∈ M, P e.1 := fun M hM => by
 rcases List.mem_or_eq_of_mem_set hM with hM | rfl
 ·exact h M hM
 ·exact hL
theorem get_all {P : Mk → Prop} {ls : List Led} (h : ∀ L ∈ ls, ∀ e ∈ L, P e.1) (i : Nat) : ∀ e ∈ ls.getD i [], P e.1 := by
 by_cases hi : i < ls.length
 ·exact h _ (getD_mem hi [])
 ·rw [List.getD_eq_getElem?_getD, List.getElem?_eq_none (by omega)]
  intro e he; cases he
theorem enter_all {P : Mk → Prop} {L : Led} (h : ∀ e ∈ L, P e.1) {m : Mk} (hm : P m) (n : Int) : ∀ e ∈ enterL L m n, P e.1 := fun e he => by
 rcases mem_enterL he with he | he
 ·rw [he]; exact hm
 ·exact h e he
theorem fold_all {P : Mk → Prop} {W : Nat} {m : Mk} (hm : P m) : ∀ (E : List Ed), (∀ m e, P m → e ∈ E → P (e.2.1, plusT m.2 (tmOf e.2.2))) → ∀ s : WS, (∀ L ∈ s.has, ∀ e ∈ L, P e.1) → (∀ e ∈ s.note, P e.1) → (∀ L ∈ (E.foldl (edgeW W m) s).has, ∀ e ∈ L, P e.1) ∧ ∀ e ∈ (E.foldl (edgeW W m) s).note, P e.1
 | [], _, s, h1, h2 => ⟨h1, h2⟩
 | e :: E, hE, s, h1, h2 => by
  refine fold_all hm E (fun m x hp hx => hE m x hp (List.mem_cons_of_mem _ hx)) (edgeW W m s e) ?_ ?_
  ·unfold edgeW
   split
   ·split
    ·exact h1
    ·exact set_all h1 (enter_all (get_all h1 _) (hE m e hm List.mem_cons_self) 1)
   ·exact h1
  ·unfold edgeW
   split
   ·split
    ·exact h2
    ·intro x hx
     rcases List.mem_append.1 hx with hx | hx
     ·exact h2 x hx
     ·rw [List.mem_singleton.1 hx]; exact hE m e hm List.mem_cons_self
   ·exact h2
theorem step_all {P : Mk → Prop} {E : List Ed} {W : Nat} {N : Int} {st st' : St} (hE : ∀ m e, P m → e ∈ E → P (e.2.1, plusT m.2 (tmOf e.2.2))) (hr : Reach W N st) (h : AllM P st) (hs : stepS E W st = some st') : AllM P st' := by
 unfold stepS at hs
 cases hm : movesS W st with
 | nil => rw [hm] at hs; cases hs
 | cons a l =>
  rw [hm] at hs
  simp only [Option.some.injEq] at hs
  generalize hmv : (a :: l).getD (numP st.script ((l.length : Int) + 1)).toNat a = mv at *
  have hmem : mv ∈ movesS W st := by rw [hm]; exact getD_some_mem List.mem_cons_self hmv
  have hok := mem_moves hmem
  subst hs
  cases mv with
  | work i m =>
   obtain ⟨hi, v, hv⟩ := hok
   have hi : i < W := hi
   have hPm : P m := get_all h.has i _ hv
   obtain ⟨f1, f2⟩ := fold_all (W := W) hPm E hE ⟨st.has.set i (enterL (st.hasOf i) m (-1)), st.script.tail, st.sent, [(m, -1)]⟩ (set_all h.has (enter_all (get_all h.has i) hPm (-1))) (fun e he => by rw [List.mem_singleton.1 he]; exact hPm)
   have hp := push_know (P := fun p => ∀ e ∈ p, P e.1) (note := (workW E W { st with script := st.script.tail } i m).note) hi hr.inv.nlen h.notes f2 W (Nat.le_refl _)
   exact ⟨f1, set_all h.led (led_all (get_all h.led i) f2), hp.mem⟩
  | take i k =>
   obtain ⟨hi, hk, hq⟩ := hok
   have hnil : st.notes.length = W := hr.inv.nlen.1
   have hq2 := qOf_mem (i := i) (k := k) h.notes
   have hhd : ∀ e ∈ (st.queue i k).headD [], P e.1 := by
    cases hqq : st.queue i k with
    | nil => intro e he; cases he
    | cons n q => exact hq2 n (by show n ∈ st.queue i k; rw [hqq]; exact List.mem_cons_self)
   exact ⟨h.has, set_all h.led (led_all (get_all h.led i) hhd), mem_putQ2 h.notes (fun p hp => hq2 p (List.mem_of_mem_tail hp)) (by rw [hnil]; exact hi)⟩
theorem Good.allM {p : Plan} {ways : Ways} (h : Good p ways) {P : Mk → Prop} {script : List Int} (hs : script.length ≤ 300) (hE : ∀ m e, P m → e ∈ p.E → P (e.2.1, plusT m.2 (tmOf e.2.2))) (h0 : ∀ m ∈ p.start, P (startMk m)) : ∀ n, AllM P (stAt p script n)
 | 0 => by
  refine ⟨startHas_mem _ _ (fun L hL e he => by rw [List.eq_of_mem_replicate hL] at he; cases he) h0, fun L hL => ?_, fun r hr q hq nt hp => ?_⟩
  ·rw [List.eq_of_mem_replicate (show L ∈ List.replicate p.workers.toNat (startLed p.start) from hL)]
   exact fun e he => (startLed_mem _ _ (P := P) (fun e he => by cases he) h0 e he).1
  ·rw [List.eq_of_mem_replicate (show r ∈ List.replicate p.workers.toNat (List.replicate p.workers.toNat []) from hr)] at hq
   rw [List.eq_of_mem_replicate hq] at hp
   cases hp
 | n + 1 => by
  have ih := h.allM hs hE h0 n
  have hr := (h.here hs n).reach
  unfold stAt at *
  rw [iterS_snoc]
  cases he : stepS p.E p.workers.toNat (iterS p.E p.workers.toNat n (beginS p.workers.toNat p.start script)) with
  | none => exact ih
  | some st' => exact step_all hE hr ih he
def ZW (wd : Nat) (t : Tm) : Prop := (wd ≤ 2 → t.2.2 = 0) ∧ (wd ≤ 1 → t.2.1 = 0)
theorem ZW_tm {wd : Nat} {l : List Int} (h : l.length = wd) : ZW wd (tmOf l) := by
 refine ⟨fun h2 => ?_, fun h1 => ?_⟩
 ·show l.getD 2 0 = 0
  rw [List.getD_eq_getElem?_getD, List.getElem?_eq_none (by omega)]; rfl
 ·show l.getD 1 0 = 0
  rw [List.getD_eq_getElem?_getD, List.getElem?_eq_none (by omega)]; rfl
theorem ZW_plus {wd : Nat} {a b : Tm} (ha : ZW wd a) (hb : ZW wd b) : ZW wd (plusT a b) := by
 refine ⟨fun h => ?_, fun h => ?_⟩
 ·show w64 (a.2.2 + b.2.2) = 0
  rw [ha.1 h, hb.1 h]; rfl
 ·show w64 (a.2.1 + b.2.1) = 0
  rw [ha.2 h, hb.2 h]; rfl
theorem ZW_sum {p : Plan} (h : PlanMade p) : ∀ {P : List Ed}, (∀ e ∈ P, e ∈ p.E) → ZW p.Wd.toNat (sumW P)
 | [], _ => ⟨fun _ => rfl, fun _ => rfl⟩
 | e :: P, he => by
  have h1 := ZW_tm (wd := p.Wd.toNat) (l := e.2.2) (by have := (h.E.2 e (he e List.mem_cons_self)).wide; omega)
  have h2 := ZW_sum h (P := P) (fun x hx => he x (List.mem_cons_of_mem _ hx))
  refine ⟨fun hh => ?_, fun hh => ?_⟩
  ·show (tmOf e.2.2).2.2 + (sumW P).2.2 = 0
   rw [h1.1 hh, h2.1 hh]; rfl
  ·show (tmOf e.2.2).2.1 + (sumW P).2.1 = 0
   rw [h1.2 hh, h2.2 hh]; rfl
theorem Good.zw {p : Plan} {ways : Ways} (h : Good p ways) {script : List Int} (hs : script.length ≤ 300) (n : Nat) : AllM (fun m => ZW p.Wd.toNat m.2) (stAt p script n) :=
 h.allM (P := fun m => ZW p.Wd.toNat m.2) hs (fun m e hm he => ZW_plus hm (ZW_tm (by have := (h.made.E.2 e he).wide; omega))) (fun m hm => ZW_tm (by have := (h.made.S.2.2 m hm).wide; omega)) n
theorem front_zw {p : Plan} {ways : Ways} (h : Good p ways) {xs : List Mk} (hx : ∀ m ∈ xs, nodeOk p.N m ∧ ZW p.Wd.toNat m.2) {k : Nat} (hk : k < p.N.toNat) : ∀ t ∈ (frontP p.N.toNat ways xs).getD k [], ZW p.Wd.toNat t := fun t ht => by
 rw [front_get hk] at ht
 obtain ⟨m, hm, ht⟩ := List.mem_flatMap.1 (firsts_sub ht)
 obtain ⟨s, hs, rfl⟩ := List.mem_map.1 ht
 obtain ⟨hn, hz⟩ := hx m hm
 have hs : s ∈ wayAt ways m.1 (k : Int).toNat := hs
 obtain ⟨P, hP, hw, rfl⟩ := way_sound h.open_ hn (b := k) (by omega) hs
 exact ZW_plus hz (ZW_sum h.made (way_mem hw))
theorem le_back {wd : Nat} (hw : wd ≤ 3) (hw1 : 1 ≤ wd) {a : Tm} {l : List Int} (hl : l.length = wd) (hz : ZW wd a) : leL (numsT wd a) l = leT a (tmOf l) := by
 have key : (leL (numsT wd a) l = true ↔ leT a (tmOf l) = true) := by
  rw [leT_iff]
  unfold leL leTo
  rw [List.all_eq_true, length_numsT a hw]
  have hg : ∀ k, k < wd → (numsT wd a).getD k 0 = [a.1, a.2.1, a.2.2].getD k 0 := fun k hk => by rw [nums_getD, if_pos hk]
  have hzl := ZW_tm hl
  constructor
  ·intro h
   have hk : ∀ k, k < wd → [a.1, a.2.1, a.2.2].getD k 0 ≤ l.getD k 0 := fun k hk => by
    have := h k (List.mem_range.2 hk)
    rw [hg k hk] at this
    simpa using this
   refine ⟨hk 0 (by omega), ?_, ?_⟩
   ·by_cases h1 : wd ≤ 1
    ·rw [hz.2 h1, hzl.2 h1]; exact Int.le_refl _
    ·exact hk 1 (by omega)
   ·by_cases h2 : wd ≤ 2
    ·rw [hz.1 h2, hzl.1 h2]; exact Int.le_refl _
    ·exact hk 2 (by omega)
  ·intro h k hk
   have hk := List.mem_range.1 hk
   rw [hg k hk]
   match k, hk with
   | 0, _ => exact decide_eq_true h.1
   | 1, _ => exact decide_eq_true h.2.1
   | 2, _ => exact decide_eq_true h.2.2
   | k + 3, hk => omega
 cases h1 : leL (numsT wd a) l <;> cases h2 : leT a (tmOf l) <;> simp_all
theorem past_back {wd : Nat} (hw : wd ≤ 3) (hw1 : 1 ≤ wd) {f : List Tm} {l : List Int} (hl : l.length = wd) (hz : ∀ a ∈ f, ZW wd a) : pastP (f.map (numsT wd)) l = f.any fun a => leT a (tmOf l) := by
 unfold pastP
 induction f with
 | nil => rfl
 | cons a f ih =>
  rw [List.map_cons, List.any_cons, List.any_cons, ih (fun x hx => hz x (List.mem_cons_of_mem _ hx))]
  congr 1
  unfold pastQ
  rw [length_numsT a hw, hl, decide_eq_true rfl, Bool.true_and, le_back hw hw1 hl (hz a List.mem_cons_self)]
def overAt (p : Plan) (ways : Ways) (script : List Int) (who : Nat) (m : Mk) (k : Nat) : Bool := overP p.N ways (stAt p script k) who m
theorem Good.led_later {p : Plan} {ways : Ways} (h : Good p ways) {script : List Int} (hs : script.length ≤ 300) {who : Nat} (hw : (who : Int) < p.workers) (n : Nat) {y : Mk} (hy : 0 < getL ((stAt p script (n + 1)).ledOf who) y) : ∃ x, Le p.E x y ∧ 0 < getL ((stAt p script n).ledOf who) x := by
 rcases h.turns hs n with he | ht
 ·rw [he] at hy; exact ⟨y, Le.refl _ _, hy⟩
 ·have h1 := h.here hs (n + 1)
  exact led_back h.made.up h.made.in_ h.N8 ht h1.know h1.reach (by omega) hy
theorem back_belief {p : Plan} {ways : Ways} (h : Good p ways) {script : List Int} (hs : script.length ≤ 300) {who : Nat} (hw : (who : Int) < p.workers) (n : Nat) : onP (beliefF p ways script n who) (beliefF p ways script (n + 1) who) = true := by
 have h1 := h.here hs n
 have h2 := h.here hs (n + 1)
 have hw2 : who < p.workers.toNat := by omega
 refine front_onP h (led_in h1.know h1.reach hw2) (led_in h2.know h2.reach hw2) (fun y hy => ?_)
 obtain ⟨x, hl, hx⟩ := h.led_later hs hw n ((led_mem h2.reach hw2).1 hy)
 exact ⟨x, (led_mem h1.reach hw2).2 hx, hl⟩
theorem self_belief {p : Plan} {ways : Ways} (h : Good p ways) {script : List Int} (hs : script.length ≤ 300) {who : Nat} (hw : (who : Int) < p.workers) (n : Nat) : onP (beliefF p ways script n who) (beliefF p ways script n who) = true := by
 have h1 := h.here hs n
 exact front_onP h (led_in h1.know h1.reach (by omega)) (led_in h1.know h1.reach (by omega)) (fun y hy => ⟨y, hy, Le.refl _ _⟩)
theorem over_later {p : Plan} {ways : Ways} (h : Good p ways) {script : List Int} (hs : script.length ≤ 300) {who : Nat} (hw : (who : Int) < p.workers) {m : Mk} (hm : 0 ≤ m.1 ∧ m.1 < p.N) {n : Nat} (ho : overAt p ways script who m n = true) : overAt p ways script who m (n + 1) = true := by
 unfold overAt overP beliefP at *
 rw [Bool.not_eq_true'] at ho ⊢
 rw [List.any_eq_false] at ho ⊢
 intro t ht hl
 have h1 := h.here hs n
 have h2 := h.here hs (n + 1)
 have hw2 : who < p.workers.toNat := by omega
 obtain ⟨s, hs1, hs2⟩ := front_on h (led_in h1.know h1.reach hw2) (led_in h2.know h2.reach hw2) (fun y hy => by
  obtain ⟨x, hl, hx⟩ := h.led_later hs hw n ((led_mem h2.reach hw2).1 hy)
  exact ⟨x, (led_mem h1.reach hw2).2 hx, hl⟩) (k := m.1.toNat) (by omega) t ht
 exact ho s hs1 (leT_iff.2 (hs2.trans (leT_iff.1 hl)))
theorem over_from {p : Plan} {ways : Ways} (h : Good p ways) {script : List Int} (hs : script.length ≤ 300) {who : Nat} (hw : (who : Int) < p.workers) {m : Mk} (hm : 0 ≤ m.1 ∧ m.1 < p.N) {n : Nat} (ho : overAt p ways script who m n = true) : ∀ d, overAt p ways script who m (n + d) = true
 | 0 => ho
 | d + 1 => over_later h hs hw hm (over_from h hs hw hm ho d)
theorem over_end {p : Plan} {ways : Ways} (h : Good p ways) {script : List Int} (hs : script.length ≤ 300) {who : Nat} (hw : (who : Int) < p.workers) {m : Mk} {n : Nat} (he : stepS p.E p.workers.toNat (stAt p script n) = none) : overAt p ways script who m n = true := by
 have hh := h.here hs n
 unfold overAt overP beliefP
 rw [(ended_of he).led hh.know hh.reach (i := who) (by omega)]
 show (!List.any (List.getD (frontP p.N.toNat ways []) m.1.toNat []) _) = true
 rw [front_nil, List.getD_eq_getElem?_getD, List.getElem?_replicate]
 split <;> rfl
theorem toldF_spec {p : Plan} {ways : Ways} (h : Good p ways) {script : List Int} (hs : script.length ≤ 300) {who : Nat} (hw : (who : Int) < p.workers) {m : Mk} : ∀ (f j : Nat), j + f = 1233 → ∃ r : Nat, toldF p.E p.workers.toNat p.N ways who m f (stAt p script j) j = (r : Int) ∧ j ≤ r ∧ (∀ k, j ≤ k → k < r → overAt p ways script who m k = false) ∧ overAt p ways script who m r = true
 | 0, j, hj => ⟨j, rfl, Nat.le_refl _, fun k h1 h2 => by omega, over_end h hs hw (h.stops hs (by omega))⟩
 | f + 1, j, hj => by
  cases ho : overP p.N ways (stAt p script j) who m with
  | true => exact ⟨j, toldF_over ho _ _, Nat.le_refl _, fun k h1 h2 => by omega, ho⟩
  | false =>
   cases he : stepS p.E p.workers.toNat (stAt p script j) with
   | none => exact ⟨j, toldF_none ho he _ _, Nat.le_refl _, fun k h1 h2 => by omega, over_end h hs hw he⟩
   | some st' =>
    have e : stAt p script (j + 1) = st' := by unfold stAt at *; rw [iterS_snoc, he]
    obtain ⟨r, h1, h2, h3, h4⟩ := toldF_spec h hs hw f (j + 1) (by omega)
    refine ⟨r, ?_, by omega, fun k hk1 hk2 => ?_, h4⟩
    ·rw [toldF_some ho he, ← e]; exact h1
    ·by_cases hk : k = j
     ·subst hk; exact ho
     ·exact h3 k (by omega) hk2
theorem told_spec {p : Plan} {ways : Ways} (h : Good p ways) {script : List Int} (hs : script.length ≤ 300) {who : Nat} (hw : (who : Int) < p.workers) {nd : Int} (hnd : 0 ≤ nd ∧ nd < p.N) {tl : List Int} (hl : (tl.length : Int) = p.Wd) (hin : inL 1000 tl) : ∃ r : Nat, toldX p script who (nd, tl) = .ok r ∧ ∀ k, pastP ((beliefF p ways script k who).getD nd.toNat []) tl = decide (k < r) := by
 obtain ⟨r, h1, _, h3, h4⟩ := toldF_spec h hs hw (m := (nd, tmOf tl)) 1233 0 rfl
 refine ⟨r, ?_, fun k => ?_⟩
 ·unfold toldX
  rw [h.begun hs (by omega) (by omega) hw]
  simp only
  rw [if_pos (by simp only [markOk, Bool.and_eq_true, decide_eq_true_eq]; exact ⟨hnd, hl, within_in (hin.mono (by decide))⟩)]
  have : stAt p script 0 = beginS p.workers.toNat p.start script := rfl
  rw [this] at h1
  rw [Int.toNat_natCast]
  exact congrArg Except.ok h1
 ·have hh := h.here hs k
  have hw2 : who < p.workers.toNat := by omega
  have hz := h.zw hs k
  have hp : pastP ((beliefF p ways script k who).getD nd.toNat []) tl = !overAt p ways script who (nd, tmOf tl) k := by
   unfold beliefF
   rw [numF_get, past_back (by have := h.made.Wd; omega) (by have := h.made.Wd; omega) (by omega) (front_zw h (fun m hm => ⟨(led_in hh.know hh.reach hw2 m hm).1, by
    obtain ⟨e, he, rfl⟩ := List.mem_map.1 hm
    exact get_all (P := fun m => ZW p.Wd.toNat m.2) hz.led who e (List.mem_filter.1 he).1⟩) (by omega))]
   unfold overAt overP beliefP
   rw [Bool.not_not]
  rw [hp]
  by_cases hk : k < r
  ·rw [h3 k (by omega) hk, decide_eq_true hk]; rfl
  ·have := over_from h hs hw (m := (nd, tmOf tl)) hnd h4 (k - r)
   rw [show r + (k - r) = k by omega] at this
   rw [this, decide_eq_false hk]; rfl
end Go.Proofs.Ytbkfnmgkcgnifaa.Mdl
namespace Go.Proofs.Ytbkfnmgkcgnifaa.Mdl
def aloneP (p : Plan) : Plan := ⟨p.N, p.Wd, p.E, 1, p.start.map fun m => (m.1, 0)⟩
theorem aloneP_made {p : Plan} (h : PlanMade p) : PlanMade (aloneP p) := by
 refine ⟨h.N, h.Wd, ⟨Int.le_refl _, by show (1 : Int) ≤ 3; decide⟩, h.E, ⟨by show 1 ≤ (p.start.map _).length; rw [List.length_map]; exact h.S.1, by show (p.start.map _).length ≤ 4; rw [List.length_map]; exact h.S.2.1, fun m hm => ?_⟩⟩
 obtain ⟨x, hx, rfl⟩ := List.mem_map.1 hm
 have := h.S.2.2 x hx
 exact ⟨this.node, this.wide, this.nums, ⟨Int.le_refl _, by show (0 : Int) < 1; decide⟩⟩
theorem sum_all0 {α : Type} (f : α → Nat) : ∀ {l : List α}, (l.map f).sum = 0 → ∀ x ∈ l, f x = 0
 | a :: l, h, x, hx => by
  simp only [List.map_cons, List.sum_cons] at h
  rcases List.mem_cons.1 hx with hx | hx
  ·rw [hx]; omega
  ·exact sum_all0 f (by omega) x hx
theorem alone_same {p : Plan} {ways : Ways} (h : Good p ways) (hW : p.workers = 1) {script : List Int} (hs : script.length ≤ 300) (n : Nat) (x : Mk) : getL ((stAt p script n).ledOf 0) x = getL ((stAt p script n).hasOf 0) x := by
 have hh := h.here hs n
 generalize stAt p script n = st at *
 have hk := hh.know
 have hr := hh.reach
 rw [hW] at hk hr
 have hW1 : (1 : Int).toNat = 1 := rfl
 rw [hW1] at hk hr
 have h1 := hk.acc 0 (by decide) x
 have h2 := hk.told
 have hp := hk.pos
 have hq : qNotes st.notes = 0 := by
  have : ((1 : Nat) : Int) - 1 = 0 := rfl
  rw [this, Int.mul_zero] at h2
  omega
 have hrow : ∀ q ∈ st.notes.getD 0 [], q = [] := fun q hq2 => by
  have h3 := sum_all0 (fun r : List (List Note) => (r.map List.length).sum) hq _ (getD_mem (l := st.notes) (i := 0) (by rw [hr.inv.nlen.1]; decide) [])
  exact List.eq_nil_of_length_eq_zero (sum_all0 List.length h3 q hq2)
 rw [rsum_nil hrow, Int.add_zero] at h1
 rw [h1]
 have hl := hr.inv.has.len
 match hs2 : st.has, hl with
 | [L], _ =>
  have : st.hasOf 0 = L := by unfold St.hasOf; rw [hs2]; rfl
  rw [this]
  simp [gsum]
theorem keys_iff {L : Led} (hn : (L.map (·.1)).Nodup) (h0 : ∀ e ∈ L, e.2 ≠ 0) (m : Mk) : m ∈ L.map (·.1) ↔ getL L m ≠ 0 := by
 constructor
 ·intro h
  obtain ⟨e, he, rfl⟩ := List.mem_map.1 h
  rw [getL_mem (v := e.2) hn he]; exact h0 e he
 ·intro h
  refine Classical.byContradiction fun hm => h (getL_none (fun e he hk => hm (List.mem_map.2 ⟨e, he, hk⟩)))
theorem nodup_perm {α : Type} [DecidableEq α] : ∀ {l m : List α}, l.Nodup → m.Nodup → (∀ x, x ∈ l ↔ x ∈ m) → l.Perm m
 | [], m, _, _, h => by
  cases m with
  | nil => exact List.Perm.refl _
  | cons a m => exact absurd ((h a).2 List.mem_cons_self) (by simp)
 | a :: l, m, hl, hm, h => by
  have ha := (h a).1 List.mem_cons_self
  have h1 := List.perm_cons_erase ha
  refine List.Perm.trans ?_ h1.symm
  refine (nodup_perm (List.nodup_cons.1 hl).2 (hm.erase a) (fun x => ?_)).cons a
  rw [hm.mem_erase_iff]
  constructor
  ·intro hx
   exact ⟨fun he => (List.nodup_cons.1 hl).1 (he ▸ hx), (h x).1 (List.mem_cons_of_mem _ hx)⟩
  ·rintro ⟨hne, hx⟩
   rcases List.mem_cons.1 ((h x).2 hx) with hx | hx
   ·exact absurd hx hne
   ·exact hx
structure AloneOf (p : Plan) (ways : Ways) (script : List Int) (n : Nat) (led : List Msg) (held : List (Int × List Int)) : Prop where
 front : truthF p ways script n = beliefF p ways script n 0
 led_ : ledgerX p script n 0 = .ok led
 held_ : heldX p script n 0 = .ok held
 cnts : ∀ e ∈ led, 1 ≤ e.2 ∧ e.2 ≤ held.length
 own : (led.flatMap fun e => List.replicate e.2.toNat e.1) = held
 len : held.length ≤ 1000
theorem flat_ge {α β : Type} (f : α → List β) : ∀ {l : List α} {x : α}, x ∈ l → (f x).length ≤ (l.flatMap f).length
 | a :: l, x, h => by
  rw [List.flatMap_cons, List.length_append]
  rcases List.mem_cons.1 h with h | h
  ·rw [h]; omega
  ·have := flat_ge f (l := l) h; omega
theorem flat_sum {α β : Type} (f : α → List β) : ∀ (l : List α), (l.flatMap f).length = (l.map fun x => (f x).length).sum
 | [] => rfl
 | a :: l => by rw [List.flatMap_cons, List.length_append, List.map_cons, List.sum_cons, flat_sum f l]
theorem alone_of {p : Plan} {ways : Ways} (h : Good p ways) (hW : p.workers = 1) {script : List Int} (hs : script.length ≤ 300) (n : Nat) : ∃ led held, AloneOf p ways script n led held := by
 have hh := h.here hs n
 have hsame := alone_same h hW hs n
 have hw1 : p.workers.toNat = 1 := by omega
 have hr := hh.reach
 have hk := hh.know
 have hLn := (hr.inv.ledN _ (getD_mem (l := (stAt p script n).led) (i := 0) (by rw [hr.inv.llen]; omega) [])).1
 have hL0 : ∀ e ∈ (stAt p script n).ledOf 0, e.2 ≠ 0 := fun e he => (hk.ledT _ (getD_mem (l := (stAt p script n).led) (i := 0) (by rw [hr.inv.llen]; omega) []) e he).2
 have hil : 0 < (stAt p script n).has.length := by rw [hr.inv.has.len]; omega
 have hP := hr.inv.has.pos _ (getD_mem hil [])
 have hH : Pos ((stAt p script n).hasOf 0) := hP
 have hcm := cnt_le_msgs hil
 have hph := hr.phi
 unfold phi at hph
 have hks : (((stAt p script n).ledOf 0).map (·.1)).Perm (((stAt p script n).hasOf 0).map (·.1)) := nodup_perm hLn hH.nodup (fun m => by
  rw [keys_iff (L := (stAt p script n).ledOf 0) hLn hL0, keys_iff (L := (stAt p script n).hasOf 0) hH.nodup (fun e he => by have := hH.pos e he; omega), hsame m])
 have hsort : sortM (((stAt p script n).ledOf 0).map (·.1)) = sortM (((stAt p script n).hasOf 0).map (·.1)) := by
  obtain ⟨s1, p1⟩ := sortL_spec ordN (l := ((stAt p script n).ledOf 0).map (·.1)) (fun _ _ => trivial)
  exact sortL_eq ordN (fun _ _ => trivial) (p1.trans hks) s1
 have hgpos : ∀ m ∈ sortM (((stAt p script n).hasOf 0).map (·.1)), 1 ≤ getL ((stAt p script n).hasOf 0) m := fun m hm => by
  have hm := (sortL_spec ordN (l := ((stAt p script n).hasOf 0).map (·.1)) (fun _ _ => trivial)).2.mem_iff.1 hm
  obtain ⟨e, he, rfl⟩ := List.mem_map.1 hm
  rw [getL_mem (v := e.2) hH.nodup he]; exact hH.pos e he
 have hown : ((ledgerL p.Wd.toNat ((stAt p script n).ledOf 0)).flatMap fun e => List.replicate e.2.toNat e.1) = heldL p.Wd.toNat ((stAt p script n).hasOf 0) := by
  unfold ledgerL heldL
  rw [hsort, List.flatMap_map]
  congr 1
  funext m
  show List.replicate (getL _ m).toNat _ = _
  rw [hsame m]; rfl
 refine ⟨ledgerL p.Wd.toNat ((stAt p script n).ledOf 0), heldL p.Wd.toNat ((stAt p script n).hasOf 0), ?_, h.ledgerX hs n (who := 0) (by omega), h.heldX hs n (who := 0) (by omega), fun e he => ?_, hown, ?_⟩
 ·unfold truthF beliefF
  rw [frontP_set (ys := posL ((stAt p script n).ledOf 0)) p.N.toNat ways (fun m => ?_)]
  rw [led_mem hr (i := 0) (by omega), hw1]
  show m ∈ ([0].flatMap fun i => posL ((stAt p script n).hasOf i)) ↔ _
  rw [List.flatMap_cons, List.flatMap_nil, List.append_nil, posL_mem hH.nodup, hsame m]
 ·have h1 : e.2.toNat ≤ (heldL p.Wd.toNat ((stAt p script n).hasOf 0)).length := by
   have := flat_ge (fun e : Msg => List.replicate e.2.toNat e.1) he
   rw [List.length_replicate, hown] at this; exact this
  unfold ledgerL at he
  obtain ⟨m, hm, rfl⟩ := List.mem_map.1 he
  rw [hsort] at hm
  have h2 := hgpos m hm
  have h3 : (cntOf p.Wd.toNat ((stAt p script n).ledOf 0) m).2 = getL ((stAt p script n).hasOf 0) m := hsame m
  omega
 ·have hlen : (heldL p.Wd.toNat ((stAt p script n).hasOf 0)).length = cnt ((stAt p script n).hasOf 0) := by
   unfold heldL
   rw [flat_sum]
   have hpm := (sortL_spec ordN (l := ((stAt p script n).hasOf 0).map (·.1)) (fun _ _ => trivial)).2
   rw [show sortM (((stAt p script n).hasOf 0).map (·.1)) = sortL cmpN (((stAt p script n).hasOf 0).map (·.1)) from rfl, sum_perm (hpm.map _), List.map_map]
   unfold cnt
   congr 1
   refine List.map_congr_left (fun e he => ?_)
   show (List.replicate (getL _ e.1).toNat _).length = _
   rw [List.length_replicate, getL_mem (v := e.2) hH.nodup he]
  have hcm : cnt ((stAt p script n).hasOf 0) ≤ msgs (stAt p script n).has := hcm
  omega
end Go.Proofs.Ytbkfnmgkcgnifaa.Mdl
namespace Go.Proofs.Ytbkfnmgkcgnifaa.Mdl
def plusN : List Int → List Int → List Int
 | a :: l, b :: m => (a + b) :: plusN l m
 | _, _ => []
theorem plus_nums {wd : Nat} (hw : wd ≤ 3) (a b : Tm) : plusN (numsT wd a) (numsT wd b) = numsT wd (addT a b) := by
 obtain rfl | rfl | rfl | rfl : wd = 0 ∨ wd = 1 ∨ wd = 2 ∨ wd = 3 := by omega
 all_goals rfl
theorem tm_nums {wd : Nat} (hw : wd ≤ 3) {l : List Int} (h : l.length = wd) : numsT wd (tmOf l) = l := by
 subst h
 match l, hw with
 | [], _ => rfl
 | [a], _ => rfl
 | [a, b], _ => rfl
 | [a, b, c], _ => rfl
def pathF (p : Plan) (ways : Ways) (a b : Int) : List (List Int) := (wayAt ways a b.toNat).map (numsT p.Wd.toNat)
section
variable {p : Plan} {ways : Ways} {a b c : Int}
theorem Good.paths (h : Good p ways) (ha : 0 ≤ a ∧ a < p.N) (hb : 0 ≤ b ∧ b < p.N) : pathsP p.N p.Wd p.E a b = .ok (wayAt ways a b.toNat) := by
 unfold pathsP
 rw [h.open_]
 simp only
 rw [if_pos ⟨ha, hb⟩]
theorem path_self (h : Good p ways) (ha : 0 ≤ a ∧ a < p.N) : pathF p ways a a = [List.replicate p.Wd.toNat 0] := by
 unfold pathF
 rw [way_self h.open_ ha]
 obtain hw | hw : p.Wd.toNat = 1 ∨ p.Wd.toNat = 2 := by have := h.made.Wd; omega
 all_goals rw [hw]; rfl
theorem path_in (h : Good p ways) (ha : 0 ≤ a ∧ a < p.N) (hb : 0 ≤ b ∧ b < p.N) {x : List Int} (hx : x ∈ pathF p ways a b) : x.length = p.Wd.toNat ∧ inL 800 x := by
 obtain ⟨t, ht, rfl⟩ := List.mem_map.1 hx
 obtain ⟨P, hP, hw, rfl⟩ := way_sound h.open_ ha hb ht
 have hi := sumW_in h.made.in_ (way_mem hw)
 have hw3 : p.Wd.toNat ≤ 3 := by have := h.made.Wd; omega
 refine ⟨length_numsT _ hw3, fun y hy => ?_⟩
 obtain ⟨k, hk, rfl⟩ := List.mem_iff_getElem.1 hy
 have e : (numsT p.Wd.toNat (sumW P))[k] = (numsT p.Wd.toNat (sumW P)).getD k 0 := by rw [List.getD_eq_getElem?_getD, List.getElem?_eq_getElem hk]; rfl
 rw [e, nums_getD]
 rw [length_numsT _ hw3] at hk
 rw [if_pos hk]
 unfold TmIn at hi
 match k, hk with
 | 0, _ => show 0 ≤ (sumW P).1 ∧ (sumW P).1 ≤ 800; omega
 | 1, _ => show 0 ≤ (sumW P).2.1 ∧ (sumW P).2.1 ≤ 800; omega
 | 2, _ => show 0 ≤ (sumW P).2.2 ∧ (sumW P).2.2 ≤ 800; omega
 | k + 3, hk => omega
theorem path_len (h : Good p ways) (ha : 0 ≤ a ∧ a < p.N) (hb : 0 ≤ b ∧ b < p.N) : (pathF p ways a b).length ≤ 286331153 := by
 have hW := ways_ok h.open_
 obtain ⟨hm, hr, h1, h2⟩ := hW.at_ (m := a) (k := b.toNat) ha.1 (by omega) (by omega)
 unfold pathF
 rw [List.length_map]
 exact h2
theorem path_join (h : Good p ways) (ha : 0 ≤ a ∧ a < p.N) (hb : 0 ≤ b ∧ b < p.N) (hc : 0 ≤ c ∧ c < p.N) {x y : List Int} (hx : x ∈ pathF p ways a b) (hy : y ∈ pathF p ways b c) : pastP (pathF p ways a c) (plusN x y) = true := by
 have hw3 : p.Wd.toNat ≤ 3 := by have := h.made.Wd; omega
 obtain ⟨t, ht, rfl⟩ := List.mem_map.1 hx
 obtain ⟨u, hu, rfl⟩ := List.mem_map.1 hy
 obtain ⟨P, _, hP, rfl⟩ := way_sound h.open_ ha hb ht
 obtain ⟨Q, _, hQ, rfl⟩ := way_sound h.open_ hb hc hu
 rw [plus_nums hw3, ← sumW_append]
 exact past_nums hw3 (way_cover h.open_ ha hc (hP.append hQ))
theorem path_edge (h : Good p ways) (ha : 0 ≤ a ∧ a < p.N) (hc : 0 ≤ c ∧ c < p.N) {x : List Int} (hx : x ∈ pathF p ways a c) : (a = c ∧ x.sum = 0) ∨ ∃ e ∈ p.E, e.2.1 = c ∧ ∃ y ∈ pathF p ways a e.1, plusN y e.2.2 = x := by
 have hw3 : p.Wd.toNat ≤ 3 := by have := h.made.Wd; omega
 obtain ⟨t, ht, rfl⟩ := List.mem_map.1 hx
 obtain ⟨P, _, hP, rfl⟩ := way_sound h.open_ ha hc ht
 by_cases hn : P = []
 ·subst hn
  refine .inl ⟨hP, ?_⟩
  obtain hw | hw : p.Wd.toNat = 1 ∨ p.Wd.toNat = 2 := by have := h.made.Wd; omega
  all_goals rw [hw]; rfl
 ·obtain ⟨X, e, rfl, hX, he, hec⟩ := way_last hP hn
  have hE := h.made.in_ e he
  obtain ⟨u, hu, hul⟩ := way_cover h.open_ ha hE.1 hX
  refine .inr ⟨e, he, hec, _, List.mem_map.2 ⟨u, hu, rfl⟩, ?_⟩
  obtain ⟨Q, _, hQ, rfl⟩ := way_sound h.open_ ha hE.1 hu
  have hQe : IsWay p.E c a (Q ++ [e]) := hQ.append (show IsWay p.E c e.1 [e] from ⟨he, rfl, hec⟩)
  obtain ⟨v, hv, hvl⟩ := way_cover h.open_ ha hc hQe
  rw [sumW_append] at hvl ht
  have e1 : sumW [e] = tmOf e.2.2 := by simp [sumW, addT_zero]
  rw [e1] at hvl ht
  have hle : LeT (addT (sumW Q) (tmOf e.2.2)) (addT (sumW X) (tmOf e.2.2)) := by
   unfold LeT at *
   simp only [addT]; omega
  have hve := way_eq_of_le h.open_ ha hc hv ht (hvl.trans hle)
  rw [hve] at hvl
  have heq := hle.anti hvl
  rw [sumW_append, e1, ← heq]
  conv => lhs; rw [← tm_nums hw3 (l := e.2.2) (by have := (h.made.E.2 e he).wide; omega)]
  exact plus_nums hw3 _ _
end
end Go.Proofs.Ytbkfnmgkcgnifaa.Mdl
