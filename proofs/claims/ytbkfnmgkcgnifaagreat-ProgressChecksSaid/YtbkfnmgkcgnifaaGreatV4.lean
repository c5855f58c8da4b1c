/- Part 4 of the proof of ProgressChecks. -/
import Derived.Test.YtbkfnmgkcgnifaaGreatV3
import Derived.Defers
import Derived.Recover
import Derived.RecoverIn
import Derived.DefersIn
set_option linter.all false
namespace Go.Proofs.YtbkfnmgkcgnifaaGreat
open Go.RowKit Go.Shelf Go.Proofs.YtbkfnmgkcgnifaaGreatW.PrintWords Go.Proofs.YtbkfnmgkcgnifaaGreatW.PrintLast Mdl Go.ChangeMaps
def BegunPost (w : World) (p : Plan) (script : List Int) (n who : Int) (e : Ending) (w' : World) : Prop :=
 match begunP p script n who with
 | .error c => e = .panicked (stopE c) ∧ Below w.heap.size w w'
 | .ok ways => ∃ (rb : Nat) (w0 : World) (G : RG), e = .returned (.pointer (some ⟨rb, 0, none⟩)) ∧ G.rb = rb ∧ Below w.heap.size w w0 ∧ w.heap.size ≤ G.gb ∧ GraphAt w0 G.gb p.N p.Wd p.E ways ∧ RunOk w0 G p.workers.toNat (beginS p.workers.toNat p.start script) w'
set_option maxRecDepth 8000 in
set_option maxHeartbeats 8000000 in
theorem begun_any (p : Plan) (eA mA sA : Option Addr) (eC mC sC : Nat) (script : List Int) (n who : Int) (w : World) (hp : PlanAt w p eA mA) (hsC : kI.C w sA script.length script) (hsl : script.length ≤ sC) :
  Calls Tryz.prog 60 #[planV p eA eC mA mC, .slice sA script.length sC, .int .i64 n, .int .i64 who] w (BegunPost w p script n who) := by
 obtain ⟨N, Wd, E, wk, ms⟩ := p
 have hSm := Kd.C_max hp.hS
 have hSc := Kd.C_max hsC
 have b1 := below_new w (.cells #[.int .i64 N, .int .i64 Wd, .slice eA E.length eC, .int .i64 wk, .slice mA ms.length mC] 27)
 have hbk : (w.alloc (.cells #[.int .i64 N, .int .i64 Wd, .slice eA E.length eC, .int .i64 wk, .slice mA ms.length mC] 27)).heap[w.heap.size]? = some (.cells #[.int .i64 N, .int .i64 Wd, .slice eA E.length eC, .int .i64 wk, .slice mA ms.length mC] 27 (0, 0)) := heap_alloc_new w _
 have HP := Lib.hid (planned_any ⟨N, Wd, E, wk, ms⟩ eA mA eC mC _ (hp.below b1))
 simp only [planV] at HP hp hSm ⊢
 have HS := Aside0.mk (And.intro hp.hS (And.intro hsC hsl))
 have H1 := Aside0.mk (And.intro b1 hbk)
 clear hp b1 hbk hsC hsl
 go_enter Tryz.func60, Tryz.ntmps60
 go_upto_region 1 with fail
 generalize w.alloc (.cells #[.int .i64 N, .int .i64 Wd, .slice eA E.length eC, .int .i64 wk, .slice mA ms.length mC] 27) = w1 at *
 have p0 : w1.cell? ⟨w.heap.size, 0, none⟩ = some (.int .i64 N) := (blk_cell H1.out.2 0).trans rfl
 have p1 : w1.cell? ⟨w.heap.size, 1, none⟩ = some (.int .i64 Wd) := (blk_cell H1.out.2 1).trans rfl
 have p2 : w1.cell? ⟨w.heap.size, 2, none⟩ = some (.slice eA E.length eC) := (blk_cell H1.out.2 2).trans rfl
 have p3 : w1.cell? ⟨w.heap.size, 3, none⟩ = some (.int .i64 wk) := (blk_cell H1.out.2 3).trans rfl
 have p4 : w1.cell? ⟨w.heap.size, 4, none⟩ = some (.slice mA ms.length mC) := (blk_cell H1.out.2 4).trans rfl
 go_wp2_with fail
 refine HP.out.mono ?_
 rintro e w2 ⟨hb2, h2⟩
 cases ho : plannedP ⟨N, Wd, E, wk, ms⟩ with
 | none =>
  rw [ho] at h2
  subst h2
  refine ⟨rfl, ?_⟩
  unfold BegunPost begunP
  rw [ho]
  exact ⟨rfl, below_then H1.out.1 H1.out.1.size hb2⟩
 | some ways =>
  rw [ho] at h2
  obtain ⟨gb, rfl, hgb, hG⟩ := h2
  have HG := Aside0.mk hG
  have H2 := Aside0.mk (And.intro (below_then H1.out.1 H1.out.1.size hb2) (blk_below H1.out.2 hb2))
  have HGB := Lib.hid (show w.heap.size ≤ gb by have := H1.out.1.size; omega)
  obtain ⟨ho1, ⟨hw1, hw4, hw8⟩, hmsg⟩ := planned_ok ho
  simp only at hw1 hw4 hw8
  have HOP := Lib.hid ho
  have HMS := Lib.hid hmsg
  clear ho ho1 hb2 hG hgb p0 p1 p2 p3 p4 HP hmsg
  have p3 : w2.cell? ⟨w.heap.size, 3, none⟩ = some (.int .i64 wk) := (blk_cell H2.out.2 3).trans rfl
  have p4 : w2.cell? ⟨w.heap.size, 4, none⟩ = some (.slice mA ms.length mC) := (blk_cell H2.out.2 4).trans rfl
  by_cases g0 : script.length ≤ 300
  rotate_left
  ·have f0 : decide ((script.length : Int) ≤ 300) = false := by simp; omega
   have n0 : (300 : Int) < (script.length : Int) := by omega
   have HB := Lib.hid (show begunP ⟨N, Wd, E, wk, ms⟩ script n who = .error 3 by simp only [begunP, HOP.out]; rw [if_neg g0])
   clear g0
   go_wp2_with fail
   refine (must_false _ _).mono ?_
   rintro e wm ⟨rfl, rfl⟩
   refine ⟨rfl, ?_⟩
   unfold BegunPost
   rw [HB.out]
   exact ⟨rfl, H2.out.1⟩
  have g0b : (script.length : Int) ≤ 300 := by omega
  by_cases g1 : 0 ≤ n
  rotate_left
  ·have n1 : n < 0 := by omega
   have HB := Lib.hid (show begunP ⟨N, Wd, E, wk, ms⟩ script n who = .error 2 by simp only [begunP, HOP.out]; rw [if_pos g0, if_neg (fun h => g1 h.1)])
   clear g0 g1
   go_wp2_with fail
   refine (must_true _ _).mono ?_
   rintro e wm ⟨rfl, rfl⟩
   go_wp2_with fail
   refine (must_false _ _).mono ?_
   rintro e wm ⟨rfl, rfl⟩
   refine ⟨rfl, ?_⟩
   unfold BegunPost
   rw [HB.out]
   exact ⟨rfl, H2.out.1⟩
  by_cases g2 : 0 ≤ who
  rotate_left
  ·have n1 : who < 0 := by omega
   have HB := Lib.hid (show begunP ⟨N, Wd, E, wk, ms⟩ script n who = .error 2 by simp only [begunP, HOP.out]; rw [if_pos g0, if_neg (fun h => g2 h.2.1)])
   clear g0 g2
   go_wp2_with fail
   refine (must_true _ _).mono ?_
   rintro e wm ⟨rfl, rfl⟩
   go_wp2_with fail
   refine (must_false _ _).mono ?_
   rintro e wm ⟨rfl, rfl⟩
   refine ⟨rfl, ?_⟩
   unfold BegunPost
   rw [HB.out]
   exact ⟨rfl, H2.out.1⟩
  by_cases g3 : who < wk
  rotate_left
  ·have f3 : decide (who < wk) = false := by simp; omega
   have HB := Lib.hid (show begunP ⟨N, Wd, E, wk, ms⟩ script n who = .error 2 by simp only [begunP, HOP.out]; rw [if_pos g0, if_neg (fun h => g3 h.2.2)])
   clear g0 g3 hw1 hw4 hw8
   go_wp2_with fail
   refine (must_true _ _).mono ?_
   rintro e wm ⟨rfl, rfl⟩
   go_wp2_with fail
   refine (must_false _ _).mono ?_
   rintro e wm ⟨rfl, rfl⟩
   refine ⟨rfl, ?_⟩
   unfold BegunPost
   rw [HB.out]
   exact ⟨rfl, H2.out.1⟩
  have HB := Lib.hid (show begunP ⟨N, Wd, E, wk, ms⟩ script n who = .ok ways by simp only [begunP, HOP.out]; rw [if_pos g0, if_pos ⟨g1, g2, g3⟩])
  clear g0
  obtain ⟨W, hWk⟩ : ∃ W : Nat, wk = W := ⟨wk.toNat, by omega⟩
  subst hWk
  have HS2 := Aside0.mk (And.intro (Kd.C_below HS.out.1 H2.out.1) (And.intro (Kd.C_below HS.out.2.1 H2.out.1) HS.out.2.2))
  clear HS
  go_wp2_with fail
  refine (must_true _ _).mono ?_
  rintro e wm ⟨rfl, rfl⟩
  go_wp2_with fail
  refine (must_true _ _).mono ?_
  rintro e wm ⟨rfl, rfl⟩
  go_upto_region 5 with fail
  have b3 := below_new w2 (.cells #[.int .i64 0, .int .i64 0, .int .i64 0, .pointer (some ⟨gb, 0, none⟩), .slice none 0 0, .slice sA script.length sC] 92)
  have hr3 : (w2.alloc (.cells #[.int .i64 0, .int .i64 0, .int .i64 0, .pointer (some ⟨gb, 0, none⟩), .slice none 0 0, .slice sA script.length sC] 92)).heap[w2.heap.size]? = some (.cells (runCells 0 0 0 gb (.slice none 0 0) (.slice sA script.length sC)) 92 (0, 0)) := heap_alloc_new w2 _
  have H3 := Aside0.mk (show PreAt w2 W (w2.alloc (.cells #[.int .i64 0, .int .i64 0, .int .i64 0, .pointer (some ⟨gb, 0, none⟩), .slice none 0 0, .slice sA script.length sC] 92)).heap.size gb (.slice sA script.length sC) (startLed ms) [] none 0 (w2.alloc (.cells #[.int .i64 0, .int .i64 0, .int .i64 0, .pointer (some ⟨gb, 0, none⟩), .slice none 0 0, .slice sA script.length sC] 92)) from
   ⟨b3, hr3, Kd.R_nil _ _ _ _ _, ⟨fun d hd => (List.not_mem_nil hd).elim, List.Pairwise.nil⟩⟩)
  have p3 := pw_cell_below b3 p3
  have P34 := Lib.hid (And.intro (show w2.cell? ⟨w.heap.size, 3, none⟩ = some (.int .i64 (W : Int)) from (blk_cell H2.out.2 3).trans rfl) (show w2.cell? ⟨w.heap.size, 4, none⟩ = some (.slice mA ms.length mC) from (blk_cell H2.out.2 4).trans rfl))
  clear b3 hr3 p4
  generalize w2.alloc (.cells #[.int .i64 0, .int .i64 0, .int .i64 0, .pointer (some ⟨gb, 0, none⟩), .slice none 0 0, .slice sA script.length sC] 92) = w3 at *
  go_wp2_with fail
  clear p3
  go_loopw [41] (fun i wr => ∃ (j : Nat) (ds : List WG) (A : Option Addr) (c : Nat), j ≤ W ∧ i = .int .i64 j ∧ Aside0 (ds.length = j ∧ PreAt w2 W wr.heap.size gb (.slice sA script.length sC) (startLed ms) ds A c wr)) (fun i _ => W - (intOf i).toNat)
  case atStart => exact ⟨0, [], none, 0, Nat.zero_le _, rfl, ⟨rfl, H3.out⟩⟩
  case round =>
   clear H3
   obtain ⟨j, ds, A, c, hj, rfl, hX⟩ := hrel
   by_cases hlt : j < W
   ·have hjW : (j : Int) < W := by omega
    have hj0 : (0 : Int) ≤ j := by omega
    have q3 := pw_cell_below hX.out.2.below P34.out.1
    go_upto_region 7 with fail
    have hmk := made_l2 W (by omega)
    have HD := Aside0.mk (below_drew1 (Below.refl wr.heap.size wr))
    refine start_ (n := 8) (S := fun w' => w'.cell? ⟨w.heap.size, 3, none⟩ = some (.int .i64 (W : Int))) (ds := []) (bs 8 0) (by kernel_rfl) rfl (by kernel_rfl) q3 (fun hHeld => ?_)
    have HSZ := Lib.hid (show wr.drew.heap.size = wr.heap.size from rfl)
    have HSH := Lib.hid (fun V (hb : Below wr.heap.size wr V) => pw_cell_below hb q3)
    clear q3
    generalize wr.drew = wd at *
    refine pu 2 45 (bs 8 4) ?_
    refine tk1 3 46 (bs 8 12) hHeld ?_
    refine join_ 3 #[true, true, true, true, true, false, false, false] (fun g : Nat × Nat × Nat => [(43, .agg #[.map (some g.1)]), (44, .agg #[.map (some g.2.1)]), (47, .slice (some ⟨g.2.2, 0, none⟩) W W)]) (fun g w' => Below wr.heap.size wr w' ∧ LedAt w' g.1 [] ∧ LedAt w' g.2.1 [] ∧ g.1 ≠ g.2.1 ∧ w'.heap[g.2.2]? = some (.cells (madeCells #[.slice none 0 0] W) 180 (0, 0)) ∧ wr.heap.size ≤ g.1 ∧ wr.heap.size ≤ g.2.1 ∧ wr.heap.size ≤ g.2.2) ?_ ?_
    rotate_left
    ·intro hcont
     simp only [putAll, Act.put, List.setIfInBounds_toArray, List.set_cons_zero, List.set_cons_succ] at hcont
     have HCT := Lib.hid hcont
     clear hcont hHeld
     have hB0 := HD.out
     refine two_ (i := 0) (j := 4) (Ni := some 43) (Nj := some 47) #[true, false, true, true, false, false, false, false] #[false, false, true, true, true, false, false, false] rfl rfl rfl rfl (by kernel_rfl) (by decide) (by decide) (fun K hK => ?_) (fun K hK => ?_)
     ·skip
      refine gs0 Tryz.func44 #[] ?_
      refine (newLedger_any _).mono ?_
      rintro e v1 ⟨b0, rfl, hge0, hS1, hL0⟩
      have hB1 := below_then hB0 hB0.size hS1
      refine ⟨_, rfl, hK.out _ _ (HSH.out _ hB1) (fun hHeld => ?_)⟩
      clear hK K
      refine nm0 (some 43) ?_
      refine two_ (i := 1) (j := 4) (Ni := some 44) (Nj := some 47) #[true, true, true, true, false, false, false, false] #[true, false, true, true, true, false, false, false] rfl rfl rfl rfl (by kernel_rfl) (by decide) (by decide) (fun K hK => ?_) (fun K hK => ?_)
      ·skip
       refine gs0 Tryz.func44 #[] ?_
       refine (newLedger_any _).mono ?_
       rintro e v2 ⟨b1, rfl, hge1, hS2, hL1⟩
       have hB2 := below_then hB1 hB1.size hS2
       refine ⟨_, rfl, hK.out _ _ (HSH.out _ hB2) (fun hHeld => ?_)⟩
       clear hK K
       refine nm0 (some 44) ?_
       refine one_ (i := 4) (N := some 47) #[true, true, true, true, true, false, false, false] rfl rfl (by kernel_rfl) (by decide) (fun K hK => ?_)
       refine va0 ?_
       have hS3 := below_new v2 (.cells (madeCells #[.slice none 0 0] W) 180)
       have hM := heap_alloc_new v2 (.cells (madeCells #[.slice none 0 0] W) 180)
       have hB3 := below_then hB2 hB2.size hS3
       have hgM : wr.heap.size ≤ v2.heap.size := by have := HSZ.out; have := hB2.size; omega
       generalize v2.alloc (.cells (madeCells #[.slice none 0 0] W) 180) = v3 at *
       refine hK.out _ _ (HSH.out _ hB3) (fun hHeld => ?_)
       clear hK K
       refine nm0 (some 47) ?_
       have hlt0 : b0 < v1.heap.size := hL0.lt
       have hw0 : wr.heap.size ≤ b0 := by have := hB0.size; have := HSZ.out; omega
       have hw1 : wr.heap.size ≤ b1 := by have := hB1.size; have := HSZ.out; omega
       exact HCT.out (b0, b1, v2.heap.size) _ ⟨hB3, ((hL0).below hS2).below hS3, (hL1).below hS3, by show b0 ≠ b1; omega, hM, hw0, hw1, hgM⟩
      ·skip
       refine va0 ?_
       have hS2 := below_new v1 (.cells (madeCells #[.slice none 0 0] W) 180)
       have hM := heap_alloc_new v1 (.cells (madeCells #[.slice none 0 0] W) 180)
       have hB2 := below_then hB1 hB1.size hS2
       have hgM : wr.heap.size ≤ v1.heap.size := by have := HSZ.out; have := hB1.size; omega
       generalize v1.alloc (.cells (madeCells #[.slice none 0 0] W) 180) = v2 at *
       refine hK.out _ _ (HSH.out _ hB2) (fun hHeld => ?_)
       clear hK K
       refine nm0 (some 47) ?_
       refine one_ (i := 1) (N := some 44) #[true, true, true, true, true, false, false, false] rfl rfl (by kernel_rfl) (by decide) (fun K hK => ?_)
       refine gs0 Tryz.func44 #[] ?_
       refine (newLedger_any _).mono ?_
       rintro e v3 ⟨b1, rfl, hge1, hS3, hL1⟩
       have hB3 := below_then hB2 hB2.size hS3
       refine ⟨_, rfl, hK.out _ _ (HSH.out _ hB3) (fun hHeld => ?_)⟩
       clear hK K
       refine nm0 (some 44) ?_
       have hlt0 : b0 < v2.heap.size := (hL0.below hS2).lt
       have hw0 : wr.heap.size ≤ b0 := by have := hB0.size; have := HSZ.out; omega
       have hw1 : wr.heap.size ≤ b1 := by have := hB2.size; have := HSZ.out; omega
       exact HCT.out (b0, b1, v1.heap.size) _ ⟨hB3, ((hL0).below hS2).below hS3, hL1, by show b0 ≠ b1; omega, blk_below (hM) hS3, hw0, hw1, hgM⟩
     ·skip
      refine va0 ?_
      have hS1 := below_new wd (.cells (madeCells #[.slice none 0 0] W) 180)
      have hM := heap_alloc_new wd (.cells (madeCells #[.slice none 0 0] W) 180)
      have hB1 := below_then hB0 hB0.size hS1
      have hgM : wr.heap.size ≤ wd.heap.size := by have := HSZ.out; have := hB0.size; omega
      generalize wd.alloc (.cells (madeCells #[.slice none 0 0] W) 180) = v1 at *
      refine hK.out _ _ (HSH.out _ hB1) (fun hHeld => ?_)
      clear hK K
      refine nm0 (some 47) ?_
      refine one_ (i := 0) (N := some 43) #[true, false, true, true, true, false, false, false] rfl rfl (by kernel_rfl) (by decide) (fun K hK => ?_)
      refine gs0 Tryz.func44 #[] ?_
      refine (newLedger_any _).mono ?_
      rintro e v2 ⟨b0, rfl, hge0, hS2, hL0⟩
      have hB2 := below_then hB1 hB1.size hS2
      refine ⟨_, rfl, hK.out _ _ (HSH.out _ hB2) (fun hHeld => ?_)⟩
      clear hK K
      refine nm0 (some 43) ?_
      refine one_ (i := 1) (N := some 44) #[true, true, true, true, true, false, false, false] rfl rfl (by kernel_rfl) (by decide) (fun K hK => ?_)
      refine gs0 Tryz.func44 #[] ?_
      refine (newLedger_any _).mono ?_
      rintro e v3 ⟨b1, rfl, hge1, hS3, hL1⟩
      have hB3 := below_then hB2 hB2.size hS3
      refine ⟨_, rfl, hK.out _ _ (HSH.out _ hB3) (fun hHeld => ?_)⟩
      clear hK K
      refine nm0 (some 44) ?_
      have hlt0 : b0 < v2.heap.size := hL0.lt
      have hw0 : wr.heap.size ≤ b0 := by have := hB1.size; have := HSZ.out; omega
      have hw1 : wr.heap.size ≤ b1 := by have := hB2.size; have := HSZ.out; omega
      exact HCT.out (b0, b1, wd.heap.size) _ ⟨hB3, (hL0).below hS3, hL1, by show b0 ≠ b1; omega, blk_below (blk_below (hM) hS2) hS3, hw0, hw1, hgM⟩
    ·rintro ⟨g1, g2, g3⟩ w4 ⟨hB4, hL1, hL2, hne, hM, hg1, hg2, hg3⟩
     simp only at hB4 hL1 hL2 hne hM hg1 hg2 hg3 ⊢
     refine norm_ (a' := ?_) ?_ ?_
     rotate_left
     ·show putAll _ _ = _
      simp only [putAll, Act.put, List.setIfInBounds_toArray, List.set_cons_zero, List.set_cons_succ]
      rfl
     have H4 := Aside0.mk (And.intro hB4 (And.intro hL1 (And.intro hL2 (And.intro hne (And.intro hM (And.intro hg1 (And.intro hg2 hg3)))))))
     clear hB4 hL1 hL2 hne hM hg1 hg2 hg3 hHeld
     refine pu 5 48 (bs 8 63) ?_
     refine on0 6 49 (bs 8 127) fun K hK => ?_
     refine va0 ?_
     have b5 := below_new w4 (.cells #[.map (some g1), .map (some g2), .slice (some ⟨g3, 0, none⟩) W W] 97)
     have hbk5 := heap_alloc_new w4 (.cells #[.map (some g1), .map (some g2), .slice (some ⟨g3, 0, none⟩) W W] 97)
     have hB5 := below_then H4.out.1 H4.out.1.size b5
     have hOne : OneAt (w4.alloc (.cells #[.map (some g1), .map (some g2), .slice (some ⟨g3, 0, none⟩) W W] 97)) W [] ⟨w4.heap.size, g1, g2, g3, W⟩ := ⟨hbk5, H4.out.2.1.below b5, H4.out.2.2.1.below b5, _, blk_below H4.out.2.2.2.2.1 b5, fun k hk => made_cell hk⟩
     have HW := Lib.hid (show WGlow wr.heap.size ⟨w4.heap.size, g1, g2, g3, W⟩ ∧ g1 ≠ g2 from ⟨⟨H4.out.1.size, H4.out.2.2.2.2.2⟩, H4.out.2.2.2.1⟩)
     have H5 := Aside0.mk (And.intro (hX.out.2.to_below hB5) hOne)
     refine hK.out _ _ (HSH.out _ hB5) (fun hHeld => ?_)
     clear hK K
     refine nm0 (some 49) ?_
     refine pu 7 11 (bs 8 255) ?_
     refine dn0 ?_
     have HJ := Lib.hid hX.out.1
     have HWR := Lib.hid hX.out.2.below.size
     clear hHeld b5 hbk5 hB5 hOne H4 hX HD HSZ HSH hmk
     generalize w4.alloc (.cells #[.map (some g1), .map (some g2), .slice (some ⟨g3, 0, none⟩) W W] 97) = w5 at *
     generalize w4.heap.size = bw at *
     generalize wr.heap.size = lim0 at *
     have q4 := pw_cell_below H5.out.1.below P34.out.2
     go_wp2_with fail
     clear q4
     go_loopw [53] (fun i wv => ∃ k : Nat, k ≤ ms.length ∧ i = .int .i64 k ∧ Aside0 (PreAt w2 W lim0 gb (.slice sA script.length sC) (startLed ms) ds A c wv ∧ OneAt wv W (startLed (ms.take k)) ⟨bw, g1, g2, g3, W⟩)) (fun i _ => ms.length - (intOf i).toNat)
     case atStart => exact ⟨0, Nat.zero_le _, rfl, H5⟩
     case round =>
      clear H5
      obtain ⟨k, hk, rfl, hY⟩ := hrel
      by_cases hkl : k < ms.length
      ·obtain ⟨ad, tA, tC, rfl, he0, he1, he2, heL, heC⟩ := at_msg (Kd.C_below HS2.out.1 hY.out.1.below) hkl
       have hkE : (k : Int) < ms.length := by omega
       have hk0 : (0 : Int) ≤ k := by omega
       have HEK := Lib.hid (startLed_succ hkl)
       generalize ms[k] = mm at *
       have q0 : wr.cell? ⟨bw, 0, none⟩ = some (.map (some g1)) := (blk_cell hY.out.2.wk 0).trans rfl
       go_upto_region 11 with fail
       have bE := below_new wr (.cells #[.int .i64 mm.1.1, .slice tA mm.1.2.length tC, .int .i64 mm.2] 77)
       have e0 : (wr.alloc (.cells #[.int .i64 mm.1.1, .slice tA mm.1.2.length tC, .int .i64 mm.2] 77)).cell? ⟨wr.heap.size, 0, none⟩ = some (.int .i64 mm.1.1) := new_cell wr _ _ 0
       have e1 : (wr.alloc (.cells #[.int .i64 mm.1.1, .slice tA mm.1.2.length tC, .int .i64 mm.2] 77)).cell? ⟨wr.heap.size, 1, none⟩ = some (.slice tA mm.1.2.length tC) := new_cell wr _ _ 1
       have f0 := pw_cell_below bE q0
       have HEL := Aside0.mk (Kd.C_below heL bE)
       have HY1 := Aside0.mk (And.intro (hY.out.1.to_below bE) (hY.out.2.below bE))
       clear heL bE he0 he1 he2 q0 hY
       generalize wr.alloc (.cells #[.int .i64 mm.1.1, .slice tA mm.1.2.length tC, .int .i64 mm.2] 77) = wq at *
       generalize wr.heap.size = be at *
       have TI := fun w h => Lib.hid (timed_any tA tC mm.1.2 w h)
       simp only [tmV] at TI
       refine start_ (n := 13) (S := fun w' => w'.cell? ⟨bw, 0, none⟩ = some (.map (some g1)) ∧ w'.cell? ⟨be, 0, none⟩ = some (.int .i64 mm.1.1) ∧ w'.cell? ⟨be, 1, none⟩ = some (.slice tA mm.1.2.length tC)) (ds := [12]) (bs 13 0) (by kernel_rfl) rfl (by kernel_rfl) ⟨f0, e0, e1⟩ (fun hHeld => ?_)
       have HD := Aside0.mk (below_drew1 (Below.refl wq.heap.size wq))
       have HSH := Lib.hid (fun V (hb : Below wq.heap.size wq V) => (And.intro (pw_cell_below hb f0) (And.intro (pw_cell_below hb e0) (pw_cell_below hb e1))))
       clear f0 e0 e1
       generalize wq.drew = wd2 at *
       refine pu 0 57 (bs 13 1) ?_
       refine pu 1 58 (bs 13 3) ?_
       refine pu 2 59 (bs 13 7) ?_
       refine tk3 3 60 (bs 13 15) hHeld ?_
       refine pu 4 61 (bs 13 31) ?_
       refine pu 5 62 (bs 13 63) ?_
       refine tk3 6 63 (bs 13 127) hHeld ?_
       refine pu 7 64 (bs 13 255) ?_
       refine pu 8 65 (bs 13 511) ?_
       refine tk3 9 66 (bs 13 1023) hHeld ?_
       refine on0 10 67 (bs 13 2047) fun K hK => ?_
       refine gs0 Tryz.func64 #[.slice tA mm.1.2.length tC] ?_
       refine (TI _ (Kd.C_below HEL.out HD.out)).out.mono ?_
       rintro e v6 ⟨rfl, hb6⟩
       have hB6 := below_then HD.out HD.out.size hb6
       refine ⟨_, rfl, hK.out _ _ (HSH.out _ hB6) (fun hHeld => ?_)⟩
       clear hK K
       refine nm0 (some 67) ?_
       refine pu 11 68 (bs 13 4095) ?_
       refine la0 12 (bs 13 8191) (N := (some 69)) fun K hK => ?_
       refine gs0 Tryz.func46 #[.agg #[.map (some g1)], .agg #[.int .i64 mm.1.1, .int .i64 (tmOf mm.1.2).1, .int .i64 (tmOf mm.1.2).2.1, .int .i64 (tmOf mm.1.2).2.2], .int .i64 1] ?_
       have H6 := Aside0.mk (And.intro (HY1.out.1.to_below hB6) (HY1.out.2.below hB6))
       have EN := enter_any g1 (startLed (ms.take k)) (startMk mm) 1 v6 H6.out.2.led
       simp only [mkV, startMk] at EN
       refine EN.mono ?_
       clear EN
       rintro e w7 ⟨rfl, hg7, hL7⟩
       refine ⟨_, rfl, hK.out _ _ ?_⟩
       clear hK K hHeld
       refine dn0 ?_
       have H7 := Aside0.mk (And.intro (H6.out.1.enter hg7 H6.out.2.led HW.out.1.2.1 HWR.out) (show OneAt w7 W (startLed (ms.take (k + 1))) ⟨bw, g1, g2, g3, W⟩ by rw [HEK.out]; exact H6.out.2.enter hg7 hL7 HW.out.2))
       clear hg7 hL7 H6 hB6 hb6 HY1 HD HSH
       go_wp2_with fail
       exact ⟨⟨k + 1, by omega, by go_num, H7⟩, by simp [intOf]; omega⟩
      ·have hkE : ¬ ((k : Int) < ms.length) := by omega
       have hkl2 : k = ms.length := by omega
       have hY2 := hY.out
       rw [hkl2, List.take_length] at hY2
       have HY := Aside0.mk hY2
       have y4 := hY2.1.cells.1
       rw [HJ.out] at y4
       clear hY hY2 hkl2
       go_upto_region 13 with fail
       go_wp2_with (at_builtin; go_must (refine Kd.R_append kP (w0 := w2) w2.heap.size rfl (.tmp 75) (.tmp 77) _ 93 _ 8 rfl Tryz.underlying90 Tryz.infoPworker rfl (by decide) (by decide) (.slice A j c) (ds.map (·.wb)) bw [.pointer (some ⟨bw, 0, none⟩)] (fun k => k ≠ w2.heap.size) (fun _ => False) rfl rfl rfl (fun _ h => h.elim) (fun k hk => by have := blk_lt HY.out.1.run; omega) (by have := HY.out.1.row; rw [HJ.out] at this; exact this) HY.out.1.below HY.out.1.below.size (by have := HJ.out; simp; omega) ?_); intro v6 w6 hR6 hb6 hg6 hat6; obtain ⟨A6, c6, hv6⟩ := Kd.R_slice hR6; have hg6' : wr.grownBy w6 (Value.slice A ds.length c).ownBlock := (by rw [HJ.out]; exact hg6); have hbk6 := blk_grown HY.out.1.run hg6' (fun he => HY.out.1.row.1 _ he.symm rfl); have H6 := Aside0.mk (And.intro hR6 (And.intro hb6 hg6')); clear hR6 hb6 hg6 hg6' hat6; generalize hl6 : (ds.map (·.wb) ++ [bw]).length = l6 at *; have HL6 := Lib.hid hl6; subst hv6; have k6 : w6.cell? ⟨w2.heap.size, 4, none⟩ = some (.slice A j c) := (by rw [← HJ.out]; exact (blk_cell hbk6 4).trans rfl); have kf6 : w6.frozen? ⟨w2.heap.size, 4, none⟩ = false := blk_frozen hbk6 4; clear hbk6 hl6 y4)
       have hS := HY.out.1.snoc (d := ⟨bw, g1, g2, g3, W⟩) HY.out.2 HWR.out HW.out.1 HW.out.2 H6.out.2.1 H6.out.1 H6.out.2.2 (by rw [← HL6.out]; simp)
       have HS9 := Aside0.mk hS
       clear hS
       have HGS := Lib.hid (show wr.heap.size ≤ (w6.setCell ⟨w2.heap.size, 4, none⟩ (.slice A6 l6 c6)).heap.size by have := H6.out.2.2.size; simpa [World.setCell] using this)
       have HS10 := Aside0.mk (HS9.out.lift HGS.out)
       clear HS9 HGS H6 HY
       generalize w6.setCell ⟨w2.heap.size, 4, none⟩ (.slice A6 l6 c6) = w10 at *
       go_wp2_with fail
       exact ⟨⟨j + 1, _, A6, c6, by omega, by go_num, ⟨by have := HJ.out; simp; omega, HS10.out⟩⟩, by simp [intOf]; omega⟩
   ·have hjW : ¬ ((j : Int) < W) := by omega
    have hjW2 : j = W := by omega
    have hX2 := hX.out
    rw [hjW2] at hX2
    have hrun2 := hX2.2.run
    have hrow2 := hX2.2.row
    rw [hX2.1] at hrun2 hrow2
    obtain ⟨G, hGr, hGg, hRA⟩ := hX2.2.done.run hX2.1 (by omega) hX2.2.below hrun2 (Nat.le_refl _) hrow2 HS2.out.2.1 HS2.out.2.2
    have HRA := Aside0.mk (show ∃ lim, RunAt w2 G W lim { beginS W ms script with has := startHas W (ms.take 0) } (fun _ _ => .slice none 0 0) wr from ⟨_, hRA⟩)
    have HGR := Lib.hid (And.intro hGr hGg)
    have q4 := pw_cell_below hX2.2.below P34.out.2
    clear hX2 hrun2 hrow2 hRA hX hGg hjW2
    rw [← hGr]
    clear hGr
    go_wp2_with fail
    clear q4
    go_loopw [85] (fun i wv => ∃ k : Nat, k ≤ ms.length ∧ i = .int .i64 k ∧ Aside0 (∃ lim, RunAt w2 G W lim { beginS W ms script with has := startHas W (ms.take k) } (fun _ _ => .slice none 0 0) wv)) (fun i _ => ms.length - (intOf i).toNat)
    case atStart => exact ⟨0, Nat.zero_le _, rfl, HRA⟩
    case round =>
     clear HRA
     obtain ⟨k, hk, rfl, hY⟩ := hrel
     obtain ⟨lim, hY⟩ := hY.out
     have hY := Aside0.mk hY
     by_cases hkl : k < ms.length
     ·obtain ⟨ad, tA, tC, rfl, he0, he1, he2, heL, heC⟩ := at_msg (Kd.C_below HS2.out.1 hY.out.below) hkl
      have hkE : (k : Int) < ms.length := by omega
      have hk0 : (0 : Int) ≤ k := by omega
      have HEK := Lib.hid (startHas_succ (W := W) hkl)
      have hwho := msgOk_who (HMS.out _ (List.getElem_mem hkl))
      generalize ms[k] = mm at *
      obtain ⟨⟨nd, tl⟩, wh⟩ := mm
      simp only at he0 he1 he2 heL heC hwho
      obtain ⟨x, rfl⟩ : ∃ x : Nat, wh = x := ⟨wh.toNat, by omega⟩
      have hxW : x < W := by omega
      have hx0 : (0 : Int) ≤ x := hwho.1
      have hxWI : (x : Int) < W := hwho.2
      clear hwho
      obtain ⟨_, _, _, _, _, _, _, _, _, r4, _⟩ := hY.out.cells
      obtain ⟨s1, s2, s3, s4⟩ := hY.out.wcells hxW
      clear s2 s4
      go_upto_region 18 with fail
      have bE := below_new wr (.cells #[.int .i64 nd, .slice tA tl.length tC, .int .i64 x] 77)
      have e0 : (wr.alloc (.cells #[.int .i64 nd, .slice tA tl.length tC, .int .i64 x] 77)).cell? ⟨wr.heap.size, 0, none⟩ = some (.int .i64 nd) := new_cell wr _ _ 0
      have e1 : (wr.alloc (.cells #[.int .i64 nd, .slice tA tl.length tC, .int .i64 x] 77)).cell? ⟨wr.heap.size, 1, none⟩ = some (.slice tA tl.length tC) := new_cell wr _ _ 1
      have e2 : (wr.alloc (.cells #[.int .i64 nd, .slice tA tl.length tC, .int .i64 x] 77)).cell? ⟨wr.heap.size, 2, none⟩ = some (.int .i64 x) := new_cell wr _ _ 2
      have f4 := pw_cell_below bE r4
      have f1 := pw_cell_below bE s1
      have f3 := pw_cell_below bE s3
      have HEL := Aside0.mk (Kd.C_below heL bE)
      have HY1 := Aside0.mk (hY.out.to_below bE)
      clear heL bE he0 he1 he2 r4 s1 s3 hY
      generalize wr.alloc (.cells #[.int .i64 nd, .slice tA tl.length tC, .int .i64 x] 77) = wq at *
      generalize wr.heap.size = be at *
      have TI := fun w h => Lib.hid (timed_any tA tC tl w h)
      simp only [tmV] at TI
      refine start_ (n := 20) (S := fun w' => w'.cell? ⟨G.rb, 4, none⟩ = some (.slice (some ⟨G.wa, 0, none⟩) W G.wc) ∧ w'.cell? ⟨G.wa, x, none⟩ = some (.pointer (some ⟨G.wb x, 0, none⟩)) ∧ w'.cell? ⟨G.wb x, 1, none⟩ = some (.map (some (G.hb x))) ∧ w'.cell? ⟨be, 0, none⟩ = some (.int .i64 nd) ∧ w'.cell? ⟨be, 1, none⟩ = some (.slice tA tl.length tC) ∧ w'.cell? ⟨be, 2, none⟩ = some (.int .i64 x)) (ds := [19]) (bs 20 0) (by kernel_rfl) rfl (by kernel_rfl) ⟨f4, f1, f3, e0, e1, e2⟩ (fun hHeld => ?_)
      have HD := Aside0.mk (below_drew1 (Below.refl wq.heap.size wq))
      have HSH := Lib.hid (fun V (hb : Below wq.heap.size wq V) => (And.intro (pw_cell_below hb f4) (And.intro (pw_cell_below hb f1) (And.intro (pw_cell_below hb f3) (And.intro (pw_cell_below hb e0) (And.intro (pw_cell_below hb e1) (pw_cell_below hb e2)))))))
      clear f4 f1 f3 e0 e1 e2
      generalize wq.drew = wd2 at *
      refine pu 0 89 (bs 20 1) ?_
      refine pu 1 90 (bs 20 3) ?_
      refine pu 2 91 (bs 20 7) ?_
      refine tk6 3 92 (bs 20 15) hHeld ?_
      refine pu 4 93 (bs 20 31) ?_
      refine tk6 5 94 (bs 20 63) hHeld ?_
      refine pu 6 95 (bs 20 127) ?_
      refine tk6 7 96 (bs 20 255) hHeld ?_
      refine pu 8 97 (bs 20 511) ?_
      refine pu 9 98 (bs 20 1023) ?_
      refine tk6 10 99 (bs 20 2047) hHeld ?_
      refine pu 11 100 (bs 20 4095) ?_
      refine pu 12 101 (bs 20 8191) ?_
      refine tk6 13 102 (bs 20 16383) hHeld ?_
      refine pu 14 103 (bs 20 32767) ?_
      refine pu 15 104 (bs 20 65535) ?_
      refine tk6 16 105 (bs 20 131071) hHeld ?_
      refine on0 17 106 (bs 20 262143) fun K hK => ?_
      refine gs0 Tryz.func64 #[.slice tA tl.length tC] ?_
      refine (TI _ (Kd.C_below HEL.out HD.out)).out.mono ?_
      rintro e v6 ⟨rfl, hb6⟩
      have hB6 := below_then HD.out HD.out.size hb6
      refine ⟨_, rfl, hK.out _ _ (HSH.out _ hB6) (fun hHeld => ?_)⟩
      clear hK K
      refine nm0 (some 106) ?_
      refine pu 18 107 (bs 20 524287) ?_
      refine la0 19 (bs 20 1048575) (N := (some 108)) fun K hK => ?_
      refine gs0 Tryz.func46 #[.agg #[.map (some (G.hb x))], .agg #[.int .i64 nd, .int .i64 (tmOf tl).1, .int .i64 (tmOf tl).2.1, .int .i64 (tmOf tl).2.2], .int .i64 1] ?_
      have H6 := Aside0.mk (HY1.out.to_below hB6)
      have EN := enter_any (G.hb x) _ (startMk ((nd, tl), (x : Int))) 1 v6 (H6.out.has x hxW)
      simp only [mkV, startMk] at EN
      refine EN.mono ?_
      clear EN
      rintro e w7 ⟨rfl, hg7, hL7⟩
      refine ⟨_, rfl, hK.out _ _ ?_⟩
      clear hK K hHeld
      refine dn0 ?_
      have h7 := H6.out.set_has hxW hg7 hL7
      have H7 := Aside0.mk (show ∃ lim, RunAt w2 G W lim { beginS W ms script with has := startHas W (ms.take (k + 1)) } (fun _ _ => .slice none 0 0) w7 from ⟨lim, by
       rw [HEK.out]
       unfold hasStep
       simp only [Int.toNat_natCast, startMk]
       exact h7⟩)
      clear hg7 hL7 h7 H6 hB6 hb6 HY1 HD HSH
      go_wp2_with fail
      exact ⟨⟨k + 1, by omega, by go_num, H7⟩, by simp [intOf]; omega⟩
     ·have hkE : ¬ ((k : Int) < ms.length) := by omega
      have hkl2 : k = ms.length := by omega
      have hY2 := hY.out
      rw [hkl2, List.take_length] at hY2
      have HY := Aside0.mk hY2
      clear hY hY2 hkl2
      go_wp2_with fail
      go_ret
      unfold BegunPost
      rw [HB.out]
      refine ⟨_, w2, G, rfl, rfl, H2.out.1, by rw [HGR.out.2]; exact HGB.out, by rw [HGR.out.2]; exact HG.out, ?_⟩
      simp only [Int.toNat_natCast]
      exact ⟨_, HY.out.relim⟩
end Go.Proofs.YtbkfnmgkcgnifaaGreat
namespace Go.Proofs.YtbkfnmgkcgnifaaGreat.Mdl
theorem sum_set {α : Type} (f : α → Nat) (x d : α) : ∀ (l : List α) (i : Nat), i < l.length → ((l.set i x).map f).sum + f (l.getD i d) = (l.map f).sum + f x
 | y :: l, 0, _ => by simp; omega
 | y :: l, i + 1, h => by
  have := sum_set f x d l i (by simpa using h)
  simp only [List.set_cons_succ, List.map_cons, List.sum_cons, List.getD_cons_succ]
  omega
theorem sum_get_le {α : Type} (f : α → Nat) (d : α) : ∀ (l : List α) (i : Nat), i < l.length → f (l.getD i d) ≤ (l.map f).sum
 | y :: l, 0, _ => by simp
 | y :: l, i + 1, h => by
  have := sum_get_le f d l i (by simpa using h)
  simp only [List.map_cons, List.sum_cons, List.getD_cons_succ]
  omega
def cnt (L : Led) : Nat := (L.map (fun e => e.2.toNat)).sum
structure Pos (L : Led) : Prop where
 nodup : (L.map (·.1)).Nodup
 pos : ∀ e ∈ L, 1 ≤ e.2
theorem sum_perm {l m : List Nat} (h : l.Perm m) : l.sum = m.sum := h.sum_nat
theorem cnt_perm {L L' : Led} (h : L.Perm L') : cnt L = cnt L' := sum_perm (h.map _)
theorem drop_key {L : Led} (hn : (L.map (·.1)).Nodup) {m : Mk} {v : Int} (h : (m, v) ∈ L) : L.Perm ((m, v) :: L.filter (fun e => !(e.1 == m))) := by
 induction L with
 | nil => cases h
 | cons y r ih =>
  rw [List.map_cons, List.nodup_cons] at hn
  rcases List.mem_cons.1 h with h | h
  ·subst h
   rw [List.filter_cons_of_neg (by simp), filter_none (fun e he hk => hn.1 (List.mem_map.2 ⟨e, he, hk⟩))]
  ·have hy : y.1 ≠ m := fun hk => hn.1 (List.mem_map.2 ⟨(m, v), h, hk.symm⟩)
   rw [List.filter_cons_of_pos (by simpa using hy)]
   exact ((ih hn.2 h).cons y).trans (List.Perm.swap _ _ _)
theorem nodup_filter {L : Led} (p : Mk × Int → Bool) (hn : (L.map (·.1)).Nodup) : ((L.filter p).map (·.1)).Nodup := hn.sublist (List.filter_sublist.map _)
theorem nodup_ins {L : Led} {m : Mk} (s : Int) (hn : (L.map (·.1)).Nodup) (hm : ∀ e ∈ L, e.1 ≠ m) : ((insK m s L).map (·.1)).Nodup := by
 rw [((insK_perm m s L).map (·.1)).nodup_iff, List.map_cons, List.nodup_cons]
 exact ⟨fun h => by obtain ⟨e, he, hk⟩ := List.mem_map.1 h; exact hm e he hk, hn⟩
theorem not_key {L : Led} {m : Mk} : ∀ e ∈ L.filter (fun e => !(e.1 == m)), e.1 ≠ m := fun e he => by
 have := (List.mem_filter.1 he).2
 simpa using this
theorem enterL_nodup {L : Led} (m : Mk) (n : Int) (hn : (L.map (·.1)).Nodup) : ((enterL L m n).map (·.1)).Nodup := by
 unfold enterL
 split
 ·exact nodup_filter _ hn
 ·exact nodup_ins _ (nodup_filter _ hn) not_key
theorem mem_enterL {L : Led} {m : Mk} {n : Int} {e : Mk × Int} (h : e ∈ enterL L m n) : e.1 = m ∨ e ∈ L := by
 unfold enterL at h
 split at h
 ·exact .inr (List.mem_filter.1 h).1
 ·rcases List.mem_cons.1 ((insK_perm _ _ _).mem_iff.1 h) with h | h
  ·exact .inl (by rw [h])
  ·exact .inr (List.mem_filter.1 h).1
theorem enterL_len (L : Led) (m : Mk) (n : Int) : (enterL L m n).length ≤ L.length + 1 := by
 have h := List.length_filter_le (fun e : Mk × Int => !(e.1 == m)) L
 unfold enterL
 split
 ·omega
 ·rw [(insK_perm _ _ _).length_eq, List.length_cons]; omega
theorem readL_len : ∀ (note : Note) (L : Led), (readL L note).length ≤ L.length + note.length
 | [], L => by simp [readL]
 | x :: note, L => by
  have h1 := readL_len note (enterL L x.1 x.2)
  have h2 := enterL_len L x.1 x.2
  have e : readL L (x :: note) = readL (enterL L x.1 x.2) note := rfl
  rw [e, List.length_cons]; omega
theorem mem_readL : ∀ (note : Note) (L : Led) {e : Mk × Int}, e ∈ readL L note → (∃ x ∈ note, e.1 = x.1) ∨ e ∈ L
 | [], L, e, h => .inr h
 | x :: note, L, e, h => by
  rcases mem_readL note (enterL L x.1 x.2) h with ⟨y, hy, he⟩ | h
  ·exact .inl ⟨y, List.mem_cons_of_mem _ hy, he⟩
  ·rcases mem_enterL h with h | h
   ·exact .inl ⟨x, List.mem_cons_self, h⟩
   ·exact .inr h
theorem cnt_cons (e : Mk × Int) (L : Led) : cnt (e :: L) = e.2.toNat + cnt L := by simp [cnt]
theorem len_le_cnt {L : Led} (h : ∀ e ∈ L, 1 ≤ e.2) : L.length ≤ cnt L := by
 induction L with
 | nil => exact Nat.zero_le _
 | cons y r ih =>
  have h1 := ih (fun e he => h e (List.mem_cons_of_mem _ he))
  have h2 := h y List.mem_cons_self
  rw [cnt_cons, List.length_cons]; omega
theorem Pos.enter1 {L : Led} (h : Pos L) (m : Mk) (hc : cnt L ≤ 1000000) : Pos (enterL L m 1) ∧ cnt (enterL L m 1) = cnt L + 1 := by
 by_cases hm : ∃ v, (m, v) ∈ L
 ·obtain ⟨v, hv⟩ := hm
  have hp := drop_key h.nodup hv
  have hc2 := cnt_perm hp
  rw [cnt_cons] at hc2
  have h1 := h.pos _ hv
  simp only at h1 hc2
  have hg : getL L m = v := getL_mem h.nodup hv
  have hw : w64 (getL L m + 1) = v + 1 := by rw [hg]; exact w64_in (by omega) (by omega)
  have e : enterL L m 1 = insK m (v + 1) (L.filter (fun e => !(e.1 == m))) := by unfold enterL; rw [hw, if_neg (by omega)]
  refine ⟨⟨enterL_nodup m 1 h.nodup, fun x hx => ?_⟩, ?_⟩
  ·rw [e] at hx
   rcases List.mem_cons.1 ((insK_perm _ _ _).mem_iff.1 hx) with hx | hx
   ·rw [hx]; simp only; omega
   ·exact h.pos x (List.mem_filter.1 hx).1
  ·rw [e, cnt_perm (insK_perm _ _ _), cnt_cons]
   simp only
   omega
 ·have hk : ∀ e ∈ L, e.1 ≠ m := fun e he hk => hm ⟨e.2, by rw [← hk]; exact he⟩
  have hw : w64 (getL L m + 1) = 1 := by rw [getL_none hk]; rfl
  have e : enterL L m 1 = insK m 1 L := by unfold enterL; rw [hw, if_neg (by omega), filter_none hk]
  refine ⟨⟨enterL_nodup m 1 h.nodup, fun x hx => ?_⟩, ?_⟩
  ·rw [e] at hx
   rcases List.mem_cons.1 ((insK_perm _ _ _).mem_iff.1 hx) with hx | hx
   ·rw [hx]; simp
   ·exact h.pos x hx
  ·rw [e, cnt_perm (insK_perm _ _ _), cnt_cons]
   simp only
   omega
theorem Pos.enterN {L : Led} (h : Pos L) {m : Mk} {v : Int} (hv : (m, v) ∈ L) (hc : cnt L ≤ 1000000) : Pos (enterL L m (-1)) ∧ cnt (enterL L m (-1)) + 1 = cnt L := by
 have hp := drop_key h.nodup hv
 have hc2 := cnt_perm hp
 rw [cnt_cons] at hc2
 have h1 := h.pos _ hv
 simp only at h1 hc2
 have hg : getL L m = v := getL_mem h.nodup hv
 have hw : w64 (getL L m + -1) = v - 1 := by rw [hg]; exact w64_in (by omega) (by omega)
 by_cases h0 : v = 1
 ·have e : enterL L m (-1) = L.filter (fun e => !(e.1 == m)) := by unfold enterL; rw [hw, if_pos (by omega)]
  refine ⟨⟨enterL_nodup m (-1) h.nodup, fun x hx => ?_⟩, ?_⟩
  ·rw [e] at hx
   exact h.pos x (List.mem_filter.1 hx).1
  ·rw [e]; omega
 ·have e : enterL L m (-1) = insK m (v - 1) (L.filter (fun e => !(e.1 == m))) := by unfold enterL; rw [hw, if_neg (by omega)]
  refine ⟨⟨enterL_nodup m (-1) h.nodup, fun x hx => ?_⟩, ?_⟩
  ·rw [e] at hx
   rcases List.mem_cons.1 ((insK_perm _ _ _).mem_iff.1 hx) with hx | hx
   ·rw [hx]; simp only; omega
   ·exact h.pos x (List.mem_filter.1 hx).1
  ·rw [e, cnt_perm (insK_perm _ _ _), cnt_cons]
   simp only
   omega
def nodeOk (N : Int) (m : Mk) : Prop := 0 ≤ m.1 ∧ m.1 < N
def msgs (has : List Led) : Nat := (has.map cnt).sum
def qNotes (ns : List (List (List Note))) : Nat := (ns.map (fun r => (r.map List.length).sum)).sum
def qEnts (r : List (List Note)) : Nat := (r.map (fun q => (q.map List.length).sum)).sum
structure HasInv (W : Nat) (N : Int) (has : List Led) : Prop where
 len : has.length = W
 pos : ∀ L ∈ has, Pos L
 node : ∀ L ∈ has, ∀ e ∈ L, nodeOk N e.1
structure Inv (W : Nat) (N : Int) (st : St) : Prop where
 has : HasInv W N st.has
 llen : st.led.length = W
 nlen : st.notes.length = W ∧ ∀ r ∈ st.notes, r.length = W
 ledN : ∀ L ∈ st.led, (L.map (·.1)).Nodup ∧ ∀ e ∈ L, nodeOk N e.1
 noteN : ∀ r ∈ st.notes, ∀ q ∈ r, ∀ note ∈ q, ∀ x ∈ note, nodeOk N x.1
def phi (st : St) : Nat := 4 * st.script.length + 4 * msgs st.has + qNotes st.notes
def psi (st : St) (i : Nat) : Nat := (st.ledOf i).length + qEnts (st.notes.getD i []) + msgs st.has + 2 * st.script.length
theorem getD_mem {α : Type} {l : List α} {i : Nat} (h : i < l.length) (d : α) : l.getD i d ∈ l := by
 rw [List.getD_eq_getElem?_getD, List.getElem?_eq_getElem h]; exact List.getElem_mem h
theorem HasInv.set {W : Nat} {N : Int} {has : List Led} (h : HasInv W N has) (i : Nat) {L : Led} (hp : Pos L) (hn : ∀ e ∈ L, nodeOk N e.1) : HasInv W N (has.set i L) :=
 ⟨by rw [List.length_set]; exact h.len, fun x hx => by rcases List.mem_or_eq_of_mem_set hx with hx | rfl; exact h.pos x hx; exact hp, fun x hx => by rcases List.mem_or_eq_of_mem_set hx with hx | rfl; exact h.node x hx; exact hn⟩
theorem cnt_le_msgs {has : List Led} {i : Nat} (hi : i < has.length) : cnt (has.getD i []) ≤ msgs has := sum_get_le cnt [] has i hi
theorem msgs_set {has : List Led} {i : Nat} (L : Led) (hi : i < has.length) : msgs (has.set i L) + cnt (has.getD i []) = msgs has + cnt L := sum_set cnt L [] has i hi
structure EdgeI (W : Nat) (N : Int) (s s' : WS) : Prop where
 has : HasInv W N s'.has
 msg : msgs s'.has + s'.script.length ≤ msgs s.has + s.script.length
 ent : s'.note.length + msgs s'.has + 2 * s'.script.length ≤ s.note.length + msgs s.has + 2 * s.script.length
 node : (∀ x ∈ s.note, nodeOk N x.1) → ∀ x ∈ s'.note, nodeOk N x.1
theorem numP_nil (many : Int) : numP [] many = 0 := rfl
theorem edgeW_inv {W : Nat} {N : Int} {m : Mk} {s : WS} {e : Ed} (h : HasInv W N s.has) (hc : msgs s.has ≤ 1000000) (he : 0 ≤ e.2.1 ∧ e.2.1 < N) : EdgeI W N s (edgeW W m s e) := by
 unfold edgeW
 split
 ·split
  ·exact ⟨h, by simp only [List.length_tail]; omega, by simp only [List.length_tail]; omega, fun hx => hx⟩
  ·rename_i h1 h0
   have hr := numP_range s.script (show (1 : Int) ≤ (W : Int) + 1 by omega)
   have hsc : 1 ≤ s.script.length := by
    cases hs : s.script with
    | nil => rw [hs] at h0; exact absurd (numP_nil _) h0
    | cons x r => simp
   have hj : (numP s.script ((W : Int) + 1) - 1).toNat < s.has.length := by rw [h.len]; omega
   generalize (numP s.script ((W : Int) + 1) - 1).toNat = j at *
   have hP := h.pos _ (getD_mem hj [])
   have hle := cnt_le_msgs hj
   obtain ⟨g1, g2⟩ := hP.enter1 (e.2.1, plusT m.2 (tmOf e.2.2)) (by omega)
   have hms := msgs_set (enterL (s.has.getD j []) (e.2.1, plusT m.2 (tmOf e.2.2)) 1) hj
   refine ⟨h.set j g1 (fun x hx => ?_), ?_, ?_, fun hn x hx => ?_⟩
   ·rcases mem_enterL hx with hx | hx
    ·rw [hx]; exact he
    ·exact h.node _ (getD_mem hj []) x hx
   ·simp only [List.length_tail]; omega
   ·simp only [List.length_tail, List.length_append, List.length_singleton]; omega
   ·rcases List.mem_append.1 hx with hx | hx
    ·exact hn x hx
    ·rw [List.mem_singleton.1 hx]; exact he
 ·exact ⟨h, Nat.le_refl _, Nat.le_refl _, fun hx => hx⟩
theorem fold_inv {W : Nat} {N : Int} {m : Mk} : ∀ (E : List Ed) (s : WS), HasInv W N s.has → msgs s.has + s.script.length ≤ 1000000 → (∀ e ∈ E, 0 ≤ e.2.1 ∧ e.2.1 < N) → EdgeI W N s (E.foldl (edgeW W m) s)
 | [], s, h, _, _ => ⟨h, Nat.le_refl _, Nat.le_refl _, fun hx => hx⟩
 | e :: E, s, h, hc, he => by
  have h1 := edgeW_inv (m := m) h (by omega) (he e List.mem_cons_self)
  have h2 := fold_inv (m := m) E (edgeW W m s e) h1.has (by have := h1.msg; omega) (fun x hx => he x (List.mem_cons_of_mem _ hx))
  exact ⟨h2.has, by have := h1.msg; have := h2.msg; rw [List.foldl_cons]; omega, by have := h1.ent; have := h2.ent; rw [List.foldl_cons]; omega, fun hx => h2.node (h1.node hx)⟩
theorem putQ_len {ns : List (List (List Note))} {i k : Nat} {q : List Note} {W : Nat} (h : ns.length = W ∧ ∀ r ∈ ns, r.length = W) (hi : i < W) : (putQ ns i k q).length = W ∧ ∀ r ∈ putQ ns i k q, r.length = W := by
 refine ⟨by simp only [putQ, List.length_set]; exact h.1, fun r hr => ?_⟩
 simp only [putQ] at hr
 rcases List.mem_or_eq_of_mem_set hr with hr | rfl
 ·exact h.2 r hr
 ·rw [List.length_set]; exact h.2 _ (getD_mem (by rw [h.1]; exact hi) [])
theorem putQ_notes {ns : List (List (List Note))} {i k : Nat} (q : List Note) {W : Nat} (h : ns.length = W ∧ ∀ r ∈ ns, r.length = W) (hi : i < W) (hk : k < W) : qNotes (putQ ns i k q) + (qOf ns i k).length = qNotes ns + q.length := by
 have h1 := sum_set (fun r : List (List Note) => (r.map List.length).sum) ((ns.getD i []).set k q) [] ns i (by rw [h.1]; exact hi)
 have h2 := sum_set (List.length (α := Note)) q [] (ns.getD i []) k (by rw [h.2 _ (getD_mem (by rw [h.1]; exact hi) [])]; exact hk)
 simp only [qNotes, putQ, qOf]
 omega
theorem putQ_row_ne {ns : List (List (List Note))} {i j k : Nat} (q : List Note) (h : i ≠ j) : (putQ ns i k q).getD j [] = ns.getD j [] := by
 unfold putQ; exact getD_set_ne _ _ _ h
theorem putQ_row {ns : List (List (List Note))} {i k : Nat} (q : List Note) {W : Nat} (h : ns.length = W ∧ ∀ r ∈ ns, r.length = W) (hi : i < W) (hk : k < W) : qEnts ((putQ ns i k q).getD i []) + ((qOf ns i k).map List.length).sum = qEnts (ns.getD i []) + (q.map List.length).sum := by
 have e : (putQ ns i k q).getD i [] = (ns.getD i []).set k q := by unfold putQ; exact getD_set_self _ _ _ _ (by rw [h.1]; exact hi)
 have h2 := sum_set (fun q : List Note => (q.map List.length).sum) q [] (ns.getD i []) k (by rw [h.2 _ (getD_mem (by rw [h.1]; exact hi) [])]; exact hk)
 rw [e]
 simp only [qEnts, qOf]
 omega
theorem mem_putQ {ns : List (List (List Note))} {i k : Nat} {q : List Note} {N : Int} (h : ∀ r ∈ ns, ∀ q ∈ r, ∀ note ∈ q, ∀ x ∈ note, nodeOk N x.1) (hq : ∀ note ∈ q, ∀ x ∈ note, nodeOk N x.1) (hi : i < ns.length) : ∀ r ∈ putQ ns i k q, ∀ q ∈ r, ∀ note ∈ q, ∀ x ∈ note, nodeOk N x.1 := by
 intro r hr p hp
 simp only [putQ] at hr
 rcases List.mem_or_eq_of_mem_set hr with hr | rfl
 ·exact h r hr p hp
 ·rcases List.mem_or_eq_of_mem_set hp with hp | rfl
  ·exact h _ (getD_mem hi []) p hp
  ·exact hq
theorem qOf_node {ns : List (List (List Note))} {i k : Nat} {N : Int} (h : ∀ r ∈ ns, ∀ q ∈ r, ∀ note ∈ q, ∀ x ∈ note, nodeOk N x.1) : ∀ note ∈ qOf ns i k, ∀ x ∈ note, nodeOk N x.1 := by
 intro note hn
 unfold qOf at hn
 by_cases hi : i < ns.length
 ·by_cases hk : k < (ns.getD i []).length
  ·exact h _ (getD_mem hi []) _ (getD_mem hk []) note hn
  ·rw [List.getD_eq_getElem?_getD (l := ns.getD i []), List.getElem?_eq_none (by omega)] at hn
   cases hn
 ·rw [List.getD_eq_getElem?_getD (l := ns), List.getElem?_eq_none (by omega)] at hn
  simp at hn
structure PushI (W : Nat) (N : Int) (i : Nat) (note : Note) (n : Nat) (ns ns' : List (List (List Note))) : Prop where
 len : ns'.length = W ∧ ∀ r ∈ ns', r.length = W
 tot : qNotes ns' + (if i < n then 1 else 0) ≤ qNotes ns + n
 row : ∀ j, qEnts (ns'.getD j []) ≤ qEnts (ns.getD j []) + (if j < n ∧ j ≠ i then note.length else 0)
 node : ∀ r ∈ ns', ∀ q ∈ r, ∀ note ∈ q, ∀ x ∈ note, nodeOk N x.1
theorem push_inv {W : Nat} {N : Int} {i : Nat} {note : Note} {ns : List (List (List Note))} (hi : i < W) (h : ns.length = W ∧ ∀ r ∈ ns, r.length = W) (hn : ∀ r ∈ ns, ∀ q ∈ r, ∀ note ∈ q, ∀ x ∈ note, nodeOk N x.1) (hx : ∀ x ∈ note, nodeOk N x.1) :
  ∀ n, n ≤ W → PushI W N i note n ns ((List.range n).foldl (pushStep i note) ns)
 | 0, _ => ⟨h, by simp, fun j => by simp, hn⟩
 | n + 1, hW => by
  have ih := push_inv hi h hn hx n (by omega)
  rw [List.range_succ, List.foldl_append]
  generalize (List.range n).foldl (pushStep i note) ns = ns1 at *
  simp only [List.foldl_cons, List.foldl_nil]
  unfold pushStep
  by_cases hni : n = i
  ·subst hni
   rw [if_pos rfl]
   refine ⟨ih.len, ?_, fun j => ?_, ih.node⟩
   ·have := ih.tot
    rw [if_neg (by omega)] at this
    rw [if_pos (by omega)]; omega
   ·have := ih.row j
    by_cases hj : j < n ∧ j ≠ n
    ·rw [if_pos hj] at this; rw [if_pos ⟨by omega, hj.2⟩]; exact this
    ·rw [if_neg hj] at this
     exact Nat.le_trans this (Nat.le_add_right _ _)
  ·rw [if_neg hni]
   have hq : (ns1.getD n []).getD i [] = qOf ns1 n i := rfl
   rw [hq]
   refine ⟨putQ_len ih.len (by omega), ?_, fun j => ?_, mem_putQ ih.node (fun p hp => ?_) (by rw [ih.len.1]; omega)⟩
   ·have h1 := putQ_notes (qOf ns1 n i ++ [note]) ih.len (show n < W by omega) hi
    rw [List.length_append, List.length_singleton] at h1
    have := ih.tot
    by_cases hin : i < n
    ·rw [if_pos hin] at this; rw [if_pos (by omega)]; omega
    ·rw [if_neg hin] at this; rw [if_neg (by omega)]; omega
   ·by_cases hj : n = j
    ·subst hj
     have h1 := putQ_row (qOf ns1 n i ++ [note]) ih.len (show n < W by omega) hi
     rw [List.map_append, List.sum_append] at h1
     simp only [List.map_cons, List.map_nil, List.sum_cons, List.sum_nil] at h1
     have := ih.row n
     rw [if_neg (by omega)] at this
     rw [if_pos ⟨by omega, hni⟩]; omega
    ·rw [putQ_row_ne _ hj]
     have := ih.row j
     by_cases hj2 : j < n ∧ j ≠ i
     ·rw [if_pos hj2] at this; rw [if_pos ⟨by omega, hj2.2⟩]; exact this
     ·rw [if_neg hj2] at this
      exact Nat.le_trans this (Nat.le_add_right _ _)
   ·rcases List.mem_append.1 hp with hp | hp
    ·exact qOf_node ih.node p hp
    ·rw [List.mem_singleton.1 hp]; exact hx
structure MoveI (W : Nat) (N : Int) (st st' : St) : Prop where
 inv : Inv W N st'
 phi : phi st' < phi st
 psi : ∀ i, i < W → psi st' i ≤ psi st i
theorem ledOf_set {st : St} {W : Nat} (hl : st.led.length = W) {i j : Nat} (hi : i < W) (L : Led) : (st.led.set i L).getD j [] = if j = i then L else st.ledOf j := by
 by_cases h : j = i
 ·subst h; rw [if_pos rfl]; exact getD_set_self _ _ _ _ (by rw [hl]; exact hi)
 ·rw [if_neg h]; exact getD_set_ne _ _ _ (Ne.symm h)
theorem readL_nodup : ∀ (note : Note) (L : Led), (L.map (·.1)).Nodup → ((readL L note).map (·.1)).Nodup
 | [], _, h => h
 | x :: note, L, h => readL_nodup note (enterL L x.1 x.2) (enterL_nodup x.1 x.2 h)
theorem led_read {W : Nat} {N : Int} {st : St} (h : Inv W N st) {i : Nat} {note : Note} (hi : i < W) (hx : ∀ x ∈ note, nodeOk N x.1) : ∀ L ∈ st.led.set i (readL (st.ledOf i) note), (L.map (·.1)).Nodup ∧ ∀ e ∈ L, nodeOk N e.1 := by
 intro L hL
 rcases List.mem_or_eq_of_mem_set hL with hL | rfl
 ·exact h.ledN L hL
 ·have hm := h.ledN _ (getD_mem (l := st.led) (by rw [h.llen]; exact hi) [])
  refine ⟨readL_nodup _ _ hm.1, fun e he => ?_⟩
  rcases mem_readL _ _ he with ⟨x, hx2, hk⟩ | he
  ·rw [hk]; exact hx x hx2
  ·exact hm.2 e he
theorem workS_inv {W : Nat} {N : Int} {E : List Ed} {st : St} (h : Inv W N st) (hW : W ≤ 4) (hE : ∀ e ∈ E, 0 ≤ e.2.1 ∧ e.2.1 < N) (hc : msgs st.has + st.script.length ≤ 1000000) {i : Nat} {m : Mk} (hi : i < W) (hm : ∃ v, (m, v) ∈ st.hasOf i) : MoveI W N st (workS E W st i m) := by
 obtain ⟨v, hv⟩ := hm
 have hil : i < st.has.length := by rw [h.has.len]; exact hi
 have hmem := getD_mem hil ([] : Led)
 have hle := cnt_le_msgs hil
 obtain ⟨g1, g2⟩ := (h.has.pos _ hmem).enterN hv (by omega)
 have hms := msgs_set (enterL (st.has.getD i []) m (-1)) hil
 have hmn : nodeOk N m := h.has.node _ hmem _ hv
 have h0 : HasInv W N (st.has.set i (enterL (st.hasOf i) m (-1))) := h.has.set i g1 (fun x hx => by
  rcases mem_enterL hx with hx | hx
  ·rw [hx]; exact hmn
  ·exact h.has.node _ hmem x hx)
 have hI := fold_inv (W := W) (N := N) (m := m) E ⟨st.has.set i (enterL (st.hasOf i) m (-1)), st.script, st.sent, [(m, -1)]⟩ h0 (by
  simp only; have : (st.has.getD i []) = st.hasOf i := rfl; rw [this] at hms g2 hle; omega) hE
 have hW2 : E.foldl (edgeW W m) ⟨st.has.set i (enterL (st.hasOf i) m (-1)), st.script, st.sent, [(m, -1)]⟩ = workW E W st i m := rfl
 rw [hW2] at hI
 generalize hsF : workW E W st i m = sF at *
 have hx : ∀ x ∈ sF.note, nodeOk N x.1 := hI.node (fun x hx => by rw [List.mem_singleton.1 hx]; exact hmn)
 have hP := push_inv (N := N) (note := sF.note) hi h.nlen h.noteN hx W (Nat.le_refl _)
 have hI1 := hI.msg
 have hI2 := hI.ent
 have hP1 := hP.tot
 rw [if_pos hi] at hP1
 simp only [List.length_singleton] at hI1 hI2
 have e1 : (st.has.getD i []) = st.hasOf i := rfl
 rw [e1] at hms g2 hle
 refine ⟨⟨?_, ?_, ?_, ?_, ?_⟩, ?_, fun j hj => ?_⟩
 ·simp only [workS, hsF]; exact hI.has
 ·simp only [workS, hsF, List.length_set]; exact h.llen
 ·simp only [workS, hsF]; exact hP.len
 ·simp only [workS, hsF]; exact led_read h hi hx
 ·simp only [workS, hsF]; exact hP.node
 ·simp only [phi, workS, hsF, pushAll]
  omega
 ·have hr := hP.row j
  have hl : ((workS E W st i m).ledOf j).length ≤ (st.ledOf j).length + (if j = i then sF.note.length else 0) := by
   simp only [St.ledOf, workS, hsF]
   rw [ledOf_set h.llen hi]
   split
   ·rename_i hji
    subst hji
    exact readL_len _ _
   ·exact Nat.le_refl _
  have hsum : (if j < W ∧ j ≠ i then sF.note.length else 0) + (if j = i then sF.note.length else 0) = sF.note.length := by
   by_cases hji : j = i
   ·subst hji; simp
   ·rw [if_pos ⟨hj, hji⟩, if_neg hji]; rfl
  unfold psi
  have e2 : (workS E W st i m).notes = (List.range W).foldl (pushStep i sF.note) st.notes := by simp only [workS, hsF, pushAll]
  have e3 : (workS E W st i m).has = sF.has := by simp only [workS, hsF]
  have e4 : (workS E W st i m).script = sF.script := by simp only [workS, hsF]
  rw [e2, e3, e4]
  omega
theorem takeS_inv {W : Nat} {N : Int} {st : St} (h : Inv W N st) {i k : Nat} (hi : i < W) (hk : k < W) (hq : st.queue i k ≠ []) : MoveI W N st (takeS st i k) := by
 have hq2 : qOf st.notes i k = st.queue i k := rfl
 cases hqq : st.queue i k with
 | nil => exact absurd hqq hq
 | cons note q =>
  have hnode := qOf_node (i := i) (k := k) h.noteN
  rw [hq2, hqq] at hnode
  have hx : ∀ x ∈ note, nodeOk N x.1 := hnode note List.mem_cons_self
  have h1 := putQ_notes q h.nlen hi hk
  have h2 := putQ_row q h.nlen hi hk
  rw [hq2, hqq] at h1 h2
  simp only [List.length_cons, List.map_cons, List.sum_cons] at h1 h2
  have et : takeS st i k = { st with led := st.led.set i (readL (st.ledOf i) note), notes := putQ st.notes i k q, nts := w64 (st.nts + 1) } := by
   unfold takeS; rw [hqq]; rfl
  rw [et]
  refine ⟨⟨h.has, by simp only [List.length_set]; exact h.llen, putQ_len h.nlen hi, led_read h hi hx, mem_putQ h.noteN (fun p hp => hnode p (List.mem_cons_of_mem _ hp)) (by rw [h.nlen.1]; exact hi)⟩, ?_, fun j hj => ?_⟩
  ·simp only [phi]; omega
  ·unfold psi
   simp only [St.ledOf]
   rw [ledOf_set h.llen hi]
   by_cases hji : j = i
   ·subst hji
    rw [if_pos rfl]
    have := readL_len note (st.led.getD j [])
    have e9 : st.ledOf j = st.led.getD j [] := rfl
    omega
   ·rw [if_neg hji, putQ_row_ne _ (Ne.symm hji)]
    exact Nat.le_refl _
theorem moveS_inv {W : Nat} {N : Int} {E : List Ed} {st : St} (h : Inv W N st) (hW : W ≤ 4) (hE : ∀ e ∈ E, 0 ≤ e.2.1 ∧ e.2.1 < N) (hc : phi st ≤ 1000000) {mv : Mv} (hm : MvOk W st mv) : MoveI W N st (moveS E W st mv) := by
 cases mv with
 | work i m => exact workS_inv h hW hE (by unfold phi at hc; omega) hm.1 hm.2
 | take i k => exact takeS_inv h hm.1 hm.2.1 hm.2.2
theorem MvOk.script {W : Nat} {st : St} {mv : Mv} (h : MvOk W st mv) (sc : List Int) : MvOk W { st with script := sc } mv := by
 cases mv <;> exact h
theorem getD_some_mem {α : Type} {l : List α} {i : Nat} {d x : α} (hd : d ∈ l) (h : l.getD i d = x) : x ∈ l := by
 by_cases hi : i < l.length
 ·rw [← h]; exact getD_mem hi d
 ·rw [List.getD_eq_getElem?_getD, List.getElem?_eq_none (by omega)] at h
  rw [← h]; exact hd
theorem stepS_inv {W : Nat} {N : Int} {E : List Ed} {st st' : St} (h : Inv W N st) (hW : W ≤ 4) (hE : ∀ e ∈ E, 0 ≤ e.2.1 ∧ e.2.1 < N) (hc : phi st ≤ 1000000) (hs : stepS E W st = some st') : MoveI W N st st' := by
 unfold stepS at hs
 cases hm : movesS W st with
 | nil => rw [hm] at hs; cases hs
 | cons a l =>
  rw [hm] at hs
  simp only [Option.some.injEq] at hs
  generalize hmv : (a :: l).getD (numP st.script ((l.length : Int) + 1)).toNat a = mv at *
  have hmem : mv ∈ movesS W st := by rw [hm]; exact getD_some_mem List.mem_cons_self hmv
  have hok := (mem_moves hmem).script st.script.tail
  have h2 : Inv W N { st with script := st.script.tail } := ⟨h.has, h.llen, h.nlen, h.ledN, h.noteN⟩
  have hp2 : phi { st with script := st.script.tail } ≤ phi st := by simp only [phi, List.length_tail]; omega
  have := moveS_inv (E := E) h2 hW hE (by omega) hok
  rw [hs] at this
  refine ⟨this.inv, by have := this.phi; omega, fun i hi => Nat.le_trans (this.psi i hi) ?_⟩
  simp only [psi, List.length_tail, St.ledOf]; omega
structure Reach (W : Nat) (N : Int) (st : St) : Prop where
 inv : Inv W N st
 phi : phi st ≤ 1232
 psi : ∀ i, i < W → psi st i ≤ 616
theorem Reach.step {W : Nat} {N : Int} {E : List Ed} {st st' : St} (h : Reach W N st) (hW : W ≤ 4) (hE : ∀ e ∈ E, 0 ≤ e.2.1 ∧ e.2.1 < N) (hs : stepS E W st = some st') : Reach W N st' ∧ Mdl.phi st' < Mdl.phi st := by
 have hm := stepS_inv h.inv hW hE (by have := h.phi; omega) hs
 exact ⟨⟨hm.inv, by have := h.phi; have := hm.phi; omega, fun i hi => Nat.le_trans (hm.psi i hi) (h.psi i hi)⟩, hm.phi⟩
theorem Reach.hasOk {W : Nat} {N : Int} {st : St} (h : Reach W N st) (hN : N ≤ 8) : HasOk W st := by
 refine ⟨fun i hi e he => ?_, fun i hi => ?_⟩
 ·have := h.inv.has.node _ (getD_mem (by rw [h.inv.has.len]; exact hi) []) e he
  unfold nodeOk at this
  unfold okM; omega
 ·have h1 := len_le_cnt (h.inv.has.pos _ (getD_mem (l := st.has) (i := i) (by rw [h.inv.has.len]; exact hi) [])).pos
  have h2 := cnt_le_msgs (has := st.has) (i := i) (by rw [h.inv.has.len]; exact hi)
  have h3 := h.phi
  unfold Mdl.phi at h3
  show (st.has.getD i []).length ≤ _
  omega
theorem Reach.queue {W : Nat} {N : Int} {st : St} (h : Reach W N st) (j k : Nat) : (st.queue j k).length ≤ 1232 := by
 by_cases hj : j < st.notes.length
 ·by_cases hk : k < (st.notes.getD j []).length
  ·have h1 := sum_get_le (List.length (α := Note)) [] (st.notes.getD j []) k hk
   have h2 := sum_get_le (fun r : List (List Note) => (r.map List.length).sum) [] st.notes j hj
   have h3 := h.phi
   unfold Mdl.phi qNotes at h3
   show ((st.notes.getD j []).getD k []).length ≤ _
   omega
  ·show ((st.notes.getD j []).getD k []).length ≤ _
   rw [List.getD_eq_getElem?_getD (l := st.notes.getD j []), List.getElem?_eq_none (by omega)]
   simp
 ·show ((st.notes.getD j []).getD k []).length ≤ _
  rw [List.getD_eq_getElem?_getD (l := st.notes), List.getElem?_eq_none (by omega)]
  simp
theorem flat_len {α β : Type} (f : α → List β) (K : Nat) : ∀ l : List α, (∀ x ∈ l, (f x).length ≤ K) → (l.flatMap f).length ≤ l.length * K
 | [], _ => by simp
 | x :: l, h => by
  have h1 := flat_len f K l (fun y hy => h y (List.mem_cons_of_mem _ hy))
  have h2 := h x List.mem_cons_self
  rw [List.flatMap_cons, List.length_append, List.length_cons, Nat.succ_mul]; omega
theorem sortM_len (l : List Mk) : (sortM l).length = l.length := (sortL_spec ordN (l := l) (fun _ _ => trivial)).2.length_eq
theorem Reach.moves {W : Nat} {N : Int} {st : St} (h : Reach W N st) (hW : W ≤ 4) : (movesS W st).length ≤ 1000000 := by
 rw [movesS_eq, List.length_append]
 have h1 := flat_len (fW st) 308 (List.range W) (fun i hi => by
  have hi := List.mem_range.1 hi
  unfold fW
  rw [List.length_map, sortM_len, List.length_map]
  have h1 := len_le_cnt (h.inv.has.pos _ (getD_mem (l := st.has) (i := i) (by rw [h.inv.has.len]; exact hi) [])).pos
  have h2 := cnt_le_msgs (has := st.has) (i := i) (by rw [h.inv.has.len]; exact hi)
  have h3 := h.phi
  unfold Mdl.phi at h3
  show (st.has.getD i []).length ≤ _
  omega)
 have h2 := flat_len (fT W st) 4 (List.range W) (fun i _ => by
  unfold fT
  have := flat_len (gT st i) 1 (List.range W) (fun k _ => by unfold gT; split <;> simp)
  rw [List.length_range] at this; omega)
 rw [List.length_range] at h1 h2
 have : W * 308 ≤ 4 * 308 := Nat.mul_le_mul_right _ hW
 have : W * 4 ≤ 4 * 4 := Nat.mul_le_mul_right _ hW
 omega
theorem Reach.led_len {W : Nat} {N : Int} {st : St} (h : Reach W N st) {i : Nat} (hi : i < W) : (st.ledOf i).length ≤ 616 := by
 have := h.psi i hi
 unfold Mdl.psi at this; omega
theorem startLed_inv {N : Int} : ∀ (ms : List Msg) (L : Led), (L.map (·.1)).Nodup → (∀ e ∈ L, nodeOk N e.1) → (∀ m ∈ ms, nodeOk N (startMk m)) →
  (((ms.foldl (fun L m => enterL L (startMk m) 1) L).map (·.1)).Nodup ∧ (∀ e ∈ ms.foldl (fun L m => enterL L (startMk m) 1) L, nodeOk N e.1)) ∧ (ms.foldl (fun L m => enterL L (startMk m) 1) L).length ≤ L.length + ms.length
 | [], L, h1, h2, _ => ⟨⟨h1, h2⟩, Nat.le_refl _⟩
 | m :: ms, L, h1, h2, hm => by
  have h := startLed_inv ms (enterL L (startMk m) 1) (enterL_nodup _ _ h1) (fun e he => by
   rcases mem_enterL he with he | he
   ·rw [he]; exact hm m List.mem_cons_self
   ·exact h2 e he) (fun x hx => hm x (List.mem_cons_of_mem _ hx))
  refine ⟨h.1, Nat.le_trans h.2 ?_⟩
  have := enterL_len L (startMk m) 1
  rw [List.length_cons]; omega
theorem startHas_inv {W : Nat} {N : Int} : ∀ (ms : List Msg) (has : List Led), HasInv W N has → msgs has + ms.length ≤ 1000 → (∀ m ∈ ms, nodeOk N (startMk m) ∧ m.2.toNat < W) →
  HasInv W N (ms.foldl hasStep has) ∧ msgs (ms.foldl hasStep has) = msgs has + ms.length
 | [], has, h, _, _ => ⟨h, rfl⟩
 | m :: ms, has, h, hc, hm => by
  obtain ⟨hn, hw⟩ := hm m List.mem_cons_self
  have hl : m.2.toNat < has.length := by rw [h.len]; exact hw
  have hle := cnt_le_msgs hl
  rw [List.length_cons] at hc
  obtain ⟨g1, g2⟩ := (h.pos _ (getD_mem hl [])).enter1 (startMk m) (by omega)
  have hms := msgs_set (enterL (has.getD m.2.toNat []) (startMk m) 1) hl
  have h2 : HasInv W N (hasStep has m) := h.set _ g1 (fun e he => by
   rcases mem_enterL he with he | he
   ·rw [he]; exact hn
   ·exact h.node _ (getD_mem hl []) e he)
  have e2 : msgs (hasStep has m) = msgs has + 1 := by unfold hasStep; omega
  have ih := startHas_inv ms (hasStep has m) h2 (by omega) (fun x hx => hm x (List.mem_cons_of_mem _ hx))
  exact ⟨ih.1, by rw [List.foldl_cons, ih.2, e2, List.length_cons]; omega⟩
theorem msgOk_node {N Wd workers : Int} {m : Msg} (h : msgOk N Wd workers m = true) : nodeOk N (startMk m) := by
 simp only [msgOk, Bool.and_eq_true, decide_eq_true_eq] at h
 exact h.1
theorem sum_zero {α : Type} (f : α → Nat) : ∀ l : List α, (∀ x ∈ l, f x = 0) → (l.map f).sum = 0
 | [], _ => rfl
 | x :: l, h => by
  rw [List.map_cons, List.sum_cons, h x List.mem_cons_self, sum_zero f l (fun y hy => h y (List.mem_cons_of_mem _ hy))]
theorem begin_reach {p : Plan} {ways : Ways} {script : List Int} {W : Nat} (h : plannedP p = some ways) (hs : script.length ≤ 300) (hW : p.workers = W) : Reach W p.N (beginS W p.start script) := by
 obtain ⟨_, ⟨h1, h4, h8⟩, hm⟩ := planned_ok h
 have hnode : ∀ m ∈ p.start, nodeOk p.N (startMk m) := fun m hx => msgOk_node (hm m hx)
 obtain ⟨⟨a1, a2⟩, a3⟩ := startLed_inv p.start [] List.nodup_nil (fun e he => by cases he) hnode
 have h0 : HasInv W p.N (List.replicate W []) := ⟨by simp, fun L hL => by rw [List.eq_of_mem_replicate hL]; exact ⟨List.nodup_nil, fun e he => by cases he⟩, fun L hL => by rw [List.eq_of_mem_replicate hL]; exact fun e he => by cases he⟩
 have hm0 : msgs (List.replicate W ([] : Led)) = 0 := sum_zero _ _ (fun L hL => by rw [List.eq_of_mem_replicate hL]; rfl)
 obtain ⟨b1, b2⟩ := startHas_inv p.start _ h0 (by omega) (fun m hx => ⟨hnode m hx, by have := msgOk_who (hm m hx); omega⟩)
 have hq0 : qNotes (List.replicate W (List.replicate W [])) = 0 := sum_zero _ _ (fun r hr => by rw [List.eq_of_mem_replicate hr]; exact sum_zero _ _ (fun q hq => by rw [List.eq_of_mem_replicate hq]; rfl))
 have hle : (startLed p.start).length ≤ 8 := by
  have : (startLed p.start).length ≤ ([] : Led).length + p.start.length := a3
  simp at this; omega
 refine ⟨⟨b1, by simp [beginS], ⟨by simp [beginS], fun r hr => ?_⟩, fun L hL => ?_, fun r hr q hq note hn => ?_⟩, ?_, fun i hi => ?_⟩
 ·rw [List.eq_of_mem_replicate (show r ∈ List.replicate W (List.replicate W []) from hr)]; simp
 ·rw [List.eq_of_mem_replicate (show L ∈ List.replicate W (startLed p.start) from hL)]
  exact ⟨a1, a2⟩
 ·rw [List.eq_of_mem_replicate (show r ∈ List.replicate W (List.replicate W []) from hr)] at hq
  rw [List.eq_of_mem_replicate hq] at hn
  cases hn
 ·simp only [phi, beginS, hq0]
  have : msgs (startHas W p.start) = 0 + p.start.length := by rw [← hm0]; exact b2
  omega
 ·have hl : ((beginS W p.start script).ledOf i).length ≤ 8 := by
   show ((List.replicate W (startLed p.start)).getD i []).length ≤ 8
   rw [List.getD_eq_getElem?_getD, List.getElem?_replicate, if_pos hi]
   exact hle
  have hq : qEnts ((beginS W p.start script).notes.getD i []) = 0 := by
   show qEnts ((List.replicate W (List.replicate W [])).getD i []) = 0
   rw [List.getD_eq_getElem?_getD, List.getElem?_replicate, if_pos hi]
   exact sum_zero _ _ (fun q hq => by rw [List.eq_of_mem_replicate hq]; rfl)
  have hmm : msgs (beginS W p.start script).has = p.start.length := by
   have : msgs (startHas W p.start) = 0 + p.start.length := by rw [← hm0]; exact b2
   show msgs (startHas W p.start) = _; omega
  have hsc : (beginS W p.start script).script = script := rfl
  unfold psi
  rw [hq, hmm, hsc]
  omega
theorem iterS_reach {W : Nat} {N : Int} {E : List Ed} (hW : W ≤ 4) (hE : ∀ e ∈ E, 0 ≤ e.2.1 ∧ e.2.1 < N) : ∀ (n : Nat) (st : St), Reach W N st → Reach W N (iterS E W n st)
 | 0, _, h => h
 | n + 1, st, h => by
  unfold iterS
  cases hs : stepS E W st with
  | none => exact h
  | some st' => exact iterS_reach hW hE n st' (h.step hW hE hs).1
theorem edgeOk_to {N Wd : Int} {e : Ed} (h : edgeOk N Wd e = true) : 0 ≤ e.2.1 ∧ e.2.1 < N := by
 simp only [edgeOk, Bool.and_eq_true, decide_eq_true_eq] at h
 omega
theorem opened_ok {N Wd : Int} {E : List Ed} {ways : Ways} (h : openedP N Wd E = some ways) : headOk N Wd E.length ∧ (∀ e ∈ E, edgeOk N Wd e = true) ∧ (List.range N.toNat).mapM (fromP E N.toNat) = some ways := by
 unfold openedP at h
 split at h
 ·rename_i hc
  exact ⟨hc.1, fun e he => List.all_eq_true.1 hc.2 e he, h⟩
 ·cases h
end Go.Proofs.YtbkfnmgkcgnifaaGreat.Mdl
namespace Go.Proofs.YtbkfnmgkcgnifaaGreat.Mdl
theorem mapM_get {α β : Type} {f : α → Option β} : ∀ {l : List α} {r : List β}, l.mapM f = some r → r.length = l.length ∧ ∀ y ∈ r, ∃ x ∈ l, f x = some y
 | [], r, h => by
  simp at h
  subst h
  exact ⟨rfl, fun y hy => by cases hy⟩
 | x :: l, r, h => by
  rw [List.mapM_cons] at h
  cases hx : f x with
  | none => rw [hx] at h; cases h
  | some y =>
   cases hl : l.mapM f with
   | none => rw [hx, hl] at h; cases h
   | some ys =>
    rw [hx, hl] at h
    injection h with h
    subst h
    obtain ⟨h1, h2⟩ := mapM_get hl
    refine ⟨by simp [h1], fun z hz => ?_⟩
    rcases List.mem_cons.1 hz with rfl | hz
    ·exact ⟨x, List.mem_cons_self, hx⟩
    ·obtain ⟨a, b, c⟩ := h2 z hz
     exact ⟨a, List.mem_cons_of_mem _ b, c⟩
theorem wT_mono : ∀ {a b : Nat}, a ≤ b → wT a ≤ wT b
 | 0, _, _ => Nat.zero_le _
 | a + 1, b + 1, h => by
  have := wT_mono (show a ≤ b by omega)
  simp only [wT]; omega
theorem ways_ok {N Wd : Int} {E : List Ed} {ways : Ways} (h : openedP N Wd E = some ways) : WaysOk N.toNat 286331153 ways := by
 obtain ⟨⟨h1, h8, _, _, h16⟩, he, hm⟩ := opened_ok h
 obtain ⟨m1, m2⟩ := mapM_get hm
 rw [List.length_range] at m1
 have hrow : ∀ r ∈ ways, r.length = N.toNat ∧ ∀ l ∈ r, l.length ≤ 286331153 := by
  intro r hr
  obtain ⟨x, hx, hf⟩ := m2 r hr
  have hx := List.mem_range.1 hx
  unfold fromP at hf
  obtain ⟨rows, hw, hrows⟩ := Option.map_eq_some_iff.1 hf
  obtain ⟨g1, g2⟩ := walkP_len E _ h16 _ _ _ _ _ _ 0 (fun e hE => by
   have := edgeOk_to (he e hE)
   rw [List.length_replicate]; omega) (by rw [List.length_replicate]; exact hx) (fun r hr => by rw [List.eq_of_mem_replicate hr]; exact Nat.le_refl _) hw
  rw [List.length_replicate] at g1
  subst hrows
  refine ⟨by rw [List.length_map]; exact g1, fun l hl => ?_⟩
  obtain ⟨l0, hl0, rfl⟩ := List.mem_map.1 hl
  have a1 := length_firstsT l0
  have a2 := g2 l0 hl0
  have a3 : wT N.toNat ≤ wT 8 := wT_mono (by omega)
  have a4 : wT 8 = 286331153 := by decide
  omega
 exact ⟨m1, fun r hr => (hrow r hr).1, fun r hr => (hrow r hr).2⟩
end Go.Proofs.YtbkfnmgkcgnifaaGreat.Mdl
namespace Go.Proofs.YtbkfnmgkcgnifaaGreat
open Go.RowKit Go.Shelf Go.Proofs.YtbkfnmgkcgnifaaGreatW.PrintWords Go.Proofs.YtbkfnmgkcgnifaaGreatW.PrintLast Mdl Go.ChangeMaps
namespace Mdl
structure BegunOk (p : Plan) (script : List Int) (n who : Int) (ways : Ways) (W : Nat) : Prop where
 plan : plannedP p = some ways
 wk : p.workers = W
 w1 : 1 ≤ W
 w4 : W ≤ 4
 n0 : 0 ≤ n
 who0 : 0 ≤ who
 whoW : who < W
 N1 : 1 ≤ p.N
 N8 : p.N ≤ 8
 Wd1 : 1 ≤ p.Wd
 Wd3 : p.Wd ≤ 3
 E16 : p.E.length ≤ 16
 E : ∀ e ∈ p.E, 0 ≤ e.2.1 ∧ e.2.1 < p.N
 ways : WaysOk p.N.toNat 286331153 ways
 reach : Reach W p.N (beginS W p.start script)
theorem begun_ok {p : Plan} {script : List Int} {n who : Int} {ways : Ways} (h : begunP p script n who = .ok ways) : BegunOk p script n who ways p.workers.toNat := by
 unfold begunP at h
 cases hp : plannedP p with
 | none => rw [hp] at h; cases h
 | some w =>
  rw [hp] at h
  simp only at h
  split at h
  ·rename_i hs
   split at h
   ·rename_i hn
    injection h with h
    subst h
    obtain ⟨ho, ⟨h1, h4, h8⟩, hm⟩ := planned_ok hp
    obtain ⟨⟨a1, a2, a3, a4, a5⟩, he, _⟩ := opened_ok ho
    have hw : p.workers = (p.workers.toNat : Int) := by omega
    exact ⟨hp, hw, by omega, by omega, hn.1, hn.2.1, by omega, a1, a2, a3, a4, a5, fun e hE => edgeOk_to (he e hE), ways_ok ho, begin_reach hp hs hw⟩
   ·cases h
  ·cases h
theorem iterS_none {E : List Ed} {W : Nat} {st : St} (h : stepS E W st = none) : ∀ n, iterS E W n st = st
 | 0 => rfl
 | n + 1 => by unfold iterS; rw [h]
theorem iterS_some {E : List Ed} {W : Nat} {st st' : St} (h : stepS E W st = some st') (n : Nat) : iterS E W (n + 1) st = iterS E W n st' := by
 conv => lhs; unfold iterS
 rw [h]
end Mdl
def AfterPost (w : World) (p : Plan) (script : List Int) (n who : Int) (e : Ending) (w' : World) : Prop :=
 match begunP p script n who with
 | .error c => e = .panicked (stopE c) ∧ Below w.heap.size w w'
 | .ok ways => ∃ (rb : Nat) (w0 : World) (G : RG), e = .returned (.pointer (some ⟨rb, 0, none⟩)) ∧ G.rb = rb ∧ Below w.heap.size w w0 ∧ w.heap.size ≤ G.gb ∧ GraphAt w0 G.gb p.N p.Wd p.E ways ∧ RunOk w0 G p.workers.toNat (iterS p.E p.workers.toNat n.toNat (beginS p.workers.toNat p.start script)) w'
set_option maxRecDepth 8000 in
set_option maxHeartbeats 8000000 in
theorem after_any (p : Plan) (eA mA sA : Option Addr) (eC mC sC : Nat) (script : List Int) (n who : Int) (hn64 : n ≤ 9223372036854775807) (w : World) (hp : PlanAt w p eA mA) (hsC : kI.C w sA script.length script) (hsl : script.length ≤ sC) :
  Calls Tryz.prog 43 #[planV p eA eC mA mC, .slice sA script.length sC, .int .i64 n, .int .i64 who] w (AfterPost w p script n who) := by
 have b1 := below_new w (.cells #[.int .i64 p.N, .int .i64 p.Wd, .slice eA p.E.length eC, .int .i64 p.workers, .slice mA p.start.length mC] 27)
 have hbk : (w.alloc (.cells #[.int .i64 p.N, .int .i64 p.Wd, .slice eA p.E.length eC, .int .i64 p.workers, .slice mA p.start.length mC] 27)).heap[w.heap.size]? = some (.cells #[.int .i64 p.N, .int .i64 p.Wd, .slice eA p.E.length eC, .int .i64 p.workers, .slice mA p.start.length mC] 27 (0, 0)) := heap_alloc_new w _
 have HBG := Lib.hid (begun_any p eA mA sA eC mC sC script n who _ (hp.below b1) (Kd.C_below hsC b1) hsl)
 have hSm := Kd.C_max hp.hS
 have hEm := Kd.C_max hp.hE
 have hSc := Kd.C_max hsC
 have H1 := Aside0.mk (And.intro b1 hbk)
 clear hp hsC hsl b1 hbk
 simp only [planV] at HBG ⊢
 go_enter Tryz.func43, Tryz.ntmps43
 go_upto_region 1 with fail
 generalize w.alloc (.cells #[.int .i64 p.N, .int .i64 p.Wd, .slice eA p.E.length eC, .int .i64 p.workers, .slice mA p.start.length mC] 27) = w1 at *
 have p0 : w1.cell? ⟨w.heap.size, 0, none⟩ = some (.int .i64 p.N) := (blk_cell H1.out.2 0).trans rfl
 have p1 : w1.cell? ⟨w.heap.size, 1, none⟩ = some (.int .i64 p.Wd) := (blk_cell H1.out.2 1).trans rfl
 have p2 : w1.cell? ⟨w.heap.size, 2, none⟩ = some (.slice eA p.E.length eC) := (blk_cell H1.out.2 2).trans rfl
 have p3 : w1.cell? ⟨w.heap.size, 3, none⟩ = some (.int .i64 p.workers) := (blk_cell H1.out.2 3).trans rfl
 have p4 : w1.cell? ⟨w.heap.size, 4, none⟩ = some (.slice mA p.start.length mC) := (blk_cell H1.out.2 4).trans rfl
 go_wp2_with fail
 refine HBG.out.mono ?_
 rintro e w2 h2
 unfold BegunPost at h2
 cases ho : begunP p script n who with
 | error c =>
  rw [ho] at h2
  obtain ⟨rfl, hb2⟩ := h2
  refine ⟨rfl, ?_⟩
  unfold AfterPost
  rw [ho]
  exact ⟨rfl, below_then H1.out.1 H1.out.1.size hb2⟩
 | ok ways =>
  rw [ho] at h2
  obtain ⟨rb, w0, G, rfl, hrb, hb0, hgb, hG, hR⟩ := h2
  have HO := Lib.hid ho
  have HB := Lib.hid (begun_ok ho)
  have HG := Aside0.mk hG
  have HB0 := Lib.hid (And.intro (below_then H1.out.1 H1.out.1.size hb0) (show w.heap.size ≤ G.gb by have := H1.out.1.size; omega))
  have HRB := Lib.hid hrb
  have HR := Aside0.mk hR
  have n0 := HB.out.n0
  obtain ⟨n, rfl⟩ : ∃ m : Nat, n = m := ⟨n.toNat, by omega⟩
  clear ho hG hR hb0 hgb p0 p1 p2 p3 p4 HBG
  subst hrb
  generalize hWk : p.workers.toNat = W at *
  have HWK := Lib.hid hWk
  clear hWk
  go_wp2_with fail
  go_loopw [16] (fun i wr => ∃ k : Nat, k ≤ n ∧ i = .int .i64 k ∧ Aside0 (∃ st, RunOk w0 G W st wr ∧ Mdl.Reach W p.N st ∧ iterS p.E W (n - k) st = iterS p.E W n (beginS W p.start script))) (fun i _ => n - (intOf i).toNat)
  case atStart => exact ⟨0, Nat.zero_le _, rfl, ⟨_, HR.out, HB.out.reach, rfl⟩⟩
  case round =>
   clear HR
   obtain ⟨k, hk, rfl, hX⟩ := hrel
   obtain ⟨st, hR, hRe, hit⟩ := hX.out
   have HR := Aside0.mk (And.intro hR (And.intro hRe hit))
   clear hX hR hRe hit
   by_cases hlt : k < n
   ·have hkn : (k : Int) < n := by omega
    have HS := Lib.hid (step_any w0 G W st p.N p.Wd p.E ways wr HR.out.1 HG.out HB.out.w4 HB.out.E16 (fun j k => Nat.le_trans (HR.out.2.1.queue j k) (by decide)) (HR.out.2.1.hasOk HB.out.N8) (HR.out.2.1.moves HB.out.w4))
    have HD := Lib.hid (show n - k = (n - (k + 1)) + 1 by omega)
    go_wp2_with fail
    refine HS.out.mono ?_
    rintro e w3 h3
    unfold StepPost at h3
    cases hs : stepS p.E W st with
    | none =>
     rw [hs] at h3
     obtain ⟨rfl, hR3⟩ := h3
     have HF := Lib.hid (show iterS p.E W n (beginS W p.start script) = st by rw [← HR.out.2.2]; exact iterS_none hs _)
     have HR3 := Aside0.mk hR3
     clear hs hR3
     go_wp2_with fail
     go_ret
     unfold AfterPost
     rw [HO.out]
     refine ⟨_, w0, G, rfl, rfl, HB0.out.1, HB0.out.2, HG.out, ?_⟩
     rw [HWK.out, Int.toNat_natCast, HF.out]
     exact HR3.out
    | some st' =>
     rw [hs] at h3
     obtain ⟨rfl, hR3⟩ := h3
     have HR3 := Aside0.mk (show ∃ st, RunOk w0 G W st w3 ∧ Mdl.Reach W p.N st ∧ iterS p.E W (n - (k + 1)) st = iterS p.E W n (beginS W p.start script) from ⟨st', hR3, (HR.out.2.1.step HB.out.w4 HB.out.E hs).1, by rw [← HR.out.2.2, HD.out, iterS_some hs]⟩)
     clear hs hR3
     go_wp2_with fail
     exact ⟨⟨k + 1, by omega, by go_num, HR3⟩, by simp [intOf]; omega⟩
   ·have hkn : ¬ ((k : Int) < n) := by omega
    have hkn2 : n - k = 0 := by omega
    have HF := Lib.hid (show iterS p.E W n (beginS W p.start script) = st by rw [← HR.out.2.2, hkn2]; rfl)
    clear hkn2
    go_wp2_with fail
    go_ret
    unfold AfterPost
    rw [HO.out]
    refine ⟨_, w0, G, rfl, rfl, HB0.out.1, HB0.out.2, HG.out, ?_⟩
    rw [HWK.out, Int.toNat_natCast, HF.out]
    exact HR.out.1
end Go.Proofs.YtbkfnmgkcgnifaaGreat
namespace Go.Proofs.YtbkfnmgkcgnifaaGreat
open Go.RowKit Go.Shelf Go.Proofs.YtbkfnmgkcgnifaaGreatW.PrintWords Go.Proofs.YtbkfnmgkcgnifaaGreatW.PrintLast Mdl
abbrev kLLI : Kd (List (List Int)) := Kd.slice 36 kLI
theorem Tryz.infoLli : (Tryz.prog.info? 28).map (fun i => (i.zero, i.size, i.bytes)) = some (some (.slice none 0 0), 1, 24) := by kernel_rfl
theorem at_row {w : World} {A : Option Addr} {l : List (List Tm)} (h : kRows.C w A l.length l) {k : Nat} (hk : k < l.length) :
  ∃ ad sA sC, A = some ad ∧ w.cell? (ad.add k) = some (.slice sA l[k].length sC) ∧ kT.C w sA l[k].length l[k] ∧ l[k].length ≤ sC := by
 obtain ⟨ad, c, e, hl, hK, hc⟩ := Kd.C_get h [] (k : Int) (by omega) (by omega)
 rw [Int.toNat_natCast, List.getD_eq_getElem?_getD, List.getElem?_eq_getElem hk] at hK
 rw [Int.toNat_natCast] at hc
 obtain ⟨sA, sC, rfl, hle, hC⟩ := hK
 refine ⟨ad, sA, sC, e, ?_, hC, hle⟩
 have := hc 0 _ rfl
 rwa [show kRows.sz = 1 from rfl, Nat.mul_one, Nat.add_zero] at this
set_option maxRecDepth 4000 in
set_option maxHeartbeats 1600000 in
theorem told_any (rb gb wide : Nat) (A : Option Addr) (c : Nat) (l : List (List Tm)) (w : World) (hr : w.cell? ⟨rb, 3, none⟩ = some (.pointer (some ⟨gb, 0, none⟩))) (hg : w.cell? ⟨gb, 1, none⟩ = some (.int .i64 wide)) (h1 : 1 ≤ wide) (h3 : wide ≤ 3) (hl : kRows.C w A l.length l) (hn : l.length * 24 ≤ 140737488355328) (hin : ∀ r ∈ l, r.length * 24 ≤ 140737488355328) :
  Calls Tryz.prog 47 #[.pointer (some ⟨rb, 0, none⟩), .slice A l.length c] w fun e w' => ∃ v, e = .returned v ∧ kLLI.R 28 w' w.heap.size (fun _ => True) v (l.map (List.map (numsT wide))) ∧ Below w.heap.size w w' := by
 have HL := Aside0.mk hl
 have HIN := Lib.hid hin
 have hm := Kd.C_max hl
 clear hl hin
 go_enter Tryz.func47, Tryz.ntmps47
 go_wp2_with fail
 go_loopw [4, 9] (fun o i wr => ∃ k : Nat, k ≤ l.length ∧ i = .int .i64 k ∧ kLLI.R 28 wr w.heap.size (fun _ => True) o ((l.take k).map (List.map (numsT wide))) ∧ Below w.heap.size w wr) (fun _ i _ => l.length - (intOf i).toNat)
 case atStart => exact ⟨0, Nat.zero_le _, rfl, Kd.R_nil _ _ _ _ _, Below.refl _ _⟩
 case round =>
  obtain ⟨k, hk, rfl, hR, hb⟩ := hrel
  by_cases hlt : k < l.length
  ·obtain ⟨ad, sA, sC, rfl, hc0, hcC, hcl⟩ := at_row (Kd.C_below HL.out hb) hlt
   have HR := Aside0.mk hR
   clear hR
   have hrr := pw_cell_below hb hr
   have HNU := Lib.hid (numbers_any gb wide sA sC l[k] wr (pw_cell_below hb hg) h1 h3 hcC (HIN.out _ (List.getElem_mem hlt)))
   have hlm : ((l.take k).map (List.map (numsT wide))).length = k := by simp; omega
   have HLM := Lib.hid hlm
   have HX := Lib.hid (show (l.take (k + 1)).map (List.map (numsT wide)) = (l.take k).map (List.map (numsT wide)) ++ [l[k].map (numsT wide)] by rw [List.take_succ_eq_append_getElem hlt, List.map_append]; rfl)
   clear hlm hcC
   generalize l[k].map (numsT wide) = lk at *
   generalize l[k].length = nk at *
   go_wp2_with fail
   refine HNU.out.mono ?_
   rintro e w4 ⟨v4, rfl, hR4, hb4⟩
   obtain ⟨A4, c4, rfl⟩ := Kd.R_slice hR4
   have hRX := Kd.R_below HR.out hb4
   have hb5 := below_then hb hb.size hb4
   have HRX := Aside0.mk hRX
   have HMn := Aside0.mk (Kd.R_lower (Kd.R_mono (Kd.R_newR hR4 HR.out) (fun _ h => h.2)) (base' := w.heap.size) hb.size)
   clear hRX hR4
   go_wp2_with (at_builtin; go_must (refine Kd.R_append kLLI (w0 := w) w.heap.size rfl (.tmp 13) (.tmp 20) _ 28 _ 24 rfl Tryz.underlying38 Tryz.infoLli rfl (by decide) (by decide) _ ((l.take k).map (List.map (numsT wide))) lk _ (fun _ => True) (fun k => some k ≠ u4.ownBlock) rfl rfl ⟨_, rfl, HMn.out⟩ (fun _ h => ⟨trivial, h⟩) (fun _ _ => trivial) HRX.out hb5 hb5.size (by rw [HLM.out]; omega) ?_); intro v6 w6 hR6 hb6 hg6 hat6)
   refine ⟨⟨k + 1, by omega, by go_num, ?_, hb6⟩, by simp [intOf]; omega⟩
   rw [HX.out]
   exact hR6
  ·have HR := Aside0.mk hR
   clear hR
   go_wp2
   go_ret
   have hkl : k = l.length := by omega
   subst hkl
   have h := HR.out
   rw [List.take_length] at h
   exact ⟨_, rfl, h, hb⟩
theorem box_C1 {w : World} {g : Nat} {t : Tm} (h0 : w.cell? ⟨g, 1, none⟩ = some (.int .i64 t.1)) (h1 : w.cell? ⟨g, 2, none⟩ = some (.int .i64 t.2.1)) (h2 : w.cell? ⟨g, 3, none⟩ = some (.int .i64 t.2.2)) {wide : Nat} (hw : wide ≤ 3) :
  kI.C w (some ⟨g, 1, none⟩) (numsT wide t).length (numsT wide t) := by
 refine ⟨rfl, by rw [length_numsT t hw]; omega, fun _ => ⟨_, rfl, fun j p hj => ⟨[.int .i64 p], rfl, rfl, fun i u hu => ?_⟩⟩⟩
 cases i with
 | succ i => simp at hu
 | zero =>
  have hu : Value.int .i64 p = u := by simpa using hu
  subst hu
  rw [Addr.add_lit]
  have hj3 : j < 3 := by
   have := (List.getElem?_eq_some_iff.1 hj).1
   rw [length_numsT t hw] at this; omega
  simp only [numsT, List.getElem?_take] at hj
  split at hj
  ·match j, hj3 with
   | 0, _ => simp at hj; subst hj; exact h0
   | 1, _ => simp at hj; subst hj; exact h1
   | 2, _ => simp at hj; subst hj; exact h2
  ·cases hj
set_option maxRecDepth 4000 in
set_option maxHeartbeats 1600000 in
theorem public_any (rb gb wide : Nat) (m : Mk) (w : World) (hr : w.cell? ⟨rb, 3, none⟩ = some (.pointer (some ⟨gb, 0, none⟩))) (hg : w.cell? ⟨gb, 1, none⟩ = some (.int .i64 wide)) (h1 : 1 ≤ wide) (h3 : wide ≤ 3) :
  Calls Tryz.prog 57 #[.pointer (some ⟨rb, 0, none⟩), mkV m] w fun e w' => ∃ v, e = .returned (.agg #[.int .i64 m.1, v]) ∧ kI.R 3 w' w.heap.size (fun _ => True) v (numsT wide m.2) ∧ Below w.heap.size w w' := by
 have hsl : ∀ a w, (Instr.sliceAt 99 (.pointer (some a)) none (some (.int .i64 wide)) none).run Tryz.prog w = .ok (.slice (some a) wide 3) w := by
  obtain rfl | rfl | rfl : wide = 1 ∨ wide = 2 ∨ wide = 3 := by omega
  ·exact fun _ _ => by kernel_rfl
  ·exact fun _ _ => by kernel_rfl
  ·exact fun _ _ => by kernel_rfl
 have b2 : Below w.heap.size w ((w.alloc (.cells #[.int .i64 m.1, .int .i64 m.2.1, .int .i64 m.2.2.1, .int .i64 m.2.2.2] 101)).alloc (.cells #[.int .i64 0, .slice none 0 0] 57)) := two_new
 have e0 := pw_cell_below (below_new _ (.cells #[.int .i64 0, .slice none 0 0] 57)) (new_cell w #[.int .i64 m.1, .int .i64 m.2.1, .int .i64 m.2.2.1, .int .i64 m.2.2.2] 101 0)
 have e1 := pw_cell_below (below_new _ (.cells #[.int .i64 0, .slice none 0 0] 57)) (new_cell w #[.int .i64 m.1, .int .i64 m.2.1, .int .i64 m.2.2.1, .int .i64 m.2.2.2] 101 1)
 have e2 := pw_cell_below (below_new _ (.cells #[.int .i64 0, .slice none 0 0] 57)) (new_cell w #[.int .i64 m.1, .int .i64 m.2.1, .int .i64 m.2.2.1, .int .i64 m.2.2.2] 101 2)
 have e3 := pw_cell_below (below_new _ (.cells #[.int .i64 0, .slice none 0 0] 57)) (new_cell w #[.int .i64 m.1, .int .i64 m.2.1, .int .i64 m.2.2.1, .int .i64 m.2.2.2] 101 3)
 simp only [mkV]
 go_enter Tryz.func57, Tryz.ntmps57
 go_upto_region 1 with fail
 have hrb : (w.alloc (.cells #[.int .i64 m.1, .int .i64 m.2.1, .int .i64 m.2.2.1, .int .i64 m.2.2.2] 101)).heap.size = w.heap.size + 1 := by simp
 have hbk := heap_alloc_new (w.alloc (.cells #[.int .i64 m.1, .int .i64 m.2.1, .int .i64 m.2.2.1, .int .i64 m.2.2.2] 101)) (.cells #[.int .i64 0, .slice none 0 0] 57)
 rw [hrb] at hbk
 have r3 := pw_cell_below b2 hr
 have g1 := pw_cell_below b2 hg
 have HB2 := Lib.hid b2
 have HBK := Lib.hid (blk_below hbk (below_drew1 (Below.refl _ _)))
 clear b2 hbk hrb hr hg
 generalize (w.alloc (.cells #[.int .i64 m.1, .int .i64 m.2.1, .int .i64 m.2.2.1, .int .i64 m.2.2.2] 101)).alloc (.cells #[.int .i64 0, .slice none 0 0] 57) = w2 at *
 have HC := fun V (hb : Below w2.heap.size w2 V) => Lib.hid (clone_any ⟨w.heap.size, 1, none⟩ 3 (numsT wide m.2) V (box_C1 (t := m.2) (pw_cell_below hb e1) (pw_cell_below hb e2) (pw_cell_below hb e3) h3) (by rw [length_numsT _ h3]; omega))
 rw [length_numsT _ h3] at HC
 refine start_ (n := 15) (S := fun w' => w'.cell? ⟨w.heap.size, 0, none⟩ = some (.int .i64 m.1) ∧ w'.cell? ⟨rb, 3, none⟩ = some (.pointer (some ⟨gb, 0, none⟩)) ∧ w'.cell? ⟨gb, 1, none⟩ = some (.int .i64 wide)) (ds := [14]) (bs 15 0) (by kernel_rfl) rfl (by kernel_rfl) ⟨e0, r3, g1⟩ (fun hHeld => ?_)
 have HD := Aside0.mk (below_drew1 (Below.refl w2.heap.size w2))
 have HSH := Lib.hid (fun V (hb : Below w2.heap.size w2 V) => (And.intro (pw_cell_below hb e0) (And.intro (pw_cell_below hb r3) (pw_cell_below hb g1))))
 have HBD := Lib.hid (below_then HB2.out HB2.out.size HD.out)
 clear e0 e1 e2 e3 r3 g1
 generalize w2.drew = wd at *
 refine pu 0 5 (bs 15 1) ?_
 refine tk3 1 6 (bs 15 3) hHeld ?_
 refine pu 2 7 (bs 15 7) ?_
 refine pu 3 8 (bs 15 15) ?_
 refine pu 4 9 (bs 15 31) ?_
 refine pu 5 10 (bs 15 63) ?_
 refine tk3 6 11 (bs 15 127) hHeld ?_
 refine pu 7 12 (bs 15 255) ?_
 refine pu 8 13 (bs 15 511) ?_
 refine pu 9 14 (bs 15 1023) ?_
 refine tk3 10 15 (bs 15 2047) hHeld ?_
 refine pu 11 16 (bs 15 4095) ?_
 refine on0 12 17 (bs 15 8191) fun K hK => ?_
 refine gs0 Tryz.func70 #[.slice (some ⟨w.heap.size, 1, none⟩) wide 3] ?_
 refine (HC _ HD.out).out.mono ?_
 rintro e w3 ⟨v3, rfl, hR3, hb3⟩
 obtain ⟨A3, c3, rfl⟩ := Kd.R_slice hR3
 rw [length_numsT _ h3] at hR3 ⊢
 have H3 := Aside0.mk (And.intro hR3 (And.intro hb3 (blk_below HBK.out hb3)))
 have y0 := blk_frozen H3.out.2.2 0
 have y1 := blk_frozen H3.out.2.2 1
 have z0 : w3.cell? ⟨w.heap.size + 1, 0, none⟩ = some (.int .i64 0) := (blk_cell H3.out.2.2 0).trans rfl
 have z1 : w3.cell? ⟨w.heap.size + 1, 1, none⟩ = some (.slice none 0 0) := (blk_cell H3.out.2.2 1).trans rfl
 clear hR3
 refine ⟨_, rfl, hK.out _ _ (HSH.out _ (below_then HD.out HD.out.size hb3)) (fun hHeld => ?_)⟩
 clear hb3
 clear hK K
 refine nm0 (some 17) ?_
 refine pu 13 18 (bs 15 16383) ?_
 refine la0 14 (bs 15 32767) (N := none) fun K hK => ?_
 refine sk0 ?_
 refine hK.out _ _ ?_
 clear hK K hHeld
 refine dn0 ?_
 have hg4 : w3.grownBy ((w3.setCell ⟨w.heap.size + 1, 0, none⟩ (.int .i64 m.1)).setCell ⟨w.heap.size + 1, 1, none⟩ (.slice A3 wide c3)) (some (w.heap.size + 1)) := setCells_grown (w.heap.size + 1) [_, _] 0 w3
 have hb4 : ((w3.setCell ⟨w.heap.size + 1, 0, none⟩ (.int .i64 m.1)).setCell ⟨w.heap.size + 1, 1, none⟩ (.slice A3 wide c3)).heap[w.heap.size + 1]? = some (.cells #[.int .i64 m.1, .slice A3 wide c3] 57 (0, 0)) := blk_put (blk_put H3.out.2.2 0 _ rfl) 1 _ rfl
 have H4 := Aside0.mk (And.intro hg4 hb4)
 clear y0 y1 z0 z1 hg4 hb4
 generalize (w3.setCell ⟨w.heap.size + 1, 0, none⟩ (.int .i64 m.1)).setCell ⟨w.heap.size + 1, 1, none⟩ (.slice A3 wide c3) = w4 at *
 have z0 : w4.cell? ⟨w.heap.size + 1, 0, none⟩ = some (.int .i64 m.1) := (blk_cell H4.out.2 0).trans rfl
 have z1 : w4.cell? ⟨w.heap.size + 1, 1, none⟩ = some (.slice A3 wide c3) := (blk_cell H4.out.2 1).trans rfl
 go_wp2_with fail
 refine bodyPost_ret (v := .agg #[.int .i64 m.1, .slice A3 wide c3]) (by simp [results, Tryz.results57, go_sem, z0, z1]) rfl ⟨_, rfl, ?_, ?_⟩
 ·have hlow : w.heap.size + 1 < wd.heap.size := blk_lt HBK.out
  refine Kd.R_mono (Kd.R_grown (Kd.R_lower (Kd.R_bound H3.out.1) HBD.out.size) H4.out.1 (fun k hk he => ?_)) (fun _ _ => trivial)
  injection he with he
  have := hk.2.1
  omega
 ·have h5 := below_then HBD.out HBD.out.size H3.out.2.1
  exact h5.grown H4.out.1 h5.size (fun k hk => by injection hk with hk; omega)
end Go.Proofs.YtbkfnmgkcgnifaaGreat
namespace Go.Proofs.YtbkfnmgkcgnifaaGreat
open Go.RowKit Go.Shelf Go.Proofs.YtbkfnmgkcgnifaaGreatW.PrintWords Go.Proofs.YtbkfnmgkcgnifaaGreatW.PrintLast Mdl
namespace Mdl
def beliefP (N : Int) (ways : Ways) (st : St) (who : Nat) : List (List Tm) := frontP N.toNat ways (posL (st.ledOf who))
def overP (N : Int) (ways : Ways) (st : St) (who : Nat) (m : Mk) : Bool := !((beliefP N ways st who).getD m.1.toNat []).any (fun t => leT t m.2)
theorem rowP_len2 {n M : Nat} {ways : Ways} (h : WaysOk n M ways) {xs : List Mk} (hx : ∀ y ∈ xs, 0 ≤ y.1 ∧ y.1 < n) : ∀ r ∈ frontP n ways xs, r.length ≤ xs.length * M := by
 intro r hr
 obtain ⟨k, hk, rfl⟩ := List.mem_map.1 hr
 exact Nat.le_trans (length_firstsT _) (rowP_len h (List.mem_range.1 hk) xs hx)
theorem posL_sub {L : Led} : ∀ y ∈ posL L, ∃ e ∈ L, e.1 = y := fun y hy => by
 obtain ⟨e, he, rfl⟩ := List.mem_map.1 hy
 exact ⟨e, (List.mem_filter.1 he).1, rfl⟩
theorem posL_len (L : Led) : (posL L).length ≤ L.length := by
 unfold posL
 rw [List.length_map]
 exact List.length_filter_le _ _
theorem front_len (n : Nat) (ways : Ways) (xs : List Mk) : (frontP n ways xs).length = n := by simp [frontP]
end Mdl
theorem GraphAt.below {w w' : World} {gb : Nat} {N Wd : Int} {E : List Ed} {ways : Ways} (h : GraphAt w gb N Wd E ways) (hb : Below w.heap.size w w') : GraphAt w' gb N Wd E ways := by
 obtain ⟨eA, eC, c2, c2'⟩ := h.c2
 obtain ⟨wA, wC, c3, c3'⟩ := h.c3
 exact ⟨pw_cell_below hb h.c0, pw_cell_below hb h.c1, ⟨eA, eC, pw_cell_below hb c2, Kd.C_below c2' hb⟩, ⟨wA, wC, pw_cell_below hb c3, Kd.C_below c3' hb⟩⟩
set_option maxHeartbeats 400000 in
theorem over1_any (o t : Tm) (a : Nat) (w : World) (c0 : w.cell? ⟨a, 1, none⟩ = some (.int .i64 t.1)) (c1 : w.cell? ⟨a, 2, none⟩ = some (.int .i64 t.2.1)) (c2 : w.cell? ⟨a, 3, none⟩ = some (.int .i64 t.2.2)) :
  Calls Tryz.prog 85 #[tmV o, .pointer (some ⟨a, 0, none⟩)] w fun e w' => e = .returned (.bool (leT o t)) ∧ Below w.heap.size w w' := by
 have H := fun w => Lib.hid (early_any o t w)
 simp only [tmV] at H ⊢
 have d0 := fun o => pw_cell_below (below_new w o) c0
 have d1 := fun o => pw_cell_below (below_new w o) c1
 have d2 := fun o => pw_cell_below (below_new w o) c2
 go_enter Tryz.func85, Tryz.ntmps85
 go_wp2_with fail
 refine (H _).out.mono ?_
 rintro e w1 ⟨rfl, hb⟩
 go_wp2_with fail
 go_ret
 exact ⟨rfl, below_then (below_new _ _) (below_new _ _).size hb⟩
set_option maxRecDepth 8000 in
set_option maxHeartbeats 4000000 in
theorem over_any (w0 : World) (G : RG) (W : Nat) (st : St) (N Wd : Int) (E : List Ed) (ways : Ways) (who : Nat) (m : Mk) (w : World) (h : RunOk w0 G W st w) (hG : GraphAt w0 G.gb N Wd E ways) (hR : Mdl.Reach W N st) (hN1 : 1 ≤ N) (hN8 : N ≤ 8) (hW : WaysOk N.toNat 286331153 ways) (hwho : who < W) (hW4 : W ≤ 4) (hm : nodeOk N m) :
  Calls Tryz.prog 65 #[.pointer (some ⟨G.rb, 0, none⟩), .int .i64 who, mkV m] w fun e w' => e = .returned (.bool (overP N ways st who m)) ∧ RunOk w0 G W st w' := by
 obtain ⟨q, h⟩ := h
 obtain ⟨n, rfl⟩ : ∃ n : Nat, N = n := ⟨N.toNat, by omega⟩
 rw [Int.toNat_natCast] at hW
 obtain ⟨m1, mt⟩ := m
 obtain ⟨hm0, hm1⟩ := hm
 simp only at hm0 hm1
 obtain ⟨x, rfl⟩ : ∃ x : Nat, m1 = x := ⟨m1.toNat, by omega⟩
 have bE := below_new w (.cells #[.int .i64 x, .int .i64 mt.1, .int .i64 mt.2.1, .int .i64 mt.2.2] 101)
 have e0 : (w.alloc (.cells #[.int .i64 x, .int .i64 mt.1, .int .i64 mt.2.1, .int .i64 mt.2.2] 101)).cell? ⟨w.heap.size, 0, none⟩ = some (.int .i64 x) := new_cell w _ _ 0
 have e1 : (w.alloc (.cells #[.int .i64 x, .int .i64 mt.1, .int .i64 mt.2.1, .int .i64 mt.2.2] 101)).cell? ⟨w.heap.size, 1, none⟩ = some (.int .i64 mt.1) := new_cell w _ _ 1
 have e2 : (w.alloc (.cells #[.int .i64 x, .int .i64 mt.1, .int .i64 mt.2.1, .int .i64 mt.2.2] 101)).cell? ⟨w.heap.size, 2, none⟩ = some (.int .i64 mt.2.1) := new_cell w _ _ 2
 have e3 : (w.alloc (.cells #[.int .i64 x, .int .i64 mt.1, .int .i64 mt.2.1, .int .i64 mt.2.2] 101)).cell? ⟨w.heap.size, 3, none⟩ = some (.int .i64 mt.2.2) := new_cell w _ _ 3
 have H1 := Aside0.mk (h.to_below bE)
 have HG := Aside0.mk hG
 clear h hG bE
 simp only [mkV]
 go_enter Tryz.func65, Tryz.ntmps65
 go_upto_region 1 with fail
 generalize w.alloc (.cells #[.int .i64 x, .int .i64 mt.1, .int .i64 mt.2.1, .int .i64 mt.2.2] 101) = w1 at *
 generalize w.heap.size = mb at *
 obtain ⟨A, c, _, _, _, _, _, _, r3, r4, _⟩ := H1.out.cells
 obtain ⟨s1, s2, s3, s4⟩ := H1.out.wcells hwho
 clear s3 s4
 have hw0 : (0 : Int) ≤ who := by omega
 have hwW : (who : Int) < W := by omega
 refine start_ (n := 21) (S := fun w' => w'.cell? ⟨mb, 0, none⟩ = some (.int .i64 x) ∧ w'.cell? ⟨G.rb, 3, none⟩ = some (.pointer (some ⟨G.gb, 0, none⟩)) ∧ w'.cell? ⟨G.rb, 4, none⟩ = some (.slice (some ⟨G.wa, 0, none⟩) W G.wc) ∧ w'.cell? ⟨G.wa, who, none⟩ = some (.pointer (some ⟨G.wb who, 0, none⟩)) ∧ w'.cell? ⟨G.wb who, 0, none⟩ = some (.map (some (G.lb who)))) (ds := []) (bs 21 0) (by kernel_rfl) rfl (by kernel_rfl) ⟨e0, r3, r4, s1, s2⟩ (fun hHeld => ?_)
 have HD := Aside0.mk (below_drew1 (Below.refl w1.heap.size w1))
 have HSH := Lib.hid (fun V (hb : Below w1.heap.size w1 V) => (And.intro (pw_cell_below hb e0) (And.intro (pw_cell_below hb r3) (And.intro (pw_cell_below hb r4) (And.intro (pw_cell_below hb s1) (pw_cell_below hb s2))))))
 have HE := Lib.hid (And.intro e1 (And.intro e2 e3))
 clear e0 e1 e2 e3 r3 r4 s1 s2
 generalize w1.drew = wd at *
 have H2 := Aside0.mk (H1.out.to_below HD.out)
 have HF := Lib.hid (frontiers_any G.gb n Wd E ways (G.lb who) (st.ledOf who) wd (HG.out.below H2.out.below) (by omega) (by omega) 286331153 hW (fun e he => (hR.inv.ledN _ (getD_mem (l := st.led) (by rw [hR.inv.llen]; exact hwho) [])).2 e he) (by have := hR.led_len hwho; omega) (H2.out.led who hwho))
 refine pu 0 8 (bs 21 1) ?_
 refine pu 1 9 (bs 21 3) ?_
 refine pu 2 10 (bs 21 7) ?_
 refine tk5 3 11 (bs 21 15) hHeld ?_
 refine pu 4 12 (bs 21 31) ?_
 refine pu 5 13 (bs 21 63) ?_
 refine pu 6 14 (bs 21 127) ?_
 refine tk5 7 15 (bs 21 255) hHeld ?_
 refine pu 8 16 (bs 21 511) ?_
 refine pu 9 17 (bs 21 1023) ?_
 refine tk5 10 18 (bs 21 2047) hHeld ?_
 refine pu 11 19 (bs 21 4095) ?_
 refine pu 12 20 (bs 21 8191) ?_
 refine tk5 13 21 (bs 21 16383) hHeld ?_
 refine pu 14 22 (bs 21 32767) ?_
 refine pu 16 24 (bs 21 98303) ?_
 refine tk5 17 25 (bs 21 229375) hHeld ?_
 refine on0 15 23 (bs 21 262143) fun K hK => ?_
 refine gs0 Tryz.func48 #[.pointer (some ⟨G.gb, 0, none⟩), .func (.func 45) #[.agg #[.map (some (G.lb who))]] #[]] ?_
 refine HF.out.mono ?_
 rintro e w3 ⟨v3, xs, rfl, hxs, hR3, hb3⟩
 rw [frontP_perm n ways hxs] at hR3
 have hfl := front_len n ways (posL (st.ledOf who))
 have HBP := Lib.hid (show beliefP n ways st who = frontP n ways (posL (st.ledOf who)) by unfold beliefP; rw [Int.toNat_natCast])
 generalize frontP n ways (posL (st.ledOf who)) = fr at *
 obtain ⟨ga, cap, hv, hga1, hga2, _⟩ := Kd.R_form hR3 (by rw [hfl]; omega)
 rw [hfl] at hv
 subst hv
 have hC3 := (Kd.R_reads' hR3).2.2
 rw [hfl] at hC3
 obtain ⟨ad, sA, sC, had, hac, hrC, hrc⟩ := at_row (l := fr) (by rw [hfl]; exact hC3) (show x < fr.length by omega)
 injection had with had
 subst had
 rw [Addr.add_lit, Nat.zero_add] at hac
 have HB3 := Lib.hid (below_then HD.out HD.out.size hb3)
 have HR3 := Aside0.mk (And.intro (H2.out.to_below hb3) hrC)
 have HOV := Lib.hid (show overP n ways st who ((x : Int), mt) = !fr[x].any (fun t => leT t mt) by
  unfold overP
  rw [HBP.out, Int.toNat_natCast, List.getD_eq_getElem?_getD, List.getElem?_eq_getElem (by omega)]; rfl)
 generalize fr[x] = rx at *
 have hxn : (x : Int) < n := hm1
 refine ⟨_, rfl, hK.out _ _ (HSH.out _ HB3.out) (fun hHeld => ?_)⟩
 clear hxs hR3 hfl hga1 hga2 hC3 hrC hb3
 clear hK K
 refine nm0 (some 23) ?_
 refine pu 18 26 (bs 21 524287) ?_
 refine on0 19 27 (bs 21 1048575) fun K hK => ?_
 refine va0 ?_
 refine hK.out _ _ hHeld (fun hHeld => ?_)
 clear hK K
 refine nm0 (some 27) ?_
 refine pu 20 7 (bs 21 2097151) ?_
 refine dn0 ?_
 have HP : Hid (PredOk 85 #[.pointer (some ⟨mb, 0, none⟩)] tmV (fun o => leT o mt) w3) := Lib.hid (fun x w' hb' =>
  over1_any x mt _ w' (pw_cell_below hb' (pw_cell_below HB3.out HE.out.1)) (pw_cell_below hb' (pw_cell_below HB3.out HE.out.2.1)) (pw_cell_below hb' (pw_cell_below HB3.out HE.out.2.2)))
 have HC := Lib.hid (containsT_any sA sC rx 85 #[.pointer (some ⟨mb, 0, none⟩)] (fun o => leT o mt) w3 HR3.out.2 HP.out (enters_of Tryz.func85 (by kernel_rfl) rfl))
 generalize rx.any (fun t => leT t mt) = bb at *
 clear hHeld hac
 go_wp2_with fail
 refine HC.out.mono ?_
 rintro e w5 ⟨rfl, hb5⟩
 have H5 := Aside0.mk (HR3.out.1.to_below hb5)
 go_wp2_with fail
 go_ret
 exact ⟨by rw [HOV.out]; rfl, _, H5.out.relim⟩
end Go.Proofs.YtbkfnmgkcgnifaaGreat
namespace Go.Proofs.YtbkfnmgkcgnifaaGreat
open Go.RowKit Go.Shelf Go.Proofs.YtbkfnmgkcgnifaaGreatW.PrintWords Go.Proofs.YtbkfnmgkcgnifaaGreatW.PrintLast Mdl
theorem stopped_nil (p : Addr) (w : World) : Calls Tryz.prog 29 #[.nilIface, .pointer (some p)] w fun e w' => e = .returned (.tuple #[]) ∧ w' = w := by
 have hnil : ∀ w : World, (binOp .eql 20 .nilIface .nilIface).run Tryz.prog w = .ok (.bool true) w := fun _ => by kernel_rfl
 go_enter Tryz.func29, Tryz.ntmps29
 go_wp2_with fail
 exact bodyPost_ret (v := .tuple #[]) (by simp [results, Tryz.results29, go_sem]) rfl ⟨rfl, rfl⟩
theorem stopped_stop (p : Addr) (x c : Int) (w : World) (hc : w.cell? p = some (.int .i64 x)) (hz : w.frozen? p = false) :
  Calls Tryz.prog 29 #[.iface 126 (.agg #[.int .i64 c]), .pointer (some p)] w fun e w' => e = .returned (.tuple #[]) ∧ w' = (w.alloc (.cells #[.int .i64 c] 126)).setCell p (.int .i64 c) := by
 have hnil : ∀ w : World, (binOp .eql 20 (.iface 126 (.agg #[.int .i64 c])) .nilIface).run Tryz.prog w = .ok (.bool false) w := fun _ => by kernel_rfl
 have hta : ∀ w : World, (Instr.typeAssert (.iface 126 (.agg #[.int .i64 c])) 20 126 true).run Tryz.prog w = .ok (.tuple #[.agg #[.int .i64 c], .bool true]) w := fun _ => by kernel_rfl
 have h1 := pw_cell_below (below_new w (.cells #[.int .i64 c] 126)) hc
 have h2 : (w.alloc (.cells #[.int .i64 c] 126)).frozen? p = false := (frozen?_alloc_cells w _ _ p).trans hz
 have h3 : (w.alloc (.cells #[.int .i64 c] 126)).cell? ⟨w.heap.size, 0, none⟩ = some (.int .i64 c) := new_cell w _ _ 0
 go_enter Tryz.func29, Tryz.ntmps29
 go_wp2_with fail
 go_end0
 exact ⟨rfl, rfl⟩
theorem catch_stopPaths (p : Addr) (x c : Int) (w : World) (hc : w.cell? p = some (.int .i64 x)) (hz : w.frozen? p = false) :
  CallsD Tryz.prog 28 #[.pointer (some p)] (.panicking (stopE c)) w fun e u' w' => e = .returned (.tuple #[]) ∧ u' = .panicking [{ v := .iface 126 (.agg #[.int .i64 c]), recovered := true }] ∧ w' = (w.alloc (.cells #[.int .i64 c] 126)).setCell p (.int .i64 c) := by
 refine callsD_of_wpS Tryz.func28 rfl fun c₀ cs hu => ?_
 apply wpS_region
 simp [wpOpsS, go_sem, recoverD, hu, Tryz.ntmps28, Exit.thenS, stopE]
 refine (stopped_stop p x c w hc hz).mono ?_
 rintro e w' ⟨rfl, rfl⟩
 simp [bodyPostS, results, Tryz.results28, go_sem]
theorem catch_idlePaths (p : Addr) (w : World) :
  CallsD Tryz.prog 28 #[.pointer (some p)] .returning w fun e u' w' => e = .returned (.tuple #[]) ∧ u' = .returning ∧ w' = w := by
 refine callsD_of_wpS Tryz.func28 rfl fun c₀ cs hu => ?_
 apply wpS_region
 simp [wpOpsS, go_sem, recoverD, hu, Tryz.ntmps28, Exit.thenS]
 refine (stopped_nil p w).mono ?_
 rintro e w' ⟨rfl, rfl⟩
 cases c₀
 simp_all [bodyPostS, results, Tryz.results28, go_sem]
theorem catch_stopCheck (p : Addr) (x c : Int) (w : World) (hc : w.cell? p = some (.int .i64 x)) (hz : w.frozen? p = false) :
  CallsD Tryz.prog 36 #[.pointer (some p)] (.panicking (stopE c)) w fun e u' w' => e = .returned (.tuple #[]) ∧ u' = .panicking [{ v := .iface 126 (.agg #[.int .i64 c]), recovered := true }] ∧ w' = (w.alloc (.cells #[.int .i64 c] 126)).setCell p (.int .i64 c) := by
 refine callsD_of_wpS Tryz.func36 rfl fun c₀ cs hu => ?_
 apply wpS_region
 simp [wpOpsS, go_sem, recoverD, hu, Tryz.ntmps36, Exit.thenS, stopE]
 refine (stopped_stop p x c w hc hz).mono ?_
 rintro e w' ⟨rfl, rfl⟩
 simp [bodyPostS, results, Tryz.results36, go_sem]
theorem catch_idleCheck (p : Addr) (w : World) :
  CallsD Tryz.prog 36 #[.pointer (some p)] .returning w fun e u' w' => e = .returned (.tuple #[]) ∧ u' = .returning ∧ w' = w := by
 refine callsD_of_wpS Tryz.func36 rfl fun c₀ cs hu => ?_
 apply wpS_region
 simp [wpOpsS, go_sem, recoverD, hu, Tryz.ntmps36, Exit.thenS]
 refine (stopped_nil p w).mono ?_
 rintro e w' ⟨rfl, rfl⟩
 cases c₀
 simp_all [bodyPostS, results, Tryz.results36, go_sem]
theorem catch_stopBelief (p : Addr) (x c : Int) (w : World) (hc : w.cell? p = some (.int .i64 x)) (hz : w.frozen? p = false) :
  CallsD Tryz.prog 53 #[.pointer (some p)] (.panicking (stopE c)) w fun e u' w' => e = .returned (.tuple #[]) ∧ u' = .panicking [{ v := .iface 126 (.agg #[.int .i64 c]), recovered := true }] ∧ w' = (w.alloc (.cells #[.int .i64 c] 126)).setCell p (.int .i64 c) := by
 refine callsD_of_wpS Tryz.func53 rfl fun c₀ cs hu => ?_
 apply wpS_region
 simp [wpOpsS, go_sem, recoverD, hu, Tryz.ntmps53, Exit.thenS, stopE]
 refine (stopped_stop p x c w hc hz).mono ?_
 rintro e w' ⟨rfl, rfl⟩
 simp [bodyPostS, results, Tryz.results53, go_sem]
theorem catch_idleBelief (p : Addr) (w : World) :
  CallsD Tryz.prog 53 #[.pointer (some p)] .returning w fun e u' w' => e = .returned (.tuple #[]) ∧ u' = .returning ∧ w' = w := by
 refine callsD_of_wpS Tryz.func53 rfl fun c₀ cs hu => ?_
 apply wpS_region
 simp [wpOpsS, go_sem, recoverD, hu, Tryz.ntmps53, Exit.thenS]
 refine (stopped_nil p w).mono ?_
 rintro e w' ⟨rfl, rfl⟩
 cases c₀
 simp_all [bodyPostS, results, Tryz.results53, go_sem]
theorem catch_stopRun (p : Addr) (x c : Int) (w : World) (hc : w.cell? p = some (.int .i64 x)) (hz : w.frozen? p = false) :
  CallsD Tryz.prog 59 #[.pointer (some p)] (.panicking (stopE c)) w fun e u' w' => e = .returned (.tuple #[]) ∧ u' = .panicking [{ v := .iface 126 (.agg #[.int .i64 c]), recovered := true }] ∧ w' = (w.alloc (.cells #[.int .i64 c] 126)).setCell p (.int .i64 c) := by
 refine callsD_of_wpS Tryz.func59 rfl fun c₀ cs hu => ?_
 apply wpS_region
 simp [wpOpsS, go_sem, recoverD, hu, Tryz.ntmps59, Exit.thenS, stopE]
 refine (stopped_stop p x c w hc hz).mono ?_
 rintro e w' ⟨rfl, rfl⟩
 simp [bodyPostS, results, Tryz.results59, go_sem]
theorem catch_idleRun (p : Addr) (w : World) :
  CallsD Tryz.prog 59 #[.pointer (some p)] .returning w fun e u' w' => e = .returned (.tuple #[]) ∧ u' = .returning ∧ w' = w := by
 refine callsD_of_wpS Tryz.func59 rfl fun c₀ cs hu => ?_
 apply wpS_region
 simp [wpOpsS, go_sem, recoverD, hu, Tryz.ntmps59, Exit.thenS]
 refine (stopped_nil p w).mono ?_
 rintro e w' ⟨rfl, rfl⟩
 cases c₀
 simp_all [bodyPostS, results, Tryz.results59, go_sem]
theorem catch_stopTold (p : Addr) (x c : Int) (w : World) (hc : w.cell? p = some (.int .i64 x)) (hz : w.frozen? p = false) :
  CallsD Tryz.prog 62 #[.pointer (some p)] (.panicking (stopE c)) w fun e u' w' => e = .returned (.tuple #[]) ∧ u' = .panicking [{ v := .iface 126 (.agg #[.int .i64 c]), recovered := true }] ∧ w' = (w.alloc (.cells #[.int .i64 c] 126)).setCell p (.int .i64 c) := by
 refine callsD_of_wpS Tryz.func62 rfl fun c₀ cs hu => ?_
 apply wpS_region
 simp [wpOpsS, go_sem, recoverD, hu, Tryz.ntmps62, Exit.thenS, stopE]
 refine (stopped_stop p x c w hc hz).mono ?_
 rintro e w' ⟨rfl, rfl⟩
 simp [bodyPostS, results, Tryz.results62, go_sem]
theorem catch_idleTold (p : Addr) (w : World) :
  CallsD Tryz.prog 62 #[.pointer (some p)] .returning w fun e u' w' => e = .returned (.tuple #[]) ∧ u' = .returning ∧ w' = w := by
 refine callsD_of_wpS Tryz.func62 rfl fun c₀ cs hu => ?_
 apply wpS_region
 simp [wpOpsS, go_sem, recoverD, hu, Tryz.ntmps62, Exit.thenS]
 refine (stopped_nil p w).mono ?_
 rintro e w' ⟨rfl, rfl⟩
 cases c₀
 simp_all [bodyPostS, results, Tryz.results62, go_sem]
theorem catch_stopLedger (p : Addr) (x c : Int) (w : World) (hc : w.cell? p = some (.int .i64 x)) (hz : w.frozen? p = false) :
  CallsD Tryz.prog 55 #[.pointer (some p)] (.panicking (stopE c)) w fun e u' w' => e = .returned (.tuple #[]) ∧ u' = .panicking [{ v := .iface 126 (.agg #[.int .i64 c]), recovered := true }] ∧ w' = (w.alloc (.cells #[.int .i64 c] 126)).setCell p (.int .i64 c) := by
 refine callsD_of_wpS Tryz.func55 rfl fun c₀ cs hu => ?_
 apply wpS_region
 simp [wpOpsS, go_sem, recoverD, hu, Tryz.ntmps55, Exit.thenS, stopE]
 refine (stopped_stop p x c w hc hz).mono ?_
 rintro e w' ⟨rfl, rfl⟩
 simp [bodyPostS, results, Tryz.results55, go_sem]
theorem catch_idleLedger (p : Addr) (w : World) :
  CallsD Tryz.prog 55 #[.pointer (some p)] .returning w fun e u' w' => e = .returned (.tuple #[]) ∧ u' = .returning ∧ w' = w := by
 refine callsD_of_wpS Tryz.func55 rfl fun c₀ cs hu => ?_
 apply wpS_region
 simp [wpOpsS, go_sem, recoverD, hu, Tryz.ntmps55, Exit.thenS]
 refine (stopped_nil p w).mono ?_
 rintro e w' ⟨rfl, rfl⟩
 cases c₀
 simp_all [bodyPostS, results, Tryz.results55, go_sem]
theorem catch_stopHeld (p : Addr) (x c : Int) (w : World) (hc : w.cell? p = some (.int .i64 x)) (hz : w.frozen? p = false) :
  CallsD Tryz.prog 58 #[.pointer (some p)] (.panicking (stopE c)) w fun e u' w' => e = .returned (.tuple #[]) ∧ u' = .panicking [{ v := .iface 126 (.agg #[.int .i64 c]), recovered := true }] ∧ w' = (w.alloc (.cells #[.int .i64 c] 126)).setCell p (.int .i64 c) := by
 refine callsD_of_wpS Tryz.func58 rfl fun c₀ cs hu => ?_
 apply wpS_region
 simp [wpOpsS, go_sem, recoverD, hu, Tryz.ntmps58, Exit.thenS, stopE]
 refine (stopped_stop p x c w hc hz).mono ?_
 rintro e w' ⟨rfl, rfl⟩
 simp [bodyPostS, results, Tryz.results58, go_sem]
theorem catch_idleHeld (p : Addr) (w : World) :
  CallsD Tryz.prog 58 #[.pointer (some p)] .returning w fun e u' w' => e = .returned (.tuple #[]) ∧ u' = .returning ∧ w' = w := by
 refine callsD_of_wpS Tryz.func58 rfl fun c₀ cs hu => ?_
 apply wpS_region
 simp [wpOpsS, go_sem, recoverD, hu, Tryz.ntmps58, Exit.thenS]
 refine (stopped_nil p w).mono ?_
 rintro e w' ⟨rfl, rfl⟩
 cases c₀
 simp_all [bodyPostS, results, Tryz.results58, go_sem]
end Go.Proofs.YtbkfnmgkcgnifaaGreat
namespace Go.Proofs.YtbkfnmgkcgnifaaGreat
open Go.RowKit Go.Shelf Go.Proofs.YtbkfnmgkcgnifaaGreatW.PrintWords Go.Proofs.YtbkfnmgkcgnifaaGreatW.PrintLast Mdl
def Mdl.checkP (p : Plan) : Int := match plannedP p with
 | none => 1
 | some _ => 0
set_option maxRecDepth 8000 in
set_option maxHeartbeats 4000000 in
theorem check_any (p : Plan) (eA mA : Option Addr) (eC mC : Nat) (w : World) (hp : PlanAt w p eA mA) :
  Calls Tryz.prog 8 #[planV p eA eC mA mC] w fun e w' => e = .returned (.int .i64 (checkP p)) ∧ Below w.heap.size w w' := by
 have hmf : ∀ (fn : Fn) (first cap : Array Value) (w : World), (Instr.makeFunc fn first cap).run Tryz.prog w = .ok (.func fn first cap) w := fun _ _ _ _ => rfl
 have hz1 : (w.alloc (.cells #[.int .i64 p.N, .int .i64 p.Wd, .slice eA p.E.length eC, .int .i64 p.workers, .slice mA p.start.length mC] 27)).heap.size = w.heap.size + 1 := by simp
 have b2 : Below w.heap.size w ((w.alloc (.cells #[.int .i64 p.N, .int .i64 p.Wd, .slice eA p.E.length eC, .int .i64 p.workers, .slice mA p.start.length mC] 27)).alloc (.cells #[.int .i64 0] 29)) := two_new
 have hbk : ((w.alloc (.cells #[.int .i64 p.N, .int .i64 p.Wd, .slice eA p.E.length eC, .int .i64 p.workers, .slice mA p.start.length mC] 27)).alloc (.cells #[.int .i64 0] 29)).heap[w.heap.size]? = some (.cells #[.int .i64 p.N, .int .i64 p.Wd, .slice eA p.E.length eC, .int .i64 p.workers, .slice mA p.start.length mC] 27 (0, 0)) := blk_below (heap_alloc_new w _) (below_new _ _)
 have hbr := heap_alloc_new (w.alloc (.cells #[.int .i64 p.N, .int .i64 p.Wd, .slice eA p.E.length eC, .int .i64 p.workers, .slice mA p.start.length mC] 27)) (.cells #[.int .i64 0] 29)
 rw [hz1] at hbr
 have HPL := Lib.hid (planned_any p eA mA eC mC _ (hp.below b2))
 have hSm := Kd.C_max hp.hS
 have hEm := Kd.C_max hp.hE
 have H1 := Aside0.mk (And.intro b2 (And.intro hbk hbr))
 clear hp hz1 hbk hbr b2
 simp only [planV] at HPL ⊢
 go_enter_defers Tryz.func8, Tryz.ntmps8
 go_upto_region 1 with fail
 generalize (w.alloc (.cells #[.int .i64 p.N, .int .i64 p.Wd, .slice eA p.E.length eC, .int .i64 p.workers, .slice mA p.start.length mC] 27)).alloc (.cells #[.int .i64 0] 29) = w2 at *
 have p0 : w2.cell? ⟨w.heap.size, 0, none⟩ = some (.int .i64 p.N) := (blk_cell H1.out.2.1 0).trans rfl
 have p1 : w2.cell? ⟨w.heap.size, 1, none⟩ = some (.int .i64 p.Wd) := (blk_cell H1.out.2.1 1).trans rfl
 have p2 : w2.cell? ⟨w.heap.size, 2, none⟩ = some (.slice eA p.E.length eC) := (blk_cell H1.out.2.1 2).trans rfl
 have p3 : w2.cell? ⟨w.heap.size, 3, none⟩ = some (.int .i64 p.workers) := (blk_cell H1.out.2.1 3).trans rfl
 have p4 : w2.cell? ⟨w.heap.size, 4, none⟩ = some (.slice mA p.start.length mC) := (blk_cell H1.out.2.1 4).trans rfl
 go_wp2_with fail
 refine HPL.out.mono ?_
 rintro e w3 ⟨hb3, h3⟩
 have hbr := blk_below H1.out.2.2 hb3
 have hb := below_then H1.out.1 H1.out.1.size hb3
 cases ho : plannedP p with
 | none =>
  rw [ho] at h3
  subst h3
  have HC := Lib.hid (show checkP p = 1 by simp only [checkP, ho])
  refine leaves_cons (f := 36) (args := #[.pointer (some ⟨w.heap.size + 1, 0, none⟩)]) (by simp) (by simp [go_sem]) ?_
  refine (catch_stopCheck ⟨w.heap.size + 1, 0, none⟩ 0 1 w3 ((blk_cell hbr 0).trans rfl) (blk_frozen hbr 0)).mono ?_
  rintro e u' w'' ⟨rfl, rfl, rfl⟩
  have hbx := blk_put (blk_below hbr (below_new w3 (.cells #[.int .i64 1] 126))) 0 (.int .i64 1) rfl
  have hcx := (blk_cell hbx 0).trans rfl
  simp [Leaves, settle, results, Tryz.results8, go_sem, hcx, HC.out]
  have hb5 := below_then hb hb.size (below_new w3 (.cells #[.int .i64 1] 126))
  exact hb5.setCell (by simp) _
 | some ways =>
  rw [ho] at h3
  obtain ⟨gb, rfl, _, _⟩ := h3
  have HC := Lib.hid (show checkP p = 0 by simp only [checkP, ho])
  have hz := blk_frozen hbr 0
  have hc : w3.cell? ⟨w.heap.size + 1, 0, none⟩ = some (.int .i64 0) := (blk_cell hbr 0).trans rfl
  have H3 := Aside0.mk (And.intro hb hbr)
  clear hb3 hb hbr HPL p0 p1 p2 p3 p4 ho
  go_wp2_with fail
  refine leaves_cons (f := 36) (args := #[.pointer (some ⟨w.heap.size + 1, 0, none⟩)]) (by simp) (by simp [go_sem]) ?_
  refine (catch_idleCheck ⟨w.heap.size + 1, 0, none⟩ _).mono ?_
  rintro e u' w'' ⟨rfl, rfl, rfl⟩
  have hbx := blk_put H3.out.2 0 (.int .i64 0) rfl
  have hcx := (blk_cell hbx 0).trans rfl
  simp [Leaves, settle, results, Tryz.results8, go_sem, hcx, HC.out]
  exact H3.out.1.setCell (by simp) _
end Go.Proofs.YtbkfnmgkcgnifaaGreat
namespace Go.Proofs.YtbkfnmgkcgnifaaGreat
open Go.RowKit Go.Shelf Go.Proofs.YtbkfnmgkcgnifaaGreatW.PrintWords Go.Proofs.YtbkfnmgkcgnifaaGreatW.PrintLast Mdl
namespace Mdl
def pathsP (N Wd : Int) (E : List Ed) (a b : Int) : Except Int (List Tm) := match openedP N Wd E with
 | none => .error 1
 | some ways => if (0 ≤ a ∧ a < N) ∧ 0 ≤ b ∧ b < N then .ok (wayAt ways a b.toNat) else .error 2
def resOf {α : Type} (r : Except Int (List α)) : List α × Int := match r with
 | .ok l => (l, 0)
 | .error c => ([], c)
end Mdl
theorem at_grid2 {w : World} {A : Option Addr} {l : List (List (List Tm))} (h : kGrid.C w A l.length l) {k : Nat} (hk : k < l.length) :
  ∃ ad sA sC, A = some ad ∧ w.cell? (ad.add k) = some (.slice sA l[k].length sC) ∧ kRows.C w sA l[k].length l[k] ∧ l[k].length ≤ sC := by
 obtain ⟨ad, c, e, hl, hK, hc⟩ := Kd.C_get h [] (k : Int) (by omega) (by omega)
 rw [Int.toNat_natCast, List.getD_eq_getElem?_getD, List.getElem?_eq_getElem hk] at hK
 rw [Int.toNat_natCast] at hc
 obtain ⟨sA, sC, rfl, hle, hC⟩ := hK
 refine ⟨ad, sA, sC, e, ?_, hC, hle⟩
 have := hc 0 _ rfl
 rwa [show kGrid.sz = 1 from rfl, Nat.mul_one, Nat.add_zero] at this
theorem R_set_low {α : Type} {d : Kd α} {e base b' g j : Nat} {ok : Nat → Prop} {w : World} {v u : Value} {xs : List α} (h : d.R e w base ok v xs) (hlt : g < base) (hb' : b' ≤ base) : d.R e (w.setCell ⟨g, j, none⟩ u) b' (fun _ => True) v xs :=
 Kd.R_mono (Kd.R_grown (Kd.R_lower (Kd.R_bound h) hb') (setCells_grown g [u] j w) (fun k hk he => by
  injection he with he
  have := hk.2.1
  omega)) (fun _ _ => trivial)
set_option maxRecDepth 8000 in
set_option maxHeartbeats 4000000 in
theorem paths_any (N Wd : Int) (E : List Ed) (eA : Option Addr) (eC : Nat) (x y : Int) (w : World) (hE : kE.C w eA E.length E) :
  Calls Tryz.prog 6 #[.agg #[.int .i64 N, .int .i64 Wd, .slice eA E.length eC], .int .i64 x, .int .i64 y] w fun e w' => ∃ v, e = .returned (.tuple #[v, .int .i64 (resOf (pathsP N Wd E x y)).2]) ∧ kLI.R 36 w' w.heap.size (fun _ => True) v ((resOf (pathsP N Wd E x y)).1.map (numsT Wd.toNat)) ∧ Below w.heap.size w w' := by
 have hmf : ∀ (fn : Fn) (first cap : Array Value) (w : World), (Instr.makeFunc fn first cap).run Tryz.prog w = .ok (.func fn first cap) w := fun _ _ _ _ => rfl
 have hz1 : (w.alloc (.cells #[.int .i64 N, .int .i64 Wd, .slice eA E.length eC] 24)).heap.size = w.heap.size + 1 := by simp
 have b2 : Below w.heap.size w ((w.alloc (.cells #[.int .i64 N, .int .i64 Wd, .slice eA E.length eC] 24)).alloc (.cells #[.int .i64 0] 29)) := two_new
 have hbk : ((w.alloc (.cells #[.int .i64 N, .int .i64 Wd, .slice eA E.length eC] 24)).alloc (.cells #[.int .i64 0] 29)).heap[w.heap.size]? = some (.cells #[.int .i64 N, .int .i64 Wd, .slice eA E.length eC] 24 (0, 0)) := blk_below (heap_alloc_new w _) (below_new _ _)
 have hbr := heap_alloc_new (w.alloc (.cells #[.int .i64 N, .int .i64 Wd, .slice eA E.length eC] 24)) (.cells #[.int .i64 0] 29)
 rw [hz1] at hbr
 have HOP := Lib.hid (opened_any N Wd E eA eC _ (Kd.C_below hE b2))
 have hEm := Kd.C_max hE
 have H1 := Aside0.mk (And.intro b2 (And.intro hbk hbr))
 clear hE hz1 hbk hbr b2
 go_enter_defers Tryz.func6, Tryz.ntmps6
 go_upto_region 1 with fail
 generalize (w.alloc (.cells #[.int .i64 N, .int .i64 Wd, .slice eA E.length eC] 24)).alloc (.cells #[.int .i64 0] 29) = w2 at *
 have p0 : w2.cell? ⟨w.heap.size, 0, none⟩ = some (.int .i64 N) := (blk_cell H1.out.2.1 0).trans rfl
 have p1 : w2.cell? ⟨w.heap.size, 1, none⟩ = some (.int .i64 Wd) := (blk_cell H1.out.2.1 1).trans rfl
 have p2 : w2.cell? ⟨w.heap.size, 2, none⟩ = some (.slice eA E.length eC) := (blk_cell H1.out.2.1 2).trans rfl
 go_wp2_with fail
 refine HOP.out.mono ?_
 rintro e w3 ⟨hb3, h3⟩
 have hbr := blk_below H1.out.2.2 hb3
 have hb := below_then H1.out.1 H1.out.1.size hb3
 cases ho : openedP N Wd E with
 | none =>
  rw [ho] at h3
  subst h3
  have HC := Lib.hid (show pathsP N Wd E x y = .error 1 by simp only [pathsP, ho])
  refine leaves_cons (f := 28) (args := #[.pointer (some ⟨w.heap.size + 1, 0, none⟩)]) (by simp) (by simp [go_sem]) ?_
  refine (catch_stopPaths ⟨w.heap.size + 1, 0, none⟩ 0 1 w3 ((blk_cell hbr 0).trans rfl) (blk_frozen hbr 0)).mono ?_
  rintro e u' w'' ⟨rfl, rfl, rfl⟩
  have hbx := blk_put (blk_below hbr (below_new w3 (.cells #[.int .i64 1] 126))) 0 (.int .i64 1) rfl
  have hcx := (blk_cell hbx 0).trans rfl
  have hb5 := below_then hb hb.size (below_new w3 (.cells #[.int .i64 1] 126))
  rw [HC.out]
  simp [Leaves, settle, results, Tryz.results6, go_sem, hcx, resOf]
  exact ⟨Kd.R_nil _ _ _ _ _, hb5.setCell (by simp) _⟩
 | some ways =>
  rw [ho] at h3
  obtain ⟨gb, rfl, _, hG⟩ := h3
  obtain ⟨⟨n1, n8, wd1, wd3, _⟩, _, _⟩ := opened_ok ho
  have HWO := Lib.hid (ways_ok ho)
  have HO := Lib.hid ho
  have H3 := Aside0.mk (And.intro hb (And.intro hbr hG))
  have hz := blk_frozen hbr 0
  have hc : w3.cell? ⟨w.heap.size + 1, 0, none⟩ = some (.int .i64 0) := (blk_cell hbr 0).trans rfl
  clear hb3 hb hbr HOP p0 p1 p2 ho hG
  have HOUT := Lib.hid (fun (hn : ¬ ((0 ≤ x ∧ x < N) ∧ 0 ≤ y ∧ y < N)) => show pathsP N Wd E x y = .error 2 by simp only [pathsP, HO.out]; rw [if_neg hn])
  have c0 := H3.out.2.2.c0
  have c1 := H3.out.2.2.c1
  by_cases gx : 0 ≤ x ∧ x < N
  rotate_left
  ·have HC := Lib.hid (HOUT.out (fun h => gx h.1))
   go_wp2_with fail
   refine (is_false _ x N _ c0 (by omega)).mono ?_
   rintro e wm ⟨rfl, rfl⟩
   clear c0 c1 hz hc
   go_wp2_with fail
   refine (must_false _ _).mono ?_
   rintro e wm ⟨rfl, rfl⟩
   refine leaves_cons (f := 28) (args := #[.pointer (some ⟨w.heap.size + 1, 0, none⟩)]) (by simp) (by simp [go_sem]) ?_
   refine (catch_stopPaths ⟨w.heap.size + 1, 0, none⟩ 0 2 w3 ((blk_cell H3.out.2.1 0).trans rfl) (blk_frozen H3.out.2.1 0)).mono ?_
   rintro e u' w'' ⟨rfl, rfl, rfl⟩
   have hbx := blk_put (blk_below H3.out.2.1 (below_new w3 (.cells #[.int .i64 2] 126))) 0 (.int .i64 2) rfl
   have hcx := (blk_cell hbx 0).trans rfl
   have hb5 := below_then H3.out.1 H3.out.1.size (below_new w3 (.cells #[.int .i64 2] 126))
   rw [HC.out]
   simp [Leaves, settle, results, Tryz.results6, go_sem, hcx, resOf]
   exact ⟨Kd.R_nil _ _ _ _ _, hb5.setCell (by simp) _⟩
  obtain ⟨gx0, gx1⟩ := gx
  go_wp2_with fail
  refine (is_true _ x N _ c0 gx0 gx1).mono ?_
  rintro e wm ⟨rfl, rfl⟩
  by_cases gy : 0 ≤ y ∧ y < N
  rotate_left
  ·have HC := Lib.hid (HOUT.out (fun h => gy h.2))
   go_wp2_with fail
   refine (is_false _ y N _ c0 (by omega)).mono ?_
   rintro e wm ⟨rfl, rfl⟩
   clear c0 c1 hz hc
   go_wp2_with fail
   refine (must_false _ _).mono ?_
   rintro e wm ⟨rfl, rfl⟩
   refine leaves_cons (f := 28) (args := #[.pointer (some ⟨w.heap.size + 1, 0, none⟩)]) (by simp) (by simp [go_sem]) ?_
   refine (catch_stopPaths ⟨w.heap.size + 1, 0, none⟩ 0 2 w3 ((blk_cell H3.out.2.1 0).trans rfl) (blk_frozen H3.out.2.1 0)).mono ?_
   rintro e u' w'' ⟨rfl, rfl, rfl⟩
   have hbx := blk_put (blk_below H3.out.2.1 (below_new w3 (.cells #[.int .i64 2] 126))) 0 (.int .i64 2) rfl
   have hcx := (blk_cell hbx 0).trans rfl
   have hb5 := below_then H3.out.1 H3.out.1.size (below_new w3 (.cells #[.int .i64 2] 126))
   rw [HC.out]
   simp [Leaves, settle, results, Tryz.results6, go_sem, hcx, resOf]
   exact ⟨Kd.R_nil _ _ _ _ _, hb5.setCell (by simp) _⟩
  obtain ⟨gy0, gy1⟩ := gy
  go_wp2_with fail
  refine (is_true _ y N _ c0 gy0 gy1).mono ?_
  rintro e wm ⟨rfl, rfl⟩
  have HC := Lib.hid (show pathsP N Wd E x y = .ok (wayAt ways x y.toNat) by simp only [pathsP, HO.out]; rw [if_pos ⟨⟨gx0, gx1⟩, gy0, gy1⟩])
  obtain ⟨n, rfl⟩ : ∃ n : Nat, N = n := ⟨N.toNat, by omega⟩
  obtain ⟨a, rfl⟩ : ∃ a : Nat, x = a := ⟨x.toNat, by omega⟩
  obtain ⟨b, rfl⟩ : ∃ b : Nat, y = b := ⟨y.toNat, by omega⟩
  obtain ⟨wd, rfl⟩ : ∃ wd : Nat, Wd = wd := ⟨Wd.toNat, by omega⟩
  rw [Int.toNat_natCast] at HWO
  obtain ⟨hm, hr, hwe, hwl⟩ := HWO.out.at_ (m := (a : Int)) gx0 gx1 (k := b) (by omega)
  simp only [Int.toNat_natCast] at hm hr hwe
  have hlen := HWO.out.len
  have hrow := HWO.out.row _ (List.getElem_mem hm)
  obtain ⟨wA, wC, c3, c3'⟩ := H3.out.2.2.c3
  obtain ⟨ad, rA, rC, rfl, d1, dC, dl⟩ := at_grid2 c3' hm
  obtain ⟨ad2, sA, sC, rfl, d2, dC2, dl2⟩ := at_row dC hr
  have HNU := Lib.hid (numbers_any gb wd sA sC _ w3 c1 (by omega) (by omega) dC2 (by rw [← hwe]; omega))
  rw [hlen] at c3
  have HCL := Lib.hid (And.intro dl (And.intro dl2 hwe))
  rw [hrow] at d1
  have HR2 := Lib.hid (And.intro hlen hrow)
  clear dl dl2 c3' dC dC2 hwl c0 c1 hlen hrow hwe
  generalize ways[a][b] = way at *
  generalize ways[a] = wrow at *
  clear hr hm
  go_wp2_with fail
  refine (must_true _ _).mono ?_
  rintro e wm ⟨rfl, rfl⟩
  go_wp2_with fail
  refine HNU.out.mono ?_
  rintro e w4 ⟨v4, rfl, hR4, hb4⟩
  have hbr4 := blk_below H3.out.2.1 hb4
  have hz4 := blk_frozen hbr4 0
  have hc4 : w4.cell? ⟨w.heap.size + 1, 0, none⟩ = some (.int .i64 0) := (blk_cell hbr4 0).trans rfl
  have H4 := Aside0.mk (And.intro (below_then H3.out.1 H3.out.1.size hb4) (And.intro hbr4 hR4))
  obtain ⟨A4, c4', rfl⟩ := Kd.R_slice hR4
  clear hR4 hb4 hbr4 hz hc HNU c3 d1 d2
  generalize (way.map (numsT wd)).length = n4 at *
  go_wp2_with fail
  refine leaves_cons (f := 28) (args := #[.pointer (some ⟨w.heap.size + 1, 0, none⟩)]) (by simp) (by simp [go_sem]) ?_
  refine (catch_idlePaths ⟨w.heap.size + 1, 0, none⟩ _).mono ?_
  rintro e u' w'' ⟨rfl, rfl, rfl⟩
  have hbx := blk_put H4.out.2.1 0 (.int .i64 0) rfl
  have hcx := (blk_cell hbx 0).trans rfl
  rw [HC.out]
  have hR9 := R_set_low (j := 0) (u := .int .i64 0) H4.out.2.2 (blk_lt H3.out.2.1) H3.out.1.size
  have hB9 : Below w.heap.size w (w4.setCell ⟨w.heap.size + 1, 0, none⟩ (.int .i64 0)) := H4.out.1.setCell (by simp) _
  have hE9 : (resOf (Except.ok (wayAt ways (a : Int) (b : Int).toNat) : Except Int (List Tm))).1.map (numsT (wd : Int).toNat) = way.map (numsT wd) := by
   rw [Int.toNat_natCast, Int.toNat_natCast]
   show (wayAt ways (a : Int) b).map _ = _
   rw [HCL.out.2.2]
  rw [hE9]
  simp [Leaves, settle, results, Tryz.results6, go_sem, hcx, resOf]
  exact ⟨hR9, hB9⟩
end Go.Proofs.YtbkfnmgkcgnifaaGreat
namespace Go.Proofs.YtbkfnmgkcgnifaaGreat
open Go.RowKit Go.Shelf Go.Proofs.YtbkfnmgkcgnifaaGreatW.PrintWords Go.Proofs.YtbkfnmgkcgnifaaGreatW.PrintLast Mdl
namespace Mdl
def beliefX (p : Plan) (script : List Int) (n who : Int) : Except Int (List (List Tm)) := match begunP p script n who with
 | .error c => .error c
 | .ok ways => .ok (beliefP p.N ways (iterS p.E p.workers.toNat n.toNat (beginS p.workers.toNat p.start script)) who.toNat)
end Mdl
set_option maxRecDepth 8000 in
set_option maxHeartbeats 8000000 in
theorem belief_any (p : Plan) (eA mA sA : Option Addr) (eC mC sC : Nat) (script : List Int) (n who : Int) (hn64 : n ≤ 9223372036854775807) (w : World) (hp : PlanAt w p eA mA) (hsC : kI.C w sA script.length script) (hsl : script.length ≤ sC) :
  Calls Tryz.prog 15 #[planV p eA eC mA mC, .slice sA script.length sC, .int .i64 n, .int .i64 who] w fun e w' => ∃ v, e = .returned (.tuple #[v, .int .i64 (resOf (beliefX p script n who)).2]) ∧ kLLI.R 28 w' w.heap.size (fun _ => True) v ((resOf (beliefX p script n who)).1.map (List.map (numsT p.Wd.toNat))) ∧ Below w.heap.size w w' := by
 have hmf : ∀ (fn : Fn) (first cap : Array Value) (w : World), (Instr.makeFunc fn first cap).run Tryz.prog w = .ok (.func fn first cap) w := fun _ _ _ _ => rfl
 have hz1 : (w.alloc (.cells #[.int .i64 p.N, .int .i64 p.Wd, .slice eA p.E.length eC, .int .i64 p.workers, .slice mA p.start.length mC] 27)).heap.size = w.heap.size + 1 := by simp
 have b2 : Below w.heap.size w ((w.alloc (.cells #[.int .i64 p.N, .int .i64 p.Wd, .slice eA p.E.length eC, .int .i64 p.workers, .slice mA p.start.length mC] 27)).alloc (.cells #[.int .i64 0] 29)) := two_new
 have hbk : ((w.alloc (.cells #[.int .i64 p.N, .int .i64 p.Wd, .slice eA p.E.length eC, .int .i64 p.workers, .slice mA p.start.length mC] 27)).alloc (.cells #[.int .i64 0] 29)).heap[w.heap.size]? = some (.cells #[.int .i64 p.N, .int .i64 p.Wd, .slice eA p.E.length eC, .int .i64 p.workers, .slice mA p.start.length mC] 27 (0, 0)) := blk_below (heap_alloc_new w _) (below_new _ _)
 have hbr := heap_alloc_new (w.alloc (.cells #[.int .i64 p.N, .int .i64 p.Wd, .slice eA p.E.length eC, .int .i64 p.workers, .slice mA p.start.length mC] 27)) (.cells #[.int .i64 0] 29)
 rw [hz1] at hbr
 have HAF := Lib.hid (after_any p eA mA sA eC mC sC script n who hn64 _ (hp.below b2) (Kd.C_below hsC b2) hsl)
 have hSm := Kd.C_max hp.hS
 have hEm := Kd.C_max hp.hE
 have hSc := Kd.C_max hsC
 have H1 := Aside0.mk (And.intro b2 (And.intro hbk hbr))
 clear hp hsC hsl hz1 hbk hbr b2
 simp only [planV] at HAF ⊢
 go_enter_defers Tryz.func15, Tryz.ntmps15
 go_upto_region 1 with fail
 generalize (w.alloc (.cells #[.int .i64 p.N, .int .i64 p.Wd, .slice eA p.E.length eC, .int .i64 p.workers, .slice mA p.start.length mC] 27)).alloc (.cells #[.int .i64 0] 29) = w2 at *
 have p0 : w2.cell? ⟨w.heap.size, 0, none⟩ = some (.int .i64 p.N) := (blk_cell H1.out.2.1 0).trans rfl
 have p1 : w2.cell? ⟨w.heap.size, 1, none⟩ = some (.int .i64 p.Wd) := (blk_cell H1.out.2.1 1).trans rfl
 have p2 : w2.cell? ⟨w.heap.size, 2, none⟩ = some (.slice eA p.E.length eC) := (blk_cell H1.out.2.1 2).trans rfl
 have p3 : w2.cell? ⟨w.heap.size, 3, none⟩ = some (.int .i64 p.workers) := (blk_cell H1.out.2.1 3).trans rfl
 have p4 : w2.cell? ⟨w.heap.size, 4, none⟩ = some (.slice mA p.start.length mC) := (blk_cell H1.out.2.1 4).trans rfl
 go_wp2_with fail
 refine HAF.out.mono ?_
 rintro e w3 h3
 unfold AfterPost at h3
 cases ho : begunP p script n who with
 | error c =>
  rw [ho] at h3
  obtain ⟨rfl, hb3⟩ := h3
  have HC := Lib.hid (show beliefX p script n who = .error c by simp only [beliefX, ho])
  have hbr := blk_below H1.out.2.2 hb3
  have hb := below_then H1.out.1 H1.out.1.size hb3
  refine leaves_cons (f := 53) (args := #[.pointer (some ⟨w.heap.size + 1, 0, none⟩)]) (by simp) (by simp [go_sem]) ?_
  refine (catch_stopBelief ⟨w.heap.size + 1, 0, none⟩ 0 c w3 ((blk_cell hbr 0).trans rfl) (blk_frozen hbr 0)).mono ?_
  rintro e u' w'' ⟨rfl, rfl, rfl⟩
  have hbx := blk_put (blk_below hbr (below_new w3 (.cells #[.int .i64 c] 126))) 0 (.int .i64 c) rfl
  have hcx := (blk_cell hbx 0).trans rfl
  have hb5 := below_then hb hb.size (below_new w3 (.cells #[.int .i64 c] 126))
  rw [HC.out]
  simp [Leaves, settle, results, Tryz.results15, go_sem, hcx, resOf]
  exact ⟨Kd.R_nil _ _ _ _ _, hb5.setCell (by simp) _⟩
 | ok ways =>
  rw [ho] at h3
  obtain ⟨rb, w0, G, rfl, hrb, hb0, hgb, hG, q, hR⟩ := h3
  have hb3 := below_then hb0 hb0.size hR.below
  have hb := below_then H1.out.1 H1.out.1.size hb3
  have hbr := blk_below H1.out.2.2 hb3
  have HC := Lib.hid (show beliefX p script n who = .ok (beliefP p.N ways (iterS p.E p.workers.toNat n.toNat (beginS p.workers.toNat p.start script)) who.toNat) by simp only [beliefX, ho])
  have HB := Lib.hid (begun_ok ho)
  have HG := Aside0.mk hG
  have HR := Aside0.mk hR
  have HH := Aside0.mk (And.intro hb (And.intro hbr hb0))
  clear ho hG hR hb3 hb hbr hb0 hgb p0 p1 p2 p3 p4 HAF
  subst hrb
  have hN1 := HB.out.N1
  have hN8 := HB.out.N8
  have hWd1 := HB.out.Wd1
  have hWd3 := HB.out.Wd3
  have hwho0 := HB.out.who0
  have hwhoW := HB.out.whoW
  have hRe := iterS_reach (n := n.toNat) HB.out.w4 HB.out.E _ HB.out.reach
  generalize iterS p.E p.workers.toNat n.toNat (beginS p.workers.toNat p.start script) = st at *
  have HRE := Lib.hid hRe
  clear hRe
  generalize p.workers.toNat = W at *
  obtain ⟨nd, hnd⟩ : ∃ m : Nat, p.N = m := ⟨p.N.toNat, by omega⟩
  obtain ⟨wd, hwd⟩ : ∃ m : Nat, p.Wd = m := ⟨p.Wd.toNat, by omega⟩
  obtain ⟨x, rfl⟩ : ∃ x : Nat, who = x := ⟨who.toNat, by omega⟩
  have hxW : x < W := by omega
  have HNW := Lib.hid (And.intro hnd hwd)
  have hnd1 : 1 ≤ nd ∧ nd ≤ 8 ∧ 1 ≤ wd ∧ wd ≤ 3 := by omega
  obtain ⟨hd1, hd8, hd1', hd3⟩ := hnd1
  clear hnd hwd hN1 hN8 hWd1 hWd3
  obtain ⟨A, c, _, _, _, _, _, _, r3, r4, _⟩ := HR.out.cells
  obtain ⟨s1, s2, _, _⟩ := HR.out.wcells hxW
  have t0 : w3.cell? ⟨w.heap.size + 1, 0, none⟩ = some (.int .i64 0) := (blk_cell HH.out.2.1 0).trans rfl
  go_upto_region 3 with fail
  refine wp_region_noPanic ?_
  refine start_ (n := 20) (S := fun w' => w'.cell? ⟨G.rb, 3, none⟩ = some (.pointer (some ⟨G.gb, 0, none⟩)) ∧ w'.cell? ⟨G.rb, 4, none⟩ = some (.slice (some ⟨G.wa, 0, none⟩) W G.wc) ∧ w'.cell? ⟨G.wa, x, none⟩ = some (.pointer (some ⟨G.wb x, 0, none⟩)) ∧ w'.cell? ⟨G.wb x, 0, none⟩ = some (.map (some (G.lb x)))) (ds := [19]) (bs 20 0) (by kernel_rfl) rfl (by kernel_rfl) ⟨r3, r4, s1, s2⟩ (fun hHeld => ?_)
  have HD := Aside0.mk (below_drew1 (Below.refl w3.heap.size w3))
  have HSH := Lib.hid (fun V (hb : Below w3.heap.size w3 V) => (And.intro (pw_cell_below hb r3) (And.intro (pw_cell_below hb r4) (And.intro (pw_cell_below hb s1) (pw_cell_below hb s2)))))
  clear r3 r4 s1 s2 t0
  generalize w3.drew = wdr at *
  have H2 := Aside0.mk (HR.out.to_below HD.out)
  have HF := Lib.hid (frontiers_any G.gb nd p.Wd p.E ways (G.lb x) (st.ledOf x) wdr (by have := HG.out.below H2.out.below; rwa [HNW.out.1] at this) (by omega) (by omega) 286331153 (by have := HB.out.ways; rwa [HNW.out.1, Int.toNat_natCast] at this) (fun e he => by have := (HRE.out.inv.ledN _ (getD_mem (l := st.led) (by rw [HRE.out.inv.llen]; exact hxW) [])).2 e he; unfold nodeOk at this; rwa [HNW.out.1] at this) (by have := HRE.out.led_len hxW; omega) (H2.out.led x hxW))
  refine pu 0 17 (bs 20 1) ?_
  refine pu 1 18 (bs 20 3) ?_
  refine pu 2 19 (bs 20 7) ?_
  refine pu 3 20 (bs 20 15) ?_
  refine tk4 4 21 (bs 20 31) hHeld ?_
  refine pu 5 22 (bs 20 63) ?_
  refine pu 6 23 (bs 20 127) ?_
  refine pu 7 24 (bs 20 255) ?_
  refine tk4 8 25 (bs 20 511) hHeld ?_
  refine pu 9 26 (bs 20 1023) ?_
  refine pu 10 27 (bs 20 2047) ?_
  refine tk4 11 28 (bs 20 4095) hHeld ?_
  refine pu 12 29 (bs 20 8191) ?_
  refine pu 13 30 (bs 20 16383) ?_
  refine tk4 14 31 (bs 20 32767) hHeld ?_
  refine pu 15 32 (bs 20 65535) ?_
  refine on0 16 33 (bs 20 131071) fun K hK => ?_
  refine gs0 Tryz.func48 #[.pointer (some ⟨G.gb, 0, none⟩), .func (.func 45) #[.agg #[.map (some (G.lb x))]] #[]] ?_
  refine HF.out.mono ?_
  rintro e w4 ⟨v4, xs, rfl, hxs, hR4, hb4⟩
  have hlx : xs.length ≤ 616 := by have := hxs.length_eq; have := posL_len (st.ledOf x); have := HRE.out.led_len hxW; omega
  have hfr : ∀ r ∈ frontP nd ways xs, r.length ≤ xs.length * 286331153 := rowP_len2 (by have := HB.out.ways; rwa [HNW.out.1, Int.toNat_natCast] at this) (fun y hy => by
   obtain ⟨e, he, rfl⟩ := posL_sub y (hxs.mem_iff.1 hy)
   have := (HRE.out.inv.ledN _ (getD_mem (l := st.led) (by rw [HRE.out.inv.llen]; exact hxW) [])).2 e he
   unfold nodeOk at this
   rwa [HNW.out.1] at this)
  rw [frontP_perm nd ways hxs] at hR4 hfr
  have hfl := front_len nd ways (posL (st.ledOf x))
  have HBP := Lib.hid (show beliefP p.N ways st x = frontP nd ways (posL (st.ledOf x)) by unfold beliefP; rw [HNW.out.1, Int.toNat_natCast])
  generalize frontP nd ways (posL (st.ledOf x)) = fr at *
  obtain ⟨A4, c4, rfl⟩ := Kd.R_slice hR4
  have HB4 := Lib.hid (below_then HD.out HD.out.size hb4)
  have hc1 := (HG.out.below (below_then HR.out.below HR.out.below.size HB4.out)).c1
  rw [HNW.out.2] at hc1
  have HTD := Lib.hid (told_any G.rb G.gb wd A4 c4 fr w4 (HSH.out _ HB4.out).1 hc1 (by omega) (by omega) (Kd.R_reads' hR4).2.2 (by omega) (fun r hr => by have := hfr r hr; have : xs.length * 286331153 ≤ 616 * 286331153 := Nat.mul_le_mul_right _ hlx; omega))
  refine ⟨_, rfl, hK.out _ _ (HSH.out _ HB4.out) (fun hHeld => ?_)⟩
  clear hxs hR4 hfr hlx hb4 hc1 hfl
  clear hK K
  refine nm0 (some 33) ?_
  refine on0 17 34 (bs 20 262143) fun K hK => ?_
  refine gs0 Tryz.func47 #[.pointer (some ⟨G.rb, 0, none⟩), .slice A4 fr.length c4] ?_
  refine HTD.out.mono ?_
  rintro e w5 ⟨v5, rfl, hR5, hb5⟩
  obtain ⟨A5, c5, rfl⟩ := Kd.R_slice hR5
  have HB5 := Lib.hid (below_then HB4.out HB4.out.size hb5)
  have H5 := Aside0.mk (And.intro (Kd.R_lower hR5 HB4.out.size) (blk_below HH.out.2.1 HB5.out))
  generalize (fr.map (List.map (numsT wd))).length = n5 at *
  have y0 := blk_frozen H5.out.2 0
  have z0 : w5.cell? ⟨w.heap.size + 1, 0, none⟩ = some (.int .i64 0) := (blk_cell H5.out.2 0).trans rfl
  refine ⟨_, rfl, hK.out _ _ (HSH.out _ HB5.out) (fun hHeld => ?_)⟩
  clear hR5 hb5
  clear hK K
  refine nm0 (some 34) ?_
  refine pu 18 8 (bs 20 524287) ?_
  refine la0 19 (bs 20 1048575) (N := none) fun K hK => ?_
  refine sk0 ?_
  refine hK.out _ _ ?_
  clear hK K hHeld
  refine dn0 ?_
  refine NoPanic.normal ?_
  go_wp2_with fail
  refine leaves_cons (f := 53) (args := #[.pointer (some ⟨w.heap.size + 1, 0, none⟩)]) (by simp) (by simp [go_sem]) ?_
  refine (catch_idleBelief ⟨w.heap.size + 1, 0, none⟩ _).mono ?_
  rintro e u' w'' ⟨rfl, rfl, rfl⟩
  have hbx := blk_put H5.out.2 0 (.int .i64 0) rfl
  have hcx := (blk_cell hbx 0).trans rfl
  have hR9 := R_set_low (j := 0) (u := .int .i64 0) H5.out.1 (blk_lt HH.out.2.1) HH.out.1.size
  have hB9 : Below w.heap.size w (w5.setCell ⟨w.heap.size + 1, 0, none⟩ (.int .i64 0)) := (below_then HH.out.1 HH.out.1.size HB5.out).setCell (by simp) _
  rw [HC.out]
  have hE9 : (resOf (Except.ok (beliefP p.N ways st (x : Int).toNat) : Except Int (List (List Tm)))).1.map (List.map (numsT p.Wd.toNat)) = fr.map (List.map (numsT wd)) := by
   rw [Int.toNat_natCast, HNW.out.2, Int.toNat_natCast]
   show (beliefP p.N ways st x).map _ = _
   rw [HBP.out]
  rw [hE9]
  simp [Leaves, settle, results, Tryz.results15, go_sem, hcx, resOf]
  exact ⟨hR9, hB9⟩
end Go.Proofs.YtbkfnmgkcgnifaaGreat
namespace Go.Proofs.YtbkfnmgkcgnifaaGreat
open Go.RowKit Go.Shelf Go.Proofs.YtbkfnmgkcgnifaaGreatW.PrintWords Go.Proofs.YtbkfnmgkcgnifaaGreatW.PrintLast Mdl
namespace Mdl
def cntOf (wd : Nat) (L : Led) (m : Mk) : Msg := ((m.1, numsT wd m.2), getL L m)
def ledgerL (wd : Nat) (L : Led) : List Msg := (sortM (L.map (·.1))).map (cntOf wd L)
def ledgerX (p : Plan) (script : List Int) (n who : Int) : Except Int (List Msg) := match begunP p script n who with
 | .error c => .error c
 | .ok ways => .ok (ledgerL p.Wd.toNat ((iterS p.E p.workers.toNat n.toNat (beginS p.workers.toNat p.start script)).ledOf who.toNat))
end Mdl
theorem Tryz.infoCnt : (Tryz.prog.info? 83).map (fun i => (i.zero, i.size, i.bytes)) = some (some (.agg #[.int .i64 0, .slice none 0 0, .int .i64 0]), 3, 40) := by kernel_rfl
set_option maxRecDepth 8000 in
set_option maxHeartbeats 8000000 in
theorem ledger_any (p : Plan) (eA mA sA : Option Addr) (eC mC sC : Nat) (script : List Int) (n who : Int) (hn64 : n ≤ 9223372036854775807) (w : World) (hp : PlanAt w p eA mA) (hsC : kI.C w sA script.length script) (hsl : script.length ≤ sC) :
  Calls Tryz.prog 18 #[planV p eA eC mA mC, .slice sA script.length sC, .int .i64 n, .int .i64 who] w fun e w' => ∃ v, e = .returned (.tuple #[v, .int .i64 (resOf (ledgerX p script n who)).2]) ∧ kMs.R 83 w' w.heap.size (fun _ => True) v (resOf (ledgerX p script n who)).1 ∧ Below w.heap.size w w' := by
 have hmf : ∀ (fn : Fn) (first cap : Array Value) (w : World), (Instr.makeFunc fn first cap).run Tryz.prog w = .ok (.func fn first cap) w := fun _ _ _ _ => rfl
 have hz1 : (w.alloc (.cells #[.int .i64 p.N, .int .i64 p.Wd, .slice eA p.E.length eC, .int .i64 p.workers, .slice mA p.start.length mC] 27)).heap.size = w.heap.size + 1 := by simp
 have b2 : Below w.heap.size w ((w.alloc (.cells #[.int .i64 p.N, .int .i64 p.Wd, .slice eA p.E.length eC, .int .i64 p.workers, .slice mA p.start.length mC] 27)).alloc (.cells #[.int .i64 0] 29)) := two_new
 have hbk : ((w.alloc (.cells #[.int .i64 p.N, .int .i64 p.Wd, .slice eA p.E.length eC, .int .i64 p.workers, .slice mA p.start.length mC] 27)).alloc (.cells #[.int .i64 0] 29)).heap[w.heap.size]? = some (.cells #[.int .i64 p.N, .int .i64 p.Wd, .slice eA p.E.length eC, .int .i64 p.workers, .slice mA p.start.length mC] 27 (0, 0)) := blk_below (heap_alloc_new w _) (below_new _ _)
 have hbr := heap_alloc_new (w.alloc (.cells #[.int .i64 p.N, .int .i64 p.Wd, .slice eA p.E.length eC, .int .i64 p.workers, .slice mA p.start.length mC] 27)) (.cells #[.int .i64 0] 29)
 rw [hz1] at hbr
 have HAF := Lib.hid (after_any p eA mA sA eC mC sC script n who hn64 _ (hp.below b2) (Kd.C_below hsC b2) hsl)
 have hSm := Kd.C_max hp.hS
 have hEm := Kd.C_max hp.hE
 have hSc := Kd.C_max hsC
 have H1 := Aside0.mk (And.intro b2 (And.intro hbk hbr))
 clear hp hsC hsl hz1 hbk hbr b2
 simp only [planV] at HAF ⊢
 go_enter_defers Tryz.func18, Tryz.ntmps18
 go_upto_region 1 with fail
 generalize (w.alloc (.cells #[.int .i64 p.N, .int .i64 p.Wd, .slice eA p.E.length eC, .int .i64 p.workers, .slice mA p.start.length mC] 27)).alloc (.cells #[.int .i64 0] 29) = w2 at *
 have p0 : w2.cell? ⟨w.heap.size, 0, none⟩ = some (.int .i64 p.N) := (blk_cell H1.out.2.1 0).trans rfl
 have p1 : w2.cell? ⟨w.heap.size, 1, none⟩ = some (.int .i64 p.Wd) := (blk_cell H1.out.2.1 1).trans rfl
 have p2 : w2.cell? ⟨w.heap.size, 2, none⟩ = some (.slice eA p.E.length eC) := (blk_cell H1.out.2.1 2).trans rfl
 have p3 : w2.cell? ⟨w.heap.size, 3, none⟩ = some (.int .i64 p.workers) := (blk_cell H1.out.2.1 3).trans rfl
 have p4 : w2.cell? ⟨w.heap.size, 4, none⟩ = some (.slice mA p.start.length mC) := (blk_cell H1.out.2.1 4).trans rfl
 go_wp2_with fail
 refine HAF.out.mono ?_
 rintro e w3 h3
 unfold AfterPost at h3
 cases ho : begunP p script n who with
 | error c =>
  rw [ho] at h3
  obtain ⟨rfl, hb3⟩ := h3
  have HC := Lib.hid (show ledgerX p script n who = .error c by simp only [ledgerX, ho])
  have hbr := blk_below H1.out.2.2 hb3
  have hb := below_then H1.out.1 H1.out.1.size hb3
  refine leaves_cons (f := 55) (args := #[.pointer (some ⟨w.heap.size + 1, 0, none⟩)]) (by simp) (by simp [go_sem]) ?_
  refine (catch_stopLedger ⟨w.heap.size + 1, 0, none⟩ 0 c w3 ((blk_cell hbr 0).trans rfl) (blk_frozen hbr 0)).mono ?_
  rintro e u' w'' ⟨rfl, rfl, rfl⟩
  have hbx := blk_put (blk_below hbr (below_new w3 (.cells #[.int .i64 c] 126))) 0 (.int .i64 c) rfl
  have hcx := (blk_cell hbx 0).trans rfl
  have hb5 := below_then hb hb.size (below_new w3 (.cells #[.int .i64 c] 126))
  rw [HC.out]
  simp [Leaves, settle, results, Tryz.results18, go_sem, hcx, resOf]
  exact ⟨Kd.R_nil _ _ _ _ _, hb5.setCell (by simp) _⟩
 | ok ways =>
  rw [ho] at h3
  obtain ⟨rb, w0, G, rfl, hrb, hb0, hgb, hG, q, hR⟩ := h3
  have hb3 := below_then hb0 hb0.size hR.below
  have hb := below_then H1.out.1 H1.out.1.size hb3
  have hbr := blk_below H1.out.2.2 hb3
  have HC := Lib.hid (show ledgerX p script n who = .ok (ledgerL p.Wd.toNat ((iterS p.E p.workers.toNat n.toNat (beginS p.workers.toNat p.start script)).ledOf who.toNat)) by simp only [ledgerX, ho])
  have HB := Lib.hid (begun_ok ho)
  have HG := Aside0.mk hG
  have HR := Aside0.mk hR
  have HH := Aside0.mk (And.intro hb (And.intro hbr hb0))
  clear ho hG hR hb3 hb hbr hb0 hgb p0 p1 p2 p3 p4 HAF
  subst hrb
  have hN1 := HB.out.N1
  have hN8 := HB.out.N8
  have hWd1 := HB.out.Wd1
  have hWd3 := HB.out.Wd3
  have hwho0 := HB.out.who0
  have hwhoW := HB.out.whoW
  have hRe := iterS_reach (n := n.toNat) HB.out.w4 HB.out.E _ HB.out.reach
  generalize iterS p.E p.workers.toNat n.toNat (beginS p.workers.toNat p.start script) = st at *
  have HRE := Lib.hid hRe
  clear hRe
  generalize p.workers.toNat = W at *
  obtain ⟨nd, hnd⟩ : ∃ m : Nat, p.N = m := ⟨p.N.toNat, by omega⟩
  obtain ⟨wd, hwd⟩ : ∃ m : Nat, p.Wd = m := ⟨p.Wd.toNat, by omega⟩
  obtain ⟨x, rfl⟩ : ∃ x : Nat, who = x := ⟨who.toNat, by omega⟩
  have hxW : x < W := by omega
  have HNW := Lib.hid (And.intro hnd hwd)
  have hnd1 : 1 ≤ nd ∧ nd ≤ 8 ∧ 1 ≤ wd ∧ wd ≤ 3 := by omega
  obtain ⟨hd1, hd8, hd1', hd3⟩ := hnd1
  clear hnd hwd hN1 hN8 hWd1 hWd3
  obtain ⟨A, c, _, _, _, _, _, _, r3, r4, _⟩ := HR.out.cells
  obtain ⟨s1, s2, _, _⟩ := HR.out.wcells hxW
  have hkeys : ∀ e ∈ st.ledOf x, okM e.1 := fun e he => by
   have := (HRE.out.inv.ledN _ (getD_mem (l := st.led) (by rw [HRE.out.inv.llen]; exact hxW) [])).2 e he
   have h8 := HB.out.N8
   unfold nodeOk at this
   unfold okM; omega
  have HMA := Lib.hid (marks_any (G.lb x) (st.ledOf x) w3 (HR.out.led x hxW) hkeys (by have := HRE.out.led_len hxW; omega))
  clear hkeys
  go_wp2_with fail
  refine HMA.out.mono ?_
  rintro e w4 ⟨v4, rfl, hR4, hb4⟩
  obtain ⟨ks, hks⟩ : ∃ ks, sortM ((st.ledOf x).map (·.1)) = ks := ⟨_, rfl⟩
  have hkl : ks.length ≤ 616 := by
   have h1 := sortM_len ((st.ledOf x).map (·.1))
   rw [List.length_map, hks] at h1
   have := HRE.out.led_len hxW; omega
  rw [hks] at hR4
  obtain ⟨A4, c4, rfl⟩ := Kd.R_slice hR4
  have HKS := Lib.hid hks
  have H4 := Aside0.mk (And.intro (HR.out.to_below hb4) (And.intro (Kd.R_reads' hR4).2.2 (blk_below HH.out.2.1 hb4)))
  have HB4 := Lib.hid hb4
  clear hks hR4 hb4 r3 r4 s1 s2
  obtain ⟨nk, hnk⟩ : ∃ nk, ks.length = nk := ⟨_, rfl⟩
  rw [hnk]
  have HNK := Lib.hid hnk
  have hkn616 : nk ≤ 616 := by omega
  clear hnk
  go_wp2_with fail
  go_loopw [12, 34] (fun o i wr => ∃ k : Nat, k ≤ nk ∧ i = .int .i64 k ∧ Aside0 (kMs.R 83 wr w4.heap.size (fun _ => True) o ((ks.take k).map (cntOf wd (st.ledOf x))) ∧ Below w4.heap.size w4 wr)) (fun _ i _ => nk - (intOf i).toNat)
  case atStart => exact ⟨0, Nat.zero_le _, rfl, ⟨Kd.R_nil _ _ _ _ _, Below.refl _ _⟩⟩
  case round =>
   obtain ⟨k, hk, rfl, hX⟩ := hrel
   by_cases hlt : k < nk
   ·have hlt2 : k < ks.length := by have := HNK.out; omega
    obtain ⟨ad, rfl, m0, m1, m2, m3⟩ := at_mk (Kd.C_below H4.out.2.1 hX.out.2) hlt2
    have hkE : (k : Int) < nk := by omega
    have hk0 : (0 : Int) ≤ k := by omega
    have HEK := Lib.hid (show (ks.take (k + 1)).map (cntOf wd (st.ledOf x)) = (ks.take k).map (cntOf wd (st.ledOf x)) ++ [cntOf wd (st.ledOf x) ks[k]] by rw [List.take_succ_eq_append_getElem hlt2, List.map_append]; rfl)
    have hlm : ((ks.take k).map (cntOf wd (st.ledOf x))).length ≤ 616 := by have := HNK.out; simp; omega
    have HLM := Lib.hid hlm
    clear hlm
    generalize ks[k] = mk at *
    clear hlt2
    have hL := (H4.out.1.led x hxW).below hX.out.2
    obtain ⟨s1, s2, _, _⟩ := H4.out.1.wcells hxW
    have s2 := pw_cell_below hX.out.2 s2
    clear s1
    go_upto_region 8 with fail
    refine wp_region_noPanic ?_
    have bE := below_new wr (.cells #[.int .i64 mk.1, .int .i64 mk.2.1, .int .i64 mk.2.2.1, .int .i64 mk.2.2.2] 101)
    have e0 : (wr.alloc (.cells #[.int .i64 mk.1, .int .i64 mk.2.1, .int .i64 mk.2.2.1, .int .i64 mk.2.2.2] 101)).cell? ⟨wr.heap.size, 0, none⟩ = some (.int .i64 mk.1) := new_cell wr _ _ 0
    have e1 : (wr.alloc (.cells #[.int .i64 mk.1, .int .i64 mk.2.1, .int .i64 mk.2.2.1, .int .i64 mk.2.2.2] 101)).cell? ⟨wr.heap.size, 1, none⟩ = some (.int .i64 mk.2.1) := new_cell wr _ _ 1
    have e2 : (wr.alloc (.cells #[.int .i64 mk.1, .int .i64 mk.2.1, .int .i64 mk.2.2.1, .int .i64 mk.2.2.2] 101)).cell? ⟨wr.heap.size, 2, none⟩ = some (.int .i64 mk.2.2.1) := new_cell wr _ _ 2
    have e3 : (wr.alloc (.cells #[.int .i64 mk.1, .int .i64 mk.2.1, .int .i64 mk.2.2.1, .int .i64 mk.2.2.2] 101)).cell? ⟨wr.heap.size, 3, none⟩ = some (.int .i64 mk.2.2.2) := new_cell wr _ _ 3
    have f2 := pw_cell_below bE s2
    have HSH := Lib.hid (fun V (hb : Below (wr.alloc (.cells #[.int .i64 mk.1, .int .i64 mk.2.1, .int .i64 mk.2.2.1, .int .i64 mk.2.2.2] 101)).heap.size (wr.alloc (.cells #[.int .i64 mk.1, .int .i64 mk.2.1, .int .i64 mk.2.2.1, .int .i64 mk.2.2.2] 101)) V) => show V.cell? ⟨wr.heap.size, 0, none⟩ = some (.int .i64 mk.1) ∧ V.cell? ⟨wr.heap.size, 1, none⟩ = some (.int .i64 mk.2.1) ∧ V.cell? ⟨wr.heap.size, 2, none⟩ = some (.int .i64 mk.2.2.1) ∧ V.cell? ⟨wr.heap.size, 3, none⟩ = some (.int .i64 mk.2.2.2) ∧ V.cell? ⟨G.wb x, 0, none⟩ = some (.map (some (G.lb x))) ∧ (Instr.lookup 86 (.map (some (G.lb x))) (.agg #[.int .i64 mk.1, .int .i64 mk.2.1, .int .i64 mk.2.2.1, .int .i64 mk.2.2.2]) false).run Tryz.prog V = .ok (.int .i64 (getL (st.ledOf x) mk)) V from
     ⟨pw_cell_below hb e0, pw_cell_below hb e1, pw_cell_below hb e2, pw_cell_below hb e3, pw_cell_below hb f2, run_lookup_led ((hL.below bE).below hb) mk⟩)
    have HX := Aside0.mk (And.intro (Kd.R_below hX.out.1 bE) (below_then hX.out.2 hX.out.2.size bE))
    clear e0 e1 e2 e3 f2 s2 hL m0 m1 m2 m3 hX bE
    generalize wr.alloc (.cells #[.int .i64 mk.1, .int .i64 mk.2.1, .int .i64 mk.2.2.1, .int .i64 mk.2.2.2] 101) = wq at *
    generalize wr.heap.size = be at *
    have HD := Aside0.mk (below_drew1 (Below.refl wq.heap.size wq))
    refine start_ (n := 15) (S := fun V => V.cell? ⟨be, 0, none⟩ = some (.int .i64 mk.1) ∧ V.cell? ⟨be, 1, none⟩ = some (.int .i64 mk.2.1) ∧ V.cell? ⟨be, 2, none⟩ = some (.int .i64 mk.2.2.1) ∧ V.cell? ⟨be, 3, none⟩ = some (.int .i64 mk.2.2.2) ∧ V.cell? ⟨G.wb x, 0, none⟩ = some (.map (some (G.lb x))) ∧ (Instr.lookup 86 (.map (some (G.lb x))) (.agg #[.int .i64 mk.1, .int .i64 mk.2.1, .int .i64 mk.2.2.1, .int .i64 mk.2.2.2]) false).run Tryz.prog V = .ok (.int .i64 (getL (st.ledOf x) mk)) V) (ds := [13]) (bs 15 0) (by kernel_rfl) rfl (by kernel_rfl) (HSH.out wq.drew HD.out) (fun hHeld => ?_)
    generalize wq.drew = wdr at *
    refine pu 0 38 (bs 15 1) ?_
    refine pu 1 39 (bs 15 3) ?_
    refine tk6 2 40 (bs 15 7) hHeld ?_
    refine pu 4 42 (bs 15 23) ?_
    refine pu 5 43 (bs 15 55) ?_
    refine pu 6 44 (bs 15 119) ?_
    refine pu 7 45 (bs 15 247) ?_
    refine tk6 8 46 (bs 15 503) hHeld ?_
    refine tk6 9 47 (bs 15 1015) hHeld ?_
    refine tk6 10 48 (bs 15 2039) hHeld ?_
    have hrb : wdr.cell? ⟨G.rb, 3, none⟩ = some (.pointer (some ⟨G.gb, 0, none⟩)) := by
     obtain ⟨_, _, _, _, _, _, _, _, r3, _⟩ := H4.out.1.cells
     exact pw_cell_below HD.out (pw_cell_below HX.out.2 r3)
    have hgb : wdr.cell? ⟨G.gb, 1, none⟩ = some (.int .i64 wd) := by
     have h := (HG.out.below H4.out.1.below).c1
     rw [HNW.out.2] at h
     exact pw_cell_below HD.out (pw_cell_below HX.out.2 h)
    have HPU := public_any G.rb G.gb wd mk wdr hrb hgb (by omega) (by omega)
    simp only [mkV] at HPU
    have HPU := Lib.hid HPU
    clear hrb hgb
    refine on0 3 41 (bs 15 2047) fun K hK => ?_
    refine gs0 Tryz.func57 #[.pointer (some ⟨G.rb, 0, none⟩), .agg #[.int .i64 mk.1, .int .i64 mk.2.1, .int .i64 mk.2.2.1, .int .i64 mk.2.2.2]] ?_
    refine HPU.out.mono ?_
    rintro e v5 ⟨pv, rfl, hR5, hb5⟩
    obtain ⟨A5, c5, rfl⟩ := Kd.R_slice hR5
    have HB5 := Lib.hid (below_then HD.out HD.out.size hb5)
    have hbase := HX.out.2.size
    have HOld := Aside0.mk (And.intro (Kd.R_below HX.out.1 HB5.out) (below_then HX.out.2 HX.out.2.size HB5.out))
    have HMn := Aside0.mk (Kd.R_lower (Kd.R_mono (Kd.R_newR hR5 (Kd.R_below HX.out.1 HD.out)) (fun _ h => h.2)) (base' := w4.heap.size) (by have := HD.out.size; omega))
    refine ⟨_, rfl, hK.out _ _ (HSH.out _ HB5.out) (fun hHeld => ?_)⟩
    clear hR5 hb5 hbase
    generalize (numsT wd mk.2).length = n5 at *
    clear hK K
    refine nm0 (some 41) ?_
    refine pu 11 49 (bs 15 4095) ?_
    refine on0 12 50 (bs 15 8191) fun K hK => ?_
    refine va0 ?_
    refine hK.out _ _ (HSH.out _ (below_then HB5.out HB5.out.size (below_new v5 _))) (fun hHeld => ?_)
    clear hK K
    refine nm0 (some 50) ?_
    refine la0 13 (bs 15 16383) (N := (some 51)) fun K hK => ?_
    refine Kd.R_append_step kMs (w0 := w4) w4.heap.size (by rfl) (.tmp 38) (.tmp 50) 43 83 _ 40 rfl Tryz.underlying43 Tryz.infoCnt rfl (by decide) (by decide) u12 ((ks.take k).map (cntOf wd (st.ledOf x))) (cntOf wd (st.ledOf x) mk) [.int .i64 mk.1, .slice A5 n5 c5, .int .i64 (getL (st.ledOf x) mk)] (fun _ => True) (fun k => some k ≠ u12.ownBlock) rfl rfl ⟨[_, _], [_], rfl, ⟨[_], [_], rfl, rfl, ⟨_, rfl, HMn.out⟩⟩, rfl⟩ (fun _ h => ⟨trivial, h⟩) (fun _ _ => trivial) HOld.out.1 HOld.out.2 HOld.out.2.size (by have := HLM.out; omega) ?_
    intro v6 w6 hR6 hb6 hg6 hat6
    refine hK.out _ _ ?_
    clear hK K
    refine nm0 (some 51) ?_
    refine pu 14 12 (bs 15 32767) ?_
    refine dn0 ?_
    refine NoPanic.normal ?_
    have HX6 := Aside0.mk (show kMs.R 83 w6 w4.heap.size (fun _ => True) v6 ((ks.take (k + 1)).map (cntOf wd (st.ledOf x))) ∧ Below w4.heap.size w4 w6 from ⟨by rw [HEK.out]; exact hR6, hb6⟩)
    clear hR6 hb6 hg6 hat6 hHeld
    go_wp2_with fail
    exact ⟨⟨k + 1, by omega, by go_num, HX6⟩, by simp [intOf]; omega⟩
   ·have hkE : ¬ ((k : Int) < nk) := by omega
    have hkn : k = nk := by omega
    have hX2 := hX.out
    rw [hkn, ← HNK.out, List.take_length] at hX2
    have HX := Aside0.mk (And.intro hX2.1 (And.intro hX2.2 (blk_below H4.out.2.2 hX2.2)))
    have y0 := blk_frozen HX.out.2.2 0
    have z0 : wr.cell? ⟨w.heap.size + 1, 0, none⟩ = some (.int .i64 0) := (blk_cell HX.out.2.2 0).trans rfl
    clear hX hX2 hkn
    go_wp2_with fail
    refine leaves_cons (f := 55) (args := #[.pointer (some ⟨w.heap.size + 1, 0, none⟩)]) (by simp) (by simp [go_sem]) ?_
    refine (catch_idleLedger ⟨w.heap.size + 1, 0, none⟩ _).mono ?_
    rintro e u' w'' ⟨rfl, rfl, rfl⟩
    have hbx := blk_put HX.out.2.2 0 (.int .i64 0) rfl
    have hcx := (blk_cell hbx 0).trans rfl
    have hBw4 := below_then HH.out.1 HH.out.1.size HB4.out
    have hR9 := R_set_low (b' := w.heap.size) (j := 0) (u := .int .i64 0) HX.out.1 (blk_lt H4.out.2.2) hBw4.size
    have hB9 : Below w.heap.size w (wr.setCell ⟨w.heap.size + 1, 0, none⟩ (.int .i64 0)) := (below_then hBw4 hBw4.size HX.out.2.1).setCell (by simp) _
    rw [HC.out]
    have hE9 : (resOf (Except.ok (ledgerL p.Wd.toNat (st.ledOf (x : Int).toNat)) : Except Int (List Msg))).1 = ks.map (cntOf wd (st.ledOf x)) := by
     rw [Int.toNat_natCast, HNW.out.2, Int.toNat_natCast]
     show ledgerL wd (st.ledOf x) = _
     unfold ledgerL
     rw [HKS.out]
    rw [hE9]
    simp [Leaves, settle, results, Tryz.results18, go_sem, hcx, resOf]
    exact ⟨hR9, hB9⟩
end Go.Proofs.YtbkfnmgkcgnifaaGreat
namespace Go.Proofs.YtbkfnmgkcgnifaaGreat
open Go.RowKit Go.Shelf Go.Proofs.YtbkfnmgkcgnifaaGreatW.PrintWords Go.Proofs.YtbkfnmgkcgnifaaGreatW.PrintLast Mdl
namespace Mdl
def heldOf (wd : Nat) (m : Mk) : Int × List Int := (m.1, numsT wd m.2)
def heldL (wd : Nat) (L : Led) : List (Int × List Int) := (sortM (L.map (·.1))).flatMap fun m => List.replicate (getL L m).toNat (heldOf wd m)
def heldX (p : Plan) (script : List Int) (n who : Int) : Except Int (List (Int × List Int)) := match begunP p script n who with
 | .error c => .error c
 | .ok ways => .ok (heldL p.Wd.toNat ((iterS p.E p.workers.toNat n.toNat (beginS p.workers.toNat p.start script)).hasOf who.toNat))
theorem getL_le {L : Led} (h : Pos L) {m : Mk} (hm : m ∈ L.map (·.1)) : 0 ≤ getL L m ∧ (getL L m).toNat ≤ cnt L := by
 obtain ⟨e, he, rfl⟩ := List.mem_map.1 hm
 have hg : getL L e.1 = e.2 := getL_mem h.nodup (by exact he)
 have hc := cnt_perm (drop_key h.nodup (m := e.1) (v := e.2) (by exact he))
 rw [cnt_cons] at hc
 have := h.pos e he
 rw [hg]
 simp only at hc
 omega
end Mdl
abbrev kMk : Kd (Int × List Int) := Kd.pair kI kLI
theorem Tryz.infoAmark : (Tryz.prog.info? 57).map (fun i => (i.zero, i.size, i.bytes)) = some (some (.agg #[.int .i64 0, .slice none 0 0]), 2, 32) := by kernel_rfl
set_option maxRecDepth 8000 in
set_option maxHeartbeats 8000000 in
theorem held_any (p : Plan) (eA mA sA : Option Addr) (eC mC sC : Nat) (script : List Int) (n who : Int) (hn64 : n ≤ 9223372036854775807) (w : World) (hp : PlanAt w p eA mA) (hsC : kI.C w sA script.length script) (hsl : script.length ≤ sC) :
  Calls Tryz.prog 20 #[planV p eA eC mA mC, .slice sA script.length sC, .int .i64 n, .int .i64 who] w fun e w' => ∃ v, e = .returned (.tuple #[v, .int .i64 (resOf (heldX p script n who)).2]) ∧ kMk.R 57 w' w.heap.size (fun _ => True) v (resOf (heldX p script n who)).1 ∧ Below w.heap.size w w' := by
 have hmf : ∀ (fn : Fn) (first cap : Array Value) (w : World), (Instr.makeFunc fn first cap).run Tryz.prog w = .ok (.func fn first cap) w := fun _ _ _ _ => rfl
 have hz1 : (w.alloc (.cells #[.int .i64 p.N, .int .i64 p.Wd, .slice eA p.E.length eC, .int .i64 p.workers, .slice mA p.start.length mC] 27)).heap.size = w.heap.size + 1 := by simp
 have b2 : Below w.heap.size w ((w.alloc (.cells #[.int .i64 p.N, .int .i64 p.Wd, .slice eA p.E.length eC, .int .i64 p.workers, .slice mA p.start.length mC] 27)).alloc (.cells #[.int .i64 0] 29)) := two_new
 have hbk : ((w.alloc (.cells #[.int .i64 p.N, .int .i64 p.Wd, .slice eA p.E.length eC, .int .i64 p.workers, .slice mA p.start.length mC] 27)).alloc (.cells #[.int .i64 0] 29)).heap[w.heap.size]? = some (.cells #[.int .i64 p.N, .int .i64 p.Wd, .slice eA p.E.length eC, .int .i64 p.workers, .slice mA p.start.length mC] 27 (0, 0)) := blk_below (heap_alloc_new w _) (below_new _ _)
 have hbr := heap_alloc_new (w.alloc (.cells #[.int .i64 p.N, .int .i64 p.Wd, .slice eA p.E.length eC, .int .i64 p.workers, .slice mA p.start.length mC] 27)) (.cells #[.int .i64 0] 29)
 rw [hz1] at hbr
 have HAF := Lib.hid (after_any p eA mA sA eC mC sC script n who hn64 _ (hp.below b2) (Kd.C_below hsC b2) hsl)
 have hSm := Kd.C_max hp.hS
 have hEm := Kd.C_max hp.hE
 have hSc := Kd.C_max hsC
 have H1 := Aside0.mk (And.intro b2 (And.intro hbk hbr))
 clear hp hsC hsl hz1 hbk hbr b2
 simp only [planV] at HAF ⊢
 go_enter_defers Tryz.func20, Tryz.ntmps20
 go_upto_region 1 with fail
 generalize (w.alloc (.cells #[.int .i64 p.N, .int .i64 p.Wd, .slice eA p.E.length eC, .int .i64 p.workers, .slice mA p.start.length mC] 27)).alloc (.cells #[.int .i64 0] 29) = w2 at *
 have p0 : w2.cell? ⟨w.heap.size, 0, none⟩ = some (.int .i64 p.N) := (blk_cell H1.out.2.1 0).trans rfl
 have p1 : w2.cell? ⟨w.heap.size, 1, none⟩ = some (.int .i64 p.Wd) := (blk_cell H1.out.2.1 1).trans rfl
 have p2 : w2.cell? ⟨w.heap.size, 2, none⟩ = some (.slice eA p.E.length eC) := (blk_cell H1.out.2.1 2).trans rfl
 have p3 : w2.cell? ⟨w.heap.size, 3, none⟩ = some (.int .i64 p.workers) := (blk_cell H1.out.2.1 3).trans rfl
 have p4 : w2.cell? ⟨w.heap.size, 4, none⟩ = some (.slice mA p.start.length mC) := (blk_cell H1.out.2.1 4).trans rfl
 go_wp2_with fail
 refine HAF.out.mono ?_
 rintro e w3 h3
 unfold AfterPost at h3
 cases ho : begunP p script n who with
 | error c =>
  rw [ho] at h3
  obtain ⟨rfl, hb3⟩ := h3
  have HC := Lib.hid (show heldX p script n who = .error c by simp only [heldX, ho])
  have hbr := blk_below H1.out.2.2 hb3
  have hb := below_then H1.out.1 H1.out.1.size hb3
  refine leaves_cons (f := 58) (args := #[.pointer (some ⟨w.heap.size + 1, 0, none⟩)]) (by simp) (by simp [go_sem]) ?_
  refine (catch_stopHeld ⟨w.heap.size + 1, 0, none⟩ 0 c w3 ((blk_cell hbr 0).trans rfl) (blk_frozen hbr 0)).mono ?_
  rintro e u' w'' ⟨rfl, rfl, rfl⟩
  have hbx := blk_put (blk_below hbr (below_new w3 (.cells #[.int .i64 c] 126))) 0 (.int .i64 c) rfl
  have hcx := (blk_cell hbx 0).trans rfl
  have hb5 := below_then hb hb.size (below_new w3 (.cells #[.int .i64 c] 126))
  rw [HC.out]
  simp [Leaves, settle, results, Tryz.results20, go_sem, hcx, resOf]
  exact ⟨Kd.R_nil _ _ _ _ _, hb5.setCell (by simp) _⟩
 | ok ways =>
  rw [ho] at h3
  obtain ⟨rb, w0, G, rfl, hrb, hb0, hgb, hG, q, hR⟩ := h3
  have hb3 := below_then hb0 hb0.size hR.below
  have hb := below_then H1.out.1 H1.out.1.size hb3
  have hbr := blk_below H1.out.2.2 hb3
  have HC := Lib.hid (show heldX p script n who = .ok (heldL p.Wd.toNat ((iterS p.E p.workers.toNat n.toNat (beginS p.workers.toNat p.start script)).hasOf who.toNat)) by simp only [heldX, ho])
  have HB := Lib.hid (begun_ok ho)
  have HG := Aside0.mk hG
  have HR := Aside0.mk hR
  have HH := Aside0.mk (And.intro hb (And.intro hbr hb0))
  clear ho hG hR hb3 hb hbr hb0 hgb p0 p1 p2 p3 p4 HAF
  subst hrb
  have hN1 := HB.out.N1
  have hN8 := HB.out.N8
  have hWd1 := HB.out.Wd1
  have hWd3 := HB.out.Wd3
  have hwho0 := HB.out.who0
  have hwhoW := HB.out.whoW
  have hRe := iterS_reach (n := n.toNat) HB.out.w4 HB.out.E _ HB.out.reach
  generalize iterS p.E p.workers.toNat n.toNat (beginS p.workers.toNat p.start script) = st at *
  have HRE := Lib.hid hRe
  clear hRe
  generalize p.workers.toNat = W at *
  obtain ⟨nd, hnd⟩ : ∃ m : Nat, p.N = m := ⟨p.N.toNat, by omega⟩
  obtain ⟨wd, hwd⟩ : ∃ m : Nat, p.Wd = m := ⟨p.Wd.toNat, by omega⟩
  obtain ⟨x, rfl⟩ : ∃ x : Nat, who = x := ⟨who.toNat, by omega⟩
  have hxW : x < W := by omega
  have HNW := Lib.hid (And.intro hnd hwd)
  have hnd1 : 1 ≤ nd ∧ nd ≤ 8 ∧ 1 ≤ wd ∧ wd ≤ 3 := by omega
  obtain ⟨hd1, hd8, hd1', hd3⟩ := hnd1
  clear hnd hwd hN1 hN8 hWd1 hWd3
  obtain ⟨A, c, _, _, _, _, _, _, r3, r4, _⟩ := HR.out.cells
  obtain ⟨s1, _, s2, _⟩ := HR.out.wcells hxW
  go_upto_region 5 with fail
  have bL := below_new w3 (.cells #[.map (some (G.hb x))] 88)
  have l0 : (w3.alloc (.cells #[.map (some (G.hb x))] 88)).cell? ⟨w3.heap.size, 0, none⟩ = some (.map (some (G.hb x))) := new_cell w3 _ _ 0
  have HR3 := Aside0.mk (And.intro (HR.out.to_below bL) (And.intro (below_then HH.out.1 HH.out.1.size bL) (blk_below HH.out.2.1 bL)))
  clear r3 r4 s1 s2 bL
  generalize w3.alloc (.cells #[.map (some (G.hb x))] 88) = w3b at *
  generalize w3.heap.size = lbx at *
  have hmemL := getD_mem (l := st.has) (i := x) (by rw [HRE.out.inv.has.len]; exact hxW) []
  have hkeys : ∀ e ∈ st.hasOf x, okM e.1 := fun e he => by
   have := HRE.out.inv.has.node _ hmemL e he
   have h8 := HB.out.N8
   unfold nodeOk at this
   unfold okM; omega
  have hPos : Pos (st.hasOf x) := HRE.out.inv.has.pos _ hmemL
  have hcnt : cnt (st.hasOf x) ≤ 308 := by
   have h2 := cnt_le_msgs (has := st.has) (i := x) (by rw [HRE.out.inv.has.len]; exact hxW)
   have h3 := HRE.out.phi
   unfold Mdl.phi at h3
   show cnt (st.has.getD x []) ≤ 308
   omega
  have hlen := len_le_cnt hPos.pos
  have HMA := Lib.hid (marks_any (G.hb x) (st.hasOf x) w3b (HR3.out.1.has x hxW) hkeys (by omega))
  have HPC := Lib.hid (And.intro hPos hcnt)
  clear hkeys hPos hmemL hcnt
  go_wp2_with fail
  refine HMA.out.mono ?_
  rintro e w4 ⟨v4, rfl, hR4, hb4⟩
  obtain ⟨ks, hks⟩ : ∃ ks, sortM ((st.hasOf x).map (·.1)) = ks := ⟨_, rfl⟩
  have hkl : ks.length ≤ 308 := by
   have h1 := sortM_len ((st.hasOf x).map (·.1))
   rw [List.length_map, hks] at h1
   have := HPC.out.2; omega
  have HKM := Lib.hid (show ∀ m ∈ ks, 0 ≤ getL (st.hasOf x) m ∧ (getL (st.hasOf x) m).toNat ≤ 308 from fun m hm => by
   rw [← hks] at hm
   have h := getL_le HPC.out.1 (sortM_mem.1 hm)
   have := HPC.out.2
   omega)
  rw [hks] at hR4
  obtain ⟨A4, c4, rfl⟩ := Kd.R_slice hR4
  have HKS := Lib.hid hks
  have H4 := Aside0.mk (And.intro (HR3.out.1.to_below hb4) (And.intro (Kd.R_reads' hR4).2.2 (And.intro (blk_below HR3.out.2.2 hb4) (And.intro (pw_cell_below hb4 l0) (below_then HR3.out.2.1 HR3.out.2.1.size hb4)))))
  clear hks hR4 hb4 l0 hlen
  obtain ⟨nk, hnk⟩ : ∃ nk, ks.length = nk := ⟨_, rfl⟩
  rw [hnk]
  have HNK := Lib.hid hnk
  have hkn308 : nk ≤ 308 := by omega
  clear hnk
  go_wp2_with fail
  go_loopw [12, 34] (fun o i wr => ∃ k : Nat, k ≤ nk ∧ i = .int .i64 k ∧ Aside0 (kMk.R 57 wr w4.heap.size (fun _ => True) o ((ks.take k).flatMap fun m => List.replicate (getL (st.hasOf x) m).toNat (heldOf wd m)) ∧ Below w4.heap.size w4 wr)) (fun _ i _ => nk - (intOf i).toNat)
  case atStart => exact ⟨0, Nat.zero_le _, rfl, ⟨Kd.R_nil _ _ _ _ _, Below.refl _ _⟩⟩
  case round =>
   obtain ⟨k, hk, rfl, hX⟩ := hrel
   by_cases hlt : k < nk
   ·have hlt2 : k < ks.length := by have := HNK.out; omega
    obtain ⟨ad, rfl, m0, m1, m2, m3⟩ := at_mk (Kd.C_below H4.out.2.1 hX.out.2) hlt2
    have hkE : (k : Int) < nk := by omega
    have hk0 : (0 : Int) ≤ k := by omega
    have HEK := Lib.hid (show ((ks.take (k + 1)).flatMap fun m => List.replicate (getL (st.hasOf x) m).toNat (heldOf wd m)) = ((ks.take k).flatMap fun m => List.replicate (getL (st.hasOf x) m).toNat (heldOf wd m)) ++ List.replicate (getL (st.hasOf x) ks[k]).toNat (heldOf wd ks[k]) by rw [List.take_succ_eq_append_getElem hlt2, List.flatMap_append]; simp)
    have HLM := Lib.hid (show ((ks.take k).flatMap fun m => List.replicate (getL (st.hasOf x) m).toNat (heldOf wd m)).length ≤ 308 * 308 from by
     have h1 := flat_len (fun m => List.replicate (getL (st.hasOf x) m).toNat (heldOf wd m)) 308 (ks.take k) (fun m hm => by rw [List.length_replicate]; exact (HKM.out m (List.mem_of_mem_take hm)).2)
     have h2 : (ks.take k).length * 308 ≤ 308 * 308 := Nat.mul_le_mul_right _ (by rw [List.length_take]; omega)
     omega)
    have hcv := HKM.out _ (List.getElem_mem hlt2)
    generalize ks[k] = mk at *
    clear hlt2
    obtain ⟨cv, hcve⟩ : ∃ cv : Nat, getL (st.hasOf x) mk = cv := ⟨(getL (st.hasOf x) mk).toNat, by omega⟩
    have hcv308 : cv ≤ 308 := by rw [hcve] at hcv; simpa using hcv.2
    generalize hpre : ((ks.take k).flatMap fun m => List.replicate (getL (st.hasOf x) m).toNat (heldOf wd m)) = pre at *
    have hL := (H4.out.1.has x hxW).below hX.out.2
    have bE := below_new wr (.cells #[.int .i64 mk.1, .int .i64 mk.2.1, .int .i64 mk.2.2.1, .int .i64 mk.2.2.2] 101)
    have hlk : (Instr.lookup 86 (.map (some (G.hb x))) (.agg #[.int .i64 mk.1, .int .i64 mk.2.1, .int .i64 mk.2.2.1, .int .i64 mk.2.2.2]) false).run Tryz.prog (wr.alloc (.cells #[.int .i64 mk.1, .int .i64 mk.2.1, .int .i64 mk.2.2.1, .int .i64 mk.2.2.2] 101)) = .ok (.int .i64 cv) (wr.alloc (.cells #[.int .i64 mk.1, .int .i64 mk.2.1, .int .i64 mk.2.2.1, .int .i64 mk.2.2.2] 101)) := by
     rw [← hcve]; exact run_lookup_led (hL.below bE) mk
    have HCV := Lib.hid hcve
    have HPRE := Lib.hid hpre
    clear hcv hcve hpre hL
    have l0 := pw_cell_below bE (pw_cell_below hX.out.2 H4.out.2.2.2.1)
    have e0 : (wr.alloc (.cells #[.int .i64 mk.1, .int .i64 mk.2.1, .int .i64 mk.2.2.1, .int .i64 mk.2.2.2] 101)).cell? ⟨wr.heap.size, 0, none⟩ = some (.int .i64 mk.1) := new_cell wr _ _ 0
    have e1 : (wr.alloc (.cells #[.int .i64 mk.1, .int .i64 mk.2.1, .int .i64 mk.2.2.1, .int .i64 mk.2.2.2] 101)).cell? ⟨wr.heap.size, 1, none⟩ = some (.int .i64 mk.2.1) := new_cell wr _ _ 1
    have e2 : (wr.alloc (.cells #[.int .i64 mk.1, .int .i64 mk.2.1, .int .i64 mk.2.2.1, .int .i64 mk.2.2.2] 101)).cell? ⟨wr.heap.size, 2, none⟩ = some (.int .i64 mk.2.2.1) := new_cell wr _ _ 2
    have e3 : (wr.alloc (.cells #[.int .i64 mk.1, .int .i64 mk.2.1, .int .i64 mk.2.2.1, .int .i64 mk.2.2.2] 101)).cell? ⟨wr.heap.size, 3, none⟩ = some (.int .i64 mk.2.2.2) := new_cell wr _ _ 3
    have HX := Aside0.mk (And.intro (Kd.R_below hX.out.1 bE) (below_then hX.out.2 hX.out.2.size bE))
    have HE := Lib.hid (heap_alloc_new wr (.cells #[.int .i64 mk.1, .int .i64 mk.2.1, .int .i64 mk.2.2.1, .int .i64 mk.2.2.2] 101))
    clear hX bE
    go_upto_region 8 with fail
    generalize wr.alloc (.cells #[.int .i64 mk.1, .int .i64 mk.2.1, .int .i64 mk.2.2.1, .int .i64 mk.2.2.2] 101) = wq at *
    generalize wr.heap.size = be at *
    clear m0 m1 m2 m3
    go_wp2_with fail
    clear l0 hlk e0 e1 e2 e3
    go_loopw [12, 42] (fun o i wv => ∃ j : Nat, j ≤ cv ∧ i = .int .i64 j ∧ Aside0 (kMk.R 57 wv w4.heap.size (fun _ => True) o (pre ++ List.replicate j (heldOf wd mk)) ∧ Below w4.heap.size w4 wv ∧ wv.heap[be]? = some (.cells #[.int .i64 mk.1, .int .i64 mk.2.1, .int .i64 mk.2.2.1, .int .i64 mk.2.2.2] 101 (0, 0)))) (fun _ i _ => cv - (intOf i).toNat)
    case atStart => exact ⟨0, Nat.zero_le _, rfl, ⟨by rw [List.replicate_zero, List.append_nil]; exact HX.out.1, HX.out.2, HE.out⟩⟩
    case round =>
     obtain ⟨j, hj, rfl, hY⟩ := hrel
     by_cases hjl : j < cv
     ·have hjE : (j : Int) < cv := by omega
      have hj0 : (0 : Int) ≤ j := by omega
      have HY := Aside0.mk hY.out
      have e0 : wr.cell? ⟨be, 0, none⟩ = some (.int .i64 mk.1) := (blk_cell HY.out.2.2 0).trans rfl
      have e1 : wr.cell? ⟨be, 1, none⟩ = some (.int .i64 mk.2.1) := (blk_cell HY.out.2.2 1).trans rfl
      have e2 : wr.cell? ⟨be, 2, none⟩ = some (.int .i64 mk.2.2.1) := (blk_cell HY.out.2.2 2).trans rfl
      have e3 : wr.cell? ⟨be, 3, none⟩ = some (.int .i64 mk.2.2.2) := (blk_cell HY.out.2.2 3).trans rfl
      have hrb : wr.cell? ⟨G.rb, 3, none⟩ = some (.pointer (some ⟨G.gb, 0, none⟩)) := by
       obtain ⟨_, _, _, _, _, _, _, _, r3, _⟩ := H4.out.1.cells
       exact pw_cell_below HY.out.2.1 r3
      have hgb : wr.cell? ⟨G.gb, 1, none⟩ = some (.int .i64 wd) := by
       have h := (HG.out.below H4.out.1.below).c1
       rw [HNW.out.2] at h
       exact pw_cell_below HY.out.2.1 h
      have HPU := public_any G.rb G.gb wd mk wr hrb hgb (by omega) (by omega)
      simp only [mkV] at HPU
      have HPU := Lib.hid HPU
      have HRS := Lib.hid (show pre ++ List.replicate (j + 1) (heldOf wd mk) = (pre ++ List.replicate j (heldOf wd mk)) ++ [heldOf wd mk] by rw [List.append_assoc, ← List.replicate_succ'])
      clear hrb hgb hY
      go_wp2_with fail
      refine HPU.out.mono ?_
      rintro e v5 ⟨pv, rfl, hR5, hb5⟩
      obtain ⟨A5, c5, rfl⟩ := Kd.R_slice hR5
      have HOld := Aside0.mk (And.intro (Kd.R_below HY.out.1 hb5) (And.intro (below_then HY.out.2.1 HY.out.2.1.size hb5) (blk_below HY.out.2.2 hb5)))
      have HMn := Aside0.mk (Kd.R_lower (Kd.R_mono (Kd.R_newR hR5 HY.out.1) (fun _ h => h.2)) (base' := w4.heap.size) HY.out.2.1.size)
      clear hR5 hb5 e0 e1 e2 e3
      generalize (numsT wd mk.2).length = n5 at *
      go_wp2_with (at_builtin; go_must (refine Kd.R_append kMk (w0 := w4) w4.heap.size rfl (.tmp 44) (.tmp 48) _ 57 _ 32 rfl Tryz.underlying46 Tryz.infoAmark rfl (by decide) (by decide) _ (pre ++ List.replicate j (heldOf wd mk)) (heldOf wd mk) _ (fun _ => True) (fun k => some k ≠ u12.ownBlock) rfl rfl ⟨[_], [_], rfl, rfl, ⟨_, rfl, HMn.out⟩⟩ (fun _ h => ⟨trivial, h⟩) (fun _ _ => trivial) HOld.out.1 HOld.out.2.1 HOld.out.2.1.size (by have := HLM.out; rw [List.length_append, List.length_replicate]; omega) ?_); intro v6 w6 hR6 hb6 hg6 hat6)
      have hg6' : v5.grownBy w6 u12.ownBlock := hg6
      have HY6 := Aside0.mk (show kMk.R 57 w6 w4.heap.size (fun _ => True) v6 (pre ++ List.replicate (j + 1) (heldOf wd mk)) ∧ Below w4.heap.size w4 w6 ∧ w6.heap[be]? = some (.cells #[.int .i64 mk.1, .int .i64 mk.2.1, .int .i64 mk.2.2.1, .int .i64 mk.2.2.2] 101 (0, 0)) from ⟨by rw [HRS.out]; exact hR6, hb6, blk_grown HOld.out.2.2 hg6' (Kd.R_ne HOld.out.1 HOld.out.2.2 (by decide))⟩)
      clear hR6 hb6 hg6 hat6 hg6'
      exact ⟨⟨j + 1, by omega, by go_num, HY6⟩, by simp [intOf]; omega⟩
     ·have hjE : ¬ ((j : Int) < cv) := by omega
      have hjc : j = cv := by omega
      have hY2 := hY.out
      have HK2 := Lib.hid (show pre ++ List.replicate j (heldOf wd mk) = (ks.take (k + 1)).flatMap fun m => List.replicate (getL (st.hasOf x) m).toNat (heldOf wd m) by rw [HEK.out, HCV.out, Int.toNat_natCast, hjc])
      have HX2 := Aside0.mk (And.intro (show kMk.R 57 wr w4.heap.size (fun _ => True) u12 ((ks.take (k + 1)).flatMap fun m => List.replicate (getL (st.hasOf x) m).toNat (heldOf wd m)) by rw [← HK2.out]; exact hY2.1) hY2.2.1)
      clear hY hY2 hjc
      go_wp2_with fail
      exact ⟨⟨k + 1, by omega, by go_num, HX2⟩, by simp [intOf]; omega⟩
   ·have hkE : ¬ ((k : Int) < nk) := by omega
    have hkn : k = nk := by omega
    have hX2 := hX.out
    rw [hkn, ← HNK.out, List.take_length] at hX2
    have HX := Aside0.mk (And.intro hX2.1 (And.intro hX2.2 (blk_below H4.out.2.2.1 hX2.2)))
    have y0 := blk_frozen HX.out.2.2 0
    have z0 : wr.cell? ⟨w.heap.size + 1, 0, none⟩ = some (.int .i64 0) := (blk_cell HX.out.2.2 0).trans rfl
    clear hX hX2 hkn
    go_wp2_with fail
    refine leaves_cons (f := 58) (args := #[.pointer (some ⟨w.heap.size + 1, 0, none⟩)]) (by simp) (by simp [go_sem]) ?_
    refine (catch_idleHeld ⟨w.heap.size + 1, 0, none⟩ _).mono ?_
    rintro e u' w'' ⟨rfl, rfl, rfl⟩
    have hbx := blk_put HX.out.2.2 0 (.int .i64 0) rfl
    have hcx := (blk_cell hbx 0).trans rfl
    have hBw4 := H4.out.2.2.2.2
    have hR9 := R_set_low (b' := w.heap.size) (j := 0) (u := .int .i64 0) HX.out.1 (blk_lt H4.out.2.2.1) hBw4.size
    have hB9 : Below w.heap.size w (wr.setCell ⟨w.heap.size + 1, 0, none⟩ (.int .i64 0)) := (below_then hBw4 hBw4.size HX.out.2.1).setCell (by simp) _
    rw [HC.out]
    have hE9 : (resOf (Except.ok (heldL p.Wd.toNat (st.hasOf (x : Int).toNat)) : Except Int (List (Int × List Int)))).1 = ks.flatMap fun m => List.replicate (getL (st.hasOf x) m).toNat (heldOf wd m) := by
     rw [Int.toNat_natCast, HNW.out.2, Int.toNat_natCast]
     show heldL wd (st.hasOf x) = _
     unfold heldL
     rw [HKS.out]
    rw [hE9]
    simp [Leaves, settle, results, Tryz.results20, go_sem, hcx, resOf]
    exact ⟨hR9, hB9⟩
end Go.Proofs.YtbkfnmgkcgnifaaGreat
namespace Go.Proofs.YtbkfnmgkcgnifaaGreat
open Go.RowKit Go.Shelf Go.Proofs.YtbkfnmgkcgnifaaGreatW.PrintWords Go.Proofs.YtbkfnmgkcgnifaaGreatW.PrintLast Mdl
namespace Mdl
def endS (E : List Ed) (W : Nat) (st : St) : St := iterS E W 1233 st
def runX (p : Plan) (script : List Int) : Except Int (Int × Int × Int) := match begunP p script 0 0 with
 | .error c => .error c
 | .ok _ => .ok ((endS p.E p.workers.toNat (beginS p.workers.toNat p.start script)).works, (endS p.E p.workers.toNat (beginS p.workers.toNat p.start script)).nts, (endS p.E p.workers.toNat (beginS p.workers.toNat p.start script)).sent)
def runOf (r : Except Int (Int × Int × Int)) : (Int × Int × Int) × Int := match r with
 | .ok x => (x, 0)
 | .error c => ((0, 0, 0), c)
end Mdl
set_option maxRecDepth 8000 in
set_option maxHeartbeats 8000000 in
theorem run_any (p : Plan) (eA mA sA : Option Addr) (eC mC sC : Nat) (script : List Int) (w : World) (hp : PlanAt w p eA mA) (hsC : kI.C w sA script.length script) (hsl : script.length ≤ sC) :
  Calls Tryz.prog 22 #[planV p eA eC mA mC, .slice sA script.length sC] w fun e w' => e = .returned (.tuple #[.agg #[.int .i64 (runOf (runX p script)).1.1, .int .i64 (runOf (runX p script)).1.2.1, .int .i64 (runOf (runX p script)).1.2.2], .int .i64 (runOf (runX p script)).2]) ∧ Below w.heap.size w w' := by
 have hmf : ∀ (fn : Fn) (first cap : Array Value) (w : World), (Instr.makeFunc fn first cap).run Tryz.prog w = .ok (.func fn first cap) w := fun _ _ _ _ => rfl
 have hz1 : (w.alloc (.cells #[.int .i64 p.N, .int .i64 p.Wd, .slice eA p.E.length eC, .int .i64 p.workers, .slice mA p.start.length mC] 27)).heap.size = w.heap.size + 1 := by simp
 have hz2 : ((w.alloc (.cells #[.int .i64 p.N, .int .i64 p.Wd, .slice eA p.E.length eC, .int .i64 p.workers, .slice mA p.start.length mC] 27)).alloc (.cells #[.int .i64 0, .int .i64 0, .int .i64 0] 50)).heap.size = w.heap.size + 2 := by simp
 have b2 : Below w.heap.size w (((w.alloc (.cells #[.int .i64 p.N, .int .i64 p.Wd, .slice eA p.E.length eC, .int .i64 p.workers, .slice mA p.start.length mC] 27)).alloc (.cells #[.int .i64 0, .int .i64 0, .int .i64 0] 50)).alloc (.cells #[.int .i64 0] 29)) := three_new
 have hbk : (((w.alloc (.cells #[.int .i64 p.N, .int .i64 p.Wd, .slice eA p.E.length eC, .int .i64 p.workers, .slice mA p.start.length mC] 27)).alloc (.cells #[.int .i64 0, .int .i64 0, .int .i64 0] 50)).alloc (.cells #[.int .i64 0] 29)).heap[w.heap.size]? = some (.cells #[.int .i64 p.N, .int .i64 p.Wd, .slice eA p.E.length eC, .int .i64 p.workers, .slice mA p.start.length mC] 27 (0, 0)) := blk_below (heap_alloc_new w _) two_new
 have hbc : (((w.alloc (.cells #[.int .i64 p.N, .int .i64 p.Wd, .slice eA p.E.length eC, .int .i64 p.workers, .slice mA p.start.length mC] 27)).alloc (.cells #[.int .i64 0, .int .i64 0, .int .i64 0] 50)).alloc (.cells #[.int .i64 0] 29)).heap[w.heap.size + 1]? = some (.cells #[.int .i64 0, .int .i64 0, .int .i64 0] 50 (0, 0)) := by
  have := heap_alloc_new (w.alloc (.cells #[.int .i64 p.N, .int .i64 p.Wd, .slice eA p.E.length eC, .int .i64 p.workers, .slice mA p.start.length mC] 27)) (.cells #[.int .i64 0, .int .i64 0, .int .i64 0] 50)
  rw [hz1] at this
  exact blk_below this (below_new _ _)
 have hbr := heap_alloc_new ((w.alloc (.cells #[.int .i64 p.N, .int .i64 p.Wd, .slice eA p.E.length eC, .int .i64 p.workers, .slice mA p.start.length mC] 27)).alloc (.cells #[.int .i64 0, .int .i64 0, .int .i64 0] 50)) (.cells #[.int .i64 0] 29)
 rw [hz2] at hbr
 have HAF := Lib.hid (begun_any p eA mA sA eC mC sC script 0 0 _ (hp.below b2) (Kd.C_below hsC b2) hsl)
 have hSm := Kd.C_max hp.hS
 have hEm := Kd.C_max hp.hE
 have hSc := Kd.C_max hsC
 have H1 := Aside0.mk (And.intro b2 (And.intro hbk (And.intro hbc hbr)))
 clear hp hsC hsl hz1 hz2 hbk hbr hbc b2
 simp only [planV] at HAF ⊢
 go_enter_defers Tryz.func22, Tryz.ntmps22
 go_upto_region 1 with fail
 generalize (((w.alloc (.cells #[.int .i64 p.N, .int .i64 p.Wd, .slice eA p.E.length eC, .int .i64 p.workers, .slice mA p.start.length mC] 27)).alloc (.cells #[.int .i64 0, .int .i64 0, .int .i64 0] 50)).alloc (.cells #[.int .i64 0] 29)) = w2 at *
 have p0 : w2.cell? ⟨w.heap.size, 0, none⟩ = some (.int .i64 p.N) := (blk_cell H1.out.2.1 0).trans rfl
 have p1 : w2.cell? ⟨w.heap.size, 1, none⟩ = some (.int .i64 p.Wd) := (blk_cell H1.out.2.1 1).trans rfl
 have p2 : w2.cell? ⟨w.heap.size, 2, none⟩ = some (.slice eA p.E.length eC) := (blk_cell H1.out.2.1 2).trans rfl
 have p3 : w2.cell? ⟨w.heap.size, 3, none⟩ = some (.int .i64 p.workers) := (blk_cell H1.out.2.1 3).trans rfl
 have p4 : w2.cell? ⟨w.heap.size, 4, none⟩ = some (.slice mA p.start.length mC) := (blk_cell H1.out.2.1 4).trans rfl
 go_wp2_with fail
 refine HAF.out.mono ?_
 rintro e w3 h3
 unfold BegunPost at h3
 cases ho : begunP p script 0 0 with
 | error c =>
  rw [ho] at h3
  obtain ⟨rfl, hb3⟩ := h3
  have HC := Lib.hid (show runX p script = .error c by simp only [runX, ho])
  have hbr := blk_below H1.out.2.2.2 hb3
  have hbc := blk_below H1.out.2.2.1 hb3
  have hb := below_then H1.out.1 H1.out.1.size hb3
  refine leaves_cons (f := 59) (args := #[.pointer (some ⟨w.heap.size + 2, 0, none⟩)]) (by simp) (by simp [go_sem]) ?_
  refine (catch_stopRun ⟨w.heap.size + 2, 0, none⟩ 0 c w3 ((blk_cell hbr 0).trans rfl) (blk_frozen hbr 0)).mono ?_
  rintro e u' w'' ⟨rfl, rfl, rfl⟩
  have hbx := blk_put (blk_below hbr (below_new w3 (.cells #[.int .i64 c] 126))) 0 (.int .i64 c) rfl
  have hcx := (blk_cell hbx 0).trans rfl
  have hg : (w3.alloc (.cells #[.int .i64 c] 126)).grownBy ((w3.alloc (.cells #[.int .i64 c] 126)).setCell ⟨w.heap.size + 2, 0, none⟩ (.int .i64 c)) (some (w.heap.size + 2)) := setCells_grown (w.heap.size + 2) [_] 0 _
  have hbc2 := blk_grown (blk_below hbc (below_new w3 (.cells #[.int .i64 c] 126))) hg (by simp)
  have hc0 := (blk_cell hbc2 0).trans rfl
  have hc1 := (blk_cell hbc2 1).trans rfl
  have hc2 := (blk_cell hbc2 2).trans rfl
  have hb5 := below_then hb hb.size (below_new w3 (.cells #[.int .i64 c] 126))
  rw [HC.out]
  simp [Leaves, settle, results, Tryz.results22, go_sem, hcx, hc0, hc1, hc2, runOf]
  exact hb5.setCell (by simp) _
 | ok ways =>
  rw [ho] at h3
  obtain ⟨rb, w0, G, rfl, hrb, hb0, hgb, hG, hR⟩ := h3
  have HC := Lib.hid (show runX p script = .ok ((endS p.E p.workers.toNat (beginS p.workers.toNat p.start script)).works, (endS p.E p.workers.toNat (beginS p.workers.toNat p.start script)).nts, (endS p.E p.workers.toNat (beginS p.workers.toNat p.start script)).sent) by simp only [runX, ho])
  have HB := Lib.hid (begun_ok ho)
  have HG := Aside0.mk hG
  have HR := Aside0.mk hR
  have HH := Aside0.mk hb0
  clear ho hG hR hb0 hgb p0 p1 p2 p3 p4 HAF
  subst hrb
  generalize p.workers.toNat = W at *
  go_wp2_with fail
  go_loopg [] 1233 (fun k wr => Aside0 (∃ st, Mdl.phi st < k ∧ RunOk w0 G W st wr ∧ Mdl.Reach W p.N st ∧ iterS p.E W k st = endS p.E W (beginS W p.start script)))
  case atStart => exact ⟨_, by have := HB.out.reach.phi; omega, HR.out, HB.out.reach, rfl⟩
  case round =>
   clear HR
   obtain ⟨st, hph, hR, hRe, hit⟩ := hrel.out
   have HR := Aside0.mk (And.intro hR (And.intro hRe (And.intro hit hph)))
   have HS := Lib.hid (step_any w0 G W st p.N p.Wd p.E ways wr hR HG.out HB.out.w4 HB.out.E16 (fun j k => Nat.le_trans (hRe.queue j k) (by decide)) (hRe.hasOk HB.out.N8) (hRe.moves HB.out.w4))
   clear hrel hR hRe hit hph
   go_wp2_with fail
   refine HS.out.mono ?_
   rintro e w4 h4
   unfold StepPost at h4
   cases hs : stepS p.E W st with
   | none =>
    rw [hs] at h4
    obtain ⟨rfl, q, hR4⟩ := h4
    have HF := Lib.hid (show endS p.E W (beginS W p.start script) = st by rw [← HR.out.2.2.1]; exact iterS_none hs _)
    have hb4 := below_then HH.out HH.out.size hR4.below
    have HX := Aside0.mk (And.intro (below_then H1.out.1 H1.out.1.size hb4) (And.intro (blk_below H1.out.2.2.1 hb4) (blk_below H1.out.2.2.2 hb4)))
    obtain ⟨A, c, _, _, _, r0, r1, r2, _⟩ := hR4.cells
    clear hs hR4 hb4 HS
    have y0 := blk_frozen HX.out.2.1 0
    have y1 := blk_frozen HX.out.2.1 1
    have y2 := blk_frozen HX.out.2.1 2
    have y3 := blk_frozen HX.out.2.2 0
    have z0 : w4.cell? ⟨w.heap.size + 1, 0, none⟩ = some (.int .i64 0) := (blk_cell HX.out.2.1 0).trans rfl
    have z1 : w4.cell? ⟨w.heap.size + 1, 1, none⟩ = some (.int .i64 0) := (blk_cell HX.out.2.1 1).trans rfl
    have z2 : w4.cell? ⟨w.heap.size + 1, 2, none⟩ = some (.int .i64 0) := (blk_cell HX.out.2.1 2).trans rfl
    have z3 : w4.cell? ⟨w.heap.size + 2, 0, none⟩ = some (.int .i64 0) := (blk_cell HX.out.2.2 0).trans rfl
    go_wp2_with fail
    have hk1 := blk_put (blk_put (blk_put HX.out.2.1 0 (.int .i64 st.works) rfl) 1 (.int .i64 st.nts) rfl) 2 (.int .i64 st.sent) rfl
    have hg1 : w4.grownBy (((w4.setCell ⟨w.heap.size + 1, 0, none⟩ (.int .i64 st.works)).setCell ⟨w.heap.size + 1, 1, none⟩ (.int .i64 st.nts)).setCell ⟨w.heap.size + 1, 2, none⟩ (.int .i64 st.sent)) (some (w.heap.size + 1)) := setCells_grown (w.heap.size + 1) [_, _, _] 0 w4
    have hr1 := blk_grown HX.out.2.2 hg1 (by simp)
    have hB1 := HX.out.1.grown hg1 HX.out.1.size (fun k hk => by injection hk with hk; omega)
    generalize ((w4.setCell ⟨w.heap.size + 1, 0, none⟩ (.int .i64 st.works)).setCell ⟨w.heap.size + 1, 1, none⟩ (.int .i64 st.nts)).setCell ⟨w.heap.size + 1, 2, none⟩ (.int .i64 st.sent) = w5 at *
    have hg2 : w5.grownBy (w5.setCell ⟨w.heap.size + 2, 0, none⟩ (.int .i64 0)) (some (w.heap.size + 2)) := setCells_grown (w.heap.size + 2) [_] 0 w5
    have hk2 := blk_grown hk1 hg2 (by simp)
    have hr2 := blk_put hr1 0 (.int .i64 0) rfl
    have hB2 := hB1.grown hg2 hB1.size (fun k hk => by injection hk with hk; omega)
    have hW6 := (show w5.setCell ⟨w.heap.size + 1 + 1, 0, none⟩ (.int .i64 0) = w5.setCell ⟨w.heap.size + 2, 0, none⟩ (.int .i64 0) from rfl)
    rw [hW6]
    generalize w5.setCell ⟨w.heap.size + 2, 0, none⟩ (.int .i64 0) = w6 at *
    refine leaves_cons (f := 59) (args := #[.pointer (some ⟨w.heap.size + 2, 0, none⟩)]) (by simp) (by simp [go_sem]) ?_
    refine (catch_idleRun ⟨w.heap.size + 2, 0, none⟩ _).mono ?_
    rintro e u' w'' ⟨rfl, rfl, rfl⟩
    have hc0 := (blk_cell hk2 0).trans rfl
    have hc1 := (blk_cell hk2 1).trans rfl
    have hc2 := (blk_cell hk2 2).trans rfl
    have hcx := (blk_cell hr2 0).trans rfl
    rw [HC.out, HF.out]
    simp [Leaves, settle, results, Tryz.results22, go_sem, hcx, hc0, hc1, hc2, runOf]
    exact hB2
   | some st' =>
    rw [hs] at h4
    obtain ⟨rfl, hR4⟩ := h4
    obtain ⟨hst1, hst2⟩ := HR.out.2.1.step HB.out.w4 HB.out.E hs
    obtain ⟨k', rfl⟩ : ∃ k', gk = k' + 1 := ⟨gk - 1, by have := HR.out.2.2.2; omega⟩
    have HX := Aside0.mk (show ∃ st, Mdl.phi st < k' ∧ RunOk w0 G W st w4 ∧ Mdl.Reach W p.N st ∧ iterS p.E W k' st = endS p.E W (beginS W p.start script) from ⟨st', by have := HR.out.2.2.2; omega, hR4, hst1, by rw [← HR.out.2.2.1, iterS_some hs]⟩)
    clear hs hR4 hst1 hst2 HS HR
    go_wp2_with fail
    go_roundg k'
    case measure => omega
    case rel => exact HX
end Go.Proofs.YtbkfnmgkcgnifaaGreat
namespace Go.Proofs.YtbkfnmgkcgnifaaGreat
open Go.RowKit Go.Shelf Go.Proofs.YtbkfnmgkcgnifaaGreatW.PrintWords Go.Proofs.YtbkfnmgkcgnifaaGreatW.PrintLast Mdl
namespace Mdl
def toldF (E : List Ed) (W : Nat) (N : Int) (ways : Ways) (who : Nat) (m : Mk) : Nat → St → Int → Int
 | 0, _, n => n
 | f + 1, st, n => if overP N ways st who m = true then n else match stepS E W st with
  | none => n
  | some st' => toldF E W N ways who m f st' (n + 1)
def markOk (N Wd : Int) (x : Int × List Int) : Bool := decide (0 ≤ x.1 ∧ x.1 < N) && (decide ((x.2.length : Int) = Wd) && withinB 1073741824 x.2)
def toldX (p : Plan) (script : List Int) (who : Int) (x : Int × List Int) : Except Int Int := match begunP p script 0 who with
 | .error c => .error c
 | .ok ways => if markOk p.N p.Wd x = true then .ok (toldF p.E p.workers.toNat p.N ways who.toNat (x.1, tmOf x.2) 1233 (beginS p.workers.toNat p.start script) 0) else .error 1
def toldR (r : Except Int Int) : Int × Int := match r with
 | .ok x => (x, 0)
 | .error c => (0, c)
theorem toldF_over {E : List Ed} {W : Nat} {N : Int} {ways : Ways} {who : Nat} {m : Mk} {st : St} (h : overP N ways st who m = true) (f : Nat) (n : Int) : toldF E W N ways who m f st n = n := by
 cases f with
 | zero => rfl
 | succ f => unfold toldF; rw [if_pos h]
theorem toldF_none {E : List Ed} {W : Nat} {N : Int} {ways : Ways} {who : Nat} {m : Mk} {st : St} (h : overP N ways st who m = false) (hs : stepS E W st = none) (f : Nat) (n : Int) : toldF E W N ways who m f st n = n := by
 cases f with
 | zero => rfl
 | succ f => unfold toldF; rw [if_neg (by simp [h]), hs]
theorem toldF_some {E : List Ed} {W : Nat} {N : Int} {ways : Ways} {who : Nat} {m : Mk} {st st' : St} (h : overP N ways st who m = false) (hs : stepS E W st = some st') (f : Nat) (n : Int) : toldF E W N ways who m (f + 1) st n = toldF E W N ways who m f st' (n + 1) := by
 conv => lhs; unfold toldF
 rw [if_neg (by simp [h]), hs]
end Mdl
def PanicQ (Q : Exit → Act → World → Prop) (D : List Deferred) (x8 x9 : Value) (c0 : List PanicEntry) (Pw : World → Prop) : Exit → Act → World → Prop
 | .panic c, a, w => a.defers = D ∧ a.tmps.getD 8 undef = x8 ∧ a.tmps.getD 9 undef = x9 ∧ c = c0 ∧ Pw w
 | e, a, w => Q e a w
theorem wp_panicQ {P : Program} {code : Code} {Q : Exit → Act → World → Prop} {D : List Deferred} {x8 x9 : Value} {c0 : List PanicEntry} {Pw : World → Prop} {a : Act} {w : World}
  (h : code.wp P (PanicQ Q D x8 x9 c0 Pw) a w) (hq : ∀ a w, a.defers = D → a.tmps.getD 8 undef = x8 → a.tmps.getD 9 undef = x9 → Pw w → Q (.panic c0) a w) : code.wp P Q a w := by
 refine Code.wp_mono (fun e a w q => ?_) h
 cases e with
 | panic c => obtain ⟨h1, h2, h3, rfl, h5⟩ := q; exact hq a w h1 h2 h3 h5
 | normal => exact q
 | exit id => exact q
 | goto l => exact q
 | ret => exact q
 | outgrown => exact q
theorem panicQ_normal {Q : Exit → Act → World → Prop} {D : List Deferred} {x8 x9 : Value} {c0 : List PanicEntry} {Pw : World → Prop} {a : Act} {w : World} (h : Q .normal a w) : PanicQ Q D x8 x9 c0 Pw .normal a w := h
theorem panicQ_put {Q : Exit → Act → World → Prop} {D : List Deferred} {x8 x9 : Value} {c0 : List PanicEntry} {Pw : World → Prop} {N : Tmp} {v : Value} (h8 : N ≠ 8) (h9 : N ≠ 9) (c : List PanicEntry) (a : Act) (w : World) (h : PanicQ Q D x8 x9 c0 Pw (.panic c) (a.put (some N) v) w) : PanicQ Q D x8 x9 c0 Pw (.panic c) a w := by
 obtain ⟨h1, h2, h3, h4, h5⟩ := h
 refine ⟨h1, ?_, ?_, h4, h5⟩
 ·rw [← h2]
  simp only [Act.put, Array.getD_eq_getD_getElem?]
  rw [Array.getElem?_setIfInBounds_ne h8]
 ·rw [← h3]
  simp only [Act.put, Array.getD_eq_getD_getElem?]
  rw [Array.getElem?_setIfInBounds_ne h9]
section
variable {P : Program} {ops : Array Oper} {md : Region.Mode} {S : World → Prop} {ds : List Nat} {oi : Oper} {fuel : Nat} {l : Array Bool} {a : Act} {w : World} {Q : Exit → Act → World → Prop} {D : List Deferred} {x8 x9 : Value} {c0 : List PanicEntry} {Pw : World → Prop}
theorem puq (i N : Nat) (l' : Array Bool) {v : Value} {a' : Act} (h : wpAnyLast P md ops (PanicQ Q D x8 x9 c0 Pw) S ds fuel l' a' w) (hi : ops[i]? = some oi := by rfl) (hN : oi.dst = some N := by rfl) (hc : anyB md ops l l' i = true := by kernel_rfl) (h8 : N ≠ 8 := by decide) (h9 : N ≠ 9 := by decide) (hy : Yields P ops oi v a := by exact .inl ⟨by rfl, by intro w'; go_simp; with_reducible rfl⟩) (ha : a.put (some N) v = a' := by go_simp; rfl) : wpAnyLast P md ops (PanicQ Q D x8 x9 c0 Pw) S ds (fuel + 1) l a w := pure_ l' hi hN hc (fun c a w hh => panicQ_put h8 h9 c a w (by rw [hN] at hh; exact hh)) hy ha h
theorem ufq (i N : Nat) (l' : Array Bool) {a' : Act} (h : wpAnyLast P md ops (PanicQ Q D x8 x9 c0 Pw) S ds fuel l' a' w) (hi : ops[i]? = some oi := by rfl) (hN : oi.dst = some N := by rfl) (hc : anyB md ops l l' i = true := by kernel_rfl) (h8 : N ≠ 8 := by decide) (h9 : N ≠ 9 := by decide) (hy : Yields P ops oi undef a := by exact Or.inr ⟨by rfl, rfl⟩) (ha : a.put (some N) undef = a' := by simp only [Act.put, List.setIfInBounds_toArray, List.set_cons_zero, List.set_cons_succ, i64_w, i32_w]; rfl) : wpAnyLast P md ops (PanicQ Q D x8 x9 c0 Pw) S ds (fuel + 1) l a w := pure_ l' hi hN hc (fun c a w hh => panicQ_put h8 h9 c a w (by rw [hN] at hh; exact hh)) hy ha h
theorem tkq5 (i N : Nat) (l' : Array Bool) (hS : S w) {v : Value} {a' : Act} (h : wpAnyLast P md ops (PanicQ Q D x8 x9 c0 Pw) S ds fuel l' a' w) (hi : ops[i]? = some oi := by rfl) (hN : oi.dst = some N := by rfl) (hc : takeB md ops ds l l' i = true := by kernel_rfl) (h8 : N ≠ 8 := by decide) (h9 : N ≠ 9 := by decide) (hy : YieldsIf P ops S oi v a := by exact .inl ⟨by rfl, by rintro w' ⟨s0, s1, s2, s3, s4⟩; go_simp; with_reducible rfl⟩) (ha : a.put (some N) v = a' := by go_simp; rfl) : wpAnyLast P md ops (PanicQ Q D x8 x9 c0 Pw) S ds (fuel + 1) l a w := take_ l' hi hN hc (fun c a w hh => panicQ_put h8 h9 c a w (by rw [hN] at hh; exact hh)) hy hS ha h
end
set_option maxRecDepth 8000 in
set_option maxHeartbeats 8000000 in
theorem toldE_any (p : Plan) (eA mA sA xA : Option Addr) (eC mC sC xC : Nat) (script : List Int) (who nd : Int) (tl : List Int) (w : World) (hp : PlanAt w p eA mA) (hsC : kI.C w sA script.length script) (hsl : script.length ≤ sC) (hxC : kI.C w xA tl.length tl) :
  Calls Tryz.prog 26 #[planV p eA eC mA mC, .slice sA script.length sC, .int .i64 who, .agg #[.int .i64 nd, .slice xA tl.length xC]] w fun e w' => e = .returned (.tuple #[.int .i64 (toldR (toldX p script who (nd, tl))).1, .int .i64 (toldR (toldX p script who (nd, tl))).2]) ∧ Below w.heap.size w w' := by
 have hmf : ∀ (fn : Fn) (first cap : Array Value) (w : World), (Instr.makeFunc fn first cap).run Tryz.prog w = .ok (.func fn first cap) w := fun _ _ _ _ => rfl
 have hz1 : (w.alloc (.cells #[.int .i64 p.N, .int .i64 p.Wd, .slice eA p.E.length eC, .int .i64 p.workers, .slice mA p.start.length mC] 27)).heap.size = w.heap.size + 1 := by simp
 have hz2 : ((w.alloc (.cells #[.int .i64 p.N, .int .i64 p.Wd, .slice eA p.E.length eC, .int .i64 p.workers, .slice mA p.start.length mC] 27)).alloc (.cells #[.int .i64 nd, .slice xA tl.length xC] 57)).heap.size = w.heap.size + 2 := by simp
 have b2 : Below w.heap.size w (((w.alloc (.cells #[.int .i64 p.N, .int .i64 p.Wd, .slice eA p.E.length eC, .int .i64 p.workers, .slice mA p.start.length mC] 27)).alloc (.cells #[.int .i64 nd, .slice xA tl.length xC] 57)).alloc (.cells #[.int .i64 0] 29)) := three_new
 have hbk : (((w.alloc (.cells #[.int .i64 p.N, .int .i64 p.Wd, .slice eA p.E.length eC, .int .i64 p.workers, .slice mA p.start.length mC] 27)).alloc (.cells #[.int .i64 nd, .slice xA tl.length xC] 57)).alloc (.cells #[.int .i64 0] 29)).heap[w.heap.size]? = some (.cells #[.int .i64 p.N, .int .i64 p.Wd, .slice eA p.E.length eC, .int .i64 p.workers, .slice mA p.start.length mC] 27 (0, 0)) := blk_below (heap_alloc_new w _) two_new
 have hbc : (((w.alloc (.cells #[.int .i64 p.N, .int .i64 p.Wd, .slice eA p.E.length eC, .int .i64 p.workers, .slice mA p.start.length mC] 27)).alloc (.cells #[.int .i64 nd, .slice xA tl.length xC] 57)).alloc (.cells #[.int .i64 0] 29)).heap[w.heap.size + 1]? = some (.cells #[.int .i64 nd, .slice xA tl.length xC] 57 (0, 0)) := by
  have := heap_alloc_new (w.alloc (.cells #[.int .i64 p.N, .int .i64 p.Wd, .slice eA p.E.length eC, .int .i64 p.workers, .slice mA p.start.length mC] 27)) (.cells #[.int .i64 nd, .slice xA tl.length xC] 57)
  rw [hz1] at this
  exact blk_below this (below_new _ _)
 have hbr := heap_alloc_new ((w.alloc (.cells #[.int .i64 p.N, .int .i64 p.Wd, .slice eA p.E.length eC, .int .i64 p.workers, .slice mA p.start.length mC] 27)).alloc (.cells #[.int .i64 nd, .slice xA tl.length xC] 57)) (.cells #[.int .i64 0] 29)
 rw [hz2] at hbr
 have HAF := Lib.hid (begun_any p eA mA sA eC mC sC script 0 who _ (hp.below b2) (Kd.C_below hsC b2) hsl)
 have hSm := Kd.C_max hp.hS
 have hEm := Kd.C_max hp.hE
 have hSc := Kd.C_max hsC
 have hTm := Kd.C_max hxC
 have H1 := Aside0.mk (And.intro b2 (And.intro hbk (And.intro hbc (And.intro hbr (Kd.C_below hxC b2)))))
 clear hp hsC hsl hz1 hz2 hbk hbr hbc b2 hxC
 simp only [planV] at HAF ⊢
 go_enter_defers Tryz.func26, Tryz.ntmps26
 go_upto_region 1 with fail
 generalize (((w.alloc (.cells #[.int .i64 p.N, .int .i64 p.Wd, .slice eA p.E.length eC, .int .i64 p.workers, .slice mA p.start.length mC] 27)).alloc (.cells #[.int .i64 nd, .slice xA tl.length xC] 57)).alloc (.cells #[.int .i64 0] 29)) = w2 at *
 have p0 : w2.cell? ⟨w.heap.size, 0, none⟩ = some (.int .i64 p.N) := (blk_cell H1.out.2.1 0).trans rfl
 have p1 : w2.cell? ⟨w.heap.size, 1, none⟩ = some (.int .i64 p.Wd) := (blk_cell H1.out.2.1 1).trans rfl
 have p2 : w2.cell? ⟨w.heap.size, 2, none⟩ = some (.slice eA p.E.length eC) := (blk_cell H1.out.2.1 2).trans rfl
 have p3 : w2.cell? ⟨w.heap.size, 3, none⟩ = some (.int .i64 p.workers) := (blk_cell H1.out.2.1 3).trans rfl
 have p4 : w2.cell? ⟨w.heap.size, 4, none⟩ = some (.slice mA p.start.length mC) := (blk_cell H1.out.2.1 4).trans rfl
 go_wp2_with fail
 refine HAF.out.mono ?_
 rintro e w3 h3
 unfold BegunPost at h3
 cases ho : begunP p script 0 who with
 | error c =>
  rw [ho] at h3
  obtain ⟨rfl, hb3⟩ := h3
  have HC := Lib.hid (show toldX p script who (nd, tl) = .error c by simp only [toldX, ho])
  have hbr := blk_below H1.out.2.2.2.1 hb3
  have hb := below_then H1.out.1 H1.out.1.size hb3
  refine leaves_cons (f := 62) (args := #[.pointer (some ⟨w.heap.size + 2, 0, none⟩)]) (by simp) (by simp [go_sem]) ?_
  refine (catch_stopTold ⟨w.heap.size + 2, 0, none⟩ 0 c w3 ((blk_cell hbr 0).trans rfl) (blk_frozen hbr 0)).mono ?_
  rintro e u' w'' ⟨rfl, rfl, rfl⟩
  have hbx := blk_put (blk_below hbr (below_new w3 (.cells #[.int .i64 c] 126))) 0 (.int .i64 c) rfl
  have hcx := (blk_cell hbx 0).trans rfl
  have hb5 := below_then hb hb.size (below_new w3 (.cells #[.int .i64 c] 126))
  rw [HC.out]
  simp [Leaves, settle, results, Tryz.results26, go_sem, hcx, toldR]
  exact hb5.setCell (by simp) _
 | ok ways =>
  rw [ho] at h3
  obtain ⟨rb, w0, G, rfl, hrb, hb0, hgb, hG, hR⟩ := h3
  have HBAD := Lib.hid (fun (hn : markOk p.N p.Wd (nd, tl) = false) => show toldX p script who (nd, tl) = .error 1 by simp only [toldX, ho]; rw [if_neg (by simp [hn])])
  have HOK := Lib.hid (fun (hn : markOk p.N p.Wd (nd, tl) = true) => show toldX p script who (nd, tl) = .ok (toldF p.E p.workers.toNat p.N ways who.toNat (nd, tmOf tl) 1233 (beginS p.workers.toNat p.start script) 0) by simp only [toldX, ho]; rw [if_pos hn])
  have HB := Lib.hid (begun_ok ho)
  have HG := Aside0.mk hG
  have HR := Aside0.mk hR
  obtain ⟨q, hR⟩ := hR
  have hb3 := below_then hb0 hb0.size hR.below
  have HH := Aside0.mk (And.intro hb0 (And.intro (below_then H1.out.1 H1.out.1.size hb3) (And.intro (blk_below H1.out.2.2.1 hb3) (And.intro (blk_below H1.out.2.2.2.1 hb3) (Kd.C_below H1.out.2.2.2.2 hb3)))))
  obtain ⟨A, c, _, _, _, _, _, _, r3, _⟩ := hR.cells
  have g0 := (hG.below hR.below).c0
  have g1 := (hG.below hR.below).c1
  have x0 : w3.cell? ⟨w.heap.size + 1, 0, none⟩ = some (.int .i64 nd) := (blk_cell HH.out.2.2.1 0).trans rfl
  have x1 : w3.cell? ⟨w.heap.size + 1, 1, none⟩ = some (.slice xA tl.length xC) := (blk_cell HH.out.2.2.1 1).trans rfl
  clear ho hG hR hb0 hb3 hgb p0 p1 p2 p3 p4 HAF
  subst hrb
  have hwho0 := HB.out.who0
  have hwhoW := HB.out.whoW
  generalize p.workers.toNat = W at *
  obtain ⟨x, rfl⟩ : ∃ x : Nat, who = x := ⟨who.toNat, by omega⟩
  have hxW : x < W := by omega
  go_upto_region 3 with fail
  refine wp_panicQ (D := [{ target := .fn (.func 62) #[.pointer (some ⟨w.heap.size + 1 + 1, 0, none⟩)], args := #[] }]) (x8 := .int .i64 0) (x9 := .pointer (some ⟨w.heap.size + 1 + 1, 0, none⟩)) (c0 := stopE 1) (Pw := fun V => Below w3.heap.size w3 V ∧ markOk p.N p.Wd (nd, tl) = false) ?_ ?_
  rotate_left
  ·rintro a V hdf h8 h9 ⟨hbV, hbad⟩
   have HC := Lib.hid (HBAD.out hbad)
   have hbr := blk_below HH.out.2.2.2.1 hbV
   have hb := below_then HH.out.2.1 HH.out.2.1.size hbV
   show Leaves Tryz.prog _ a.tmps _ a.defers _ _
   rw [hdf]
   rw [Array.getD_eq_getD_getElem?] at h8 h9
   refine leaves_cons (f := 62) (args := #[.pointer (some ⟨w.heap.size + 2, 0, none⟩)]) (by simp) (by simp [go_sem]) ?_
   refine (catch_stopTold ⟨w.heap.size + 2, 0, none⟩ 0 1 V ((blk_cell hbr 0).trans rfl) (blk_frozen hbr 0)).mono ?_
   rintro e u' w'' ⟨rfl, rfl, rfl⟩
   have hbx := blk_put (blk_below hbr (below_new V (.cells #[.int .i64 1] 126))) 0 (.int .i64 1) rfl
   have hcx := (blk_cell hbx 0).trans rfl
   have hb5 := below_then hb hb.size (below_new V (.cells #[.int .i64 1] 126))
   rw [HC.out]
   simp [Leaves, settle, results, Tryz.results26, go_sem, hcx, toldR, h8, h9]
   exact hb5.setCell (by simp) _
  have HWI := fun w' hb => Lib.hid (within_any xA xC tl 1073741824 w' (Kd.C_below HH.out.2.2.2.2 hb))
  refine start_ (n := 27) (S := fun V => V.cell? ⟨G.rb, 3, none⟩ = some (.pointer (some ⟨G.gb, 0, none⟩)) ∧ V.cell? ⟨G.gb, 0, none⟩ = some (.int .i64 p.N) ∧ V.cell? ⟨G.gb, 1, none⟩ = some (.int .i64 p.Wd) ∧ V.cell? ⟨w.heap.size + 1, 0, none⟩ = some (.int .i64 nd) ∧ V.cell? ⟨w.heap.size + 1, 1, none⟩ = some (.slice xA tl.length xC)) (ds := []) (bs 27 0) (by kernel_rfl) rfl (by kernel_rfl) ⟨r3, g0, g1, x0, x1⟩ (fun hHeld => ?_)
  have HBD := Lib.hid (below_drew1 (Below.refl w3.heap.size w3))
  generalize w3.drew = wd at *
  refine puq 0 18 (bs 27 1) ?_
  refine puq 1 19 (bs 27 3) ?_
  refine puq 2 20 (bs 27 7) ?_
  refine tkq5 3 21 (bs 27 15) hHeld ?_
  refine puq 4 22 (bs 27 31) ?_
  refine tkq5 5 23 (bs 27 63) hHeld ?_
  refine on0 6 24 (bs 27 127) fun K hK => ?_
  refine gs0 Tryz.func32 #[.pointer (some ⟨G.gb, 0, none⟩), .int .i64 nd] ?_
  cases hF : decide (0 ≤ nd ∧ nd < p.N)
  ·refine (is_false _ nd p.N _ hHeld.2.1 (by have := of_decide_eq_false hF; omega)).mono ?_
   rintro e v1 ⟨rfl, rfl⟩
   refine ⟨_, rfl, hK.out _ _ hHeld (fun _ => ?_)⟩
   have HBX := Lib.hid (And.intro HBD.out (show markOk p.N p.Wd (nd, tl) = false by simp only [markOk, hF, Bool.false_and]))
   clear hK K
   refine nm0 (some 24) ?_
   refine puq 7 25 (bs 27 255) ?_
   refine ufq 8 26 (bs 27 511) ?_
   refine ufq 9 27 (bs 27 1023) ?_
   refine ufq 10 28 (bs 27 2047) ?_
   refine ufq 11 29 (bs 27 4095) ?_
   refine ufq 12 30 (bs 27 8191) ?_
   refine ufq 13 31 (bs 27 16383) ?_
   refine ufq 14 32 (bs 27 32767) ?_
   refine ufq 15 33 (bs 27 65535) ?_
   refine ufq 16 34 (bs 27 131071) ?_
   refine ufq 17 35 (bs 27 262143) ?_
   refine ufq 18 36 (bs 27 524287) ?_
   refine ufq 19 37 (bs 27 1048575) ?_
   refine puq 20 38 (bs 27 2097151) ?_
   refine puq 21 39 (bs 27 4194303) ?_
   refine ufq 22 40 (bs 27 8388607) ?_
   refine ufq 23 41 (bs 27 16777215) ?_
   refine ufq 24 42 (bs 27 33554431) ?_
   refine puq 25 43 (bs 27 67108863) ?_
   refine on0 26 44 (bs 27 134217727) fun K hK => ?_
   refine dies_ Tryz.func31 (by kernel_rfl) rfl #[.bool false, .int .i64 1] (by rfl) rfl (by (try simp only [List.map_toArray, List.map_cons, List.map_nil]); first | done | rfl) ?_
   refine (must_false _ _).mono ?_
   rintro e wm ⟨rfl, rfl⟩
   exact ⟨_, rfl, rfl, rfl, rfl, rfl, HBX.out⟩
  ·skip
   have hF2 : 0 ≤ nd ∧ nd < p.N := of_decide_eq_true hF
   refine (is_true _ nd p.N _ hHeld.2.1 hF2.1 hF2.2).mono ?_
   rintro e v1 ⟨rfl, rfl⟩
   refine ⟨_, rfl, hK.out _ _ hHeld (fun _ => ?_)⟩
   clear hK K
   refine nm0 (some 24) ?_
   refine puq 7 25 (bs 27 255) ?_
   refine puq 8 26 (bs 27 511) ?_
   refine tkq5 9 27 (bs 27 1023) hHeld ?_
   refine puq 10 28 (bs 27 2047) ?_
   refine puq 11 29 (bs 27 4095) ?_
   refine puq 12 30 (bs 27 8191) ?_
   refine puq 13 31 (bs 27 16383) ?_
   refine tkq5 14 32 (bs 27 32767) hHeld ?_
   refine puq 15 33 (bs 27 65535) ?_
   refine puq 16 34 (bs 27 131071) ?_
   refine puq 17 35 (bs 27 262143) ?_
   refine tkq5 18 36 (bs 27 524287) hHeld ?_
   cases hL : decide ((tl.length : Int) = p.Wd)
   ·have hLb : ((tl.length : Int) == p.Wd) = false := by simpa using hL
    have HBX := Lib.hid (And.intro HBD.out (show markOk p.N p.Wd (nd, tl) = false by simp only [markOk, hF, hL, Bool.false_and, Bool.true_and]))
    refine puq 19 37 (bs 27 1048575) ?_
    refine puq 20 38 (bs 27 2097151) ?_
    refine puq 21 39 (bs 27 4194303) ?_
    refine ufq 22 40 (bs 27 8388607) ?_
    refine ufq 23 41 (bs 27 16777215) ?_
    refine ufq 24 42 (bs 27 33554431) ?_
    refine puq 25 43 (bs 27 67108863) ?_
    refine on0 26 44 (bs 27 134217727) fun K hK => ?_
    refine dies_ Tryz.func31 (by kernel_rfl) rfl #[.bool false, .int .i64 1] (by rfl) rfl (by (try simp only [List.map_toArray, List.map_cons, List.map_nil]); first | done | rfl) ?_
    refine (must_false _ _).mono ?_
    rintro e wm ⟨rfl, rfl⟩
    exact ⟨_, rfl, rfl, rfl, rfl, rfl, HBX.out⟩
   ·skip
    have hLb : ((tl.length : Int) == p.Wd) = true := by simpa using hL
    refine puq 19 37 (bs 27 1048575) ?_
    refine puq 20 38 (bs 27 2097151) ?_
    refine puq 21 39 (bs 27 4194303) ?_
    refine puq 22 40 (bs 27 8388607) ?_
    refine tkq5 23 41 (bs 27 16777215) hHeld ?_
    refine on0 24 42 (bs 27 33554431) fun K hK => ?_
    refine gs0 Tryz.func63 #[.slice xA tl.length xC, .int .i64 1073741824] ?_
    cases hA : withinB 1073741824 tl
    ·rw [hA] at HWI
     refine (HWI _ HBD.out).out.mono ?_
     rintro e v2 ⟨rfl, hb2⟩
     have HBX := Lib.hid (And.intro (below_then HBD.out HBD.out.size hb2) (show markOk p.N p.Wd (nd, tl) = false by simp only [markOk, hF, hL, hA, Bool.false_and, Bool.true_and]))
     refine ⟨_, rfl, hK.out _ _ ⟨pw_cell_below hb2 hHeld.1, pw_cell_below hb2 hHeld.2.1, pw_cell_below hb2 hHeld.2.2.1, pw_cell_below hb2 hHeld.2.2.2.1, pw_cell_below hb2 hHeld.2.2.2.2⟩ (fun hHeld => ?_)⟩
     clear hK K
     refine nm0 (some 42) ?_
     refine puq 25 43 (bs 27 67108863) ?_
     refine on0 26 44 (bs 27 134217727) fun K hK => ?_
     refine dies_ Tryz.func31 (by kernel_rfl) rfl #[.bool false, .int .i64 1] (by rfl) rfl (by (try simp only [List.map_toArray, List.map_cons, List.map_nil]); first | done | rfl) ?_
     refine (must_false _ _).mono ?_
     rintro e wm ⟨rfl, rfl⟩
     exact ⟨_, rfl, rfl, rfl, rfl, rfl, HBX.out⟩
    ·skip
     rw [hA] at HWI
     refine (HWI _ HBD.out).out.mono ?_
     rintro e v2 ⟨rfl, hb2⟩
     have HB2 := Lib.hid (below_then HBD.out HBD.out.size hb2)
     refine ⟨_, rfl, hK.out _ _ ⟨pw_cell_below hb2 hHeld.1, pw_cell_below hb2 hHeld.2.1, pw_cell_below hb2 hHeld.2.2.1, pw_cell_below hb2 hHeld.2.2.2.1, pw_cell_below hb2 hHeld.2.2.2.2⟩ (fun hHeld => ?_)⟩
     clear hK K
     refine nm0 (some 42) ?_
     refine puq 25 43 (bs 27 67108863) ?_
     refine on0 26 44 (bs 27 134217727) fun K hK => ?_
     refine gs0 Tryz.func31 #[.bool true, .int .i64 1] ?_
     refine (must_true _ _).mono ?_
     rintro e v3 ⟨rfl, rfl⟩
     refine ⟨_, rfl, hK.out _ _ hHeld (fun _ => ?_)⟩
     clear hK K
     refine nm0 (some 44) ?_
     refine dn0 ?_
     have HC := Lib.hid (HOK.out (by simp only [markOk, hF, hL, hA, Bool.and_self]))
     clear HBAD HOK
     obtain ⟨q, hR⟩ := HR.out
     have hR2 := hR.to_below HB2.out
     have HX := Aside0.mk (And.intro hR2 (And.intro (below_then HH.out.2.1 HH.out.2.1.size HB2.out) (And.intro (blk_below HH.out.2.2.2.1 HB2.out) (Kd.C_below HH.out.2.2.2.2 HB2.out))))
     have e0 := hHeld.2.2.2.1
     have e1 := hHeld.2.2.2.2
     have hNd := And.intro hF2.1 hF2.2
     clear hR hR2 hHeld HWI hb2 HR hF hL hLb hA hF2 HB2 HBD r3 g0 g1 x0 x1
     refine panicQ_normal ?_
     go_upto_region 4 with fail
     refine wp_region_noPanic ?_
     have TI := fun w h => Lib.hid (timed_any xA xC tl w h)
     simp only [tmV] at TI
     have HSH := Lib.hid (fun V (hb : Below v2.heap.size v2 V) => And.intro (pw_cell_below hb e0) (pw_cell_below hb e1))
     have HD := Aside0.mk (below_drew1 (Below.refl v2.heap.size v2))
     refine start_ (n := 8) (S := fun V => V.cell? ⟨w.heap.size + 1, 0, none⟩ = some (.int .i64 nd) ∧ V.cell? ⟨w.heap.size + 1, 1, none⟩ = some (.slice xA tl.length xC)) (ds := [7]) (bs 8 0) (by kernel_rfl) rfl (by kernel_rfl) ⟨e0, e1⟩ (fun hHeld => ?_)
     clear e0 e1
     generalize v2.drew = v3 at *
     refine pu 0 45 (bs 8 1) ?_
     refine tk2 1 46 (bs 8 3) hHeld ?_
     refine pu 2 47 (bs 8 7) ?_
     refine tk2 3 48 (bs 8 15) hHeld ?_
     refine join_ 1 #[true, true, true, true, true, true, true, false] (fun g : Nat => [(49, .agg #[.int .i64 (tmOf tl).1, .int .i64 (tmOf tl).2.1, .int .i64 (tmOf tl).2.2]), (50, .agg #[.int .i64 nd, .int .i64 (tmOf tl).1, .int .i64 (tmOf tl).2.1, .int .i64 (tmOf tl).2.2]), (11, .pointer (some ⟨g, 0, none⟩))]) (fun g V => Below v2.heap.size v2 V ∧ V.heap[g]? = some (.cells #[.int .i64 0, .int .i64 0, .int .i64 0, .int .i64 0] 101) ∧ v2.heap.size ≤ g) ?_ ?_
     rotate_left
     ·intro hcont
      simp only [putAll, Act.put, List.setIfInBounds_toArray, List.set_cons_zero, List.set_cons_succ] at hcont
      have HCT := Lib.hid hcont
      clear hcont hHeld
      refine two_ (i := 4) (j := 6) (Ni := some 49) (Nj := some 11) #[true, true, true, true, true, false, false, false] #[true, true, true, true, false, false, true, false] rfl rfl rfl rfl (by kernel_rfl) (by decide) (by decide) (fun K hK => ?_) (fun K hK => ?_)
      ·refine gs0 Tryz.func64 #[.slice xA tl.length xC] ?_
       refine (TI _ (Kd.C_below HX.out.2.2.2 HD.out)).out.mono ?_
       rintro e v4 ⟨rfl, hb4⟩
       have hB4 := below_then HD.out HD.out.size hb4
       refine ⟨_, rfl, hK.out _ _ (HSH.out _ hB4) (fun hHeld => ?_)⟩
       clear hK K
       refine nm0 (some 49) ?_
       refine pu 5 50 (bs 8 63) ?_
       refine one_ (i := 6) (N := some 11) #[true, true, true, true, true, true, true, false] rfl rfl (by kernel_rfl) (by decide) (fun K hK => ?_)
       refine va0 ?_
       have hB5 := below_alloc hB4 (.cells #[.int .i64 0, .int .i64 0, .int .i64 0, .int .i64 0] 101)
       refine hK.out _ _ (HSH.out _ hB5) (fun hHeld => ?_)
       clear hK K
       refine nm0 (some 11) ?_
       exact HCT.out v4.heap.size _ ⟨hB5, heap_alloc_new v4 _, hB4.size⟩
      ·skip
       refine va0 ?_
       have hB4 := below_alloc HD.out (.cells #[.int .i64 0, .int .i64 0, .int .i64 0, .int .i64 0] 101)
       refine hK.out _ _ (HSH.out _ hB4) (fun hHeld => ?_)
       clear hK K
       refine nm0 (some 11) ?_
       refine one_ (i := 4) (N := some 49) #[true, true, true, true, true, false, true, false] rfl rfl (by kernel_rfl) (by decide) (fun K hK => ?_)
       refine gs0 Tryz.func64 #[.slice xA tl.length xC] ?_
       refine (TI _ (Kd.C_below HX.out.2.2.2 hB4)).out.mono ?_
       rintro e v4 ⟨rfl, hb4⟩
       have hB5 := below_then hB4 hB4.size hb4
       refine ⟨_, rfl, hK.out _ _ (HSH.out _ hB5) (fun hHeld => ?_)⟩
       clear hK K
       refine nm0 (some 49) ?_
       refine pu 5 50 (bs 8 127) ?_
       exact HCT.out v3.heap.size _ ⟨hB5, blk_below (heap_alloc_new v3 _) hb4, HD.out.size⟩
     ·rintro g v5 ⟨hbw, hbk, hge⟩
      clear hHeld
      refine norm_ (a' := ?_) ?_ ?_
      rotate_left
      ·show putAll _ _ = _
       simp only [putAll, Act.put, List.setIfInBounds_toArray, List.set_cons_zero, List.set_cons_succ]
       rfl
      have z0 := (blk_cell hbk 0).trans rfl
      have z1 := (blk_cell hbk 1).trans rfl
      have z2 := (blk_cell hbk 2).trans rfl
      have z3 := (blk_cell hbk 3).trans rfl
      have y0 := blk_frozen hbk 0
      have y1 := blk_frozen hbk 1
      have y2 := blk_frozen hbk 2
      have y3 := blk_frozen hbk 3
      refine last_ (i := 7) (N := none) #[true, true, true, true, true, true, true, true] rfl rfl (by kernel_rfl) (by decide) (fun K hK => ?_)
      refine sk0 ?_
      refine hK.out _ _ ?_
      clear hK K
      refine dn0 ?_
      refine NoPanic.normal ?_
      have hk6 := blk_put (blk_put (blk_put (blk_put hbk 0 (.int .i64 nd) rfl) 1 (.int .i64 (tmOf tl).1) rfl) 2 (.int .i64 (tmOf tl).2.1) rfl) 3 (.int .i64 (tmOf tl).2.2) rfl
      have hb6 : Below v2.heap.size v2 ((((v5.setCell ⟨g, 0, none⟩ (.int .i64 nd)).setCell ⟨g, 1, none⟩ (.int .i64 (tmOf tl).1)).setCell ⟨g, 2, none⟩ (.int .i64 (tmOf tl).2.1)).setCell ⟨g, 3, none⟩ (.int .i64 (tmOf tl).2.2)) := (((hbw.setCell hge _).setCell hge _).setCell hge _).setCell hge _
      clear z0 z1 z2 z3 y0 y1 y2 y3 hbw hbk
      generalize (((v5.setCell ⟨g, 0, none⟩ (.int .i64 nd)).setCell ⟨g, 1, none⟩ (.int .i64 (tmOf tl).1)).setCell ⟨g, 2, none⟩ (.int .i64 (tmOf tl).2.1)).setCell ⟨g, 3, none⟩ (.int .i64 (tmOf tl).2.2) = v6 at *
      have hfz : ∃ G' : RG, G.rb = G'.rb ∧ G.gb = G'.gb ∧ (∀ st V, RunOk w0 G' W st V → V.heap[g]? = some (.cells #[.int .i64 nd, .int .i64 (tmOf tl).1, .int .i64 (tmOf tl).2.1, .int .i64 (tmOf tl).2.2] 101 (0, 0))) ∧ RunOk w0 G' W (beginS W p.start script) v6 := by
       have hR6 := HX.out.1.to_below hb6
       exact ⟨{ G with z := fun k c => k = g ∧ c = #[.int .i64 nd, .int .i64 (tmOf tl).1, .int .i64 (tmOf tl).2.1, .int .i64 (tmOf tl).2.2] }, rfl, rfl, fun st V hV => by obtain ⟨q', hV⟩ := hV; exact hV.frz g _ ⟨rfl, rfl⟩, _, (hR6.freeze hk6).relim⟩
      obtain ⟨G', hrb', hgb', hfr, hR6⟩ := hfz
      rw [hrb']
      have HG2 := Aside0.mk (show GraphAt w0 G'.gb p.N p.Wd p.E ways by rw [← hgb']; exact HG.out)
      have HFR := Lib.hid hfr
      have HR := Aside0.mk hR6
      clear hrb' hgb' hfr hR6 hk6 hb6
      go_wp2_with fail
      go_loopg [12] 1233 (fun k i wr => ∃ n : Nat, i = .int .i64 n ∧ n + k ≤ 1233 ∧ Aside0 (∃ st, Mdl.phi st < k ∧ RunOk w0 G' W st wr ∧ Mdl.Reach W p.N st ∧ toldF p.E W p.N ways x (nd, tmOf tl) k st n = toldF p.E W p.N ways x (nd, tmOf tl) 1233 (beginS W p.start script) 0))
      case atStart => exact ⟨0, rfl, by omega, _, by have := HB.out.reach.phi; omega, HR.out, HB.out.reach, rfl⟩
      case round =>
       clear HR
       obtain ⟨nn, rfl, hnk, hX⟩ := hrel
       obtain ⟨st, hph, hR, hRe, hit⟩ := hX.out
       have HR := Aside0.mk (And.intro hR (And.intro hRe (And.intro hit hph)))
       have HOV := over_any w0 G' W st p.N p.Wd p.E ways x (nd, tmOf tl) wr hR HG2.out hRe HB.out.N1 HB.out.N8 HB.out.ways hxW HB.out.w4 hNd
       simp only [mkV] at HOV
       have HOV := Lib.hid HOV
       have hbk := HFR.out _ _ hR
       have z0 : wr.cell? ⟨g, 0, none⟩ = some (.int .i64 nd) := (blk_cell hbk 0).trans rfl
       have z1 : wr.cell? ⟨g, 1, none⟩ = some (.int .i64 (tmOf tl).1) := (blk_cell hbk 1).trans rfl
       have z2 : wr.cell? ⟨g, 2, none⟩ = some (.int .i64 (tmOf tl).2.1) := (blk_cell hbk 2).trans rfl
       have z3 : wr.cell? ⟨g, 3, none⟩ = some (.int .i64 (tmOf tl).2.2) := (blk_cell hbk 3).trans rfl
       clear hX hR hRe hit hph hbk
       go_wp2_with fail
       refine HOV.out.mono ?_
       rintro e v7 ⟨rfl, hR7⟩
       have HR7 := Aside0.mk hR7
       clear z0 z1 z2 z3 hR7 HOV
       cases hov : overP p.N ways st x (nd, tmOf tl) with
       | true =>
        have HF := Lib.hid (show toldF p.E W p.N ways x (nd, tmOf tl) 1233 (beginS W p.start script) 0 = nn by rw [← HR.out.2.2.1]; exact toldF_over hov _ _)
        obtain ⟨q', hRq⟩ := HR7.out
        have hb7 := below_then HH.out.1 HH.out.1.size hRq.below
        have HZ := Aside0.mk (And.intro (below_then H1.out.1 H1.out.1.size hb7) (blk_below H1.out.2.2.2.1 hb7))
        clear hov hRq hb7
        have y0 := blk_frozen HZ.out.2 0
        have z0 : v7.cell? ⟨w.heap.size + 2, 0, none⟩ = some (.int .i64 0) := (blk_cell HZ.out.2 0).trans rfl
        go_wp2_with fail
        refine leaves_cons (f := 62) (args := #[.pointer (some ⟨w.heap.size + 2, 0, none⟩)]) (by simp) (by simp [go_sem]) ?_
        refine (catch_idleTold ⟨w.heap.size + 2, 0, none⟩ _).mono ?_
        rintro e u' w'' ⟨rfl, rfl, rfl⟩
        have hbx := blk_put HZ.out.2 0 (.int .i64 0) rfl
        have hcx := (blk_cell hbx 0).trans rfl
        have HC2 := HC.out
        simp only [Int.toNat_natCast] at HC2
        rw [HF.out] at HC2
        rw [HC2]
        simp [Leaves, settle, results, Tryz.results26, go_sem, hcx, toldR]
        exact HZ.out.1.setCell (by simp; omega) _
       | false =>
        have HS := Lib.hid (step_any w0 G' W st p.N p.Wd p.E ways v7 HR7.out HG2.out HB.out.w4 HB.out.E16 (fun j k => Nat.le_trans (HR.out.2.1.queue j k) (by decide)) (HR.out.2.1.hasOk HB.out.N8) (HR.out.2.1.moves HB.out.w4))
        have HOV := Lib.hid hov
        clear hov
        go_wp2_with fail
        refine HS.out.mono ?_
        rintro e v8 h8
        unfold StepPost at h8
        cases hs : stepS p.E W st with
        | none =>
         rw [hs] at h8
         obtain ⟨rfl, hR8⟩ := h8
         have HF := Lib.hid (show toldF p.E W p.N ways x (nd, tmOf tl) 1233 (beginS W p.start script) 0 = nn by rw [← HR.out.2.2.1]; exact toldF_none HOV.out hs _ _)
         obtain ⟨q', hRq⟩ := hR8
         have hb7 := below_then HH.out.1 HH.out.1.size hRq.below
         have HZ := Aside0.mk (And.intro (below_then H1.out.1 H1.out.1.size hb7) (blk_below H1.out.2.2.2.1 hb7))
         clear hs hRq hb7 HS
         have y0 := blk_frozen HZ.out.2 0
         have z0 : v8.cell? ⟨w.heap.size + 2, 0, none⟩ = some (.int .i64 0) := (blk_cell HZ.out.2 0).trans rfl
         go_wp2_with fail
         refine leaves_cons (f := 62) (args := #[.pointer (some ⟨w.heap.size + 2, 0, none⟩)]) (by simp) (by simp [go_sem]) ?_
         refine (catch_idleTold ⟨w.heap.size + 2, 0, none⟩ _).mono ?_
         rintro e u' w'' ⟨rfl, rfl, rfl⟩
         have hbx := blk_put HZ.out.2 0 (.int .i64 0) rfl
         have hcx := (blk_cell hbx 0).trans rfl
         have HC2 := HC.out
         simp only [Int.toNat_natCast] at HC2
         rw [HF.out] at HC2
         rw [HC2]
         simp [Leaves, settle, results, Tryz.results26, go_sem, hcx, toldR]
         exact HZ.out.1.setCell (by simp; omega) _
        | some st' =>
         rw [hs] at h8
         obtain ⟨rfl, hR8⟩ := h8
         obtain ⟨hst1, hst2⟩ := HR.out.2.1.step HB.out.w4 HB.out.E hs
         obtain ⟨k', rfl⟩ : ∃ k', gk = k' + 1 := ⟨gk - 1, by have := HR.out.2.2.2; omega⟩
         have HY := Aside0.mk (show ∃ st, Mdl.phi st < k' ∧ RunOk w0 G' W st v8 ∧ Mdl.Reach W p.N st ∧ toldF p.E W p.N ways x (nd, tmOf tl) k' st ((nn + 1 : Nat) : Int) = toldF p.E W p.N ways x (nd, tmOf tl) 1233 (beginS W p.start script) 0 from ⟨st', by have := HR.out.2.2.2; omega, hR8, hst1, by rw [← HR.out.2.2.1, toldF_some HOV.out hs]; rfl⟩)
         clear hs hR8 hst1 hst2 HS HR HR7 HOV
         go_wp2_with fail
         go_roundg k'
         case measure => omega
         case rel => exact ⟨nn + 1, by go_num, by omega, HY⟩
end Go.Proofs.YtbkfnmgkcgnifaaGreat
namespace Go.Proofs.YtbkfnmgkcgnifaaGreat.Mdl
theorem dedup_mem : ∀ (l : List Tm) (x : Tm), x ∈ dedup l ↔ x ∈ l
 | [], _ => Iff.rfl
 | [_], _ => Iff.rfl
 | a :: b :: r, x => by
  have ih := dedup_mem (b :: r) x
  by_cases h : a = b
  ·subst h
   rw [dedup_cons_eq, ih]
   simp
  ·rw [dedup_cons_ne h, List.mem_cons, ih, List.mem_cons (a := x) (b := a)]
def Strict (l : List Tm) : Prop := l.Pairwise (fun a b => cmpT a b < 0)
theorem dedup_strict : ∀ (l : List Tm), SortedBy cmpT l → Strict (dedup l)
 | [], _ => List.Pairwise.nil
 | [a], _ => List.pairwise_singleton _ _
 | a :: b :: r, h => by
  have h2 : SortedBy cmpT (b :: r) := (List.pairwise_cons.1 h).2
  have ih := dedup_strict (b :: r) h2
  by_cases hab : a = b
  ·subst hab
   rw [dedup_cons_eq]; exact ih
  ·rw [dedup_cons_ne hab]
   refine List.pairwise_cons.2 ⟨fun x hx => ?_, ih⟩
   have hx2 := (dedup_mem _ _).1 hx
   have hle := (List.pairwise_cons.1 h).1 x hx2
   have hab1 := (List.pairwise_cons.1 h).1 b List.mem_cons_self
   have hne : cmpT a x ≠ 0 := fun h0 => by
    have he := cmpT_zero.1 h0
    subst he
    have hba : cmpT b a ≤ 0 := by
     rcases List.mem_cons.1 hx2 with h | h
     ·subst h; exact absurd rfl hab
     ·exact (List.pairwise_cons.1 h2).1 a h
    rw [cmpT_neg] at hba
    exact hab (cmpT_zero.1 (by omega))
   have hle : cmpT a x ≤ 0 := hle
   omega
theorem strict_unique : ∀ {l m : List Tm}, Strict l → Strict m → (∀ x, x ∈ l ↔ x ∈ m) → l = m
 | [], [], _, _, _ => rfl
 | [], b :: m, _, _, h => absurd ((h b).2 List.mem_cons_self) (by simp)
 | a :: l, [], _, _, h => absurd ((h a).1 List.mem_cons_self) (by simp)
 | a :: l, b :: m, hl, hm, h => by
  have l1 := List.pairwise_cons.1 hl
  have m1 := List.pairwise_cons.1 hm
  have hab : a = b := by
   rcases List.mem_cons.1 ((h a).1 List.mem_cons_self) with h1 | h1
   ·exact h1
   ·rcases List.mem_cons.1 ((h b).2 List.mem_cons_self) with h2 | h2
    ·exact h2.symm
    ·have e1 := m1.1 a h1
     have e2 := l1.1 b h2
     rw [cmpT_neg] at e1; omega
  subst hab
  have hns : ∀ {r : List Tm}, (∀ x ∈ r, cmpT a x < 0) → a ∉ r := fun hr hm => by
   have := hr a hm
   rw [cmpT_zero.2 rfl] at this; omega
  rw [strict_unique l1.2 m1.2 (fun x => ?_)]
  have hx := h x
  constructor
  ·intro hxl
   rcases List.mem_cons.1 (hx.1 (List.mem_cons_of_mem _ hxl)) with h1 | h1
   ·subst h1; exact absurd hxl (hns l1.1)
   ·exact h1
  ·intro hxm
   rcases List.mem_cons.1 (hx.2 (List.mem_cons_of_mem _ hxm)) with h1 | h1
   ·subst h1; exact absurd hxm (hns m1.1)
   ·exact h1
theorem firstsT_set {l m : List Tm} (h : ∀ x, x ∈ l ↔ x ∈ m) : firstsT l = firstsT m := by
 obtain ⟨s1, p1⟩ := sortL_spec ordT (l := l) (fun _ _ => trivial)
 obtain ⟨s2, p2⟩ := sortL_spec ordT (l := m) (fun _ _ => trivial)
 unfold firstsT
 rw [strict_unique (dedup_strict (sortT l) s1) (dedup_strict (sortT m) s2) (fun x => by
  rw [dedup_mem, dedup_mem]
  exact (p1.mem_iff.trans (h x)).trans p2.mem_iff.symm)]
theorem frontP_set (n : Nat) (ways : Ways) {xs ys : List Mk} (h : ∀ m, m ∈ xs ↔ m ∈ ys) : frontP n ways xs = frontP n ways ys := by
 unfold frontP
 refine List.map_congr_left (fun k _ => firstsT_set (fun t => ?_))
 simp only [rowP, List.mem_flatMap]
 exact ⟨fun ⟨m, hm, ht⟩ => ⟨m, (h m).1 hm, ht⟩, fun ⟨m, hm, ht⟩ => ⟨m, (h m).2 hm, ht⟩⟩
def truthMs (W : Nat) (st : St) : List Mk := (List.range W).flatMap fun i => posL (st.hasOf i)
def truthP (N : Int) (ways : Ways) (W : Nat) (st : St) : List (List Tm) := frontP N.toNat ways (truthMs W st)
def truthX (p : Plan) (script : List Int) (n : Int) : Except Int (List (List Tm)) := match begunP p script n 0 with
 | .error c => .error c
 | .ok ways => .ok (truthP p.N ways p.workers.toNat (iterS p.E p.workers.toNat n.toNat (beginS p.workers.toNat p.start script)))
structure AllOk (L : Led) (ms : List Mk) : Prop where
 pos : Pos L
 cnt : cnt L = ms.length
 keys : ∀ m, m ∈ L.map (·.1) ↔ m ∈ ms
theorem AllOk.nil : AllOk [] [] := ⟨⟨List.nodup_nil, fun e h => by cases h⟩, rfl, fun m => Iff.rfl⟩
theorem enter1_keys {L : Led} (h : Pos L) (m : Mk) (hc : Mdl.cnt L ≤ 1000000) (x : Mk) : x ∈ (enterL L m 1).map (·.1) ↔ x = m ∨ x ∈ L.map (·.1) := by
 constructor
 ·intro hx
  obtain ⟨e, he, rfl⟩ := List.mem_map.1 hx
  rcases mem_enterL he with h1 | h1
  ·exact .inl h1
  ·exact .inr (List.mem_map.2 ⟨e, h1, rfl⟩)
 ·intro hx
  have hw : w64 (getL L m + 1) ≠ 0 := by
   by_cases hm : m ∈ L.map (·.1)
   ·have := getL_le h hm
    rw [w64_in (by omega) (by omega)]; omega
   ·rw [getL_none (fun e he hk => hm (List.mem_map.2 ⟨e, he, hk⟩))]; decide
  have he : enterL L m 1 = insK m (w64 (getL L m + 1)) (L.filter (fun e => !(e.1 == m))) := by unfold enterL; rw [if_neg hw]
  rw [he, ((insK_perm _ _ _).map (·.1)).mem_iff, List.map_cons, List.mem_cons]
  by_cases hxm : x = m
  ·exact .inl hxm
  ·rcases hx with hx | hx
   ·exact absurd hx hxm
   ·obtain ⟨e, he, rfl⟩ := List.mem_map.1 hx
    exact .inr (List.mem_map.2 ⟨e, List.mem_filter.2 ⟨he, by simpa using hxm⟩, rfl⟩)
theorem AllOk.snoc {L : Led} {ms : List Mk} (h : AllOk L ms) (m : Mk) (hl : ms.length ≤ 100000) : AllOk (enterL L m 1) (ms ++ [m]) := by
 have hc : Mdl.cnt L ≤ 1000000 := by rw [h.cnt]; omega
 obtain ⟨h1, h2⟩ := h.pos.enter1 m hc
 refine ⟨h1, by rw [h2, h.cnt]; simp, fun x => ?_⟩
 rw [enter1_keys h.pos m hc, List.mem_append, List.mem_singleton, h.keys x]
 exact Or.comm
theorem AllOk.front {L : Led} {ms : List Mk} (h : AllOk L ms) (n : Nat) (ways : Ways) : frontP n ways (posL L) = frontP n ways ms := by
 refine frontP_set n ways (fun m => ?_)
 rw [← h.keys m]
 unfold posL
 rw [List.filter_eq_self.2 (fun e he => by have := h.pos.pos e he; simpa using by omega)]
end Go.Proofs.YtbkfnmgkcgnifaaGreat.Mdl
namespace Go.Proofs.YtbkfnmgkcgnifaaGreat
open Go.RowKit Go.Shelf Go.Proofs.YtbkfnmgkcgnifaaGreatW.PrintWords Go.Proofs.YtbkfnmgkcgnifaaGreatW.PrintLast Mdl
attribute [local go_sem] Oper.semAt_some
theorem callsDIn_of_wpS {P : Program} {n : Nat} {f : FuncId} {fn : Func} {c : Code} {args : Array Value} {u : FrameMode} {w : World} {R : Ending → FrameMode → World → Prop} (hf : P.funcs[f]? = some fn) (hb : fn.body = some c)
  (h : ∀ (c₀ : Frame) (cs : List Frame), c₀.mode = u → c.wpS P (bodyPostS P fn c₀ cs R) { tmps := args ++ Array.replicate (fn.ntmps - args.size) undef, defers := [] } (c₀ :: cs) w) : CallsDIn Fence.wide n P f args u w R := by
 refine ⟨trivial, fun c₀ cs hu _ => ?_⟩
 obtain ⟨b, hbd⟩ : ∃ b : Frame, b = { (default : Frame) with fn := f, kind := .deferred } := ⟨_, rfl⟩
 have henter : Frame.enter P f args .deferred = b.at { tmps := args ++ Array.replicate (fn.ntmps - args.size) undef, defers := [] } [.code c] := by
  rw [hbd]
  simp [Frame.enter, Frame.at, hf, hb]
 obtain ⟨e, a', cs', w', hq, harr⟩ := h c₀ cs hu b [] (by rw [hbd]) (by rw [hbd]; rfl)
 rw [← henter] at harr
 cases e with
 | normal =>
  obtain ⟨hd, u', rfl, v, hr, hR⟩ := hq
  exact ⟨.returned v, u', w', _, hR, comesIn_wide.2 (Steps.trans harr (.one step_end)), by rw [hbd]; rfl, by rw [hbd]; rfl, by rw [hbd]; exact ⟨rfl, hd, fn, hf, hr⟩⟩
 | ret =>
  obtain ⟨hd, u', rfl, v, hr, hR⟩ := hq
  obtain ⟨todo, hs⟩ := harr
  exact ⟨.returned v, u', w', _, hR, comesIn_wide.2 hs, by rw [hbd]; rfl, by rw [hbd]; rfl, by rw [hbd]; exact ⟨rfl, hd, fn, hf, hr⟩⟩
 | panic chain =>
  obtain ⟨hd, u', rfl, hR⟩ := hq
  obtain ⟨todo, hs⟩ := harr
  exact ⟨.panicked chain, u', w', _, hR, comesIn_wide.2 hs, by rw [hbd]; rfl, by rw [hbd]; rfl, by rw [hbd]; exact ⟨rfl, hd, fn, hf⟩⟩
 | exit id => exact hq.elim
 | goto l => exact hq.elim
 | outgrown =>
  obtain ⟨u', hR⟩ := hq
  exact ⟨.outgrown, u', w', b, hR, comesIn_wide.2 (harr.resolve_left (by rw [hbd]; simp)), by rw [hbd], by rw [hbd], trivial⟩
theorem catch_stopTruthIn (p : Addr) (x c : Int) (w : World) (hc : w.cell? p = some (.int .i64 x)) (hz : w.frozen? p = false) :
  CallsDIn Fence.wide 5 Tryz.prog 42 #[.pointer (some p)] (.panicking (stopE c)) w fun e u' w' => e = .returned (.tuple #[]) ∧ u' = .panicking [{ v := .iface 126 (.agg #[.int .i64 c]), recovered := true }] ∧ w' = (w.alloc (.cells #[.int .i64 c] 126)).setCell p (.int .i64 c) := by
 refine callsDIn_of_wpS Tryz.func42 rfl fun c₀ cs hu => ?_
 apply wpS_region
 simp [wpOpsS, go_sem, recoverD, hu, Tryz.ntmps42, Exit.thenS, stopE]
 refine (stopped_stop p x c w hc hz).mono ?_
 rintro e w' ⟨rfl, rfl⟩
 simp [bodyPostS, results, Tryz.results42, go_sem]
theorem catch_idleTruthIn (p : Addr) (w : World) :
  CallsDIn Fence.wide 5 Tryz.prog 42 #[.pointer (some p)] .returning w fun e u' w' => e = .returned (.tuple #[]) ∧ u' = .returning ∧ w' = w := by
 refine callsDIn_of_wpS Tryz.func42 rfl fun c₀ cs hu => ?_
 apply wpS_region
 simp [wpOpsS, go_sem, recoverD, hu, Tryz.ntmps42, Exit.thenS]
 refine (stopped_nil p w).mono ?_
 rintro e w' ⟨rfl, rfl⟩
 cases c₀
 simp_all [bodyPostS, results, Tryz.results42, go_sem]
def MarksAt (w : World) : List Nat → Prop
 | [] => True
 | D :: ds => w.heap[D]? = some (.deferred (some [])) ∧ D ∉ ds ∧ MarksAt w ds
def markD (D : Nat) : Deferred := { target := .collected D, args := #[] }
theorem MarksAt.mem {w : World} : ∀ {ds : List Nat}, MarksAt w ds → ∀ D ∈ ds, w.heap[D]? = some (.deferred (some []))
 | [], _, D, h => by cases h
 | E :: ds, hm, D, h => by
  rcases List.mem_cons.1 h with h | h
  ·subst h; exact hm.1
  ·exact hm.2.2.mem D h
theorem MarksAt.of {w w' : World} : ∀ {ds : List Nat}, MarksAt w ds → (∀ D ∈ ds, w.heap[D]? = some (.deferred (some [])) → w'.heap[D]? = some (.deferred (some []))) → MarksAt w' ds
 | [], _, _ => trivial
 | E :: ds, hm, h => ⟨h E List.mem_cons_self hm.1, hm.2.1, hm.2.2.of (fun D hD => h D (List.mem_cons_of_mem _ hD))⟩
theorem leaves_marks {fn : Func} {tmps : Array Value} {R : Ending → World → Prop} {ds : List Deferred} {B : Nat} : ∀ (Ds : List Nat) (w : World), MarksAt w Ds → (∀ D ∈ Ds, B ≤ D) → (∀ w', Quiet B w w' → LeavesInM Fence.wide 6 Tryz.prog fn tmps R ds .returning w') →
  LeavesInM Fence.wide 6 Tryz.prog fn tmps R (Ds.map markD ++ ds) .returning w
 | [], w, _, _, h => h w (Quiet.refl _ _)
 | D :: Ds, w, hm, hB, h => by
  refine ⟨by simp, .inl ⟨D, _, rfl, run_takeDeferred hm.1, ?_⟩⟩
  refine leaves_marks Ds _ (hm.2.2.of (fun E hE hd => ?_)) (fun E hE => hB E (List.mem_cons_of_mem _ hE)) (fun w' hq => h w' (Quiet.trans (.putObj hm.1 rfl (hB D List.mem_cons_self)) hq))
  have hne : D ≠ E := fun he => hm.2.1 (he ▸ hE)
  rw [World.putObj_heap_other (by omega)]
  exact hd
theorem leaves_fn {fn : Func} {tmps : Array Value} {R : Ending → World → Prop} {cap : Array Value} {f : Nat} {u : FrameMode} {w : World} (hu : u ≠ .run) (hinv : (invoke (.fn (.func f) cap) #[]).run Tryz.prog w = .ok (.enter f cap) w)
  (h : CallsDIn Fence.wide 5 Tryz.prog f cap u w fun
     | .returned _, u', w' => LeavesInM Fence.wide 6 Tryz.prog fn tmps R [] (settle u') w'
     | .panicked chain, u', w' => LeavesInM Fence.wide 6 Tryz.prog fn tmps R [] (raised u' chain) w'
     | .outgrown, _, w' => R .outgrown w') : LeavesInM Fence.wide 6 Tryz.prog fn tmps R [{ target := .fn (.func f) cap, args := #[] }] u w :=
 ⟨hu, .inr ⟨fun _ => by omega, _, _, _, _, rfl, hinv, fun _ _ => trivial, h⟩⟩
theorem wp_loop_k {P : Program} {Q : Exit → Act → World → Prop} {a : Act} {w : World} {c : Code} (I : Act → World → Prop) (μ : Act → World → Nat) (h0 : I a w)
  (round : ∀ a w, I a w → ∀ K : Act → World → Prop, Hid (∀ a' w', I a' w' → μ a' w' < μ a w → K a' w') → c.wp P (Exit.then K Q) a w) : (Code.loop c).wp P Q a w :=
 wp_loop I μ h0 (fun a w h => round a w h _ (Lib.hid fun _ _ h1 h2 => ⟨h1, h2⟩))
theorem LedAt.quiet {B : Nat} {W W' : World} {b : Nat} {L : Led} (h : LedAt W b L) (hq : Quiet B W W') (hb : b < B) : LedAt W' b L := by
 obtain ⟨es, ck, h1, h2⟩ := h
 exact ⟨es, ck, hq.same _ _ h1 (.inl hb), h2⟩
set_option maxRecDepth 8000 in
set_option maxHeartbeats 8000000 in
theorem truth_any (p : Plan) (eA mA sA : Option Addr) (eC mC sC : Nat) (script : List Int) (n : Int) (hn64 : n ≤ 9223372036854775807) (w : World) (hp : PlanAt w p eA mA) (hsC : kI.C w sA script.length script) (hsl : script.length ≤ sC) :
  Calls Tryz.prog 13 #[planV p eA eC mA mC, .slice sA script.length sC, .int .i64 n] w fun e w' => ∃ v, e = .returned (.tuple #[v, .int .i64 (resOf (truthX p script n)).2]) ∧ kLLI.R 28 w' w.heap.size (fun _ => True) v ((resOf (truthX p script n)).1.map (List.map (numsT p.Wd.toNat))) ∧ Below w.heap.size w w' := by
 have hmf : ∀ (fn : Fn) (first cap : Array Value) (w : World), (Instr.makeFunc fn first cap).run Tryz.prog w = .ok (.func fn first cap) w := fun _ _ _ _ => rfl
 have hz1 : (w.alloc (.cells #[.int .i64 p.N, .int .i64 p.Wd, .slice eA p.E.length eC, .int .i64 p.workers, .slice mA p.start.length mC] 27)).heap.size = w.heap.size + 1 := by simp
 have b2 : Below w.heap.size w ((w.alloc (.cells #[.int .i64 p.N, .int .i64 p.Wd, .slice eA p.E.length eC, .int .i64 p.workers, .slice mA p.start.length mC] 27)).alloc (.cells #[.int .i64 0] 29)) := two_new
 have hbk : ((w.alloc (.cells #[.int .i64 p.N, .int .i64 p.Wd, .slice eA p.E.length eC, .int .i64 p.workers, .slice mA p.start.length mC] 27)).alloc (.cells #[.int .i64 0] 29)).heap[w.heap.size]? = some (.cells #[.int .i64 p.N, .int .i64 p.Wd, .slice eA p.E.length eC, .int .i64 p.workers, .slice mA p.start.length mC] 27 (0, 0)) := blk_below (heap_alloc_new w _) (below_new _ _)
 have hbr := heap_alloc_new (w.alloc (.cells #[.int .i64 p.N, .int .i64 p.Wd, .slice eA p.E.length eC, .int .i64 p.workers, .slice mA p.start.length mC] 27)) (.cells #[.int .i64 0] 29)
 rw [hz1] at hbr
 have HAF := Lib.hid (after_any p eA mA sA eC mC sC script n 0 hn64 _ (hp.below b2) (Kd.C_below hsC b2) hsl)
 have hSm := Kd.C_max hp.hS
 have hEm := Kd.C_max hp.hE
 have hSc := Kd.C_max hsC
 have H1 := Aside0.mk (And.intro b2 (And.intro hbk hbr))
 clear hp hsC hsl hz1 hbk hbr b2
 simp only [planV] at HAF ⊢
 refine (callsIn_wide (n := 6)).1 (callsIn_of_wp_marks Tryz.func13 rfl trivial ?_ rfl)
 refine wpIn_wide.2 ?_
 simp only [Tryz.ntmps13, List.size_toArray, List.length_cons, List.length_nil, Nat.reduceAdd, Nat.reduceSub, Array.replicate_succ, Array.replicate_zero, List.push_toArray, List.append_toArray, List.nil_append, List.cons_append, List.append_nil]
 go_upto_region 1 with fail
 generalize (w.alloc (.cells #[.int .i64 p.N, .int .i64 p.Wd, .slice eA p.E.length eC, .int .i64 p.workers, .slice mA p.start.length mC] 27)).alloc (.cells #[.int .i64 0] 29) = w2 at *
 have p0 : w2.cell? ⟨w.heap.size, 0, none⟩ = some (.int .i64 p.N) := (blk_cell H1.out.2.1 0).trans rfl
 have p1 : w2.cell? ⟨w.heap.size, 1, none⟩ = some (.int .i64 p.Wd) := (blk_cell H1.out.2.1 1).trans rfl
 have p2 : w2.cell? ⟨w.heap.size, 2, none⟩ = some (.slice eA p.E.length eC) := (blk_cell H1.out.2.1 2).trans rfl
 have p3 : w2.cell? ⟨w.heap.size, 3, none⟩ = some (.int .i64 p.workers) := (blk_cell H1.out.2.1 3).trans rfl
 have p4 : w2.cell? ⟨w.heap.size, 4, none⟩ = some (.slice mA p.start.length mC) := (blk_cell H1.out.2.1 4).trans rfl
 go_wp2_with fail
 refine HAF.out.mono ?_
 rintro e w3 h3
 unfold AfterPost at h3
 cases ho : begunP p script n 0 with
 | error c =>
  rw [ho] at h3
  obtain ⟨rfl, hb3⟩ := h3
  have HC := Lib.hid (show truthX p script n = .error c by simp only [truthX, ho])
  have hbr := blk_below H1.out.2.2 hb3
  have hb := below_then H1.out.1 H1.out.1.size hb3
  refine leaves_fn (f := 42) (cap := #[.pointer (some ⟨w.heap.size + 1, 0, none⟩)]) (by simp) (by simp [go_sem]) ?_
  refine (catch_stopTruthIn ⟨w.heap.size + 1, 0, none⟩ 0 c w3 ((blk_cell hbr 0).trans rfl) (blk_frozen hbr 0)).mono ?_
  rintro e u' w'' ⟨rfl, rfl, rfl⟩
  have hbx := blk_put (blk_below hbr (below_new w3 (.cells #[.int .i64 c] 126))) 0 (.int .i64 c) rfl
  have hcx := (blk_cell hbx 0).trans rfl
  have hb5 := below_then hb hb.size (below_new w3 (.cells #[.int .i64 c] 126))
  rw [HC.out]
  simp [LeavesInM, LeavesIn, settle, results, Tryz.results13, go_sem, hcx, resOf]
  exact ⟨Kd.R_nil _ _ _ _ _, hb5.setCell (by simp) _⟩
 | ok ways =>
  rw [ho] at h3
  obtain ⟨rb, w0, G, rfl, hrb, hb0, hgb, hG, q, hR⟩ := h3
  have hb3 := below_then hb0 hb0.size hR.below
  have hb := below_then H1.out.1 H1.out.1.size hb3
  have hbr := blk_below H1.out.2.2 hb3
  have HC := Lib.hid (show truthX p script n = .ok (truthP p.N ways p.workers.toNat (iterS p.E p.workers.toNat n.toNat (beginS p.workers.toNat p.start script))) by simp only [truthX, ho])
  have HB := Lib.hid (begun_ok ho)
  have HG := Aside0.mk hG
  have HR := Aside0.mk hR
  have HH := Aside0.mk (And.intro hb (And.intro hbr hb0))
  clear ho hG hR hb3 hb hbr hb0 hgb p0 p1 p2 p3 p4 HAF
  subst hrb
  have hN1 := HB.out.N1
  have hN8 := HB.out.N8
  have hWd1 := HB.out.Wd1
  have hWd3 := HB.out.Wd3
  have hRe := iterS_reach (n := n.toNat) HB.out.w4 HB.out.E _ HB.out.reach
  generalize iterS p.E p.workers.toNat n.toNat (beginS p.workers.toNat p.start script) = st at *
  have HRE := Lib.hid hRe
  clear hRe
  have hW4 := HB.out.w4
  have hW1 := HB.out.w1
  generalize p.workers.toNat = W at *
  obtain ⟨nd, hnd⟩ : ∃ m : Nat, p.N = m := ⟨p.N.toNat, by omega⟩
  obtain ⟨wd, hwd⟩ : ∃ m : Nat, p.Wd = m := ⟨p.Wd.toNat, by omega⟩
  have HNW := Lib.hid (And.intro hnd hwd)
  have hnd1 : 1 ≤ nd ∧ nd ≤ 8 ∧ 1 ≤ wd ∧ wd ≤ 3 := by omega
  obtain ⟨hd1, hd8, hd1', hd3⟩ := hnd1
  clear hnd hwd hN1 hN8 hWd1 hWd3
  have HNL := Lib.hid (newLedger_any w3)
  go_wp2_with fail
  refine HNL.out.mono ?_
  rintro e w4 ⟨ab, rfl, hab, hb4, hL4⟩
  go_upto_region 4 with fail
  have bX := below_new w4 (.cells #[.map (some ab)] 88)
  have hx4 := heap_alloc_new w4 (.cells #[.map (some ab)] 88)
  have H4 := Aside0.mk (show RunAt w0 G W w3.heap.size st q (w4.alloc (.cells #[.map (some ab)] 88)) ∧ LedAt (w4.alloc (.cells #[.map (some ab)] 88)) ab [] ∧ (w4.alloc (.cells #[.map (some ab)] 88)).heap[w4.heap.size]? = some (.cells #[.map (some ab)] 88 (0, 0)) ∧ Below w3.heap.size w3 (w4.alloc (.cells #[.map (some ab)] 88)) from
   ⟨(HR.out.to_below hb4).to_below bX, hL4.below bX, hx4, below_then hb4 hb4.size bX⟩)
  have HAB := Lib.hid hab
  clear hb4 hL4 bX hx4 hab HNL
  generalize w4.alloc (.cells #[.map (some ab)] 88) = w5 at *
  generalize w4.heap.size = xb at *
  obtain ⟨A, c, _, _, _, _, _, _, _, r4, _⟩ := H4.out.1.cells
  go_wp2_with fail
  clear r4
  refine wp_loop_k (fun a V => ∃ (j : Nat) (Ds : List Nat) (es : List Mk) (u11 u12 u25 u26 u27 u28 u29 u30 u31 u32 u33 u34 u35 u36 u37 : Value), j ≤ W ∧ a = { tmps := #[.agg #[.int .i64 p.N, .int .i64 p.Wd, .slice eA p.E.length eC, .int .i64 p.workers, .slice mA p.start.length mC], .slice sA script.length sC, .int .i64 n, .pointer (some ⟨w.heap.size, 0, none⟩), undef, undef, .slice none 0 0, .pointer (some ⟨w.heap.size + 1, 0, none⟩), .pointer (some ⟨G.rb, 0, none⟩), .pointer (some ⟨xb, 0, none⟩), undef, u11, u12, .func (.func 42) #[] #[.pointer (some ⟨w.heap.size + 1, 0, none⟩)], .agg #[.int .i64 p.N, .int .i64 p.Wd, .slice eA p.E.length eC, .int .i64 p.workers, .slice mA p.start.length mC], .slice sA script.length sC, .int .i64 n, .pointer (some ⟨G.rb, 0, none⟩), .agg #[.map (some ab)], .pointer (some ⟨G.rb, 0, none⟩), .pointer (some ⟨G.rb, 0, none⟩), .pointer (some ⟨G.rb, 4, none⟩), .slice (some ⟨G.wa, 0, none⟩) W G.wc, .int .i64 W, .int .i64 j, u25, u26, u27, u28, u29, u30, u31, u32, u33, u34, u35, u36, u37, undef, undef, undef, undef, undef, undef, undef, undef, undef], defers := Ds.map markD ++ [{ target := .fn (.func 42) #[.pointer (some ⟨w.heap.size + 1, 0, none⟩)], args := #[] }] } ∧ Aside0 (Below w3.heap.size w3 V ∧ (∃ L, LedAt V ab L ∧ AllOk L es) ∧ (∀ m, m ∈ es ↔ m ∈ (List.range j).flatMap fun i => posL (st.hasOf i)) ∧ es.length ≤ j * 308 ∧ V.heap[xb]? = some (.cells #[.map (some ab)] 88 (0, 0)) ∧ MarksAt V Ds ∧ ∀ D ∈ Ds, w3.heap.size ≤ D)) (fun a _ => W - (intOf (a.tmps.getD 24 undef)).toNat) ?_ ?_
  ·exact ⟨0, [], [], undef, undef, undef, undef, undef, undef, undef, undef, undef, undef, undef, undef, undef, undef, undef, Nat.zero_le _, rfl, ⟨H4.out.2.2.2, ⟨[], H4.out.2.1, AllOk.nil⟩, by simp, Nat.zero_le _, H4.out.2.2.1, trivial, by simp⟩⟩
  rintro a V ⟨j, Ds, es, u11, u12, u25, u26, u27, u28, u29, u30, u31, u32, u33, u34, u35, u36, u37, hj, rfl, hX⟩ K hK
  obtain ⟨hB, ⟨L, hL, hAll⟩, hes, hel, hxb, hMk, hDs⟩ := hX.out
  have hRV := HR.out.to_below hB
  have HXX := Aside0.mk (And.intro hB (And.intro hL (And.intro hAll (And.intro hes (And.intro hel (And.intro hxb (And.intro hMk (And.intro hDs hRV))))))))
  clear hB hL hAll hes hel hxb hMk hDs hRV hX
  by_cases hlt : j < W
  ·have hjW : (j : Int) < W := by omega
   have hj0 : (0 : Int) ≤ j := by omega
   obtain ⟨s1, _, s3, _⟩ := HXX.out.2.2.2.2.2.2.2.2.wcells hlt
   go_wp2_with fail
   clear s1 s3
   have hLh := HXX.out.2.2.2.2.2.2.2.2.has j hlt
   have hPos : Pos (st.hasOf j) := HRE.out.inv.has.pos _ (getD_mem (l := st.has) (i := j) (by rw [HRE.out.inv.has.len]; exact hlt) [])
   have hcl : (posL (st.hasOf j)).length ≤ 308 := by
    have h1 := len_le_cnt hPos.pos
    have h2 := cnt_le_msgs (has := st.has) (i := j) (by rw [HRE.out.inv.has.len]; exact hlt)
    have h3 := HRE.out.phi
    unfold Mdl.phi at h3
    have h4 := posL_len (st.hasOf j)
    have h5 : cnt (st.has.getD j []) = cnt (st.hasOf j) := rfl
    omega
   have hne : ab ≠ G.hb j := fun he => by
    have h1 := (HR.out.has j hlt).lt
    have h2 := HAB.out
    omega
   have HPJ := Lib.hid (And.intro hPos (And.intro hcl hne))
   have hablt : ab < V.heap.size := HXX.out.2.1.lt
   have HAL := Lib.hid hablt
   have HSQ := some_seq (G.hb j) (st.hasOf j) V (fun k => k = ab) hLh (fun k hk => by subst hk; exact ⟨hablt, hne⟩)
   clear hLh hPos hcl hne hablt
   refine (wpIn_wide (n := 6)).1 ?_
   refine range_all (P := Tryz.prog) (gf := 45) (first := #[.agg #[.map (some (G.hb j))]]) (cap := #[]) rfl (enters_of Tryz.func45 (by kernel_rfl) rfl) (enc := fun m => #[mkV m]) (fun _ => rfl) (x := fun k => k = ab) (fun k hk => by subst hk; exact HAL.out) HSQ
    (fun pre V1 => Below w3.heap.size w3 V1 ∧ (∃ L, LedAt V1 ab L ∧ AllOk L (es ++ pre)) ∧ V1.heap[xb]? = some (.cells #[.map (some ab)] 88 (0, 0)) ∧ MarksAt V1 Ds)
    ?stab ?start
    (fun pre m a1 V1 => ∃ bm, a1 = { tmps := #[.agg #[.int .i64 p.N, .int .i64 p.Wd, .slice eA p.E.length eC, .int .i64 p.workers, .slice mA p.start.length mC], .slice sA script.length sC, .int .i64 n, .pointer (some ⟨w.heap.size, 0, none⟩), undef, undef, .slice none 0 0, .pointer (some ⟨w.heap.size + 1, 0, none⟩), .pointer (some ⟨G.rb, 0, none⟩), .pointer (some ⟨xb, 0, none⟩), undef, .pointer (some ⟨G.wb j, 0, none⟩), .pointer (some ⟨bm, 0, none⟩), .func (.func 42) #[] #[.pointer (some ⟨w.heap.size + 1, 0, none⟩)], .agg #[.int .i64 p.N, .int .i64 p.Wd, .slice eA p.E.length eC, .int .i64 p.workers, .slice mA p.start.length mC], .slice sA script.length sC, .int .i64 n, .pointer (some ⟨G.rb, 0, none⟩), .agg #[.map (some ab)], .pointer (some ⟨G.rb, 0, none⟩), .pointer (some ⟨G.rb, 0, none⟩), .pointer (some ⟨G.rb, 4, none⟩), .slice (some ⟨G.wa, 0, none⟩) W G.wc, .int .i64 W, .int .i64 j, .bool true, .pointer (some ⟨G.wa, j, none⟩), .pointer (some ⟨G.wb j, 0, none⟩), .pointer (some ⟨G.wb j, 0, none⟩), .pointer (some ⟨G.wb j, 0, none⟩), .pointer (some ⟨G.wb j, 1, none⟩), .agg #[.map (some (G.hb j))], .func (.func 45) #[.agg #[.map (some (G.hb j))]] #[], .agg #[.int .i64 m.1, .int .i64 m.2.1, .int .i64 m.2.2.1, .int .i64 m.2.2.2], u34, u35, u36, u37, undef, undef, undef, undef, undef, undef, undef, undef, undef], defers := [] } ∧ V1.heap[bm]? = some (.cells #[.int .i64 m.1, .int .i64 m.2.1, .int .i64 m.2.2.1, .int .i64 m.2.2.2] 101 (0, 0)) ∧ Below w3.heap.size w3 V1 ∧ (∃ L, LedAt V1 ab L ∧ AllOk L (es ++ pre)) ∧ V1.heap[xb]? = some (.cells #[.map (some ab)] 88 (0, 0)) ∧ MarksAt V1 Ds)
    ?stab2 ?assign ?body ?done
   case stab =>
    rintro pre V1 V2 hV ⟨h1, ⟨L1, h2, h3⟩, h4, h5⟩ hq
    exact ⟨h1.trans ((hq.toBelow hV).mono HXX.out.1.size), ⟨L1, h2.quiet hq HAL.out, h3⟩, hq.same _ _ h4 (.inr rfl), h5.of (fun D hD hd => hq.same _ _ hd (.inl (blk_lt (HXX.out.2.2.2.2.2.2.1.mem D hD))))⟩
   case start => exact ⟨HXX.out.1, ⟨L, HXX.out.2.1, by rw [List.append_nil]; exact HXX.out.2.2.1⟩, HXX.out.2.2.2.2.2.1, HXX.out.2.2.2.2.2.2.1⟩
   case stab2 =>
    rintro pre m a1 _ V1 V2 hV ⟨bm, h0, hb, h1, ⟨L1, h2, h3⟩, h4, h5⟩ hq
    exact ⟨bm, h0, hq.same _ _ hb (.inr rfl), h1.trans ((hq.toBelow hV).mono HXX.out.1.size), ⟨L1, h2.quiet hq HAL.out, h3⟩, hq.same _ _ h4 (.inr rfl), h5.of (fun D hD hd => hq.same _ _ hd (.inl (blk_lt (HXX.out.2.2.2.2.2.2.1.mem D hD))))⟩
   case assign =>
    rintro l pre m V1 K1 hV hp ⟨h1, ⟨L1, h2, h3⟩, h4, h5⟩ hK1
    have HKK := Lib.hid hK1
    have HI := Aside0.mk (And.intro h1 (And.intro h2 (And.intro h3 (And.intro h4 h5))))
    clear h1 h2 h3 h4 h5 hK1 hK
    simp only [mkV]
    gi_wp2
    have bN := below_new V1 (.cells #[.int .i64 m.1, .int .i64 m.2.1, .int .i64 m.2.2.1, .int .i64 m.2.2.2] 101)
    exact HKK.out _ _ (NC.below bN) ⟨V1.heap.size, rfl, heap_alloc_new V1 _, below_then HI.out.1 HI.out.1.size bN, ⟨L1, HI.out.2.1.below bN, HI.out.2.2.1⟩, blk_below HI.out.2.2.2.1 bN, HI.out.2.2.2.2.of (fun D _ hd => blk_below hd bN)⟩
   case body =>
    rintro l pre m a1 V1 hV hp ⟨bm, rfl, hb, h1, ⟨L1, h2, h3⟩, h4, h5⟩
    have hpl : (es ++ pre).length ≤ 100000 := by
     obtain ⟨xs, hxs, hpx⟩ := hp
     have g1 := hpx.length_le
     rw [hxs.length_eq, List.length_append] at g1
     have g2 := HPJ.out.2.1
     have g3 := HXX.out.2.2.2.2.1
     rw [List.length_append]
     have g4 : j * 308 ≤ 4 * 308 := Nat.mul_le_mul_right _ (by omega)
     omega
    have HI := Aside0.mk (And.intro h1 (And.intro h2 (And.intro h3 (And.intro h4 (And.intro h5 hpl)))))
    have k0 : V1.cell? ⟨xb, 0, none⟩ = some (.map (some ab)) := (blk_cell h4 0).trans rfl
    have m0 : V1.cell? ⟨bm, 0, none⟩ = some (.int .i64 m.1) := (blk_cell hb 0).trans rfl
    have m1 : V1.cell? ⟨bm, 1, none⟩ = some (.int .i64 m.2.1) := (blk_cell hb 1).trans rfl
    have m2 : V1.cell? ⟨bm, 2, none⟩ = some (.int .i64 m.2.2.1) := (blk_cell hb 2).trans rfl
    have m3 : V1.cell? ⟨bm, 3, none⟩ = some (.int .i64 m.2.2.2) := (blk_cell hb 3).trans rfl
    have EN := enter_any ab L1 m 1 V1 h2
    simp only [mkV] at EN
    have HEN := Lib.hid EN
    clear h1 h2 h3 h4 h5 hb hp hpl EN hK
    gi_wp2
    refine ⟨trivial, callsIn_wide.2 (HEN.out.mono ?_)⟩
    rintro e V2 ⟨rfl, hg2, hL2⟩
    have hk2 : Kept V1 V2 (fun k => k = ab) := ⟨hg2.size, fun i hi hn => hg2.block i hi (fun he => hn (by injection he))⟩
    have HJ := Aside0.mk (show NC (fun k => k = ab) V1 V2 ∧ Below w3.heap.size w3 V2 ∧ (∃ L, LedAt V2 ab L ∧ AllOk L (es ++ (pre ++ [m]))) ∧ V2.heap[xb]? = some (.cells #[.map (some ab)] 88 (0, 0)) ∧ MarksAt V2 Ds from
     ⟨⟨hg2.size, fun k o hk _ hx => blk_kept hk hk2 hx⟩, HI.out.1.grown hg2 HI.out.1.size (fun k hk => by injection hk with hk; subst hk; exact HAB.out), ⟨_, hL2, by rw [← List.append_assoc]; exact HI.out.2.2.1.snoc m HI.out.2.2.2.2.2⟩,
      blk_kept HI.out.2.2.2.1 hk2 (Ne.symm (led_ne HI.out.2.1 ⟨_, HI.out.2.2.2.1⟩)), HI.out.2.2.2.2.1.of (fun D hD hd => blk_kept hd hk2 (fun he => by
       subst he
       obtain ⟨es9, ck, hmap, _⟩ := HI.out.2.1
       rw [hmap] at hd; cases hd))⟩)
    clear hg2 hL2 hk2 k0 m0 m1 m2 m3 HEN
    gi_wp2
    exact HJ.out
   case done =>
    rintro D xs V1 hD hS ⟨h1, ⟨L1, h2, h3⟩, h4, h5⟩ hKd
    have HN := Aside0.mk (show Below w3.heap.size w3 V1 ∧ (∃ L, LedAt V1 ab L ∧ AllOk L (es ++ xs)) ∧ (∀ m, m ∈ es ++ xs ↔ m ∈ (List.range (j + 1)).flatMap fun i => posL (st.hasOf i)) ∧ (es ++ xs).length ≤ (j + 1) * 308 ∧ V1.heap[xb]? = some (.cells #[.map (some ab)] 88 (0, 0)) ∧ MarksAt V1 (D :: Ds) ∧ ∀ D' ∈ D :: Ds, w3.heap.size ≤ D' from
     ⟨h1, ⟨L1, h2, h3⟩, fun m => by
      rw [List.range_succ, List.flatMap_append, List.mem_append, List.mem_append, HXX.out.2.2.2.1 m, hS.mem_iff]
      simp, by
      rw [List.length_append, hS.length_eq]
      have g1 := HXX.out.2.2.2.2.1
      have g2 := HPJ.out.2.1
      omega, h4, ⟨hKd, fun hm => by
       have := blk_lt (HXX.out.2.2.2.2.2.2.1.mem D hm)
       omega, h5⟩, fun D' hD' => by
      rcases List.mem_cons.1 hD' with h | h
      ·subst h; have := HXX.out.1.size; omega
      ·exact HXX.out.2.2.2.2.2.2.2.1 D' h⟩)
    clear h1 h2 h3 h4 h5 hKd hS
    go_wp2_with fail
    refine hK.out _ _ ⟨j + 1, D :: Ds, es ++ xs, .pointer (some ⟨G.wb j, 0, none⟩), u12, .bool true, .pointer (some ⟨G.wa, j, none⟩), .pointer (some ⟨G.wb j, 0, none⟩), .pointer (some ⟨G.wb j, 0, none⟩), .pointer (some ⟨G.wb j, 0, none⟩), .pointer (some ⟨G.wb j, 1, none⟩), .agg #[.map (some (G.hb j))], .func (.func 45) #[.agg #[.map (some (G.hb j))]] #[], u33, u34, u35, u36, .int .i64 ((j : Int) + 1), by omega, ?_, HN⟩ ?_
    ·rw [show ((j + 1 : Nat) : Int) = (j : Int) + 1 from by omega]
     rfl
    ·show W - (intOf (.int .i64 ((j : Int) + 1))).toNat < W - (intOf (.int .i64 (j : Int))).toNat
     simp [intOf]; omega
  ·have hjW : ¬ ((j : Int) < W) := by omega
   have hjW2 : j = W := by omega
   clear hK
   have HES := Lib.hid (show ∀ m, m ∈ es ↔ m ∈ truthMs W st from by rw [← hjW2]; exact HXX.out.2.2.2.1)
   have hel : es.length ≤ 1232 := by
    have g3 := HXX.out.2.2.2.2.1
    have g4 : j * 308 ≤ 4 * 308 := Nat.mul_le_mul_right _ (by omega)
    omega
   have HEL := Lib.hid hel
   clear hjW2 hel
   obtain ⟨_, _, _, _, _, _, _, _, r3, _, _⟩ := HXX.out.2.2.2.2.2.2.2.2.cells
   have k0 : V.cell? ⟨xb, 0, none⟩ = some (.map (some ab)) := (blk_cell HXX.out.2.2.2.2.2.1 0).trans rfl
   go_upto_region 11 with fail
   refine wp_region_noPanic ?_
   refine start_ (n := 11) (S := fun V1 => V1.cell? ⟨G.rb, 3, none⟩ = some (.pointer (some ⟨G.gb, 0, none⟩)) ∧ V1.cell? ⟨xb, 0, none⟩ = some (.map (some ab))) (ds := [10]) (bs 11 0) (by kernel_rfl) rfl (by kernel_rfl) ⟨r3, k0⟩ (fun hHeld => ?_)
   have HD := Aside0.mk (below_drew1 (Below.refl V.heap.size V))
   have HSH := Lib.hid (fun V1 (hb : Below V.heap.size V V1) => (And.intro (pw_cell_below hb r3) (pw_cell_below hb k0)))
   clear r3 k0
   generalize V.drew = wdr at *
   have hLn : ∀ e ∈ L, 0 ≤ e.1.1 ∧ e.1.1 < nd := fun e he => by
    have hm := (HES.out e.1).1 ((HXX.out.2.2.1.keys e.1).1 (List.mem_map.2 ⟨e, he, rfl⟩))
    unfold truthMs at hm
    obtain ⟨i, hi, hm⟩ := List.mem_flatMap.1 hm
    have hi := List.mem_range.1 hi
    obtain ⟨e2, he2, hk2⟩ := posL_sub _ hm
    have := HRE.out.inv.has.node _ (getD_mem (l := st.has) (i := i) (by rw [HRE.out.inv.has.len]; exact hi) []) e2 he2
    rw [hk2] at this
    unfold nodeOk at this
    rwa [HNW.out.1] at this
   have hLl : L.length ≤ 1232 := by
    have h1 := len_le_cnt HXX.out.2.2.1.pos.pos
    rw [HXX.out.2.2.1.cnt] at h1
    have := HEL.out; omega
   have hWO : WaysOk nd 286331153 ways := by have := HB.out.ways; rwa [HNW.out.1, Int.toNat_natCast] at this
   have HF := Lib.hid (frontiers_any G.gb nd p.Wd p.E ways ab L wdr (by have := HG.out.below (below_then HXX.out.2.2.2.2.2.2.2.2.below HXX.out.2.2.2.2.2.2.2.2.below.size HD.out); rwa [HNW.out.1] at this) (by omega) (by omega) 286331153 hWO hLn (by omega) (HXX.out.2.1.below HD.out))
   have HLN := Lib.hid (And.intro hLn (And.intro hLl hWO))
   clear hLn hLl hWO
   refine pu 0 38 (bs 11 1) ?_
   refine pu 1 39 (bs 11 3) ?_
   refine pu 2 40 (bs 11 7) ?_
   refine pu 3 41 (bs 11 15) ?_
   refine tk2 4 42 (bs 11 31) hHeld ?_
   refine tk2 5 43 (bs 11 63) hHeld ?_
   refine pu 6 44 (bs 11 127) ?_
   refine on0 7 45 (bs 11 255) fun K hK => ?_
   refine gs0 Tryz.func48 #[.pointer (some ⟨G.gb, 0, none⟩), .func (.func 45) #[.agg #[.map (some ab)]] #[]] ?_
   refine HF.out.mono ?_
   rintro e w7 ⟨v7, xs, rfl, hxs, hR7, hb7⟩
   have hlx : xs.length ≤ 1232 := by have := hxs.length_eq; have := posL_len L; have := HLN.out.2.1; omega
   have hfr : ∀ r ∈ frontP nd ways xs, r.length ≤ xs.length * 286331153 := rowP_len2 HLN.out.2.2 (fun y hy => by
    obtain ⟨e, he, rfl⟩ := posL_sub y (hxs.mem_iff.1 hy)
    exact HLN.out.1 e he)
   rw [frontP_perm nd ways hxs] at hR7 hfr
   have hfl := front_len nd ways (posL L)
   have HBP := Lib.hid (show truthP p.N ways W st = frontP nd ways (posL L) by
    unfold truthP
    rw [HNW.out.1, Int.toNat_natCast, HXX.out.2.2.1.front nd ways]
    exact (frontP_set nd ways HES.out).symm)
   generalize frontP nd ways (posL L) = fr at *
   obtain ⟨A7, c7, rfl⟩ := Kd.R_slice hR7
   have HB7 := Lib.hid (below_then HD.out HD.out.size hb7)
   have hc1 := (HG.out.below (below_then HXX.out.2.2.2.2.2.2.2.2.below HXX.out.2.2.2.2.2.2.2.2.below.size HB7.out)).c1
   rw [HNW.out.2] at hc1
   have HTD := Lib.hid (told_any G.rb G.gb wd A7 c7 fr w7 (HSH.out _ HB7.out).1 hc1 (by omega) (by omega) (Kd.R_reads' hR7).2.2 (by omega) (fun r hr => by have := hfr r hr; have : xs.length * 286331153 ≤ 1232 * 286331153 := Nat.mul_le_mul_right _ hlx; omega))
   refine ⟨_, rfl, hK.out _ _ (HSH.out _ HB7.out) (fun hHeld => ?_)⟩
   clear hxs hR7 hfr hlx hb7 hc1 hfl
   clear hK K
   refine nm0 (some 45) ?_
   refine on0 8 46 (bs 11 511) fun K hK => ?_
   refine gs0 Tryz.func47 #[.pointer (some ⟨G.rb, 0, none⟩), .slice A7 fr.length c7] ?_
   refine HTD.out.mono ?_
   rintro e w8 ⟨v8, rfl, hR8, hb8⟩
   obtain ⟨A8, c8, rfl⟩ := Kd.R_slice hR8
   have HB8 := Lib.hid (below_then HB7.out HB7.out.size hb8)
   have hw38 := below_then HXX.out.1 HXX.out.1.size HB8.out
   have H8 := Aside0.mk (And.intro (Kd.R_lower hR8 (show w3.heap.size ≤ w7.heap.size from Nat.le_trans HXX.out.1.size HB7.out.size)) (And.intro (blk_below HH.out.2.1 hw38) (And.intro hw38 (HXX.out.2.2.2.2.2.2.1.of (fun D _ hd => blk_below hd HB8.out)))))
   generalize (fr.map (List.map (numsT wd))).length = n8 at *
   have y0 := blk_frozen H8.out.2.1 0
   have z0 : w8.cell? ⟨w.heap.size + 1, 0, none⟩ = some (.int .i64 0) := (blk_cell H8.out.2.1 0).trans rfl
   refine ⟨_, rfl, hK.out _ _ (HSH.out _ HB8.out) (fun hHeld => ?_)⟩
   clear hR8 hb8 hw38
   clear hK K
   refine nm0 (some 46) ?_
   refine pu 9 6 (bs 11 1023) ?_
   refine la0 10 (bs 11 2047) (N := none) fun K hK => ?_
   refine sk0 ?_
   refine hK.out _ _ ?_
   clear hK K hHeld
   refine dn0 ?_
   refine NoPanic.normal ?_
   go_wp2_with fail
   have hbx := blk_put H8.out.2.1 0 (.int .i64 0) rfl
   have hg9 : w8.grownBy (w8.setCell ⟨w.heap.size + 1, 0, none⟩ (.int .i64 0)) (some (w.heap.size + 1)) := setCells_grown (w.heap.size + 1) [_] 0 w8
   have hR9 := R_set_low (b' := w3.heap.size) (j := 0) (u := .int .i64 0) H8.out.1 (blk_lt HH.out.2.1) (Nat.le_refl _)
   have hB9 : Below w.heap.size w (w8.setCell ⟨w.heap.size + 1, 0, none⟩ (.int .i64 0)) := (below_then HH.out.1 HH.out.1.size H8.out.2.2.1).setCell (by simp) _
   have hM9 : MarksAt (w8.setCell ⟨w.heap.size + 1, 0, none⟩ (.int .i64 0)) Ds := H8.out.2.2.2.of (fun D hD hd => blk_grown hd hg9 (fun he => by
    injection he with he
    have h1 := HXX.out.2.2.2.2.2.2.2.1 D hD
    have h2 := blk_lt HH.out.2.1
    omega))
   refine leaves_marks (B := w3.heap.size) Ds _ hM9 HXX.out.2.2.2.2.2.2.2.1 (fun w10 hq => ?_)
   refine leaves_fn (f := 42) (cap := #[.pointer (some ⟨w.heap.size + 1, 0, none⟩)]) (by simp) (by simp [go_sem]) ?_
   refine (catch_idleTruthIn ⟨w.heap.size + 1, 0, none⟩ w10).mono ?_
   rintro e u' w'' ⟨rfl, rfl, rfl⟩
   have hcx := (blk_cell (hq.same _ _ hbx (.inr rfl)) 0).trans rfl
   have hR10 := R_quiet hR9 hq
   have hB10 := hB9.trans ((hq.toBelow (by have := H8.out.2.2.1.size; simpa [World.setCell] using this)).mono HH.out.1.size)
   rw [HC.out]
   have hE9 : (resOf (Except.ok (truthP p.N ways W st) : Except Int (List (List Tm)))).1.map (List.map (numsT p.Wd.toNat)) = fr.map (List.map (numsT wd)) := by
    rw [HNW.out.2, Int.toNat_natCast]
    show (truthP p.N ways W st).map _ = _
    rw [HBP.out]
   rw [hE9]
   simp [LeavesInM, LeavesIn, settle, results, Tryz.results13, go_sem, hcx, resOf]
   exact ⟨Kd.R_lower hR10 HH.out.1.size, hB10⟩
end Go.Proofs.YtbkfnmgkcgnifaaGreat
namespace Go.Proofs.YtbkfnmgkcgnifaaGreat
open Go.RowKit Go.Shelf Go.Proofs.YtbkfnmgkcgnifaaGreatW.PrintWords Go.Proofs.YtbkfnmgkcgnifaaGreatW.PrintLast Mdl
theorem at_int {w : World} {A : Option Addr} {l : List Int} (h : kI.C w A l.length l) {k : Nat} (hk : k < l.length) : ∃ ad, A = some ad ∧ w.cell? (ad.add k) = some (.int .i64 l[k]) := by
 obtain ⟨ad, c, e, hl, hK, hc⟩ := Kd.C_get h 0 (k : Int) (by omega) (by omega)
 rw [Int.toNat_natCast, List.getD_eq_getElem?_getD, List.getElem?_eq_getElem hk] at hK
 rw [Int.toNat_natCast] at hc
 have hK : c = [.int .i64 l[k]] := hK
 subst hK
 refine ⟨ad, e, ?_⟩
 have := hc 0 _ rfl
 rwa [show kI.sz = 1 from rfl, Nat.mul_one, Nat.add_zero] at this
theorem at_li {w : World} {A : Option Addr} {l : List (List Int)} (h : kLI.C w A l.length l) {k : Nat} (hk : k < l.length) :
  ∃ ad sA sC, A = some ad ∧ w.cell? (ad.add k) = some (.slice sA l[k].length sC) ∧ kI.C w sA l[k].length l[k] ∧ l[k].length ≤ sC := by
 obtain ⟨ad, c, e, hl, hK, hc⟩ := Kd.C_get h [] (k : Int) (by omega) (by omega)
 rw [Int.toNat_natCast, List.getD_eq_getElem?_getD, List.getElem?_eq_getElem hk] at hK
 rw [Int.toNat_natCast] at hc
 obtain ⟨sA, sC, rfl, hle, hC⟩ := hK
 refine ⟨ad, sA, sC, e, ?_, hC, hle⟩
 have := hc 0 _ rfl
 rwa [show kLI.sz = 1 from rfl, Nat.mul_one, Nat.add_zero] at this
theorem at_lli {w : World} {A : Option Addr} {l : List (List (List Int))} (h : kLLI.C w A l.length l) {k : Nat} (hk : k < l.length) :
  ∃ ad sA sC, A = some ad ∧ w.cell? (ad.add k) = some (.slice sA l[k].length sC) ∧ kLI.C w sA l[k].length l[k] ∧ l[k].length ≤ sC := by
 obtain ⟨ad, c, e, hl, hK, hc⟩ := Kd.C_get h [] (k : Int) (by omega) (by omega)
 rw [Int.toNat_natCast, List.getD_eq_getElem?_getD, List.getElem?_eq_getElem hk] at hK
 rw [Int.toNat_natCast] at hc
 obtain ⟨sA, sC, rfl, hle, hC⟩ := hK
 refine ⟨ad, sA, sC, e, ?_, hC, hle⟩
 have := hc 0 _ rfl
 rwa [show kLLI.sz = 1 from rfl, Nat.mul_one, Nat.add_zero] at this
theorem at_mkv {w : World} {A : Option Addr} {l : List (Int × List Int)} (h : kMk.C w A l.length l) {k : Nat} (hk : k < l.length) :
  ∃ ad sA sC, A = some ad ∧ w.cell? (ad.add (k * 2)) = some (.int .i64 l[k].1) ∧ w.cell? ⟨(ad.add (k * 2)).block, (ad.add (k * 2)).off + 1, none⟩ = some (.slice sA l[k].2.length sC) ∧ kI.C w sA l[k].2.length l[k].2 ∧ l[k].2.length ≤ sC := by
 obtain ⟨ad, c, e, hl, hK, hc⟩ := Kd.C_get h (0, []) (k : Int) (by omega) (by omega)
 rw [Int.toNat_natCast, List.getD_eq_getElem?_getD, List.getElem?_eq_getElem hk] at hK
 rw [Int.toNat_natCast] at hc
 obtain ⟨c0, c1, rfl, h0, h1⟩ := hK
 cases h0
 obtain ⟨sA, sC, rfl, hle, hC⟩ := h1
 refine ⟨ad, sA, sC, e, ?_, ?_, hC, hle⟩
 ·have := hc 0 _ rfl
  rwa [show kMk.sz = 2 from rfl, Nat.add_zero] at this
 ·have := hc 1 _ rfl
  rwa [show kMk.sz = 2 from rfl, add_field _ _ _ (by omega)] at this
theorem take_grow {α : Type} {l m : List α} {k : Nat} (hl : k < l.length) (hm : k < m.length) (h : l.take k = m.take k) (e : l[k] = m[k]) : l.take (k + 1) = m.take (k + 1) := by
 rw [List.take_succ_eq_append_getElem hl, List.take_succ_eq_append_getElem hm, h, e]
theorem get_ne {α : Type} {l m : List α} {k : Nat} (hl : k < l.length) (hm : k < m.length) (e : l[k] ≠ m[k]) : l ≠ m := fun h => by subst h; exact e rfl
set_option maxRecDepth 4000 in
set_option maxHeartbeats 1600000 in
theorem equal_any (A B : Option Addr) (cA cB : Nat) (l m : List Int) (w : World) (hl : kI.C w A l.length l) (hm : kI.C w B m.length m) :
  Calls Tryz.prog 39 #[.slice A l.length cA, .slice B m.length cB] w fun e w' => e = .returned (.bool (decide (l = m))) ∧ Below w.heap.size w w' := by
 have HL := Aside0.mk hl
 have HM := Aside0.mk hm
 have hlm := Kd.C_max hl
 have hmm := Kd.C_max hm
 clear hl hm
 go_enter Tryz.func39, Tryz.ntmps39
 go_wp2_with fail
 go_loopw [5, 6] (fun s i wr => ∃ (k : Nat) (b : Bool), s = .bool b ∧ i = .int .i64 k ∧ k ≤ l.length ∧ Aside0 ((b = true → l.length = m.length ∧ l.take k = m.take k) ∧ (b = false → l ≠ m) ∧ Below w.heap.size w wr)) (fun _ i _ => l.length - (intOf i).toNat)
 case atStart => exact ⟨0, _, rfl, rfl, Nat.zero_le _, ⟨fun h => ⟨by have := eq_of_beq h; omega, by simp⟩, fun h he => by subst he; simp at h, Below.refl _ _⟩⟩
 case round =>
  obtain ⟨k, b, rfl, rfl, hk, hX⟩ := hrel
  cases b with
  | false =>
   have HF := Lib.hid (hX.out.2.1 rfl)
   go_wp2_with fail
   go_ret
   exact ⟨by rw [decide_eq_false HF.out]; rfl, hX.out.2.2⟩
  | true =>
   have HT := Lib.hid (hX.out.1 rfl)
   by_cases hlt : k < l.length
   ·have hkm : k < m.length := by have := HT.out.1; omega
    have hkE : (k : Int) < l.length := by omega
    have hkM : (k : Int) < m.length := by omega
    have hk0 : (0 : Int) ≤ k := by omega
    obtain ⟨ad, rfl, c1⟩ := at_int (Kd.C_below HL.out hX.out.2.2) hlt
    obtain ⟨ad2, rfl, c2⟩ := at_int (Kd.C_below HM.out hX.out.2.2) hkm
    have HG := Lib.hid (show (l[k] = m[k] → l.take (k + 1) = m.take (k + 1)) ∧ (l[k] ≠ m[k] → l ≠ m) from ⟨take_grow hlt hkm HT.out.2, get_ne hlt hkm⟩)
    have HLEN := Lib.hid HT.out.1
    clear HT
    generalize l[k] = x at *
    generalize m[k] = y at *
    clear hkm
    go_upto_region 5 with fail
    refine start_ (n := 10) (S := fun w' => w'.cell? (ad.add k) = some (.int .i64 x) ∧ w'.cell? (ad2.add k) = some (.int .i64 y)) (ds := []) (bs 10 0) (by kernel_rfl) rfl (by kernel_rfl) ⟨c1, c2⟩ (fun hHeld => ?_)
    have HD := Aside0.mk (below_drew1 hX.out.2.2)
    have HDW := Aside0.mk (below_drew1 (Below.refl wr.heap.size wr))
    generalize wr.drew = wd at *
    refine pu 0 21 (bs 10 1) ?_
    refine pu 1 22 (bs 10 3) ?_
    refine pu 2 23 (bs 10 7) ?_
    refine tk2 3 24 (bs 10 15) hHeld ?_
    refine pu 4 25 (bs 10 31) ?_
    refine pu 5 26 (bs 10 63) ?_
    refine pu 6 27 (bs 10 127) ?_
    refine tk2 7 28 (bs 10 255) hHeld ?_
    refine pu 8 29 (bs 10 511) ?_
    refine pu 9 5 (bs 10 1023) ?_
    refine dn0 ?_
    go_wp2_with fail
    exact ⟨⟨k + 1, _, rfl, by go_num, by omega, ⟨fun h => ⟨HLEN.out, HG.out.1 (eq_of_beq h)⟩, fun h => HG.out.2 (by simpa using h), HD.out⟩⟩, by simp [intOf]; omega⟩
   ·have hkE : ¬ ((k : Int) < l.length) := by omega
    have HE := Lib.hid (show l = m by
     have h := HT.out.2
     rwa [List.take_of_length_le (by omega), List.take_of_length_le (by have := HT.out.1; omega)] at h)
    go_wp2_with fail
    go_ret
    exact ⟨by rw [decide_eq_true HE.out]; rfl, hX.out.2.2⟩
set_option maxRecDepth 4000 in
set_option maxHeartbeats 1600000 in
theorem equalLists_any (A B : Option Addr) (cA cB : Nat) (l m : List (List Int)) (w : World) (hl : kLI.C w A l.length l) (hm : kLI.C w B m.length m) :
  Calls Tryz.prog 10 #[.slice A l.length cA, .slice B m.length cB] w fun e w' => e = .returned (.bool (decide (l = m))) ∧ Below w.heap.size w w' := by
 have HL := Aside0.mk hl
 have HM := Aside0.mk hm
 have hlm := Kd.C_max hl
 have hmm := Kd.C_max hm
 clear hl hm
 go_enter Tryz.func10, Tryz.ntmps10
 go_wp2_with fail
 go_loopw [5, 6] (fun s i wr => ∃ (k : Nat) (b : Bool), s = .bool b ∧ i = .int .i64 k ∧ k ≤ l.length ∧ Aside0 ((b = true → l.length = m.length ∧ l.take k = m.take k) ∧ (b = false → l ≠ m) ∧ Below w.heap.size w wr)) (fun _ i _ => l.length - (intOf i).toNat)
 case atStart => exact ⟨0, _, rfl, rfl, Nat.zero_le _, ⟨fun h => ⟨by have := eq_of_beq h; omega, by simp⟩, fun h he => by subst he; simp at h, Below.refl _ _⟩⟩
 case round =>
  obtain ⟨k, b, rfl, rfl, hk, hX⟩ := hrel
  cases b with
  | false =>
   have HF := Lib.hid (hX.out.2.1 rfl)
   go_wp2_with fail
   go_ret
   exact ⟨by rw [decide_eq_false HF.out]; rfl, hX.out.2.2⟩
  | true =>
   have HT := Lib.hid (hX.out.1 rfl)
   by_cases hlt : k < l.length
   ·have hkm : k < m.length := by have := HT.out.1; omega
    have hkE : (k : Int) < l.length := by omega
    have hkM : (k : Int) < m.length := by omega
    have hk0 : (0 : Int) ≤ k := by omega
    obtain ⟨ad, sA, sC, rfl, c1, d1, _⟩ := at_li (Kd.C_below HL.out hX.out.2.2) hlt
    obtain ⟨ad2, tA, tC, rfl, c2, d2, _⟩ := at_li (Kd.C_below HM.out hX.out.2.2) hkm
    have HG := Lib.hid (show (l[k] = m[k] → l.take (k + 1) = m.take (k + 1)) ∧ (l[k] ≠ m[k] → l ≠ m) from ⟨take_grow hlt hkm HT.out.2, get_ne hlt hkm⟩)
    have HLEN := Lib.hid HT.out.1
    clear HT
    generalize l[k] = x at *
    generalize m[k] = y at *
    clear hkm
    go_upto_region 5 with fail
    refine start_ (n := 10) (S := fun w' => w'.cell? (ad.add k) = some (.slice sA x.length sC) ∧ w'.cell? (ad2.add k) = some (.slice tA y.length tC)) (ds := []) (bs 10 0) (by kernel_rfl) rfl (by kernel_rfl) ⟨c1, c2⟩ (fun hHeld => ?_)
    have HD := Aside0.mk (below_drew1 hX.out.2.2)
    have HDW := Aside0.mk (below_drew1 (Below.refl wr.heap.size wr))
    generalize wr.drew = wd at *
    have HC := Lib.hid (equal_any sA tA sC tC x y wd (Kd.C_below d1 HDW.out) (Kd.C_below d2 HDW.out))
    refine pu 0 21 (bs 10 1) ?_
    refine pu 1 22 (bs 10 3) ?_
    refine pu 2 23 (bs 10 7) ?_
    refine tk2 3 24 (bs 10 15) hHeld ?_
    refine pu 4 25 (bs 10 31) ?_
    refine pu 5 26 (bs 10 63) ?_
    refine pu 6 27 (bs 10 127) ?_
    refine tk2 7 28 (bs 10 255) hHeld ?_
    refine on0 8 29 (bs 10 511) fun K hK => ?_
    refine gs0 Tryz.func39 #[.slice sA x.length sC, .slice tA y.length tC] ?_
    refine HC.out.mono ?_
    rintro e w4 ⟨rfl, hb4⟩
    refine ⟨_, rfl, hK.out _ _ ⟨pw_cell_below hb4 hHeld.1, pw_cell_below hb4 hHeld.2⟩ (fun hHeld => ?_)⟩
    have HD4 := Aside0.mk (below_then HD.out HD.out.size hb4)
    clear hb4
    clear hK K
    refine nm0 (some 29) ?_
    refine pu 9 5 (bs 10 1023) ?_
    refine dn0 ?_
    go_wp2_with fail
    exact ⟨⟨k + 1, _, rfl, by go_num, by omega, ⟨fun h => ⟨HLEN.out, HG.out.1 (of_decide_eq_true h)⟩, fun h => HG.out.2 (of_decide_eq_false h), HD4.out⟩⟩, by simp [intOf]; omega⟩
   ·have hkE : ¬ ((k : Int) < l.length) := by omega
    have HE := Lib.hid (show l = m by
     have h := HT.out.2
     rwa [List.take_of_length_le (by omega), List.take_of_length_le (by have := HT.out.1; omega)] at h)
    go_wp2_with fail
    go_ret
    exact ⟨by rw [decide_eq_true HE.out]; rfl, hX.out.2.2⟩
set_option maxRecDepth 4000 in
set_option maxHeartbeats 1600000 in
theorem fronts_any (A B : Option Addr) (cA cB : Nat) (l m : List (List (List Int))) (w : World) (hl : kLLI.C w A l.length l) (hm : kLLI.C w B m.length m) :
  Calls Tryz.prog 17 #[.slice A l.length cA, .slice B m.length cB] w fun e w' => e = .returned (.bool (decide (l = m))) ∧ Below w.heap.size w w' := by
 have HL := Aside0.mk hl
 have HM := Aside0.mk hm
 have hlm := Kd.C_max hl
 have hmm := Kd.C_max hm
 clear hl hm
 go_enter Tryz.func17, Tryz.ntmps17
 go_wp2_with fail
 go_loopw [5, 6] (fun s i wr => ∃ (k : Nat) (b : Bool), s = .bool b ∧ i = .int .i64 k ∧ k ≤ l.length ∧ Aside0 ((b = true → l.length = m.length ∧ l.take k = m.take k) ∧ (b = false → l ≠ m) ∧ Below w.heap.size w wr)) (fun _ i _ => l.length - (intOf i).toNat)
 case atStart => exact ⟨0, _, rfl, rfl, Nat.zero_le _, ⟨fun h => ⟨by have := eq_of_beq h; omega, by simp⟩, fun h he => by subst he; simp at h, Below.refl _ _⟩⟩
 case round =>
  obtain ⟨k, b, rfl, rfl, hk, hX⟩ := hrel
  cases b with
  | false =>
   have HF := Lib.hid (hX.out.2.1 rfl)
   go_wp2_with fail
   go_ret
   exact ⟨by rw [decide_eq_false HF.out]; rfl, hX.out.2.2⟩
  | true =>
   have HT := Lib.hid (hX.out.1 rfl)
   by_cases hlt : k < l.length
   ·have hkm : k < m.length := by have := HT.out.1; omega
    have hkE : (k : Int) < l.length := by omega
    have hkM : (k : Int) < m.length := by omega
    have hk0 : (0 : Int) ≤ k := by omega
    obtain ⟨ad, sA, sC, rfl, c1, d1, _⟩ := at_lli (Kd.C_below HL.out hX.out.2.2) hlt
    obtain ⟨ad2, tA, tC, rfl, c2, d2, _⟩ := at_lli (Kd.C_below HM.out hX.out.2.2) hkm
    have HG := Lib.hid (show (l[k] = m[k] → l.take (k + 1) = m.take (k + 1)) ∧ (l[k] ≠ m[k] → l ≠ m) from ⟨take_grow hlt hkm HT.out.2, get_ne hlt hkm⟩)
    have HLEN := Lib.hid HT.out.1
    clear HT
    generalize l[k] = x at *
    generalize m[k] = y at *
    clear hkm
    go_upto_region 5 with fail
    refine start_ (n := 10) (S := fun w' => w'.cell? (ad.add k) = some (.slice sA x.length sC) ∧ w'.cell? (ad2.add k) = some (.slice tA y.length tC)) (ds := []) (bs 10 0) (by kernel_rfl) rfl (by kernel_rfl) ⟨c1, c2⟩ (fun hHeld => ?_)
    have HD := Aside0.mk (below_drew1 hX.out.2.2)
    have HDW := Aside0.mk (below_drew1 (Below.refl wr.heap.size wr))
    generalize wr.drew = wd at *
    have HC := Lib.hid (equalLists_any sA tA sC tC x y wd (Kd.C_below d1 HDW.out) (Kd.C_below d2 HDW.out))
    refine pu 0 21 (bs 10 1) ?_
    refine pu 1 22 (bs 10 3) ?_
    refine pu 2 23 (bs 10 7) ?_
    refine tk2 3 24 (bs 10 15) hHeld ?_
    refine pu 4 25 (bs 10 31) ?_
    refine pu 5 26 (bs 10 63) ?_
    refine pu 6 27 (bs 10 127) ?_
    refine tk2 7 28 (bs 10 255) hHeld ?_
    refine on0 8 29 (bs 10 511) fun K hK => ?_
    refine gs0 Tryz.func10 #[.slice sA x.length sC, .slice tA y.length tC] ?_
    refine HC.out.mono ?_
    rintro e w4 ⟨rfl, hb4⟩
    refine ⟨_, rfl, hK.out _ _ ⟨pw_cell_below hb4 hHeld.1, pw_cell_below hb4 hHeld.2⟩ (fun hHeld => ?_)⟩
    have HD4 := Aside0.mk (below_then HD.out HD.out.size hb4)
    clear hb4
    clear hK K
    refine nm0 (some 29) ?_
    refine pu 9 5 (bs 10 1023) ?_
    refine dn0 ?_
    go_wp2_with fail
    exact ⟨⟨k + 1, _, rfl, by go_num, by omega, ⟨fun h => ⟨HLEN.out, HG.out.1 (of_decide_eq_true h)⟩, fun h => HG.out.2 (of_decide_eq_false h), HD4.out⟩⟩, by simp [intOf]; omega⟩
   ·have hkE : ¬ ((k : Int) < l.length) := by omega
    have HE := Lib.hid (show l = m by
     have h := HT.out.2
     rwa [List.take_of_length_le (by omega), List.take_of_length_le (by have := HT.out.1; omega)] at h)
    go_wp2_with fail
    go_ret
    exact ⟨by rw [decide_eq_true HE.out]; rfl, hX.out.2.2⟩
set_option maxRecDepth 4000 in
set_option maxHeartbeats 1600000 in
theorem marksL_any (A B : Option Addr) (cA cB : Nat) (l m : List (Int × List Int)) (w : World) (hl : kMk.C w A l.length l) (hm : kMk.C w B m.length m) :
  Calls Tryz.prog 25 #[.slice A l.length cA, .slice B m.length cB] w fun e w' => e = .returned (.bool (decide (l = m))) ∧ Below w.heap.size w w' := by
 have HL := Aside0.mk hl
 have HM := Aside0.mk hm
 have hlm := Kd.C_max hl
 have hmm := Kd.C_max hm
 clear hl hm
 go_enter Tryz.func25, Tryz.ntmps25
 go_wp2_with fail
 go_loopw [5, 6] (fun s i wr => ∃ (k : Nat) (b : Bool), s = .bool b ∧ i = .int .i64 k ∧ k ≤ l.length ∧ Aside0 ((b = true → l.length = m.length ∧ l.take k = m.take k) ∧ (b = false → l ≠ m) ∧ Below w.heap.size w wr)) (fun _ i _ => l.length - (intOf i).toNat)
 case atStart => exact ⟨0, _, rfl, rfl, Nat.zero_le _, ⟨fun h => ⟨by have := eq_of_beq h; omega, by simp⟩, fun h he => by subst he; simp at h, Below.refl _ _⟩⟩
 case round =>
  obtain ⟨k, b, rfl, rfl, hk, hX⟩ := hrel
  cases b with
  | false =>
   have HF := Lib.hid (hX.out.2.1 rfl)
   go_wp2_with fail
   go_ret
   exact ⟨by rw [decide_eq_false HF.out]; rfl, hX.out.2.2⟩
  | true =>
   have HT := Lib.hid (hX.out.1 rfl)
   by_cases hlt : k < l.length
   ·have hkm : k < m.length := by have := HT.out.1; omega
    have hkE : (k : Int) < l.length := by omega
    have hkM : (k : Int) < m.length := by omega
    have hk0 : (0 : Int) ≤ k := by omega
    obtain ⟨ad, sA, sC, rfl, c1, e1, d1, _⟩ := at_mkv (Kd.C_below HL.out hX.out.2.2) hlt
    obtain ⟨ad2, tA, tC, rfl, c2, e2, d2, _⟩ := at_mkv (Kd.C_below HM.out hX.out.2.2) hkm
    have HG := Lib.hid (show (l[k] = m[k] → l.take (k + 1) = m.take (k + 1)) ∧ (l[k] ≠ m[k] → l ≠ m) from ⟨take_grow hlt hkm HT.out.2, get_ne hlt hkm⟩)
    have HLEN := Lib.hid HT.out.1
    clear HT
    generalize l[k] = x at *
    generalize m[k] = y at *
    clear hkm
    go_upto_region 5 with fail
    refine start_ (n := 25) (S := fun w' => w'.cell? (ad.add (k * 2)) = some (.int .i64 x.1) ∧ w'.cell? ⟨(ad.add (k * 2)).block, (ad.add (k * 2)).off + 1, none⟩ = some (.slice sA x.2.length sC) ∧ w'.cell? (ad2.add (k * 2)) = some (.int .i64 y.1) ∧ w'.cell? ⟨(ad2.add (k * 2)).block, (ad2.add (k * 2)).off + 1, none⟩ = some (.slice tA y.2.length tC)) (ds := []) (bs 25 0) (by kernel_rfl) rfl (by kernel_rfl) ⟨c1, e1, c2, e2⟩ (fun hHeld => ?_)
    have HD := Aside0.mk (below_drew1 hX.out.2.2)
    have HDW := Aside0.mk (below_drew1 (Below.refl wr.heap.size wr))
    generalize wr.drew = wd at *
    have HC := Lib.hid (equal_any sA tA sC tC x.2 y.2 wd (Kd.C_below d1 HDW.out) (Kd.C_below d2 HDW.out))
    refine pu 0 21 (bs 25 1) ?_
    refine pu 1 22 (bs 25 3) ?_
    refine pu 2 23 (bs 25 7) ?_
    refine pu 3 24 (bs 25 15) ?_
    refine tk4 4 25 (bs 25 31) hHeld ?_
    refine pu 5 26 (bs 25 63) ?_
    refine pu 6 27 (bs 25 127) ?_
    refine pu 7 28 (bs 25 255) ?_
    refine pu 8 29 (bs 25 511) ?_
    refine tk4 9 30 (bs 25 1023) hHeld ?_
    cases hn : decide (x.1 = y.1)
    ·have hnb : (x.1 == y.1) = false := by simpa using hn
     have HNE := Lib.hid (HG.out.2 (fun h => of_decide_eq_false hn (by rw [h])))
     refine pu 10 31 (bs 25 2047) ?_
     refine pu 11 32 (bs 25 4095) ?_
     refine uf0 12 33 (bs 25 8191) ?_
     refine uf0 13 34 (bs 25 16383) ?_
     refine uf0 14 35 (bs 25 32767) ?_
     refine uf0 15 36 (bs 25 65535) ?_
     refine uf0 16 37 (bs 25 131071) ?_
     refine uf0 17 38 (bs 25 262143) ?_
     refine uf0 18 39 (bs 25 524287) ?_
     refine uf0 19 40 (bs 25 1048575) ?_
     refine uf0 20 41 (bs 25 2097151) ?_
     refine uf0 21 42 (bs 25 4194303) ?_
     refine uf0 22 43 (bs 25 8388607) ?_
     refine pu 23 44 (bs 25 16777215) ?_
     refine pu 24 5 (bs 25 33554431) ?_
     refine dn0 ?_
     go_wp2_with fail
     exact ⟨⟨k + 1, _, rfl, by go_num, by omega, ⟨fun h => absurd h (by simp), fun _ => HNE.out, HD.out⟩⟩, by simp [intOf]; omega⟩
    ·skip
     have hnb : (x.1 == y.1) = true := by simpa using hn
     have hx1 := of_decide_eq_true hn
     refine pu 10 31 (bs 25 2047) ?_
     refine pu 11 32 (bs 25 4095) ?_
     refine pu 12 33 (bs 25 8191) ?_
     refine pu 13 34 (bs 25 16383) ?_
     refine pu 14 35 (bs 25 32767) ?_
     refine pu 15 36 (bs 25 65535) ?_
     refine tk4 16 37 (bs 25 131071) hHeld ?_
     refine pu 17 38 (bs 25 262143) ?_
     refine pu 18 39 (bs 25 524287) ?_
     refine pu 19 40 (bs 25 1048575) ?_
     refine pu 20 41 (bs 25 2097151) ?_
     refine tk4 21 42 (bs 25 4194303) hHeld ?_
     refine on0 22 43 (bs 25 8388607) fun K hK => ?_
     refine gs0 Tryz.func39 #[.slice sA x.2.length sC, .slice tA y.2.length tC] ?_
     refine HC.out.mono ?_
     rintro e w4 ⟨rfl, hb4⟩
     refine ⟨_, rfl, hK.out _ _ ⟨pw_cell_below hb4 hHeld.1, pw_cell_below hb4 hHeld.2.1, pw_cell_below hb4 hHeld.2.2.1, pw_cell_below hb4 hHeld.2.2.2⟩ (fun hHeld => ?_)⟩
     have HD4 := Aside0.mk (below_then HD.out HD.out.size hb4)
     have HX1 := Lib.hid hx1
     clear hb4 hx1
     clear hK K
     refine nm0 (some 43) ?_
     refine pu 23 44 (bs 25 16777215) ?_
     refine pu 24 5 (bs 25 33554431) ?_
     refine dn0 ?_
     go_wp2_with fail
     exact ⟨⟨k + 1, _, rfl, by go_num, by omega, ⟨fun h => ⟨HLEN.out, HG.out.1 (Prod.ext HX1.out (of_decide_eq_true h))⟩, fun h => HG.out.2 (fun he => of_decide_eq_false h (by rw [he])), HD4.out⟩⟩, by simp [intOf]; omega⟩
   ·have hkE : ¬ ((k : Int) < l.length) := by omega
    have HE := Lib.hid (show l = m by
     have h := HT.out.2
     rwa [List.take_of_length_le (by omega), List.take_of_length_le (by have := HT.out.1; omega)] at h)
    go_wp2_with fail
    go_ret
    exact ⟨by rw [decide_eq_true HE.out]; rfl, hX.out.2.2⟩
set_option maxRecDepth 4000 in
set_option maxHeartbeats 1600000 in
theorem counts_any (A B : Option Addr) (cA cB : Nat) (l m : List Msg) (w : World) (hl : kMs.C w A l.length l) (hm : kMs.C w B m.length m) :
  Calls Tryz.prog 24 #[.slice A l.length cA, .slice B m.length cB] w fun e w' => e = .returned (.bool (decide (l = m))) ∧ Below w.heap.size w w' := by
 have HL := Aside0.mk hl
 have HM := Aside0.mk hm
 have hlm := Kd.C_max hl
 have hmm := Kd.C_max hm
 clear hl hm
 go_enter Tryz.func24, Tryz.ntmps24
 go_wp2_with fail
 go_loopw [5, 6] (fun s i wr => ∃ (k : Nat) (b : Bool), s = .bool b ∧ i = .int .i64 k ∧ k ≤ l.length ∧ Aside0 ((b = true → l.length = m.length ∧ l.take k = m.take k) ∧ (b = false → l ≠ m) ∧ Below w.heap.size w wr)) (fun _ i _ => l.length - (intOf i).toNat)
 case atStart => exact ⟨0, _, rfl, rfl, Nat.zero_le _, ⟨fun h => ⟨by have := eq_of_beq h; omega, by simp⟩, fun h he => by subst he; simp at h, Below.refl _ _⟩⟩
 case round =>
  obtain ⟨k, b, rfl, rfl, hk, hX⟩ := hrel
  cases b with
  | false =>
   have HF := Lib.hid (hX.out.2.1 rfl)
   go_wp2_with fail
   go_ret
   exact ⟨by rw [decide_eq_false HF.out]; rfl, hX.out.2.2⟩
  | true =>
   have HT := Lib.hid (hX.out.1 rfl)
   by_cases hlt : k < l.length
   ·have hkm : k < m.length := by have := HT.out.1; omega
    have hkE : (k : Int) < l.length := by omega
    have hkM : (k : Int) < m.length := by omega
    have hk0 : (0 : Int) ≤ k := by omega
    obtain ⟨ad, sA, sC, rfl, c1, e1, f1, d1, _⟩ := at_msg (Kd.C_below HL.out hX.out.2.2) hlt
    obtain ⟨ad2, tA, tC, rfl, c2, e2, f2, d2, _⟩ := at_msg (Kd.C_below HM.out hX.out.2.2) hkm
    have HG := Lib.hid (show (l[k] = m[k] → l.take (k + 1) = m.take (k + 1)) ∧ (l[k] ≠ m[k] → l ≠ m) from ⟨take_grow hlt hkm HT.out.2, get_ne hlt hkm⟩)
    have HLEN := Lib.hid HT.out.1
    clear HT
    generalize l[k] = x at *
    generalize m[k] = y at *
    clear hkm
    go_upto_region 5 with fail
    refine start_ (n := 42) (S := fun w' => w'.cell? (ad.add (k * 3)) = some (.int .i64 x.1.1) ∧ w'.cell? ⟨(ad.add (k * 3)).block, (ad.add (k * 3)).off + 1, none⟩ = some (.slice sA x.1.2.length sC) ∧ w'.cell? ⟨(ad.add (k * 3)).block, (ad.add (k * 3)).off + 2, none⟩ = some (.int .i64 x.2) ∧ w'.cell? (ad2.add (k * 3)) = some (.int .i64 y.1.1) ∧ w'.cell? ⟨(ad2.add (k * 3)).block, (ad2.add (k * 3)).off + 1, none⟩ = some (.slice tA y.1.2.length tC) ∧ w'.cell? ⟨(ad2.add (k * 3)).block, (ad2.add (k * 3)).off + 2, none⟩ = some (.int .i64 y.2)) (ds := []) (bs 42 0) (by kernel_rfl) rfl (by kernel_rfl) ⟨c1, e1, f1, c2, e2, f2⟩ (fun hHeld => ?_)
    have HD := Aside0.mk (below_drew1 hX.out.2.2)
    have HDW := Aside0.mk (below_drew1 (Below.refl wr.heap.size wr))
    generalize wr.drew = wd at *
    have HC := Lib.hid (equal_any sA tA sC tC x.1.2 y.1.2 wd (Kd.C_below d1 HDW.out) (Kd.C_below d2 HDW.out))
    refine pu 0 21 (bs 42 1) ?_
    refine pu 1 22 (bs 42 3) ?_
    refine pu 2 23 (bs 42 7) ?_
    refine pu 3 24 (bs 42 15) ?_
    refine tk6 4 25 (bs 42 31) hHeld ?_
    refine pu 5 26 (bs 42 63) ?_
    refine pu 6 27 (bs 42 127) ?_
    refine pu 7 28 (bs 42 255) ?_
    refine pu 8 29 (bs 42 511) ?_
    refine tk6 9 30 (bs 42 1023) hHeld ?_
    cases hn : decide (x.2 = y.2)
    ·have hnb : (x.2 == y.2) = false := by simpa using hn
     have HNE := Lib.hid (HG.out.2 (fun h => of_decide_eq_false hn (by rw [h])))
     refine pu 10 31 (bs 42 2047) ?_
     refine pu 11 32 (bs 42 4095) ?_
     refine uf0 12 33 (bs 42 8191) ?_
     refine uf0 13 34 (bs 42 16383) ?_
     refine uf0 14 35 (bs 42 32767) ?_
     refine uf0 15 36 (bs 42 65535) ?_
     refine uf0 16 37 (bs 42 131071) ?_
     refine uf0 17 38 (bs 42 262143) ?_
     refine uf0 18 39 (bs 42 524287) ?_
     refine uf0 19 40 (bs 42 1048575) ?_
     refine uf0 20 41 (bs 42 2097151) ?_
     refine uf0 21 42 (bs 42 4194303) ?_
     refine uf0 22 43 (bs 42 8388607) ?_
     refine uf0 23 44 (bs 42 16777215) ?_
     refine uf0 24 45 (bs 42 33554431) ?_
     refine pu 25 46 (bs 42 67108863) ?_
     refine pu 26 47 (bs 42 134217727) ?_
     refine uf0 27 48 (bs 42 268435455) ?_
     refine uf0 28 49 (bs 42 536870911) ?_
     refine uf0 29 50 (bs 42 1073741823) ?_
     refine uf0 30 51 (bs 42 2147483647) ?_
     refine uf0 31 52 (bs 42 4294967295) ?_
     refine uf0 32 53 (bs 42 8589934591) ?_
     refine uf0 33 54 (bs 42 17179869183) ?_
     refine uf0 34 55 (bs 42 34359738367) ?_
     refine uf0 35 56 (bs 42 68719476735) ?_
     refine uf0 36 57 (bs 42 137438953471) ?_
     refine uf0 37 58 (bs 42 274877906943) ?_
     refine uf0 38 59 (bs 42 549755813887) ?_
     refine uf0 39 60 (bs 42 1099511627775) ?_
     refine pu 40 61 (bs 42 2199023255551) ?_
     refine pu 41 5 (bs 42 4398046511103) ?_
     refine dn0 ?_
     go_wp2_with fail
     exact ⟨⟨k + 1, _, rfl, by go_num, by omega, ⟨fun h => absurd h (by simp), fun _ => HNE.out, HD.out⟩⟩, by simp [intOf]; omega⟩
    ·skip
     have hnb : (x.2 == y.2) = true := by simpa using hn
     have hx1 := of_decide_eq_true hn
     refine pu 10 31 (bs 42 2047) ?_
     refine pu 11 32 (bs 42 4095) ?_
     refine pu 12 33 (bs 42 8191) ?_
     refine pu 13 34 (bs 42 16383) ?_
     refine pu 14 35 (bs 42 32767) ?_
     refine pu 15 36 (bs 42 65535) ?_
     refine pu 16 37 (bs 42 131071) ?_
     refine tk6 17 38 (bs 42 262143) hHeld ?_
     refine pu 18 39 (bs 42 524287) ?_
     refine pu 19 40 (bs 42 1048575) ?_
     refine pu 20 41 (bs 42 2097151) ?_
     refine pu 21 42 (bs 42 4194303) ?_
     refine pu 22 43 (bs 42 8388607) ?_
     refine tk6 23 44 (bs 42 16777215) hHeld ?_
     cases hn2 : decide (x.1.1 = y.1.1)
     ·have hnb2 : (x.1.1 == y.1.1) = false := by simpa using hn2
      have HNE := Lib.hid (HG.out.2 (fun h => of_decide_eq_false hn2 (by rw [h])))
      refine pu 24 45 (bs 42 33554431) ?_
      refine pu 25 46 (bs 42 67108863) ?_
      refine pu 26 47 (bs 42 134217727) ?_
      refine uf0 27 48 (bs 42 268435455) ?_
      refine uf0 28 49 (bs 42 536870911) ?_
      refine uf0 29 50 (bs 42 1073741823) ?_
      refine uf0 30 51 (bs 42 2147483647) ?_
      refine uf0 31 52 (bs 42 4294967295) ?_
      refine uf0 32 53 (bs 42 8589934591) ?_
      refine uf0 33 54 (bs 42 17179869183) ?_
      refine uf0 34 55 (bs 42 34359738367) ?_
      refine uf0 35 56 (bs 42 68719476735) ?_
      refine uf0 36 57 (bs 42 137438953471) ?_
      refine uf0 37 58 (bs 42 274877906943) ?_
      refine uf0 38 59 (bs 42 549755813887) ?_
      refine uf0 39 60 (bs 42 1099511627775) ?_
      refine pu 40 61 (bs 42 2199023255551) ?_
      refine pu 41 5 (bs 42 4398046511103) ?_
      refine dn0 ?_
      go_wp2_with fail
      exact ⟨⟨k + 1, _, rfl, by go_num, by omega, ⟨fun h => absurd h (by simp), fun _ => HNE.out, HD.out⟩⟩, by simp [intOf]; omega⟩
     ·skip
      have hnb2 : (x.1.1 == y.1.1) = true := by simpa using hn2
      have hx2 := of_decide_eq_true hn2
      refine pu 24 45 (bs 42 33554431) ?_
      refine pu 25 46 (bs 42 67108863) ?_
      refine pu 26 47 (bs 42 134217727) ?_
      refine pu 27 48 (bs 42 268435455) ?_
      refine pu 28 49 (bs 42 536870911) ?_
      refine pu 29 50 (bs 42 1073741823) ?_
      refine pu 30 51 (bs 42 2147483647) ?_
      refine pu 31 52 (bs 42 4294967295) ?_
      refine tk6 32 53 (bs 42 8589934591) hHeld ?_
      refine pu 33 54 (bs 42 17179869183) ?_
      refine pu 34 55 (bs 42 34359738367) ?_
      refine pu 35 56 (bs 42 68719476735) ?_
      refine pu 36 57 (bs 42 137438953471) ?_
      refine pu 37 58 (bs 42 274877906943) ?_
      refine tk6 38 59 (bs 42 549755813887) hHeld ?_
      refine on0 39 60 (bs 42 1099511627775) fun K hK => ?_
      refine gs0 Tryz.func39 #[.slice sA x.1.2.length sC, .slice tA y.1.2.length tC] ?_
      refine HC.out.mono ?_
      rintro e w4 ⟨rfl, hb4⟩
      refine ⟨_, rfl, hK.out _ _ ⟨pw_cell_below hb4 hHeld.1, pw_cell_below hb4 hHeld.2.1, pw_cell_below hb4 hHeld.2.2.1, pw_cell_below hb4 hHeld.2.2.2.1, pw_cell_below hb4 hHeld.2.2.2.2.1, pw_cell_below hb4 hHeld.2.2.2.2.2⟩ (fun hHeld => ?_)⟩
      have HD4 := Aside0.mk (below_then HD.out HD.out.size hb4)
      have HX1 := Lib.hid (And.intro hx1 hx2)
      clear hb4 hx1 hx2
      clear hK K
      refine nm0 (some 60) ?_
      refine pu 40 61 (bs 42 2199023255551) ?_
      refine pu 41 5 (bs 42 4398046511103) ?_
      refine dn0 ?_
      go_wp2_with fail
      exact ⟨⟨k + 1, _, rfl, by go_num, by omega, ⟨fun h => ⟨HLEN.out, HG.out.1 (Prod.ext (Prod.ext HX1.out.2 (of_decide_eq_true h)) HX1.out.1)⟩, fun h => HG.out.2 (fun he => of_decide_eq_false h (by rw [he])), HD4.out⟩⟩, by simp [intOf]; omega⟩
   ·have hkE : ¬ ((k : Int) < l.length) := by omega
    have HE := Lib.hid (show l = m by
     have h := HT.out.2
     rwa [List.take_of_length_le (by omega), List.take_of_length_le (by have := HT.out.1; omega)] at h)
    go_wp2_with fail
    go_ret
    exact ⟨by rw [decide_eq_true HE.out]; rfl, hX.out.2.2⟩
end Go.Proofs.YtbkfnmgkcgnifaaGreat
