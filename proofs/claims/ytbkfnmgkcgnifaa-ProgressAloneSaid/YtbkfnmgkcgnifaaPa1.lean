/- ProgressAlone: a worker alone always believes the truth, for every list of numbers. -/
import Derived.Test.YtbkfnmgkcgnifaaU5
import Derived.SizedLaws
import Derived.ChangeSlices
import Derived.Test.YtbkfnmgkcgnifaaRows
import Derived.WalkKit
import Derived.ProofKit
import Derived.OpenShut
import Derived.ChangeOld
import Derived.Below
set_option linter.all false
namespace Go.Proofs.Ytbkfnmgkcgnifaa
open Go.RowKit Go.Shelf Go.Proofs.YtbkfnmgkcgnifaaW.PrintWords Go.Proofs.YtbkfnmgkcgnifaaW.PrintLast Mdl
def zeroed (k : Nat) (l : List Msg) : List Msg := (l.take k).map (fun m => (m.1, 0)) ++ l.drop k
theorem zeroed_zero (l : List Msg) : zeroed 0 l = l := by simp [zeroed]
theorem zeroed_all (l : List Msg) : zeroed l.length l = l.map fun m => (m.1, 0) := by simp [zeroed]
theorem zeroed_set {k : Nat} {l : List Msg} (hk : k < l.length) : (zeroed k l).set k (((zeroed k l).getD k ((0, []), 0)).1, 0) = zeroed (k + 1) l := by
 have hl : ((l.take k).map fun m : Msg => (m.1, (0 : Int))).length = k := by rw [List.length_map, List.length_take]; omega
 have hd : l.drop k = l[k] :: l.drop (k + 1) := List.drop_eq_getElem_cons hk
 unfold zeroed
 rw [hd, List.take_succ_eq_append_getElem hk, List.map_append]
 generalize hA : ((l.take k).map fun m : Msg => (m.1, (0 : Int))) = a at *
 have e1 : (a ++ l[k] :: l.drop (k + 1)).getD k ((0, []), 0) = l[k] := by
  rw [List.getD_eq_getElem?_getD, List.getElem?_append_right (by omega), hl, Nat.sub_self]; rfl
 rw [e1, List.set_append_right _ _ (by omega), hl, Nat.sub_self, List.set_cons_zero, List.append_assoc]
 rfl
theorem kMs_zero {W : World} {g n cap k base : Nat} {xs : List Msg} (HO : kMs.R 51 W base (fun _ => True) (.slice (some ⟨g, 0, none⟩) n cap) xs) (hk : k < n) : ∃ wk : Int, W.cell? ⟨g, k * 3 + 2, none⟩ = some (.int .i64 wk) ∧ W.frozen? ⟨g, k * 3 + 2, none⟩ = false ∧ kMs.R 51 (W.setCell ⟨g, k * 3 + 2, none⟩ (.int .i64 0)) base (fun _ => True) (.slice (some ⟨g, 0, none⟩) n cap) (xs.set k ((xs.getD k ((0, []), 0)).1, 0)) ∧ W.grownBy (W.setCell ⟨g, k * 3 + 2, none⟩ (.int .i64 0)) (some g) := by
 obtain ⟨c, hcl, hM, hcc, hfr⟩ := Kd.R_elem HO ((0, []), 0) (k : Int) (by omega) (by omega)
 rw [Int.toNat_natCast] at hM hcc hfr
 obtain ⟨ca, cb, rfl, ⟨cd, ce, rfl, h1, ⟨v, rfl, hR⟩⟩, h2⟩ := hM
 have hcb : cb = [.int .i64 (xs.getD k ((0, []), 0)).snd] := h2
 have hcd : cd = [.int .i64 (xs.getD k ((0, []), 0)).fst.fst] := h1
 subst hcb hcd
 obtain ⟨A, c', rfl⟩ := Kd.R_slice hR
 have hs := Kd.R_seg HO (k : Int) (by omega) (by omega) (j := 2) (seg := [.int .i64 0]) (x' := ((xs.getD k ((0, []), 0)).fst, 0)) hcl (by rw [Int.toNat_natCast]; exact hcc) (by decide) (kMs_M hR) (fun _ h => h)
 rw [Int.toNat_natCast] at hs
 exact ⟨_, hcc 2 _ rfl, hfr 2, hs⟩
set_option maxRecDepth 4000 in
set_option maxHeartbeats 1600000 in
theorem lies_true (n low high : Int) (w : World) (h1 : low ≤ n) (h2 : n ≤ high) : Calls Try.prog 29 #[.int .i64 n, .int .i64 low, .int .i64 high] w fun e w' => e = .returned (.bool true) ∧ w = w' := by
 go_enter Try.func29, Try.ntmps29
 go_wp2
 go_ret
 exact ⟨rfl, rfl⟩
theorem resR_ok {α β : Type} {d : Kd β} {t : Nat} {f : List α → List β} {r : Except Int (List α)} {l : List α} {m : List β} {P : Program} {fn : FuncId} {args : Array Value} {w : World} (hr : r = .ok l) (hm : f l = m)
  (h : Calls P fn args w fun e w' => ∃ v, e = .returned (.tuple #[v, .int .i64 (resOf r).2]) ∧ d.R t w' w.heap.size (fun _ => True) v (f (resOf r).1) ∧ Below w.heap.size w w') :
  Calls P fn args w fun e w' => ∃ A c, e = .returned (.tuple #[.slice A m.length c, .int .i64 0]) ∧ d.R t w' w.heap.size (fun _ => True) (.slice A m.length c) m ∧ Below w.heap.size w w' := by
 refine h.mono ?_
 rintro e w' ⟨v, rfl, h1, hb⟩
 subst hr hm
 obtain ⟨A, c, rfl⟩ := Kd.R_slice h1
 exact ⟨A, c, rfl, h1, hb⟩
theorem cnt_cells {W : World} {A : Option Addr} {cap k base : Nat} {xs : List Msg} (HO : kMs.R 76 W base (fun _ => True) (.slice A xs.length cap) xs) (hk : k < xs.length) : ∃ (g : Nat) (sA : Option Addr) (sC : Nat), A = some ⟨g, 0, none⟩ ∧ W.cell? ⟨g, k * 3, none⟩ = some (.int .i64 xs[k].1.1) ∧ W.cell? ⟨g, k * 3 + 1, none⟩ = some (.slice sA xs[k].1.2.length sC) ∧ W.cell? ⟨g, k * 3 + 2, none⟩ = some (.int .i64 xs[k].2) ∧ kI.R 3 W base (fun _ => True) (.slice sA xs[k].1.2.length sC) xs[k].1.2 := by
 obtain ⟨g, cap', he, _⟩ := Kd.R_form HO (by omega)
 injection he with e1 e2 e3
 subst e1 e3
 obtain ⟨c, hcl, hM, hcc, hfr⟩ := Kd.R_elem HO ((0, []), 0) (k : Int) (by omega) (by omega)
 rw [Int.toNat_natCast] at hM hcc
 rw [List.getD_eq_getElem?_getD, List.getElem?_eq_getElem hk] at hM
 obtain ⟨ca, cb, rfl, ⟨cd, ce, rfl, h1, ⟨v, rfl, hR⟩⟩, h2⟩ := hM
 have hcb : cb = [.int .i64 xs[k].snd] := h2
 have hcd : cd = [.int .i64 xs[k].fst.fst] := h1
 subst hcb hcd
 obtain ⟨A, c', rfl⟩ := Kd.R_slice hR
 exact ⟨g, A, c', rfl, hcc 0 _ rfl, hcc 1 _ rfl, hcc 2 _ rfl, Kd.R_mono hR (fun _ _ => trivial)⟩
def owned (led : List Msg) : List (Int × List Int) := led.flatMap fun e => List.replicate e.2.toNat e.1
theorem owned_step {led : List Msg} {k cv : Nat} (hk : k < led.length) (hcv : led[k].2 = cv) : owned (led.take (k + 1)) = owned (led.take k) ++ List.replicate cv led[k].1 := by
 unfold owned
 rw [List.take_succ_eq_append_getElem hk, List.flatMap_append, List.flatMap_cons, List.flatMap_nil, List.append_nil, hcv, Int.toNat_natCast]
theorem owned_len (led : List Msg) (k : Nat) : (owned (led.take k)).length ≤ (owned led).length := by
 have h : owned led = owned (led.take k) ++ owned (led.drop k) := by
  unfold owned; rw [← List.flatMap_append, List.take_append_drop]
 rw [h, List.length_append]; omega
def OwnAt (vC : World) (base : Nat) (o : Value) (xs : List (Int × List Int)) (wr : World) : Prop := kMk.R 48 wr base (fun _ => True) o xs ∧ (∀ q, o.ownBlock = some q → vC.heap.size ≤ q) ∧ Below vC.heap.size vC wr
theorem OwnAt.snoc {vC vB W w6 : World} {base : Nat} {o v6 : Value} {pre : List (Int × List Int)} {j : Nat} {m : Int × List Int} (h : OwnAt vC base o (pre ++ List.replicate j m) W) (hR : kMk.R 48 w6 base (fun _ => True) v6 ((pre ++ List.replicate j m) ++ [m])) (hg : W.grownBy w6 o.ownBlock) (hat : v6.ownBlock = o.ownBlock ∨ ∃ b, v6.ownBlock = some b ∧ W.heap.size ≤ b) : OwnAt vC base v6 (pre ++ List.replicate (j + 1) m) w6 := by
 refine ⟨by rw [List.replicate_succ', ← List.append_assoc]; exact hR, fun q hq => ?_, h.2.2.grown hg h.2.2.size h.2.1⟩
 rcases hat with he | ⟨b, hb, hle⟩
 ·exact h.2.1 q (he ▸ hq)
 ·rw [hq] at hb
  injection hb with hb
  have := h.2.2.size
  omega
theorem Al.rowR {Ps : List (World → Prop)} {w : World} (h : Al Ps w) {α : Type} {d : Kd α} {e base : Nat} {ok : Nat → Prop} {v : Value} {xs : List α} (hr : d.R e w base ok v xs) : Al ((fun u => d.R e u base ok v xs) :: Ps) w := ⟨⟨hr, fun _ _ h hb => Kd.R_below h hb⟩, h⟩
end Go.Proofs.Ytbkfnmgkcgnifaa
namespace Go.Proofs.Ytbkfnmgkcgnifaa
open Go.RowKit Go.Shelf Go.Proofs.YtbkfnmgkcgnifaaW.PrintWords Go.Proofs.YtbkfnmgkcgnifaaW.PrintLast Mdl
set_option maxRecDepth 8000 in
set_option maxHeartbeats 8000000 in
theorem alone_walk (A sA : Option Addr) (c sC : Nat) (l script : List Int) (n0 : Int) (w : World) (hl : kI.C w A l.length l) (hm : l.length ≤ 1000000000000000) (hsc : kI.C w sA script.length script) (hsl : script.length ≤ sC) :
  Calls Try.prog 8 #[.slice A l.length c, .slice sA script.length sC, .int .i64 n0] w fun e w' => e = .returned (.bool true) ∧ Below w.heap.size w w' := by
 have HMD := Lib.hid (made_anyR A c l w hl hm)
 have hsm := Kd.C_max hsc
 have H0 := Aside0.mk ((Al.start w).row hsc)
 clear hl hsc
 go_enter Try.func8, Try.ntmps8
 go_wp2_with fail
 refine HMD.out.mono ?_
 rintro e v2 ⟨p, eA, eC, mA, mC, rfl, hpm, hpa, hle, hlm, hb, hRS⟩
 clear HMD
 have H1 := Aside0.mk (H0.out.up hb)
 clear H0
 clear hb
 have H2 := Aside0.mk (H1.out.row hpa.hE)
 clear H1
 have HRS := Aside0.mk hRS
 have hS4 := hpm.S.2.1
 have hS1 := hpm.S.1
 have hqm := aloneP_made hpm
 obtain ⟨ways, hways⟩ := made_planned hqm
 have HG := Lib.hid (Mdl.Good.mk hqm hways)
 simp only [planV]
 clear hpa hle hlm hRS hpm hqm hways
 have hpb := heap_alloc_new v2 (.cells #[.int .i64 p.N, .int .i64 p.Wd, .slice eA p.E.length eC, .int .i64 p.workers, .slice mA p.start.length mC] 29)
 have hB := below_new v2 (.cells #[.int .i64 p.N, .int .i64 p.Wd, .slice eA p.E.length eC, .int .i64 p.workers, .slice mA p.start.length mC] 29)
 have H8 := Aside0.mk (And.intro hpb hB)
 clear hpb hB
 go_upto_region 2 with fail
 generalize v2.alloc (.cells #[.int .i64 p.N, .int .i64 p.Wd, .slice eA p.E.length eC, .int .i64 p.workers, .slice mA p.start.length mC] 29) = v3 at *
 have y3 := blk_frozen H8.out.1 3
 have z3 := (blk_cell H8.out.1 3).trans rfl
 go_upto_region 3 with fail
 have H9 := Aside0.mk (And.intro (blk_put H8.out.1 3 (.int .i64 1) rfl) (H8.out.2.setCell (Nat.le_refl _) (p := ⟨v2.heap.size, 3, none⟩) (.int .i64 1)))
 clear H8 y3 z3
 generalize v3.setCell ⟨v2.heap.size, 3, none⟩ (.int .i64 1) = v4 at *
 have HR4 := Aside0.mk (Kd.R_below HRS.out H9.out.2)
 have H4B := Aside0.mk (below_then H2.out.2.2.1.1 H2.out.2.2.1.1.size H9.out.2)
 have HZZ := Aside0.mk (And.intro (R_empty kMs 51 w.heap.size v4 H4B.out.size) (And.intro (below_then H4B.out H4B.out.size (below_new v4 (.cells #[] 51))) (below_new v4 (.cells #[] 51))))
 have p4 : (v4.alloc (.cells #[] 51)).cell? ⟨v2.heap.size, 4, none⟩ = some (.slice mA p.start.length mC) := pw_cell_below HZZ.out.2.2 ((blk_cell H9.out.1 4).trans rfl)
 go_wp2_with (at_builtin; go_must (refine Kd.R_append_rows kMs (Rr := kMs.M (v4.alloc (.cells #[] 51)) w.heap.size (fun q => q < v4.heap.size)) (w0 := w) w.heap.size rfl (.tmp 23) (.tmp 25) 27 51 _ 40 rfl Try.underlying27 Try.infoMsg rfl (by decide) (by decide) (.slice (some ⟨v4.heap.size, 0, none⟩) 0 0) [] p.start mA p.start.length mC (fun _ => True) (fun q => q < v4.heap.size) rfl rfl HZZ.out.1 (copy_rd HR4.out (below_new v4 _)) (fun _ _ h => h) (fun q hq => ⟨trivial, ne_own (Nat.ne_of_lt hq)⟩) (fun _ _ => trivial) HZZ.out.2.1 HZZ.out.2.1.size (by simp; omega) ?_); intro v1 w1 hR1 hb1 hg1 hat1; have hbw1 := HZZ.out.2.2.grown hg1 HZZ.out.2.2.size (fun q hq => by injection hq with hq; subst hq; exact Nat.le_refl _); have hpb1 := blk_below H9.out.1 hbw1; have y4 := blk_frozen hpb1 4; have z4 := (blk_cell hpb1 4).trans rfl; obtain ⟨A5, c5, hv5⟩ := Kd.R_slice hR1; rw [List.nil_append] at hR1 hv5; subst hv5; have how := own_new hat1 (Nat.le_refl v4.heap.size) HZZ.out.2.2.size; have HX := Aside0.mk (And.intro hR1 (And.intro hb1 (And.intro hpb1 (And.intro (below_then H9.out.2 H9.out.2.size hbw1) (fun q hq => Nat.le_trans H9.out.2.size (how q hq)))))); clear hR1 hb1 hg1 hat1 hbw1 hpb1 how)
 have R2 := Kd.R_set HX.out.1 HX.out.2.2.1 kMs_types 4 (.slice A5 p.start.length c5)
 obtain ⟨g, cap, hge, _, _, _⟩ := Kd.R_form R2 (by omega)
 injection hge with e1 e2 e3
 subst e1 e3
 have hgn : v2.heap.size ≤ g := HX.out.2.2.2.2 g rfl
 have hwv : w.heap.size ≤ v2.heap.size := H2.out.2.2.1.1.size
 have hql : (aloneP p).start.length = p.start.length := List.length_map _
 have HY := Aside0.mk (show kMs.R 51 (w1.setCell ⟨v2.heap.size, 4, none⟩ (.slice (some ⟨g, 0, none⟩) p.start.length c5)) w.heap.size (fun _ => True) (.slice (some ⟨g, 0, none⟩) (aloneP p).start.length c5) (zeroed 0 p.start) ∧ Below w.heap.size w (w1.setCell ⟨v2.heap.size, 4, none⟩ (.slice (some ⟨g, 0, none⟩) p.start.length c5)) ∧ (w1.setCell ⟨v2.heap.size, 4, none⟩ (.slice (some ⟨g, 0, none⟩) p.start.length c5)).heap[v2.heap.size]? = some (.cells #[.int .i64 (aloneP p).N, .int .i64 (aloneP p).Wd, .slice eA (aloneP p).E.length eC, .int .i64 (aloneP p).workers, .slice (some ⟨g, 0, none⟩) (aloneP p).start.length c5] 29 (0, 0)) ∧ Below v2.heap.size v2 (w1.setCell ⟨v2.heap.size, 4, none⟩ (.slice (some ⟨g, 0, none⟩) p.start.length c5)) from ⟨by rw [hql, zeroed_zero]; exact R2, HX.out.2.1.setCell hwv _, by rw [hql]; exact blk_put HX.out.2.2.1 4 _ rfl, HX.out.2.2.2.1.setCell (Nat.le_refl _) _⟩)
 generalize w1.setCell ⟨v2.heap.size, 4, none⟩ (.slice (some ⟨g, 0, none⟩) p.start.length c5) = v5 at *
 have HZE := Lib.hid (show zeroed p.start.length p.start = (aloneP p).start from zeroed_all _)
 have HEE := Lib.hid (show (aloneP p).E = p.E ∧ (aloneP p).workers = 1 from ⟨rfl, rfl⟩)
 generalize aloneP p = q at *
 clear HX R2 y4 z4 p4 HZZ H4B HR4 H9 HRS hS1
 go_loopw [8] (fun i wr => ∃ k : Nat, i = .int .i64 k ∧ k ≤ q.start.length ∧ Aside0 (kMs.R 51 wr w.heap.size (fun _ => True) (.slice (some ⟨g, 0, none⟩) q.start.length c5) (zeroed k p.start) ∧ Below w.heap.size w wr ∧ wr.heap[v2.heap.size]? = some (.cells #[.int .i64 q.N, .int .i64 q.Wd, .slice eA q.E.length eC, .int .i64 q.workers, .slice (some ⟨g, 0, none⟩) q.start.length c5] 29 (0, 0)) ∧ Below v2.heap.size v2 wr)) (fun i _ => q.start.length - (intOf i).toNat)
 case atStart => exact ⟨0, rfl, Nat.zero_le _, HY⟩
 case round =>
  clear HY
  obtain ⟨k, rfl, hk, hX⟩ := hrel
  have p4 : wr.cell? ⟨v2.heap.size, 4, none⟩ = some (.slice (some ⟨g, 0, none⟩) q.start.length c5) := (blk_cell hX.out.2.2.1 4).trans rfl
  by_cases hlt : k < q.start.length
  ·have hkE : (k : Int) < q.start.length := by omega
   have hk0 : (0 : Int) ≤ k := by omega
   obtain ⟨wk, z0, y0, hR, hgr⟩ := kMs_zero hX.out.1 hlt
   have hne : some v2.heap.size ≠ some g := Kd.R_ne hX.out.1 hX.out.2.2.1 (by decide)
   have HN := Aside0.mk (show kMs.R 51 (wr.setCell ⟨g, k * 3 + 2, none⟩ (.int .i64 0)) w.heap.size (fun _ => True) (.slice (some ⟨g, 0, none⟩) q.start.length c5) (zeroed (k + 1) p.start) ∧ Below w.heap.size w (wr.setCell ⟨g, k * 3 + 2, none⟩ (.int .i64 0)) ∧ (wr.setCell ⟨g, k * 3 + 2, none⟩ (.int .i64 0)).heap[v2.heap.size]? = some (.cells #[.int .i64 q.N, .int .i64 q.Wd, .slice eA q.E.length eC, .int .i64 q.workers, .slice (some ⟨g, 0, none⟩) q.start.length c5] 29 (0, 0)) ∧ Below v2.heap.size v2 (wr.setCell ⟨g, k * 3 + 2, none⟩ (.int .i64 0)) from ⟨by rw [← zeroed_set (by omega)]; exact hR, hX.out.2.1.grown hgr hX.out.2.1.size (fun q hq => by injection hq with hq; subst hq; omega), (hgr.block _ (blk_lt hX.out.2.2.1) hne).trans hX.out.2.2.1, hX.out.2.2.2.grown hgr hX.out.2.2.2.size (fun q hq => by injection hq with hq; subst hq; exact hgn)⟩)
   clear hR hgr hne hX
   go_wp2_with fail
   exact ⟨⟨k + 1, by go_num, by omega, HN⟩, by simp [intOf]; omega⟩
  ·have hkE : ¬ (k : Int) < q.start.length := by omega
   have H3 := Aside0.mk (H2.out.up hX.out.2.2.2)
   clear H2
   have H4 := Aside0.mk (H3.out.blk hX.out.2.2.1)
   clear H3
   have hpq : PlanAt wr q eA (some ⟨g, 0, none⟩) := ⟨by rw [HEE.out.1]; exact H4.out.2.1.1, by have := (Kd.R_reads' hX.out.1).2.2; rw [show k = p.start.length by omega, HZE.out] at this; exact this⟩
   have H5 := Aside0.mk (H4.out.plan hpq)
   clear H4
   clear hpq hX hlt hk hql hS4 hgn hwv e2 HZE
   go_upto_region 8 with fail
   clear p4 hkE
   refine start_ (n := 9) (S := fun _ => True) (ds := []) (bs 9 0) (by kernel_rfl) rfl (by kernel_rfl) trivial (fun hHeld => ?_)
   have H6 := Aside0.mk (H5.out.up (below_drew1 (Below.refl wr.heap.size wr)))
   clear H5
   generalize wr.drew = wd at *
   refine pu 0 40 (bs 9 1) ?_
   refine pu 1 41 (bs 9 3) ?_
   refine pu 2 42 (bs 9 7) ?_
   refine pu 3 43 (bs 9 15) ?_
   have ht := cut_len script 40
   simp only [Int.cast_ofNat_Int] at ht
   have hz0 : 0 ≤ (if (40 : Int) < (script.length : Int) then (40 : Int) else (script.length : Int)) := by split <;> omega
   have hz1 : (if (40 : Int) < (script.length : Int) then (40 : Int) else (script.length : Int)) ≤ sC := by split <;> omega
   generalize (if (40 : Int) < (script.length : Int) then (40 : Int) else (script.length : Int)) = zz at *
   have HTT := Lib.hid ht
   clear ht
   refine pu 4 44 (bs 9 31) ?_
   rw [HTT.out]
   clear HTT hz0 hz1
   have hsc := C_cut H6.out.2.2.2.1.1 40
   have hs40 : (script.take 40).length ≤ 40 := by rw [List.length_take]; omega
   have hsC : (script.take 40).length ≤ sC := by rw [List.length_take]; omega
   generalize script.take 40 = sc at *
   have H7 := Aside0.mk (H6.out.row hsc)
   clear H6
   clear hsc hsl
   refine pu 5 45 (bs 9 63) ?_
   refine on0 6 46 (bs 9 127) fun K hK => ?_
   refine gs0 Try.func10 #[.int .i64 n0, .int .i64 50] ?_
   refine (turn_any n0 50 wd (by decide) (by decide)).mono ?_
   rintro e w' ⟨rfl, rfl⟩
   refine ⟨_, rfl, hK.out _ _ trivial (fun hHeld => ?_)⟩
   clear hK K
   refine nm0 (some 46) ?_
   obtain ⟨n, hn⟩ : ∃ n : Nat, turnP n0 50 = n := ⟨(turnP n0 50).toNat, by have := turnP_range n0 (many := 50) (by decide); omega⟩
   have hn2 : n < 50 := by have := turnP_range n0 (many := 50) (by decide); omega
   rw [hn]
   clear hn hHeld
   refine pu 7 1 (bs 9 255) ?_
   refine pu 8 2 (bs 9 511) ?_
   refine dn0 ?_
   have hw0 : ((0 : Nat) : Int) < q.workers := by rw [HEE.out.2]; decide
   obtain ⟨led, held, hA⟩ := alone_of HG.out HEE.out.2 (script := sc) (by omega) n
   have HA := Lib.hid hA
   clear hA
   have p0 : wd.cell? ⟨v2.heap.size, 0, none⟩ = some (.int .i64 q.N) := (blk_cell H7.out.2.2.1.1 0).trans rfl
   have p1 : wd.cell? ⟨v2.heap.size, 1, none⟩ = some (.int .i64 q.Wd) := (blk_cell H7.out.2.2.1.1 1).trans rfl
   have p2 : wd.cell? ⟨v2.heap.size, 2, none⟩ = some (.slice eA q.E.length eC) := (blk_cell H7.out.2.2.1.1 2).trans rfl
   have p3 : wd.cell? ⟨v2.heap.size, 3, none⟩ = some (.int .i64 q.workers) := (blk_cell H7.out.2.2.1.1 3).trans rfl
   have p4 : wd.cell? ⟨v2.heap.size, 4, none⟩ = some (.slice (some ⟨g, 0, none⟩) q.start.length c5) := (blk_cell H7.out.2.2.1.1 4).trans rfl
   go_wp2_with fail
   refine (truth_ok (eA := eA) (mA := some ⟨g, 0, none⟩) HG.out (by omega) n (by omega) H7.out.2.1.1 H7.out.1.1 hsC).mono ?_
   rintro e v3 ⟨A1, c1, rfl, h1, -, hb⟩
   have H8 := Aside0.mk (H7.out.up hb)
   clear H7
   have H9 := Aside0.mk (H8.out.row h1)
   clear H8
   clear hb h1
   clear p0 p1 p2 p3 p4
   have p0 : v3.cell? ⟨v2.heap.size, 0, none⟩ = some (.int .i64 q.N) := (blk_cell H9.out.2.2.2.1.1 0).trans rfl
   have p1 : v3.cell? ⟨v2.heap.size, 1, none⟩ = some (.int .i64 q.Wd) := (blk_cell H9.out.2.2.2.1.1 1).trans rfl
   have p2 : v3.cell? ⟨v2.heap.size, 2, none⟩ = some (.slice eA q.E.length eC) := (blk_cell H9.out.2.2.2.1.1 2).trans rfl
   have p3 : v3.cell? ⟨v2.heap.size, 3, none⟩ = some (.int .i64 q.workers) := (blk_cell H9.out.2.2.2.1.1 3).trans rfl
   have p4 : v3.cell? ⟨v2.heap.size, 4, none⟩ = some (.slice (some ⟨g, 0, none⟩) q.start.length c5) := (blk_cell H9.out.2.2.2.1.1 4).trans rfl
   go_wp2_with fail
   refine (belief_ok (eA := eA) (mA := some ⟨g, 0, none⟩) HG.out (by omega) n 0 (by omega) hw0 H9.out.2.2.1.1 H9.out.2.1.1 hsC).mono ?_
   rintro e v4 ⟨A2, c2, rfl, h1, -, hb⟩
   have H10 := Aside0.mk (H9.out.up hb)
   clear H9
   have H11 := Aside0.mk (H10.out.row h1)
   clear H10
   clear hb h1
   clear p0 p1 p2 p3 p4
   have p0 : v4.cell? ⟨v2.heap.size, 0, none⟩ = some (.int .i64 q.N) := (blk_cell H11.out.2.2.2.2.1.1 0).trans rfl
   have p1 : v4.cell? ⟨v2.heap.size, 1, none⟩ = some (.int .i64 q.Wd) := (blk_cell H11.out.2.2.2.2.1.1 1).trans rfl
   have p2 : v4.cell? ⟨v2.heap.size, 2, none⟩ = some (.slice eA q.E.length eC) := (blk_cell H11.out.2.2.2.2.1.1 2).trans rfl
   have p3 : v4.cell? ⟨v2.heap.size, 3, none⟩ = some (.int .i64 q.workers) := (blk_cell H11.out.2.2.2.2.1.1 3).trans rfl
   have p4 : v4.cell? ⟨v2.heap.size, 4, none⟩ = some (.slice (some ⟨g, 0, none⟩) q.start.length c5) := (blk_cell H11.out.2.2.2.2.1.1 4).trans rfl
   go_wp2_with fail
   have H12 := Aside0.mk (H11.out.since (Below.refl v4.heap.size v4))
   clear H11
   refine (resR_ok (f := fun l => l) HA.out.led_ rfl (ledger_any q eA (some ⟨g, 0, none⟩) sA eC c5 sC sc n 0 (by omega) v4 H12.out.2.2.2.2.1.1 H12.out.2.2.2.1.1 hsC)).mono ?_
   rintro e v5 ⟨A3, c3, rfl, h1, hb⟩
   have H13 := Aside0.mk (H12.out.up hb)
   clear H12
   have H14 := Aside0.mk (H13.out.rowR h1)
   clear H13
   clear hb h1
   clear p0 p1 p2 p3 p4
   have p0 : v5.cell? ⟨v2.heap.size, 0, none⟩ = some (.int .i64 q.N) := (blk_cell H14.out.2.2.2.2.2.2.1.1 0).trans rfl
   have p1 : v5.cell? ⟨v2.heap.size, 1, none⟩ = some (.int .i64 q.Wd) := (blk_cell H14.out.2.2.2.2.2.2.1.1 1).trans rfl
   have p2 : v5.cell? ⟨v2.heap.size, 2, none⟩ = some (.slice eA q.E.length eC) := (blk_cell H14.out.2.2.2.2.2.2.1.1 2).trans rfl
   have p3 : v5.cell? ⟨v2.heap.size, 3, none⟩ = some (.int .i64 q.workers) := (blk_cell H14.out.2.2.2.2.2.2.1.1 3).trans rfl
   have p4 : v5.cell? ⟨v2.heap.size, 4, none⟩ = some (.slice (some ⟨g, 0, none⟩) q.start.length c5) := (blk_cell H14.out.2.2.2.2.2.2.1.1 4).trans rfl
   go_wp2_with fail
   refine (res_ok (f := fun l => l) HA.out.held_ rfl (held_any q eA (some ⟨g, 0, none⟩) sA eC c5 sC sc n 0 (by omega) v5 H14.out.2.2.2.2.2.1.1 H14.out.2.2.2.2.1.1 hsC)).mono ?_
   rintro e v6 ⟨A4, c4, rfl, h1, -, hb⟩
   have H15 := Aside0.mk (H14.out.up hb)
   clear H14
   have H16 := Aside0.mk (H15.out.row h1)
   clear H15
   clear hb h1
   clear p0 p1 p2 p3 p4
   go_wp2_with fail
   refine (fronts_eq H16.out.2.2.2.2.1.1 H16.out.2.2.2.1.1 rfl rfl HA.out.front).mono ?_
   rintro e v7 ⟨rfl, hb⟩
   have H17 := Aside0.mk (H16.out.up hb)
   clear H16
   clear hb
   go_wp2_with fail
   have hBC := H17.out.2.2.1.1.size
   have HO := Aside0.mk (show OwnAt v7 v4.heap.size (.slice (some ⟨v7.heap.size, 0, none⟩) 0 0) (owned (led.take 0)) (v7.alloc (.cells #[] 48)) from ⟨R_empty kMk 48 v4.heap.size v7 hBC, fun q hq => by injection hq with hq; subst hq; exact Nat.le_refl _, below_new v7 (.cells #[] 48)⟩)
   generalize v7.alloc (.cells #[] 48) = vo at *
   have HH := Lib.hid (show owned led = held from HA.out.own)
   have hledm := Kd.C_max (Kd.R_reads' H17.out.2.1.1).2.2
   clear hBC
   have HCC := Lib.hid (fun (k : Nat) (hk : k < led.length) => cnt_cells H17.out.2.1.1 hk)
   go_loopw [17, 18] (fun o i wr => ∃ k : Nat, i = .int .i64 k ∧ k ≤ led.length ∧ Aside0 (OwnAt v7 v4.heap.size o (owned (led.take k)) wr)) (fun _ i _ => led.length - (intOf i).toNat)
   case atStart => exact ⟨0, rfl, Nat.zero_le _, HO⟩
   case round =>
    clear HO
    obtain ⟨k, rfl, hk, hX⟩ := hrel
    have HW := Aside0.mk (H17.out.up hX.out.2.2)
    by_cases hlt : k < led.length
    ·have hkE : (k : Int) < led.length := by omega
     have hk0 : (0 : Int) ≤ k := by omega
     obtain ⟨g2, lA, lC, rfl, d0, d1, d2, hRi⟩ := HCC.out k hlt
     clear HCC
     obtain ⟨cv, hcv⟩ : ∃ cv : Nat, led[k].2 = cv := ⟨led[k].2.toNat, by have := (HA.out.cnts _ (List.getElem_mem hlt)).1; omega⟩
     have hcn := HA.out.cnts _ (List.getElem_mem hlt)
     rw [hcv] at hcn d2
     have hc1 : (1 : Int) ≤ cv := hcn.1
     have hc2 : (cv : Int) ≤ held.length := hcn.2
     have HST := Lib.hid (owned_step hlt hcv)
     have hpl := owned_len led k
     have hhl := HA.out.len
     rw [HH.out] at hpl
     clear hcn hcv
     generalize led[k].1 = mk at *
     obtain ⟨nd, ls⟩ := mk
     simp only at d0 d1 hRi
     have HD := Aside0.mk (And.intro d0 (And.intro d1 (And.intro d2 hRi)))
     clear d0 d1 hRi
     have d2 := pw_cell_below hX.out.2.2 d2
     generalize owned (led.take k) = pre at *
     go_wp2_with fail
     refine (lies_true cv 1 held.length wr hc1 hc2).mono ?_
     rintro e w' ⟨rfl, rfl⟩
     go_wp2_with fail
     clear d2 hc1 HW
     generalize wr = wo at *
     go_loopw [17, 19] (fun o i wv => ∃ j : Nat, i = .int .i64 j ∧ j ≤ cv ∧ Aside0 (OwnAt v7 v4.heap.size o (pre ++ List.replicate j (nd, ls)) wv)) (fun _ i _ => cv - (intOf i).toNat)
     case atStart => exact ⟨0, rfl, Nat.zero_le _, ⟨by rw [List.replicate_zero, List.append_nil]; exact hX.out⟩⟩
     case round =>
      clear hX
      obtain ⟨j, rfl, hj, hY⟩ := hrel
      have d2 := pw_cell_below hY.out.2.2 HD.out.2.2.1
      by_cases hjt : j < cv
      ·have hjE : (j : Int) < cv := by omega
       have d0 := pw_cell_below hY.out.2.2 HD.out.1
       have d1 := pw_cell_below hY.out.2.2 HD.out.2.1
       have HB := Aside0.mk ((H17.out.up hY.out.2.2).2.2.1.1)
       have hRi := Kd.R_below HD.out.2.2.2 hY.out.2.2
       have HRi := Aside0.mk (R_typedI hRi)
       clear hRi
       go_wp2_with (at_builtin; go_must (refine Kd.R_append kMk (w0 := v4) v4.heap.size rfl (.tmp 120) (.tmp 126) _ 48 _ 32 rfl Try.underlying66 Try.infoAmark rfl (by decide) (by decide) _ (pre ++ List.replicate j (nd, ls)) (nd, ls) _ (fun _ => True) (fun q => Typed wr q 3) rfl rfl ⟨[_], [_], rfl, rfl, ⟨_, rfl, HRi.out⟩⟩ (fun q hq => ⟨trivial, fun he => not_typed hq rfl (own_typed (Kd.R_own hY.out.1).choose_spec q he.symm)⟩) (fun _ _ => trivial) hY.out.1 HB.out HB.out.size (by rw [List.length_append, List.length_replicate]; omega) ?_); intro v6 w6 hR6 hb6 hg6 hat6)
       have HS := Aside0.mk (OwnAt.snoc (vB := v4) hY.out hR6 hg6 hat6)
       clear hR6 hb6 hg6 hat6
       exact ⟨⟨j + 1, by go_num, by omega, HS⟩, by simp [intOf]; omega⟩
      ·have hjE : ¬ (j : Int) < cv := by omega
       have HS := Aside0.mk (show OwnAt v7 v4.heap.size _ (owned (led.take (k + 1))) wr by rw [HST.out, show cv = j by omega]; exact hY.out)
       clear hY
       go_wp2_with fail
       exact ⟨⟨k + 1, by go_num, by omega, HS⟩, by simp [intOf]; omega⟩
    ·have hkE : ¬ (k : Int) < led.length := by omega
     have hZ := hX.out.1
     rw [show k = led.length by omega, List.take_length, HH.out] at hZ
     obtain ⟨oA, oC, hoe⟩ := Kd.R_slice hZ
     subst hoe
     have HZ := Aside0.mk (Kd.R_reads' hZ).2.2
     clear hZ hX hlt
     go_wp2_with fail
     refine (marks_same oA A4 oC c4 wr held HZ.out HW.out.1.1).mono ?_
     rintro e v8 ⟨rfl, hb⟩
     have H18 := Aside0.mk (HW.out.up hb)
     clear HW
     clear hb
     go_wp2_with fail
     refine progressed_fin H18.out.2.2.2.2.2.2.2.2.2.2.1.1 (fun w' hb => ?_)
     go_wp2_with fail
     go_ret
     exact ⟨rfl, hb⟩
end Go.Proofs.Ytbkfnmgkcgnifaa
namespace Go.Proofs.YtbkfnmgkcgnifaaW.PrintWords
open Go.ChangeShapes Go.WideShapes
theorem sized_ints {H : Type} {enc : TypeId × Value → H} {P : Program} {W : World} {base : Nat} {spare : Nat → Bool} {held : Bool} {t e : TypeId} {k : IntKind} {a : Option Addr} {len cap : Nat} {d : DataW H} {ps : List MemPlace} {ts : List TypeId} {ds : List (DataW H)} {j : Nat}
  (hsz : (DataW.weightsEach P ts ds).all (· ≤ reachBytes) = true) (ht : ts[j]? = some t) (hd : ds[j]? = some d) (hu : P.underlying t = some (.slice e)) (he : P.underlying e = some (.int k)) (hc : P.cellsOf e = 1) {B : Nat} (hB : P.bytesOf e = B)
  (h : DataW.Trod enc P W base spare held t (.slice a len cap) d ps) : len * B ≤ 140737488351232 := by
 obtain ⟨fuel, hf⟩ := h
 rcases open_ints hu he hc hf with ⟨hcs, _⟩ | ⟨x, l, c, zs, hcs, _, hl, _, hz, hx, _, _⟩
 ·simp [Value.cells] at hcs
  obtain ⟨rfl, rfl, rfl⟩ := hcs
  simp
 ·simp [Value.cells] at hcs
  obtain ⟨rfl, rfl, rfl⟩ := hcs
  obtain ⟨hx, _⟩ := Prod.mk.inj hx
  subst hx
  have z := sized_slice hsz ht hd hu
  rw [hB] at z
  have hl2 : len ≤ zs.length := by
   rw [hz]
   split
   ·exact hl
   ·exact Nat.le_refl _
  have h1 : (lits (H := H) k (zs.take len)).length + (lits (H := H) k (zs.drop len)).length = zs.length := by
   simp [lits]
   omega
  rw [h1] at z
  exact Nat.le_trans (Nat.mul_le_mul_right _ hl2) z
end Go.Proofs.YtbkfnmgkcgnifaaW.PrintWords
namespace Go.Proofs.Ytbkfnmgkcgnifaa.progressAlone
open Go.ChangeShapes Go.WideShapes Go.ChangeAt Go.RowKit Go.Proofs.YtbkfnmgkcgnifaaW.PrintWords
set_option linter.unusedVariables false
theorem own : ownKnob Try.prog.godebug = none := by kernel_rfl
theorem laidOut : laidOutB Try.prog = true := by kernel_rfl
def IsRow (w : World) (a : Option Addr) (len cap : Nat) (zs : List Int) : Prop :=
 (a = none ∧ len = 0 ∧ cap = 0 ∧ zs = []) ∨
 ∃ x, a = some x ∧ len ≤ cap ∧ cap ≤ maxLen ∧ zs.length = cap ∧ (∀ i, i < zs.length → w.cell? (x.add i) = some (.int .i64 (zs.getD i 0))) ∧ ∀ n ∈ zs, (Lit.int .i64 n).wf = true
set_option maxRecDepth 100000 in
theorem lifted (os : Os) (started : os.Started) (H : Type) (enc : TypeId × Value → H) :
  ReturnsInHanded {} Try.checked os 8 .any (Rows.progressAloneSpec.pre6 enc Try.prog Try.f8 Rows.progressAloneRow.domain false) (Rows.progressAloneSpec.post enc Try.prog Try.f8 false true false false) := by
 refine returnsInHanded_of_change_sized (C := Try.checked) own started (by kernel_rfl) Try.func8
  (ChangeSpec.witness6 (enc := enc) (C := Try.checked) false ⟨#[], #[.slice none 0 0, .slice none 0 0, .int .i64 0], []⟩ 8 (by kernel_rfl) (by kernel_rfl) (by kernel_rfl) (by kernel_rfl)) ?_
 intro W base args ds gs before hval0 hW hcnd hsz0 _
 have hsz : (DataW.weightsEach Try.prog (Try.f8.params.toList ++ Rows.progressAloneSpec.plain.varTypes Try.prog) (ds ++ gs)).all (· ≤ reachBytes) = true := hsz0
 have hval : ∀ (j : Nat) t v, Try.f8.params[j]? = some t → args[j]? = some v → Value.okWide Try.prog W .any base t v := hval0
 have hW' := hW
 obtain ⟨p, q, hA0, hV, rfl, hfz, hnd⟩ := hW
 have hA : DataW.TrodAll enc Try.prog W 0 (fun _ => true) true Try.f8.params.toList args.toList ds p := hA0
 rw [Try.params8] at hA hval hsz
 obtain ⟨v0, vs0, d0, ds0, p0, q0, hargs, rfl, rfl, h0, r0⟩ := trodAll_cons hA
 obtain ⟨v1, vs1, d1, ds1, p1, q1, rfl, rfl, rfl, h1, r1⟩ := trodAll_cons r0
 obtain ⟨v2, vs2, d2, ds2, p2, q2, rfl, rfl, rfl, h2, r2⟩ := trodAll_cons r1
 obtain ⟨rfl, rfl, rfl⟩ := trodAll_nil r2
 obtain rfl : args = #[v0, v1, v2] := by cases args; simp_all
 obtain ⟨rfl, rfl⟩ := trodVars_none hV
 have k0 := h0
 have lt0 : ∀ x ∈ p0, x.block < W.heap.size := by obtain ⟨m, hm⟩ := k0; exact DataW.trod_lt m _ _ _ hm
 obtain ⟨a0, len0, cap0, rfl⟩ := okWide_slice Try.underlying22 (hval 0 22 v0 rfl rfl)
 obtain ⟨z0, w0⟩ : ∃ zs, IsRow W a0 len0 cap0 zs := by
  obtain ⟨fuel, hf⟩ := h0
  rcases open_ints Try.underlying22 Try.underlying3 (by kernel_rfl) hf with ⟨hcs, _⟩ | ⟨x, l, c, zs, hcs, _, hl, hm, hz, _, hcell, hwz⟩
  ·simp [Value.cells] at hcs
   obtain ⟨rfl, rfl, rfl⟩ := hcs
   exact ⟨[], .inl ⟨rfl, rfl, rfl, rfl⟩⟩
  ·simp [Value.cells] at hcs
   obtain ⟨rfl, rfl, rfl⟩ := hcs
   exact ⟨zs, .inr ⟨_, rfl, hl, hm, by simpa using hz, hcell, hwz⟩⟩
 have y0 : len0 * 8 ≤ 140737488351232 := sized_ints hsz (j := 0) (t := 22) rfl rfl Try.underlying22 Try.underlying3 (by kernel_rfl) (by kernel_rfl) h0
 obtain ⟨l0, rfl, hr0, hm0, hw0, hc0⟩ := ReadsInt.ofRowC w0
 have k1 := h1
 have lt1 : ∀ x ∈ p1, x.block < W.heap.size := by obtain ⟨m, hm⟩ := k1; exact DataW.trod_lt m _ _ _ hm
 obtain ⟨a1, len1, cap1, rfl⟩ := okWide_slice Try.underlying22 (hval 1 22 v1 rfl rfl)
 obtain ⟨z1, w1⟩ : ∃ zs, IsRow W a1 len1 cap1 zs := by
  obtain ⟨fuel, hf⟩ := h1
  rcases open_ints Try.underlying22 Try.underlying3 (by kernel_rfl) hf with ⟨hcs, _⟩ | ⟨x, l, c, zs, hcs, _, hl, hm, hz, _, hcell, hwz⟩
  ·simp [Value.cells] at hcs
   obtain ⟨rfl, rfl, rfl⟩ := hcs
   exact ⟨[], .inl ⟨rfl, rfl, rfl, rfl⟩⟩
  ·simp [Value.cells] at hcs
   obtain ⟨rfl, rfl, rfl⟩ := hcs
   exact ⟨zs, .inr ⟨_, rfl, hl, hm, by simpa using hz, hcell, hwz⟩⟩
 have y1 : len1 * 8 ≤ 140737488351232 := sized_ints hsz (j := 1) (t := 22) rfl rfl Try.underlying22 Try.underlying3 (by kernel_rfl) (by kernel_rfl) h1
 obtain ⟨l1, rfl, hr1, hm1, hw1, hc1⟩ := ReadsInt.ofRowC w1
 obtain ⟨a2, rfl, rfl, rfl, w2⟩ := open_int Try.underlying3 (hval 2 3 v2 rfl rfl) h2
 clear hA0 hval0 hsz0 hsz
 refine (alone_walk a0 a1 cap0 cap1 l0 l1 a2 W (Kd.C_of_reads (d := (0 : Int)) (h1 := fun _ => rfl) hr0) (by omega) (Kd.C_of_reads (d := (0 : Int)) (h1 := fun _ => rfl) hr1) hc1).mono fun e W' ⟨he, bel⟩ => ?_
 subst he
 exact ⟨_, rfl, _, _, _, [], _, [], hW', trodAll_mk1 (shut_bool Try.underlying4 _), (trodAll_cons_mk (Below.trod laidOut (by kernel_rfl) (of_decide_eq_true (by kernel_rfl)) k0 bel lt0) (trodAll_cons_mk (Below.trod laidOut (by kernel_rfl) (of_decide_eq_true (by kernel_rfl)) k1 bel lt1) (trodAll_cons_mk (shut_int Try.underlying3 w2) trodAll_mk0))), rfl, bel.frame _, fun h => by cases h⟩
theorem over : Rows.progressAloneRow.holds Try.pinned (OpenSpec.ofChange Rows.progressAloneSpec) :=
 OpenClaim.holds_of_wide 8 Try.f8 rfl rfl rfl rfl rfl rfl rfl ⟨rfl, rfl, rfl, rfl, rfl⟩ rfl rfl rfl rfl rfl (by kernel_rfl) Try.func8 (by kernel_rfl)
  (of_decide_eq_true (by kernel_rfl)) (by unfold Func.isWrapper; first | (rw [if_pos (by decide +kernel)]; kernel_rfl) | (rw [if_neg (by decide +kernel)]; exact ⟨rfl, rfl⟩))
  (fun os started H enc _ => lifted os started H enc)
theorem proved : Rows.ProgressAloneSaid := over
#print axioms proved
end Go.Proofs.Ytbkfnmgkcgnifaa.progressAlone
