/- ProgressEnd: behind the whole run nothing is left, for every list of numbers. -/
import Derived.Test.YtbkfnmgkcgnifaaU5
import Derived.SizedLaws
import Derived.ChangeSlices
import Derived.Test.YtbkfnmgkcgnifaaRows
import Derived.WalkKit
import Derived.ProofKit
import Derived.OpenShut
import Derived.ChangeOld
import Derived.Below
set_option linter.all false
namespace Go.Proofs.Ytbkfnmgkcgnifaa
open Go.RowKit Go.Shelf Go.Proofs.YtbkfnmgkcgnifaaW.PrintWords Go.Proofs.YtbkfnmgkcgnifaaW.PrintLast Mdl
set_option maxRecDepth 8000 in
set_option maxHeartbeats 8000000 in
theorem end_walk (A sA : Option Addr) (c sC : Nat) (l script : List Int) (w : World) (hl : kI.C w A l.length l) (hm : l.length ≤ 1000000000000000) (hsc : kI.C w sA script.length script) (hsl : script.length ≤ sC) :
  Calls Try.prog 7 #[.slice A l.length c, .slice sA script.length sC] w fun e w' => e = .returned (.bool true) ∧ Below w.heap.size w w' := by
 have HMD := Lib.hid (fun W (hb : Below w.heap.size w W) => made_any A c l W (Kd.C_below hl hb) hm)
 have hsm := Kd.C_max hsc
 have H0 := Aside0.mk ((Al.start w).row hsc)
 clear hl hsc
 go_enter Try.func7, Try.ntmps7
 go_upto_region 1 with fail
 have hb := Below.refl w.heap.size w
 go_wp2_with fail
 refine (HMD.out _ hb).mono ?_
 clear hb
 rintro e v2 ⟨p, eA, eC, mA, mC, rfl, hpm, hpa, hle, hlm, hb⟩
 have H1 := Aside0.mk (H0.out.up hb)
 clear H0
 clear hb
 have H2 := Aside0.mk (H1.out.plan hpa)
 clear H1
 obtain ⟨ways, hways⟩ := made_planned hpm
 have HG := Lib.hid (Mdl.Good.mk hpm hways)
 have HLE := Lib.hid (And.intro hle hlm)
 have hWk := hpm.Wk
 simp only [planV]
 clear hpa hpm hways hle hlm HMD
 have H3 := Aside0.mk (H2.out.new (.cells #[.int .i64 p.N, .int .i64 p.Wd, .slice eA p.E.length eC, .int .i64 p.workers, .slice mA p.start.length mC] 29) (b := v2.heap.size) rfl)
 clear H2
 go_upto_region 2 with fail
 generalize v2.alloc (.cells #[.int .i64 p.N, .int .i64 p.Wd, .slice eA p.E.length eC, .int .i64 p.workers, .slice mA p.start.length mC] 29) = v3 at *
 generalize v2.heap.size = pb at *
 go_upto_region 3 with fail
 have ht := cut_len script 60
 simp only [Int.cast_ofNat_Int] at ht
 rw [ht]
 clear ht
 generalize (if (60 : Int) < (script.length : Int) then (60 : Int) else (script.length : Int)) = zz
 have hsc := C_cut H3.out.2.2.1.1 60
 have hs40 : (script.take 60).length ≤ 60 := by rw [List.length_take]; omega
 have hsC : (script.take 60).length ≤ sC := by rw [List.length_take]; omega
 generalize script.take 60 = sc at *
 have H4 := Aside0.mk (H3.out.row hsc)
 clear H3
 clear hsc hsl
 obtain ⟨a, b, s, hE⟩ := HG.out.ends (script := sc) (by omega)
 have HE := Lib.hid hE
 have hall := hE.all
 have hsn := hE.sent_
 have hS4 : p.start.length ≤ 4 := HG.out.made.S.2.1
 have hN := HG.out.made.N
 have hA : ((a : Int) != (p.start.length : Int) + (s : Int)) = false := by have := hE.works_; simp; omega
 have hB : ((b : Int) != wrap64 ((a : Int) * (p.workers - 1))) = false := by
  have h1 := hE.nts_
  rw [w64_eq, ← h1, w64_in (by omega) (by omega)]; simp
 have hC : ¬ ((sc.length : Int) < (s : Int)) := by omega
 clear hE
 have p0 : v3.cell? ⟨pb, 0, none⟩ = some (.int .i64 p.N) := (blk_cell H4.out.2.1.1 0).trans rfl
 have p1 : v3.cell? ⟨pb, 1, none⟩ = some (.int .i64 p.Wd) := (blk_cell H4.out.2.1.1 1).trans rfl
 have p2 : v3.cell? ⟨pb, 2, none⟩ = some (.slice eA p.E.length eC) := (blk_cell H4.out.2.1.1 2).trans rfl
 have p3 : v3.cell? ⟨pb, 3, none⟩ = some (.int .i64 p.workers) := (blk_cell H4.out.2.1.1 3).trans rfl
 have p4 : v3.cell? ⟨pb, 4, none⟩ = some (.slice mA p.start.length mC) := (blk_cell H4.out.2.1.1 4).trans rfl
 go_wp2_with fail
 refine (run_ok HE.out.run H4.out.2.2.1.1 H4.out.1.1 hsC).mono ?_
 rintro e v4 ⟨rfl, hb⟩
 have H5 := Aside0.mk (H4.out.up hb)
 clear H4
 clear hb
 clear p0 p1 p2 p3 p4
 have H6 := Aside0.mk (H5.out.new (.cells #[.int .i64 a, .int .i64 b, .int .i64 s] 57) (b := v4.heap.size) rfl)
 clear H5
 go_upto_region 4 with fail
 generalize v4.alloc (.cells #[.int .i64 a, .int .i64 b, .int .i64 s] 57) = v5 at *
 generalize v4.heap.size = rb at *
 have r0 : v5.cell? ⟨rb, 0, none⟩ = some (.int .i64 a) := (blk_cell H6.out.1.1 0).trans rfl
 have r1 : v5.cell? ⟨rb, 1, none⟩ = some (.int .i64 b) := (blk_cell H6.out.1.1 1).trans rfl
 have r2 : v5.cell? ⟨rb, 2, none⟩ = some (.int .i64 s) := (blk_cell H6.out.1.1 2).trans rfl
 have p0 : v5.cell? ⟨pb, 0, none⟩ = some (.int .i64 p.N) := (blk_cell H6.out.2.2.1.1 0).trans rfl
 have p1 : v5.cell? ⟨pb, 1, none⟩ = some (.int .i64 p.Wd) := (blk_cell H6.out.2.2.1.1 1).trans rfl
 have p2 : v5.cell? ⟨pb, 2, none⟩ = some (.slice eA p.E.length eC) := (blk_cell H6.out.2.2.1.1 2).trans rfl
 have p3 : v5.cell? ⟨pb, 3, none⟩ = some (.int .i64 p.workers) := (blk_cell H6.out.2.2.1.1 3).trans rfl
 have p4 : v5.cell? ⟨pb, 4, none⟩ = some (.slice mA p.start.length mC) := (blk_cell H6.out.2.2.1.1 4).trans rfl
 go_upto_region 5 with fail
 go_upto_region 7 with fail
 clear r0 r1 r2 hA hB hC
 go_wp2_with fail
 refine (truth_ok (eA := eA) (mA := mA) HG.out (by omega) (a + b) (by omega) H6.out.2.2.2.1.1 H6.out.2.1.1 hsC).mono ?_
 rintro e v6 ⟨A1, c1, rfl, h1, -, hb⟩
 have H7 := Aside0.mk (H6.out.up hb)
 clear H6
 have H8 := Aside0.mk (H7.out.row h1)
 clear H7
 clear hb h1
 clear p0 p1 p2 p3 p4
 have HM : ∀ W : World, (Instr.makeSlice 52 (.int .i64 p.N) (.int .i64 p.N)).run Try.prog W = .ok (.slice (some ⟨W.heap.size, 0, none⟩) p.N.toNat p.N.toNat) (W.alloc (.cells (madeCells #[.slice none 0 0] p.N.toNat) 32)) := fun W => made_frontsI (by omega) (by omega) W
 go_wp2_with fail
 have hk0 : (0 : Int) ≤ p.workers := by omega
 go_loopw [11] (fun i wr => ∃ k : Nat, i = .int .i64 k ∧ (k : Int) ≤ p.workers ∧ Aside0 (Below v6.heap.size v6 wr)) (fun i _ => p.workers.toNat - (intOf i).toNat)
 case atStart => exact ⟨0, rfl, hk0, ⟨Below.refl _ _⟩⟩
 case round =>
  clear hk0
  obtain ⟨k, rfl, hk, hX⟩ := hrel
  have H9 := Aside0.mk ((H8.out.up hX.out).since hX.out)
  clear H8
  clear hX
  have p3 : wr.cell? ⟨pb, 3, none⟩ = some (.int .i64 p.workers) := (blk_cell H9.out.2.2.2.2.1.1 3).trans rfl
  by_cases hlt : (k : Int) < p.workers
  ·clear p3
   have p0 : wr.cell? ⟨pb, 0, none⟩ = some (.int .i64 p.N) := (blk_cell H9.out.2.2.2.2.1.1 0).trans rfl
   have p1 : wr.cell? ⟨pb, 1, none⟩ = some (.int .i64 p.Wd) := (blk_cell H9.out.2.2.2.2.1.1 1).trans rfl
   have p2 : wr.cell? ⟨pb, 2, none⟩ = some (.slice eA p.E.length eC) := (blk_cell H9.out.2.2.2.2.1.1 2).trans rfl
   have p3 : wr.cell? ⟨pb, 3, none⟩ = some (.int .i64 p.workers) := (blk_cell H9.out.2.2.2.2.1.1 3).trans rfl
   have p4 : wr.cell? ⟨pb, 4, none⟩ = some (.slice mA p.start.length mC) := (blk_cell H9.out.2.2.2.2.1.1 4).trans rfl
   go_wp2_with fail
   refine (held_ok (eA := eA) (mA := mA) HG.out (by omega) (a + b) k (by omega) hlt H9.out.2.2.2.2.2.1.1 H9.out.2.2.2.1.1 hsC).mono ?_
   rintro e v7 ⟨A2, c2, rfl, h1, -, hb⟩
   have H10 := Aside0.mk (H9.out.up hb)
   clear H9
   have H11 := Aside0.mk (H10.out.row h1)
   clear H10
   clear hb h1
   clear p0 p1 p2 p3 p4
   have p0 : v7.cell? ⟨pb, 0, none⟩ = some (.int .i64 p.N) := (blk_cell H11.out.2.2.2.2.2.1.1 0).trans rfl
   have p1 : v7.cell? ⟨pb, 1, none⟩ = some (.int .i64 p.Wd) := (blk_cell H11.out.2.2.2.2.2.1.1 1).trans rfl
   have p2 : v7.cell? ⟨pb, 2, none⟩ = some (.slice eA p.E.length eC) := (blk_cell H11.out.2.2.2.2.2.1.1 2).trans rfl
   have p3 : v7.cell? ⟨pb, 3, none⟩ = some (.int .i64 p.workers) := (blk_cell H11.out.2.2.2.2.2.1.1 3).trans rfl
   have p4 : v7.cell? ⟨pb, 4, none⟩ = some (.slice mA p.start.length mC) := (blk_cell H11.out.2.2.2.2.2.1.1 4).trans rfl
   go_wp2_with fail
   refine (ledger_ok (eA := eA) (mA := mA) HG.out (by omega) (a + b) k (by omega) hlt H11.out.2.2.2.2.2.2.1.1 H11.out.2.2.2.2.1.1 hsC).mono ?_
   rintro e v8 ⟨A3, c3, rfl, h1, -, hb⟩
   have H12 := Aside0.mk (H11.out.up hb)
   clear H11
   have H13 := Aside0.mk (H12.out.row h1)
   clear H12
   clear hb h1
   clear p0 p1 p2 p3 p4
   have p0 : v8.cell? ⟨pb, 0, none⟩ = some (.int .i64 p.N) := (blk_cell H13.out.2.2.2.2.2.2.1.1 0).trans rfl
   have p1 : v8.cell? ⟨pb, 1, none⟩ = some (.int .i64 p.Wd) := (blk_cell H13.out.2.2.2.2.2.2.1.1 1).trans rfl
   have p2 : v8.cell? ⟨pb, 2, none⟩ = some (.slice eA p.E.length eC) := (blk_cell H13.out.2.2.2.2.2.2.1.1 2).trans rfl
   have p3 : v8.cell? ⟨pb, 3, none⟩ = some (.int .i64 p.workers) := (blk_cell H13.out.2.2.2.2.2.2.1.1 3).trans rfl
   have p4 : v8.cell? ⟨pb, 4, none⟩ = some (.slice mA p.start.length mC) := (blk_cell H13.out.2.2.2.2.2.2.1.1 4).trans rfl
   go_wp2_with fail
   refine (belief_ok (eA := eA) (mA := mA) HG.out (by omega) (a + b) k (by omega) hlt H13.out.2.2.2.2.2.2.2.1.1 H13.out.2.2.2.2.2.1.1 hsC).mono ?_
   rintro e v9 ⟨A4, c4, rfl, h1, -, hb⟩
   have H14 := Aside0.mk (H13.out.up hb)
   clear H13
   have H15 := Aside0.mk (H14.out.row h1)
   clear H14
   clear hb h1
   clear p0 p1 p2 p3 p4
   have hz2 : (heldF p sc (a + b) k).length = 0 := by rw [HE.out.held hlt]; rfl
   have hz3 : (ledgerF p sc (a + b) k).length = 0 := by rw [HE.out.ledger hlt]; rfl
   have HQ := Lib.hid (show beliefF p ways sc (a + b) k = List.replicate p.N.toNat [] from HE.out.belief (by omega))
   have p0 : v9.cell? ⟨pb, 0, none⟩ = some (.int .i64 p.N) := (blk_cell H15.out.2.2.2.2.2.2.2.1.1 0).trans rfl
   have p1 : v9.cell? ⟨pb, 1, none⟩ = some (.int .i64 p.Wd) := (blk_cell H15.out.2.2.2.2.2.2.2.1.1 1).trans rfl
   have p2 : v9.cell? ⟨pb, 2, none⟩ = some (.slice eA p.E.length eC) := (blk_cell H15.out.2.2.2.2.2.2.2.1.1 2).trans rfl
   have p3 : v9.cell? ⟨pb, 3, none⟩ = some (.int .i64 p.workers) := (blk_cell H15.out.2.2.2.2.2.2.2.1.1 3).trans rfl
   have p4 : v9.cell? ⟨pb, 4, none⟩ = some (.slice mA p.start.length mC) := (blk_cell H15.out.2.2.2.2.2.2.2.1.1 4).trans rfl
   go_wp2_with fail
   have H16 := Aside0.mk (H15.out.new (.cells (madeCells #[.slice none 0 0] p.N.toNat) 32) (b := v9.heap.size) rfl)
   clear H15
   generalize v9.alloc (.cells (madeCells #[.slice none 0 0] p.N.toNat) 32) = v10 at *
   generalize v9.heap.size = mb at *
   refine (fronts_eq H16.out.2.1.1 (C_made H16.out.1.1 (by omega)) rfl (by simp) HQ.out).mono ?_
   rintro e v11 ⟨rfl, hb⟩
   have H17 := Aside0.mk (H16.out.up hb)
   clear H16
   clear hb
   clear p0 p1 p2 p3 p4
   have p0 : v11.cell? ⟨pb, 0, none⟩ = some (.int .i64 p.N) := (blk_cell H17.out.2.2.2.2.2.2.2.2.1.1 0).trans rfl
   have p1 : v11.cell? ⟨pb, 1, none⟩ = some (.int .i64 p.Wd) := (blk_cell H17.out.2.2.2.2.2.2.2.2.1.1 1).trans rfl
   have p2 : v11.cell? ⟨pb, 2, none⟩ = some (.slice eA p.E.length eC) := (blk_cell H17.out.2.2.2.2.2.2.2.2.1.1 2).trans rfl
   have p3 : v11.cell? ⟨pb, 3, none⟩ = some (.int .i64 p.workers) := (blk_cell H17.out.2.2.2.2.2.2.2.2.1.1 3).trans rfl
   have p4 : v11.cell? ⟨pb, 4, none⟩ = some (.slice mA p.start.length mC) := (blk_cell H17.out.2.2.2.2.2.2.2.2.1.1 4).trans rfl
   go_wp2_with fail
   refine (fronts_eq H17.out.2.2.2.2.2.1.1 H17.out.2.1.1 rfl rfl (HE.out.truth.trans HQ.out.symm)).mono ?_
   rintro e v12 ⟨rfl, hb⟩
   have H18 := Aside0.mk (H17.out.up hb)
   clear H17
   clear hb
   go_wp2_with fail
   exact ⟨⟨k + 1, by go_num, by omega, ⟨H18.out.2.2.2.2.1.1⟩⟩, by simp [intOf]; omega⟩
  ·skip
   go_wp2_with fail
   refine progressed_fin H9.out.2.2.2.2.2.2.2.1.1 (fun w' hb => ?_)
   go_wp2_with fail
   go_ret
   exact ⟨rfl, hb⟩
end Go.Proofs.Ytbkfnmgkcgnifaa
namespace Go.Proofs.YtbkfnmgkcgnifaaW.PrintWords
open Go.ChangeShapes Go.WideShapes
theorem sized_ints {H : Type} {enc : TypeId × Value → H} {P : Program} {W : World} {base : Nat} {spare : Nat → Bool} {held : Bool} {t e : TypeId} {k : IntKind} {a : Option Addr} {len cap : Nat} {d : DataW H} {ps : List MemPlace} {ts : List TypeId} {ds : List (DataW H)} {j : Nat}
  (hsz : (DataW.weightsEach P ts ds).all (· ≤ reachBytes) = true) (ht : ts[j]? = some t) (hd : ds[j]? = some d) (hu : P.underlying t = some (.slice e)) (he : P.underlying e = some (.int k)) (hc : P.cellsOf e = 1) {B : Nat} (hB : P.bytesOf e = B)
  (h : DataW.Trod enc P W base spare held t (.slice a len cap) d ps) : len * B ≤ 140737488351232 := by
 obtain ⟨fuel, hf⟩ := h
 rcases open_ints hu he hc hf with ⟨hcs, _⟩ | ⟨x, l, c, zs, hcs, _, hl, _, hz, hx, _, _⟩
 ·simp [Value.cells] at hcs
  obtain ⟨rfl, rfl, rfl⟩ := hcs
  simp
 ·simp [Value.cells] at hcs
  obtain ⟨rfl, rfl, rfl⟩ := hcs
  obtain ⟨hx, _⟩ := Prod.mk.inj hx
  subst hx
  have z := sized_slice hsz ht hd hu
  rw [hB] at z
  have hl2 : len ≤ zs.length := by
   rw [hz]
   split
   ·exact hl
   ·exact Nat.le_refl _
  have h1 : (lits (H := H) k (zs.take len)).length + (lits (H := H) k (zs.drop len)).length = zs.length := by
   simp [lits]
   omega
  rw [h1] at z
  exact Nat.le_trans (Nat.mul_le_mul_right _ hl2) z
end Go.Proofs.YtbkfnmgkcgnifaaW.PrintWords
namespace Go.Proofs.Ytbkfnmgkcgnifaa.progressEnd
open Go.ChangeShapes Go.WideShapes Go.ChangeAt Go.RowKit Go.Proofs.YtbkfnmgkcgnifaaW.PrintWords
set_option linter.unusedVariables false
theorem own : ownKnob Try.prog.godebug = none := by kernel_rfl
theorem laidOut : laidOutB Try.prog = true := by kernel_rfl
def IsRow (w : World) (a : Option Addr) (len cap : Nat) (zs : List Int) : Prop :=
 (a = none ∧ len = 0 ∧ cap = 0 ∧ zs = []) ∨
 ∃ x, a = some x ∧ len ≤ cap ∧ cap ≤ maxLen ∧ zs.length = cap ∧ (∀ i, i < zs.length → w.cell? (x.add i) = some (.int .i64 (zs.getD i 0))) ∧ ∀ n ∈ zs, (Lit.int .i64 n).wf = true
set_option maxRecDepth 100000 in
theorem lifted (os : Os) (started : os.Started) (H : Type) (enc : TypeId × Value → H) :
  ReturnsInHanded {} Try.checked os 7 .any (Rows.progressEndSpec.pre6 enc Try.prog Try.f7 Rows.progressEndRow.domain false) (Rows.progressEndSpec.post enc Try.prog Try.f7 false true false false) := by
 refine returnsInHanded_of_change_sized (C := Try.checked) own started (by kernel_rfl) Try.func7
  (ChangeSpec.witness6 (enc := enc) (C := Try.checked) false ⟨#[], #[.slice none 0 0, .slice none 0 0], []⟩ 8 (by kernel_rfl) (by kernel_rfl) (by kernel_rfl) (by kernel_rfl)) ?_
 intro W base args ds gs before hval0 hW hcnd hsz0 _
 have hsz : (DataW.weightsEach Try.prog (Try.f7.params.toList ++ Rows.progressEndSpec.plain.varTypes Try.prog) (ds ++ gs)).all (· ≤ reachBytes) = true := hsz0
 have hval : ∀ (j : Nat) t v, Try.f7.params[j]? = some t → args[j]? = some v → Value.okWide Try.prog W .any base t v := hval0
 have hW' := hW
 obtain ⟨p, q, hA0, hV, rfl, hfz, hnd⟩ := hW
 have hA : DataW.TrodAll enc Try.prog W 0 (fun _ => true) true Try.f7.params.toList args.toList ds p := hA0
 rw [Try.params7] at hA hval hsz
 obtain ⟨v0, vs0, d0, ds0, p0, q0, hargs, rfl, rfl, h0, r0⟩ := trodAll_cons hA
 obtain ⟨v1, vs1, d1, ds1, p1, q1, rfl, rfl, rfl, h1, r1⟩ := trodAll_cons r0
 obtain ⟨rfl, rfl, rfl⟩ := trodAll_nil r1
 obtain rfl : args = #[v0, v1] := by cases args; simp_all
 obtain ⟨rfl, rfl⟩ := trodVars_none hV
 have k0 := h0
 have lt0 : ∀ x ∈ p0, x.block < W.heap.size := by obtain ⟨m, hm⟩ := k0; exact DataW.trod_lt m _ _ _ hm
 obtain ⟨a0, len0, cap0, rfl⟩ := okWide_slice Try.underlying22 (hval 0 22 v0 rfl rfl)
 obtain ⟨z0, w0⟩ : ∃ zs, IsRow W a0 len0 cap0 zs := by
  obtain ⟨fuel, hf⟩ := h0
  rcases open_ints Try.underlying22 Try.underlying3 (by kernel_rfl) hf with ⟨hcs, _⟩ | ⟨x, l, c, zs, hcs, _, hl, hm, hz, _, hcell, hwz⟩
  ·simp [Value.cells] at hcs
   obtain ⟨rfl, rfl, rfl⟩ := hcs
   exact ⟨[], .inl ⟨rfl, rfl, rfl, rfl⟩⟩
  ·simp [Value.cells] at hcs
   obtain ⟨rfl, rfl, rfl⟩ := hcs
   exact ⟨zs, .inr ⟨_, rfl, hl, hm, by simpa using hz, hcell, hwz⟩⟩
 have y0 : len0 * 8 ≤ 140737488351232 := sized_ints hsz (j := 0) (t := 22) rfl rfl Try.underlying22 Try.underlying3 (by kernel_rfl) (by kernel_rfl) h0
 obtain ⟨l0, rfl, hr0, hm0, hw0, hc0⟩ := ReadsInt.ofRowC w0
 have k1 := h1
 have lt1 : ∀ x ∈ p1, x.block < W.heap.size := by obtain ⟨m, hm⟩ := k1; exact DataW.trod_lt m _ _ _ hm
 obtain ⟨a1, len1, cap1, rfl⟩ := okWide_slice Try.underlying22 (hval 1 22 v1 rfl rfl)
 obtain ⟨z1, w1⟩ : ∃ zs, IsRow W a1 len1 cap1 zs := by
  obtain ⟨fuel, hf⟩ := h1
  rcases open_ints Try.underlying22 Try.underlying3 (by kernel_rfl) hf with ⟨hcs, _⟩ | ⟨x, l, c, zs, hcs, _, hl, hm, hz, _, hcell, hwz⟩
  ·simp [Value.cells] at hcs
   obtain ⟨rfl, rfl, rfl⟩ := hcs
   exact ⟨[], .inl ⟨rfl, rfl, rfl, rfl⟩⟩
  ·simp [Value.cells] at hcs
   obtain ⟨rfl, rfl, rfl⟩ := hcs
   exact ⟨zs, .inr ⟨_, rfl, hl, hm, by simpa using hz, hcell, hwz⟩⟩
 have y1 : len1 * 8 ≤ 140737488351232 := sized_ints hsz (j := 1) (t := 22) rfl rfl Try.underlying22 Try.underlying3 (by kernel_rfl) (by kernel_rfl) h1
 obtain ⟨l1, rfl, hr1, hm1, hw1, hc1⟩ := ReadsInt.ofRowC w1
 clear hA0 hval0 hsz0 hsz
 refine (end_walk a0 a1 cap0 cap1 l0 l1 W (Kd.C_of_reads (d := (0 : Int)) (h1 := fun _ => rfl) hr0) (by omega) (Kd.C_of_reads (d := (0 : Int)) (h1 := fun _ => rfl) hr1) hc1).mono fun e W' ⟨he, bel⟩ => ?_
 subst he
 exact ⟨_, rfl, _, _, _, [], _, [], hW', trodAll_mk1 (shut_bool Try.underlying4 _), (trodAll_cons_mk (Below.trod laidOut (by kernel_rfl) (of_decide_eq_true (by kernel_rfl)) k0 bel lt0) (trodAll_cons_mk (Below.trod laidOut (by kernel_rfl) (of_decide_eq_true (by kernel_rfl)) k1 bel lt1) trodAll_mk0)), rfl, bel.frame _, fun h => by cases h⟩
theorem over : Rows.progressEndRow.holds Try.pinned (OpenSpec.ofChange Rows.progressEndSpec) :=
 OpenClaim.holds_of_wide 7 Try.f7 rfl rfl rfl rfl rfl rfl rfl ⟨rfl, rfl, rfl, rfl, rfl⟩ rfl rfl rfl rfl rfl (by kernel_rfl) Try.func7 (by kernel_rfl)
  (of_decide_eq_true (by kernel_rfl)) (by unfold Func.isWrapper; first | (rw [if_pos (by decide +kernel)]; kernel_rfl) | (rw [if_neg (by decide +kernel)]; exact ⟨rfl, rfl⟩))
  (fun os started H enc _ => lifted os started H enc)
theorem proved : Rows.ProgressEndSaid := over
#print axioms proved
end Go.Proofs.Ytbkfnmgkcgnifaa.progressEnd
