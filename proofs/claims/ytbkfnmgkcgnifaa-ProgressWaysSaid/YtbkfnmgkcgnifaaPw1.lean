/- ProgressWays: the least sums of the ways of a graph, for every list of numbers. -/
import Derived.Test.YtbkfnmgkcgnifaaU5
import Derived.Deep.DeepCutAuto
import Derived.SizedLaws
import Derived.ChangeSlices
import Derived.Test.YtbkfnmgkcgnifaaRows
import Derived.WalkKit
import Derived.ProofKit
import Derived.OpenShut
import Derived.ChangeOld
import Derived.Below
set_option linter.all false
namespace Go.Proofs.Ytbkfnmgkcgnifaa
open Go.RowKit Go.Shelf Go.Proofs.YtbkfnmgkcgnifaaW.PrintWords Go.Proofs.YtbkfnmgkcgnifaaW.PrintLast Mdl
theorem plusN_snoc : ∀ {l m : List Int} {k : Nat} (hl : k < l.length) (hm : k < m.length), plusN (l.take (k + 1)) (m.take (k + 1)) = plusN (l.take k) (m.take k) ++ [l[k] + m[k]]
 | a :: l, b :: m, 0, _, _ => by simp [plusN]
 | a :: l, b :: m, k + 1, hl, hm => by
  simp only [List.take_succ_cons, plusN, List.cons_append, List.getElem_cons_succ]
  rw [plusN_snoc (by simpa using hl) (by simpa using hm)]
theorem plusN_len : ∀ {l m : List Int}, l.length = m.length → (plusN l m).length = l.length
 | [], [], _ => rfl
 | a :: l, b :: m, h => by simp only [plusN, List.length_cons]; rw [plusN_len (by simpa using h)]
set_option maxRecDepth 4000 in
set_option maxHeartbeats 1600000 in
theorem plusL_any (A B : Option Addr) (cA cB : Nat) (l m : List Int) (w : World) (hl : kI.C w A l.length l) (hm : kI.C w B m.length m) (hlen : l.length = m.length) (hn : l.length ≤ 1000) (hil : inL 1000000 l) (him : inL 1000000 m) :
  Calls Try.prog 14 #[.slice A l.length cA, .slice B m.length cB] w fun e w' => ∃ C c, e = .returned (.slice C (plusN l m).length c) ∧ kI.C w' C (plusN l m).length (plusN l m) ∧ Below w.heap.size w w' := by
 have HL := Aside0.mk hl
 have HM := Aside0.mk hm
 have HI := Lib.hid (And.intro hil him)
 have HLEN := Lib.hid hlen
 clear hl hm hil him hlen
 go_enter Try.func14, Try.ntmps14
 go_wp2_with fail
 have HO := Aside0.mk (And.intro (R_empty kI 3 w.heap.size w (Nat.le_refl _)) (below_new w (.cells #[] 3)))
 generalize w.alloc (.cells #[] 3) = wz at *
 go_loopw [5, 6] (fun o i wr => ∃ k : Nat, i = .int .i64 k ∧ k ≤ l.length ∧ Aside0 (kI.R 3 wr w.heap.size (fun _ => True) o (plusN (l.take k) (m.take k)) ∧ Below w.heap.size w wr)) (fun _ i _ => l.length - (intOf i).toNat)
 case atStart => exact ⟨0, rfl, Nat.zero_le _, ⟨by simpa [plusN] using HO.out.1, HO.out.2⟩⟩
 case round =>
  clear HO
  obtain ⟨k, rfl, hk, hX⟩ := hrel
  by_cases hlt : k < l.length
  ·have hkm : k < m.length := by have := HLEN.out; omega
   have hkE : (k : Int) < l.length := by omega
   have hkM : (k : Int) < m.length := by omega
   have hk0 : (0 : Int) ≤ k := by omega
   obtain ⟨ad, rfl, c1⟩ := at_int HL.out hlt
   obtain ⟨ad2, rfl, c2⟩ := at_int HM.out hkm
   have HS := Lib.hid (plusN_snoc hlt hkm)
   have hx := HI.out.1 _ (List.getElem_mem hlt)
   have hy := HI.out.2 _ (List.getElem_mem hkm)
   have HP := Lib.hid (show (plusN (l.take k) (m.take k)).length ≤ 1000 by rw [plusN_len (by have := HLEN.out; rw [List.length_take, List.length_take]; omega), List.length_take]; omega)
   generalize l[k] = x at *
   generalize m[k] = y at *
   generalize plusN (l.take k) (m.take k) = pre at *
   have HC := Aside0.mk (And.intro c1 c2)
   have c1 := pw_cell_below hX.out.2 c1
   have c2 := pw_cell_below hX.out.2 c2
   have hRo := hX.out.1
   obtain ⟨oA, oC, hoe⟩ := Kd.R_slice hRo
   generalize hpn : pre.length = pn at *
   subst hoe
   have hW : wrap64 (x + y) = x + y := by rw [w64_eq, w64_in (by omega) (by omega)]
   have HW := Lib.hid hW
   clear hkm hRo hW
   go_upto_region 5 with fail
   refine start_ (n := 13) (S := fun w' => w'.cell? (ad.add k) = some (.int .i64 x) ∧ w'.cell? (ad2.add k) = some (.int .i64 y)) (ds := []) (bs 13 0) (by kernel_rfl) rfl (by kernel_rfl) ⟨c1, c2⟩ (fun hHeld => ?_)
   have HD := Aside0.mk (And.intro (Kd.R_below hX.out.1 (below_drew1 (Below.refl _ _))) (below_drew1 hX.out.2))
   generalize wr.drew = wd at *
   clear c1 c2 hX
   refine pu 0 20 (bs 13 1) ?_
   refine pu 1 21 (bs 13 3) ?_
   refine pu 2 22 (bs 13 7) ?_
   refine pu 3 23 (bs 13 15) ?_
   refine tk2 4 24 (bs 13 31) hHeld ?_
   refine pu 5 25 (bs 13 63) ?_
   refine pu 6 26 (bs 13 127) ?_
   refine pu 7 27 (bs 13 255) ?_
   refine tk2 8 28 (bs 13 511) hHeld ?_
   refine pu 9 29 (bs 13 1023) ?_
   simp only [i64_w]
   rw [HW.out]
   refine on0 10 30 (bs 13 2047) fun K hK => ?_
   refine va0 ?_
   refine hK.out _ _ ⟨pw_cell_below (below_new wd _) hHeld.1, pw_cell_below (below_new wd _) hHeld.2⟩ (fun hHeld => ?_)
   clear hK K
   refine nm0 (some 30) ?_
   refine on0 11 31 (bs 13 4095) fun K hK => ?_
   refine Kd.R_append_step kI (w0 := w) w.heap.size (by rfl) (.tmp 20) (.tmp 30) 22 3 (.int .i64 0) 8 rfl Try.underlying22 Try.infoInt rfl (by decide) (by decide) (.slice oA pn oC) pre (x + y) [.int .i64 (x + y)] (fun _ => True) (fun k => some k ≠ (Value.slice oA pn oC).ownBlock) rfl rfl rfl (fun _ h => ⟨trivial, h⟩) (fun _ _ => trivial) HD.out.1 HD.out.2 HD.out.2.size (by have := HP.out; omega) ?_
   intro v6 w6 hR6 hb6 hg6 hat6
   refine hK.out _ _ ⟨pw_cell_below hb6 HC.out.1, pw_cell_below hb6 HC.out.2⟩ (fun hHeld => ?_)
   clear hK K
   refine nm0 (some 31) ?_
   have HS6 := Aside0.mk (show kI.R 3 w6 w.heap.size (fun _ => True) v6 (plusN (l.take (k + 1)) (m.take (k + 1))) ∧ Below w.heap.size w w6 from ⟨by rw [HS.out]; exact hR6, hb6⟩)
   clear hR6 hb6 hg6 hat6 hHeld
   refine pu 12 5 (bs 13 8191) ?_
   refine dn0 ?_
   go_wp2_with fail
   exact ⟨⟨k + 1, by go_num, by omega, HS6⟩, by simp [intOf]; omega⟩
  ·have hkE : ¬ ((k : Int) < l.length) := by omega
   have hR := hX.out.1
   have hb := hX.out.2
   rw [List.take_of_length_le (by omega), List.take_of_length_le (by have := HLEN.out; omega)] at hR
   obtain ⟨oA, oC, hoe⟩ := Kd.R_slice hR
   have HR := Aside0.mk (And.intro (show _ from hR) hb)
   clear hR hb hX
   go_wp2_with fail
   go_ret
   subst hoe
   exact ⟨oA, ⟨oC, rfl⟩, (Kd.R_reads' HR.out.1).2.2, HR.out.2⟩
end Go.Proofs.Ytbkfnmgkcgnifaa
namespace Go.Proofs.Ytbkfnmgkcgnifaa
open Go.RowKit Go.Shelf Go.Proofs.YtbkfnmgkcgnifaaW.PrintWords Go.Proofs.YtbkfnmgkcgnifaaW.PrintLast Mdl
namespace Mdl
def hitE (p : Plan) (ways : Ways) (a c : Int) (x : List Int) (e : Ed) : Bool := decide (e.2.1 = c) && (pathF p ways a e.1).any (fun y => decide (plusN y e.2.2 = x))
def hitB (a c : Int) (x : List Int) : Bool := decide (a = c) && decide (x.sum = 0)
theorem hit_all {p : Plan} {ways : Ways} {a c : Int} (h : Good p ways) (ha : 0 ≤ a ∧ a < p.N) (hc : 0 ≤ c ∧ c < p.N) {x : List Int} (hx : x ∈ pathF p ways a c) : (hitB a c x || p.E.any (hitE p ways a c x)) = true := by
 rcases path_edge h ha hc hx with ⟨h1, h2⟩ | ⟨e, he, h1, y, hy, h2⟩
 ·simp [hitB, h1, h2]
 ·rw [show p.E.any (hitE p ways a c x) = true from List.any_eq_true.2 ⟨e, he, by simp only [hitE, h1, decide_true, Bool.true_and, List.any_eq_true]; exact ⟨y, hy, by simp [h2]⟩⟩, Bool.or_true]
theorem hitB_pos {a c : Int} {x : List Int} (h : a = c) : hitB a c x = (x.sum == 0) := by unfold hitB; rw [decide_eq_true h, Bool.true_and]; rfl
theorem hitB_neg {a c : Int} {x : List Int} (h : ¬ a = c) : hitB a c x = false := by unfold hitB; rw [decide_eq_false h, Bool.false_and]
theorem hitE_neg {p : Plan} {ways : Ways} {a c : Int} {x : List Int} {e : Ed} (h : ¬ e.2.1 = c) : hitE p ways a c x e = false := by unfold hitE; rw [decide_eq_false h, Bool.false_and]
theorem hitE_pos {p : Plan} {ways : Ways} {a c : Int} {x : List Int} {e : Ed} (h : e.2.1 = c) : hitE p ways a c x e = (pathF p ways a e.1).any (fun y => decide (plusN y e.2.2 = x)) := by unfold hitE; rw [decide_eq_true h, Bool.true_and]
theorem any_snoc {α : Type} {q : α → Bool} {l : List α} {k : Nat} (hk : k < l.length) : (l.take (k + 1)).any q = ((l.take k).any q || q l[k]) := by
 rw [List.take_succ_eq_append_getElem hk, List.any_append]; simp
end Mdl
theorem Al.cell {Ps : List (World → Prop)} {w : World} (h : Al Ps w) {a : Addr} {v : Value} (hr : w.cell? a = some v) : Al ((fun u => u.cell? a = some v) :: Ps) w := ⟨⟨hr, fun _ _ h hb => pw_cell_below hb h⟩, h⟩
theorem path_ok {p : Plan} {ways : Ways} {eA : Option Addr} {eC : Nat} {w : World} {a b : Int} (h : Mdl.Good p ways) (ha : 0 ≤ a ∧ a < p.N) (hb : 0 ≤ b ∧ b < p.N) (hE : kE.C w eA p.E.length p.E) : Calls Try.prog 11 #[.agg #[.int .i64 p.N, .int .i64 p.Wd, .slice eA p.E.length eC], .int .i64 a, .int .i64 b] w fun e w' => ∃ A c, e = .returned (.tuple #[.slice A (pathF p ways a b).length c, .int .i64 0]) ∧ kLI.C w' A (pathF p ways a b).length (pathF p ways a b) ∧ (pathF p ways a b).length ≤ c ∧ Below w.heap.size w w' :=
 res_ok (f := fun r => r.map (numsT p.Wd.toNat)) (h.paths ha hb) rfl (paths_any p.N p.Wd p.E eA eC a b w hE)
theorem lists_eq {w : World} {A B : Option Addr} {cA cB n m : Nat} {f g : List (List Int)} (hl : kLI.C w A n f) (hm : kLI.C w B m g) (hn : f.length = n) (hm2 : g.length = m) (h : f = g) : Calls Try.prog 12 #[.slice A n cA, .slice B m cB] w fun e w' => e = .returned (.bool true) ∧ Below w.heap.size w w' := by
 subst hn hm2 h
 exact equalLists_same A B cA cB w f hl hm
theorem made_ints {N : Int} (h0 : 1 ≤ N) (h8 : N ≤ 8) (W : World) : (Instr.makeSlice 22 (.int .i64 N) (.int .i64 N)).run Try.prog W = .ok (.slice (some ⟨W.heap.size, 0, none⟩) N.toNat N.toNat) (W.alloc (.cells (madeCells #[.int .i64 0] N.toNat) 3)) := by
 have h := print_make_of (P := Try.prog) 22 3 (.int .i64 0) 8 Try.underlying22 Try.infoInt rfl (by decide) N.toNat (by omega) W
 rwa [Int.toNat_of_nonneg (by omega)] at h
theorem C_madeI {w : World} {g m t : Nat} (h : w.heap[g]? = some (.cells (madeCells #[.int .i64 0] m) t (0, 0))) (hm : m ≤ 8) : kI.C w (some ⟨g, 0, none⟩) m (List.replicate m 0) := by
 refine ⟨by simp, by omega, fun _ => ⟨_, rfl, fun j p hj => ?_⟩⟩
 obtain ⟨h1, rfl⟩ := List.getElem?_eq_some_iff.1 hj
 rw [List.getElem_replicate]
 rw [List.length_replicate] at h1
 refine ⟨[.int .i64 0], rfl, rfl, fun i u hu => ?_⟩
 rw [Addr.add_lit, blk_cell h, Nat.zero_add]
 cases i with
 | zero => rw [show kI.sz = 1 from rfl, Nat.mul_one, Nat.add_zero, made_cell h1]; exact hu
 | succ i => simp at hu
theorem lit_li {w : World} {g n c t : Nat} {A : Option Addr} {l : List Int} (h : w.heap[g]? = some (.cells #[.slice A n c] t (0, 0))) (hl : kI.C w A n l) (hn : n = l.length) (hc : n ≤ c) : kLI.C w (some ⟨g, 0, none⟩) 1 [l] := by
 subst hn
 exact C_lits (xs := [l]) [[.slice A l.length c]] h ⟨⟨_, _, rfl, hc, hl⟩, trivial⟩ (by simp)
end Go.Proofs.Ytbkfnmgkcgnifaa
namespace Go.Proofs.Ytbkfnmgkcgnifaa
open Go.RowKit Go.Shelf Go.Proofs.YtbkfnmgkcgnifaaW.PrintWords Go.Proofs.YtbkfnmgkcgnifaaW.PrintLast Mdl
set_option maxRecDepth 8000 in
set_option maxHeartbeats 8000000 in
theorem ways_walk (A : Option Addr) (cc : Nat) (l : List Int) (n0 n1 n2 : Int) (w : World) (hl : kI.C w A l.length l) (hm : l.length ≤ 1000000000000000) :
  Calls Try.prog 3 #[.slice A l.length cc, .agg #[.int .i64 n0, .int .i64 n1, .int .i64 n2]] w fun e w' => e = .returned (.bool true) ∧ Below w.heap.size w w' := by
 have HMD := Lib.hid (fun W (hb : Below w.heap.size w W) => made_any A cc l W (Kd.C_below hl hb) hm)
 have H0 := Aside0.mk (Al.start w)
 clear hl
 go_enter Try.func3, Try.ntmps3
 go_upto_region 1 with fail
 have H1 := Aside0.mk (H0.out.new (.cells #[.int .i64 n0, .int .i64 n1, .int .i64 n2] 23) (b := w.heap.size) rfl)
 clear H0
 have hb := below_new w (.cells #[.int .i64 n0, .int .i64 n1, .int .i64 n2] 23)
 generalize w.alloc (.cells #[.int .i64 n0, .int .i64 n1, .int .i64 n2] 23) = v1 at *
 go_wp2_with fail
 refine (HMD.out _ hb).mono ?_
 clear hb
 rintro e v2 ⟨p, eA, eC, mA, mC, rfl, hpm, hpa, hle, hlm, hb⟩
 have H2 := Aside0.mk (H1.out.up hb)
 clear H1
 clear hb
 have H3 := Aside0.mk (H2.out.row hpa.hE)
 clear H2
 obtain ⟨ways, hways⟩ := made_planned hpm
 have HG := Lib.hid (Mdl.Good.mk hpm hways)
 have hN := hpm.N
 have hWd := hpm.Wd
 have hEl := hpm.E.1
 simp only [planV]
 clear hpa hpm hways hle hlm HMD
 have HF : ∀ W : World, (Instr.field 29 (.agg #[.int .i64 p.N, .int .i64 p.Wd, .slice eA p.E.length eC, .int .i64 p.workers, .slice mA p.start.length mC]) 0).run Try.prog W = .ok (.agg #[.int .i64 p.N, .int .i64 p.Wd, .slice eA p.E.length eC]) W := fun W => rfl
 have H4 := Aside0.mk (H3.out.new (.cells #[.int .i64 p.N, .int .i64 p.Wd, .slice eA p.E.length eC] 26) (b := v2.heap.size) rfl)
 clear H3
 go_upto_region 2 with fail
 generalize v2.alloc (.cells #[.int .i64 p.N, .int .i64 p.Wd, .slice eA p.E.length eC] 26) = v3 at *
 generalize v2.heap.size = gb at *
 have b0 : v3.cell? ⟨w.heap.size, 0, none⟩ = some (.int .i64 n0) := (blk_cell H4.out.2.2.1.1 0).trans rfl
 have b1 : v3.cell? ⟨w.heap.size, 1, none⟩ = some (.int .i64 n1) := (blk_cell H4.out.2.2.1.1 1).trans rfl
 have b2 : v3.cell? ⟨w.heap.size, 2, none⟩ = some (.int .i64 n2) := (blk_cell H4.out.2.2.1.1 2).trans rfl
 have g0 : v3.cell? ⟨gb, 0, none⟩ = some (.int .i64 p.N) := (blk_cell H4.out.1.1 0).trans rfl
 refine start_ (n := 18) (S := fun V => V.cell? ⟨w.heap.size, 0, none⟩ = some (.int .i64 n0) ∧ V.cell? ⟨w.heap.size, 1, none⟩ = some (.int .i64 n1) ∧ V.cell? ⟨w.heap.size, 2, none⟩ = some (.int .i64 n2) ∧ V.cell? ⟨gb, 0, none⟩ = some (.int .i64 p.N)) (ds := []) (bs 18 0) (by kernel_rfl) rfl (by kernel_rfl) ⟨b0, b1, b2, g0⟩ (fun hHeld => ?_)
 have H5 := Aside0.mk (H4.out.up (below_drew1 (Below.refl v3.heap.size v3)))
 clear H4
 generalize v3.drew = wd at *
 clear b0 b1 b2 g0
 refine pu 0 28 (bs 18 1) ?_
 refine tk4 1 29 (bs 18 3) hHeld ?_
 refine pu 2 30 (bs 18 7) ?_
 refine tk4 3 31 (bs 18 15) hHeld ?_
 refine pu 5 33 (bs 18 47) ?_
 refine tk4 6 34 (bs 18 111) hHeld ?_
 refine pu 7 35 (bs 18 239) ?_
 refine tk4 8 36 (bs 18 495) hHeld ?_
 refine pu 10 38 (bs 18 1519) ?_
 refine tk4 11 39 (bs 18 3567) hHeld ?_
 refine pu 12 40 (bs 18 7663) ?_
 refine tk4 13 41 (bs 18 15855) hHeld ?_
 refine on0 4 32 (bs 18 15871) fun K hK => ?_
 refine gs0 Try.func10 #[.int .i64 n0, .int .i64 p.N] ?_
 refine (turn_any n0 p.N wd (by omega) (by omega)).mono ?_
 rintro e w' ⟨rfl, rfl⟩
 refine ⟨_, rfl, hK.out _ _ hHeld (fun hHeld => ?_)⟩
 clear hK K
 refine nm0 (some 32) ?_
 have ra := turnP_range n0 (many := p.N) (by omega)
 generalize turnP n0 p.N = a at *
 refine on0 9 37 (bs 18 16383) fun K hK => ?_
 refine gs0 Try.func10 #[.int .i64 n1, .int .i64 p.N] ?_
 refine (turn_any n1 p.N wd (by omega) (by omega)).mono ?_
 rintro e w' ⟨rfl, rfl⟩
 refine ⟨_, rfl, hK.out _ _ hHeld (fun hHeld => ?_)⟩
 clear hK K
 refine nm0 (some 37) ?_
 have rb := turnP_range n1 (many := p.N) (by omega)
 generalize turnP n1 p.N = b at *
 refine on0 14 42 (bs 18 32767) fun K hK => ?_
 refine gs0 Try.func10 #[.int .i64 n2, .int .i64 p.N] ?_
 refine (turn_any n2 p.N wd (by omega) (by omega)).mono ?_
 rintro e w' ⟨rfl, rfl⟩
 refine ⟨_, rfl, hK.out _ _ hHeld (fun hHeld => ?_)⟩
 clear hK K
 refine nm0 (some 42) ?_
 have rc := turnP_range n2 (many := p.N) (by omega)
 generalize turnP n2 p.N = c at *
 clear hHeld
 refine pu 15 6 (bs 18 65535) ?_
 refine pu 16 7 (bs 18 131071) ?_
 refine pu 17 8 (bs 18 262143) ?_
 refine dn0 ?_
 have g0 : wd.cell? ⟨gb, 0, none⟩ = some (.int .i64 p.N) := (blk_cell H5.out.1.1 0).trans rfl
 have g1 : wd.cell? ⟨gb, 1, none⟩ = some (.int .i64 p.Wd) := (blk_cell H5.out.1.1 1).trans rfl
 have g2 : wd.cell? ⟨gb, 2, none⟩ = some (.slice eA p.E.length eC) := (blk_cell H5.out.1.1 2).trans rfl
 go_wp2_with fail
 refine (path_ok (eC := eC) HG.out ra ra H5.out.2.1.1).mono ?_
 rintro e v4 ⟨A0, q0, rfl, h1, -, hb⟩
 have H6 := Aside0.mk (H5.out.up hb)
 clear H5
 have H7 := Aside0.mk (H6.out.row h1)
 clear H6
 clear hb h1
 clear g0 g1 g2
 have g0 : v4.cell? ⟨gb, 0, none⟩ = some (.int .i64 p.N) := (blk_cell H7.out.2.1.1 0).trans rfl
 have g1 : v4.cell? ⟨gb, 1, none⟩ = some (.int .i64 p.Wd) := (blk_cell H7.out.2.1.1 1).trans rfl
 have g2 : v4.cell? ⟨gb, 2, none⟩ = some (.slice eA p.E.length eC) := (blk_cell H7.out.2.1.1 2).trans rfl
 go_wp2_with fail
 refine (path_ok (eC := eC) HG.out ra rb H7.out.2.2.1.1).mono ?_
 rintro e v5 ⟨A1, q1, rfl, h1, -, hb⟩
 have H8 := Aside0.mk (H7.out.up hb)
 clear H7
 have H9 := Aside0.mk (H8.out.row h1)
 clear H8
 clear hb h1
 clear g0 g1 g2
 have g0 : v5.cell? ⟨gb, 0, none⟩ = some (.int .i64 p.N) := (blk_cell H9.out.2.2.1.1 0).trans rfl
 have g1 : v5.cell? ⟨gb, 1, none⟩ = some (.int .i64 p.Wd) := (blk_cell H9.out.2.2.1.1 1).trans rfl
 have g2 : v5.cell? ⟨gb, 2, none⟩ = some (.slice eA p.E.length eC) := (blk_cell H9.out.2.2.1.1 2).trans rfl
 go_wp2_with fail
 refine (path_ok (eC := eC) HG.out rb rc H9.out.2.2.2.1.1).mono ?_
 rintro e v6 ⟨A2, q2, rfl, h1, -, hb⟩
 have H10 := Aside0.mk (H9.out.up hb)
 clear H9
 have H11 := Aside0.mk (H10.out.row h1)
 clear H10
 clear hb h1
 clear g0 g1 g2
 have g0 : v6.cell? ⟨gb, 0, none⟩ = some (.int .i64 p.N) := (blk_cell H11.out.2.2.2.1.1 0).trans rfl
 have g1 : v6.cell? ⟨gb, 1, none⟩ = some (.int .i64 p.Wd) := (blk_cell H11.out.2.2.2.1.1 1).trans rfl
 have g2 : v6.cell? ⟨gb, 2, none⟩ = some (.slice eA p.E.length eC) := (blk_cell H11.out.2.2.2.1.1 2).trans rfl
 go_wp2_with fail
 refine (path_ok (eC := eC) HG.out ra rc H11.out.2.2.2.2.1.1).mono ?_
 rintro e v7 ⟨A3, q3, rfl, h1, -, hb⟩
 have H12 := Aside0.mk (H11.out.up hb)
 clear H11
 have H13 := Aside0.mk (H12.out.row h1)
 clear H12
 clear hb h1
 clear g0 g1 g2
 have HM : ∀ W : World, (Instr.makeSlice 22 (.int .i64 p.Wd) (.int .i64 p.Wd)).run Try.prog W = .ok (.slice (some ⟨W.heap.size, 0, none⟩) p.Wd.toNat p.Wd.toNat) (W.alloc (.cells (madeCells #[.int .i64 0] p.Wd.toNat) 3)) := fun W => made_ints (by omega) (by omega) W
 have g0 : v7.cell? ⟨gb, 0, none⟩ = some (.int .i64 p.N) := (blk_cell H13.out.2.2.2.2.1.1 0).trans rfl
 have g1 : v7.cell? ⟨gb, 1, none⟩ = some (.int .i64 p.Wd) := (blk_cell H13.out.2.2.2.2.1.1 1).trans rfl
 have g2 : v7.cell? ⟨gb, 2, none⟩ = some (.slice eA p.E.length eC) := (blk_cell H13.out.2.2.2.2.1.1 2).trans rfl
 go_wp2_with fail
 clear g0 g1 g2 HM HF
 have H14 := Aside0.mk (H13.out.new (.cells (madeCells #[.int .i64 0] p.Wd.toNat) 3) (b := v7.heap.size) rfl)
 clear H13
 have H15 := Aside0.mk (H14.out.new (.cells #[.slice (some ⟨v7.heap.size, 0, none⟩) p.Wd.toNat p.Wd.toNat] 22) (b := v7.heap.size + 1) (by simp))
 clear H14
 refine (lists_eq H15.out.2.2.2.2.2.1.1 (lit_li H15.out.1.1 (C_madeI H15.out.2.1.1 (by omega)) (by simp) (Nat.le_refl _)) rfl rfl (path_self HG.out ra)).mono ?_
 rintro e v8 ⟨rfl, hb⟩
 have H16 := Aside0.mk (H15.out.up hb)
 clear H15
 clear hb
 have l1 := path_len HG.out ra rb
 have l2 := path_len HG.out rb rc
 have l3 := path_len HG.out ra rc
 go_wp2_with fail
 go_loopw [17] (fun i wr => ∃ k : Nat, i = .int .i64 k ∧ k ≤ (pathF p ways a b).length ∧ Aside0 (Below v8.heap.size v8 wr)) (fun i _ => (pathF p ways a b).length - (intOf i).toNat)
 case atStart => exact ⟨0, rfl, Nat.zero_le _, ⟨Below.refl _ _⟩⟩
 case round =>
  obtain ⟨k, rfl, hk, hX⟩ := hrel
  have H20 := Aside0.mk ((H16.out.up hX.out).since hX.out)
  clear hX
  by_cases hkt : k < (pathF p ways a b).length
  ·have hkE : (k : Int) < (pathF p ways a b).length := by omega
   have hk0 : (0 : Int) ≤ k := by omega
   go_wp2_with fail
   generalize wr = wo at *
   go_loopw [18] (fun i wr => ∃ j : Nat, i = .int .i64 j ∧ j ≤ (pathF p ways b c).length ∧ Aside0 (Below wo.heap.size wo wr)) (fun i _ => (pathF p ways b c).length - (intOf i).toNat)
   case atStart => exact ⟨0, rfl, Nat.zero_le _, ⟨Below.refl _ _⟩⟩
   case round =>
    obtain ⟨j, rfl, hj, hX⟩ := hrel
    by_cases hjt : j < (pathF p ways b c).length
    ·have hjE : (j : Int) < (pathF p ways b c).length := by omega
     have hj0 : (0 : Int) ≤ j := by omega
     have H31 := Aside0.mk ((H20.out.up hX.out).since hX.out)
     clear hX
     obtain ⟨ad, xA, xC, rfl, c1, d1, _⟩ := at_li H31.out.2.2.2.2.2.2.1.1 hkt
     obtain ⟨ad2, yA, yC, rfl, c2, d2, _⟩ := at_li H31.out.2.2.2.2.2.1.1 hjt
     have HJ := Lib.hid (path_join HG.out ra rb rc (List.getElem_mem hkt) (List.getElem_mem hjt))
     have HXI := Lib.hid (And.intro (path_in HG.out ra rb (List.getElem_mem hkt)) (path_in HG.out rb rc (List.getElem_mem hjt)))
     generalize (pathF p ways a b)[k] = x at *
     generalize (pathF p ways b c)[j] = y at *
     have H32 := Aside0.mk (H31.out.row d1)
     clear H31
     have H33 := Aside0.mk (H32.out.row d2)
     clear H32
     clear d1 d2
     go_upto_region 15 with fail
     refine start_ (n := 12) (S := fun V => V.cell? (ad.add k) = some (.slice xA x.length xC) ∧ V.cell? (ad2.add j) = some (.slice yA y.length yC)) (ds := []) (bs 12 0) (by kernel_rfl) rfl (by kernel_rfl) ⟨c1, c2⟩ (fun hHeld => ?_)
     have H34 := Aside0.mk (H33.out.up (below_drew1 (Below.refl wr.heap.size wr)))
     clear H33
     generalize wr.drew = we at *
     have HSH := Lib.hid (fun V (hb : Below we.heap.size we V) => (And.intro (pw_cell_below hb hHeld.1) (pw_cell_below hb hHeld.2)))
     clear c1 c2
     refine pu 0 106 (bs 12 1) ?_
     refine pu 1 107 (bs 12 3) ?_
     refine pu 2 108 (bs 12 7) ?_
     refine pu 3 109 (bs 12 15) ?_
     refine tk2 4 110 (bs 12 31) hHeld ?_
     refine pu 5 111 (bs 12 63) ?_
     refine pu 6 112 (bs 12 127) ?_
     refine pu 7 113 (bs 12 255) ?_
     refine tk2 8 114 (bs 12 511) hHeld ?_
     refine on0 9 115 (bs 12 1023) fun K hK => ?_
     refine gs0 Try.func14 #[.slice xA x.length xC, .slice yA y.length yC] ?_
     refine (plusL_any xA yA xC yC x y we H34.out.2.1.1 H34.out.1.1 (by have := HXI.out; omega) (by have := HXI.out; omega) (HXI.out.1.2.mono (by decide)) (HXI.out.2.2.mono (by decide))).mono ?_
     rintro e v9 ⟨sA, sC, rfl, h1, hb⟩
     have H35 := Aside0.mk (H34.out.up hb)
     clear H34
     have H36 := Aside0.mk (H35.out.row h1)
     clear H35
     refine ⟨_, rfl, hK.out _ _ (HSH.out _ hb) (fun hHeld => ?_)⟩
     clear hK K
     refine nm0 (some 115) ?_
     have hb1 := hb
     clear hb h1
     refine on0 10 116 (bs 12 2047) fun K hK => ?_
     refine gs0 Try.func13 #[.slice A3 (pathF p ways a c).length q3, .slice sA (plusN x y).length sC] ?_
     refine (past_any A3 sA q3 sC (pathF p ways a c) (plusN x y) _ H36.out.2.2.2.2.2.2.2.1.1 H36.out.1.1).mono ?_
     rintro e v10 ⟨rfl, hb⟩
     have H37 := Aside0.mk (H36.out.up hb)
     clear H36
     have hb := below_then hb1 hb1.size hb
     refine ⟨_, rfl, hK.out _ _ (HSH.out _ hb) (fun hHeld => ?_)⟩
     clear hK K
     refine nm0 (some 116) ?_
     rw [HJ.out]
     have HR := Aside0.mk (H37.out.2.2.2.1.1)
     clear hb hb1 HSH hHeld H37
     refine pu 11 117 (bs 12 4095) ?_
     refine dn0 ?_
     go_wp2_with fail
     exact ⟨⟨j + 1, by go_num, by omega, HR⟩, by simp [intOf]; omega⟩
    ·have hjE : ¬ (j : Int) < (pathF p ways b c).length := by omega
     have HR := Aside0.mk (below_then H20.out.1.1 H20.out.1.1.size hX.out)
     clear hX
     go_wp2_with fail
     exact ⟨⟨k + 1, by go_num, by omega, HR⟩, by simp [intOf]; omega⟩
  ·have hkE : ¬ (k : Int) < (pathF p ways a b).length := by omega
   clear H16
   go_wp2_with fail
   generalize wr = wo at *
   go_loopw [19] (fun i wr => ∃ t : Nat, i = .int .i64 t ∧ t ≤ (pathF p ways a c).length ∧ Aside0 (Below wo.heap.size wo wr)) (fun i _ => (pathF p ways a c).length - (intOf i).toNat)
   case atStart => exact ⟨0, rfl, Nat.zero_le _, ⟨Below.refl _ _⟩⟩
   case round =>
    obtain ⟨t, rfl, ht, hX⟩ := hrel
    by_cases htt : t < (pathF p ways a c).length
    ·have htE : (t : Int) < (pathF p ways a c).length := by omega
     have ht0 : (0 : Int) ≤ t := by omega
     have H40 := Aside0.mk ((H20.out.up hX.out).since hX.out)
     clear hX
     obtain ⟨ad, xA, xC, rfl, d0, d1, _⟩ := at_li H40.out.2.2.2.2.1.1 htt
     have HXI := Lib.hid (path_in HG.out ra rc (List.getElem_mem htt))
     have HHT := Lib.hid (hit_all HG.out ra rc (List.getElem_mem htt))
     generalize (pathF p ways a c)[t] = x at *
     have H41 := Aside0.mk (H40.out.row d1)
     clear H40
     clear d1
     have HD0 := Aside0.mk d0
     have H42 := Aside0.mk (H41.out.cell d0)
     clear H41
     clear d0
     go_upto_region 20 with fail
     go_cut [20] (fun s20 wx => s20 = .bool (hitB a c x) ∧ Aside0 (Below wr.heap.size wr wx))
     case first =>
      have d0 := HD0.out
      by_cases hac : a = c
      ·have hacE : (a == c) = true := by simp [hac]
       have HAC := Lib.hid hac
       clear hac
       go_wp2_with fail
       refine (sum_any xA xC x wr H42.out.2.1.1 (HXI.out.2.mono (by decide)) (by have := HXI.out.1; omega)).mono ?_
       rintro e w' ⟨rfl, rfl⟩
       go_wp2_with fail
       go_meet
       exact ⟨by rw [hitB_pos HAC.out], ⟨Below.refl _ _⟩⟩
      ·have hacE : (a == c) = false := by simp [hac]
       have HAC := Lib.hid hac
       clear hac
       go_wp2_with fail
       go_meet
       exact ⟨by rw [hitB_neg HAC.out], ⟨Below.refl _ _⟩⟩
     case rest =>
      obtain ⟨rfl, hbx⟩ := hcut
      have H43 := Aside0.mk (H42.out.up hbx.out)
      clear H42
      clear hbx
      go_wp2_with fail
      generalize wc = wp at *
      go_loopw [20, 21] (fun s i wr => ∃ j : Nat, s = .bool (hitB a c x || (p.E.take j).any (hitE p ways a c x)) ∧ i = .int .i64 j ∧ j ≤ p.E.length ∧ Aside0 (Below wp.heap.size wp wr)) (fun _ i _ => p.E.length - (intOf i).toNat)
      case atStart => exact ⟨0, by simp, rfl, Nat.zero_le _, ⟨Below.refl _ _⟩⟩
      case round =>
       obtain ⟨j, rfl, rfl, hj, hX⟩ := hrel
       have H50 := Aside0.mk ((H43.out.up hX.out).since hX.out)
       clear hX
       have g2 : wr.cell? ⟨gb, 2, none⟩ = some (.slice eA p.E.length eC) := (blk_cell H50.out.2.2.2.2.2.2.2.2.2.2.2.1.1 2).trans rfl
       by_cases hjt : j < p.E.length
       ·have hjE : (j : Int) < p.E.length := by omega
        have hj0 : (0 : Int) ≤ j := by omega
        obtain ⟨ad5, sA, sC, rfl, f0, f1, f2, dE, _⟩ := at_edge H50.out.2.2.2.2.2.2.2.2.2.2.2.2.1.1 hjt
        have HEM := Lib.hid (HG.out.made.E.2 _ (List.getElem_mem hjt))
        have HSN := Lib.hid (any_snoc (q := hitE p ways a c x) hjt)
        generalize p.E[j] = ed at *
        obtain ⟨ef, et, ea⟩ := ed
        simp only at f0 f1 f2 dE
        have H51 := Aside0.mk (H50.out.row dE)
        clear H50
        have H52 := Aside0.mk (H51.out.cell f2)
        clear H51
        have HF0 := Aside0.mk f0
        clear f0 f2 dE
        generalize hb1 : (hitB a c x || (p.E.take j).any (hitE p ways a c x)) = b1 at *
        have HB1 := Lib.hid hb1
        clear hb1
        by_cases hto : et = c
        ·have hneE : (et != c) = false := by simp [hto]
         have HST := Lib.hid (show (hitB a c x || (p.E.take (j + 1)).any (hitE p ways a c x)) = (b1 || (pathF p ways a ef).any (fun y => decide (plusN y ea = x))) by rw [HSN.out, ← Bool.or_assoc, HB1.out, hitE_pos (e := (ef, et, ea)) hto])
         clear hto
         go_upto_region 25 with fail
         clear g2 f1 hneE
         have g0 : wr.cell? ⟨gb, 0, none⟩ = some (.int .i64 p.N) := (blk_cell H52.out.2.2.2.2.2.2.2.2.2.2.2.2.2.1.1 0).trans rfl
         have g1 : wr.cell? ⟨gb, 1, none⟩ = some (.int .i64 p.Wd) := (blk_cell H52.out.2.2.2.2.2.2.2.2.2.2.2.2.2.1.1 1).trans rfl
         have g2 : wr.cell? ⟨gb, 2, none⟩ = some (.slice (some ad5) p.E.length eC) := (blk_cell H52.out.2.2.2.2.2.2.2.2.2.2.2.2.2.1.1 2).trans rfl
         have f0 := HF0.out
         refine start_ (n := 14) (S := fun V => V.cell? ⟨gb, 0, none⟩ = some (.int .i64 p.N) ∧ V.cell? ⟨gb, 1, none⟩ = some (.int .i64 p.Wd) ∧ V.cell? ⟨gb, 2, none⟩ = some (.slice (some ad5) p.E.length eC) ∧ V.cell? (ad5.add (j * 3)) = some (.int .i64 ef)) (ds := []) (bs 14 0) (by kernel_rfl) rfl (by kernel_rfl) ⟨g0, g1, g2, f0⟩ (fun hHeld => ?_)
         have H53 := Aside0.mk (H52.out.up (below_drew1 (Below.refl wr.heap.size wr)))
         clear H52
         generalize wr.drew = we at *
         have HSH := Lib.hid (fun V (hb : Below we.heap.size we V) => (And.intro (pw_cell_below hb hHeld.1) ((And.intro (pw_cell_below hb hHeld.2.1) ((And.intro (pw_cell_below hb hHeld.2.2.1) (pw_cell_below hb hHeld.2.2.2)))))))
         clear g0 g1 g2
         clear f0
         refine tk4 0 151 (bs 14 1) hHeld ?_
         refine pu 1 152 (bs 14 3) ?_
         refine pu 2 153 (bs 14 7) ?_
         refine tk4 3 154 (bs 14 15) hHeld ?_
         refine pu 4 155 (bs 14 31) ?_
         refine pu 5 156 (bs 14 63) ?_
         refine pu 6 157 (bs 14 127) ?_
         refine tk4 7 158 (bs 14 255) hHeld ?_
         refine on0 8 159 (bs 14 511) fun K hK => ?_
         refine gs0 Try.func11 #[.agg #[.int .i64 p.N, .int .i64 p.Wd, .slice (some ad5) p.E.length eC], .int .i64 a, .int .i64 ef] ?_
         refine (path_ok (eC := eC) HG.out ra HEM.out.from_ H53.out.2.2.2.2.2.2.2.2.2.2.2.2.2.2.1.1).mono ?_
         rintro e v11 ⟨A5, q5, rfl, h1, -, hb⟩
         have H54 := Aside0.mk (H53.out.up hb)
         clear H53
         have H55 := Aside0.mk (H54.out.row h1)
         clear H54
         refine ⟨_, rfl, hK.out _ _ (HSH.out _ hb) (fun hHeld => ?_)⟩
         clear hK K
         refine nm0 (some 159) ?_
         clear hb h1 HSH hHeld
         refine pu 9 150 (bs 14 1023) ?_
         refine pu 10 160 (bs 14 2047) ?_
         refine pu 11 161 (bs 14 4095) ?_
         refine pu 12 22 (bs 14 8191) ?_
         refine pu 13 23 (bs 14 16383) ?_
         refine dn0 ?_
         go_wp2_with fail
         have HLA : (pathF p ways a ef).length ≤ 286331153 := path_len HG.out ra HEM.out.from_
         generalize v11 = wq at *
         clear HF0
         generalize wr = wn at *
         go_loopw [20, 24] (fun s i wr => ∃ m : Nat, s = .bool (b1 || ((pathF p ways a ef).take m).any (fun y => decide (plusN y ea = x))) ∧ i = .int .i64 m ∧ m ≤ (pathF p ways a ef).length ∧ Aside0 (Below wq.heap.size wq wr)) (fun _ i _ => (pathF p ways a ef).length - (intOf i).toNat)
         case atStart => exact ⟨0, by simp, rfl, Nat.zero_le _, ⟨Below.refl _ _⟩⟩
         case round =>
          obtain ⟨m, rfl, rfl, hm, hX⟩ := hrel
          have H60 := Aside0.mk ((H55.out.up hX.out).since hX.out)
          clear hX
          by_cases hmt : m < (pathF p ways a ef).length
          ·have hmE : (m : Int) < (pathF p ways a ef).length := by omega
           have hm0 : (0 : Int) ≤ m := by omega
           obtain ⟨ad6, yA, yC, rfl, h0, d6, _⟩ := at_li H60.out.2.1.1 hmt
           have HYI := Lib.hid (path_in HG.out ra HEM.out.from_ (List.getElem_mem hmt))
           have HSM := Lib.hid (any_snoc (q := (fun y => decide (plusN y ea = x))) hmt)
           generalize (pathF p ways a ef)[m] = y at *
           have H61 := Aside0.mk (H60.out.row d6)
           clear H60
           clear d6
           generalize hb2 : (b1 || ((pathF p ways a ef).take m).any (fun y => decide (plusN y ea = x))) = b2 at *
           have HB2 := Lib.hid hb2
           clear hb2
           have HSR := Lib.hid (show (b1 || ((pathF p ways a ef).take (m + 1)).any (fun y => decide (plusN y ea = x))) = (b2 || decide (plusN y ea = x)) by rw [HSM.out, ← Bool.or_assoc, HB2.out])
           have HR := Aside0.mk H61.out.2.1.1
           cases b2
           ·skip
            have g2 : wr.cell? ⟨gb, 2, none⟩ = some (.slice (some ad5) p.E.length eC) := (blk_cell H61.out.2.2.2.2.2.2.2.2.2.2.2.2.2.2.2.2.1.1 2).trans rfl
            have f2 := H61.out.2.2.2.1.1
            have d0 := H61.out.2.2.2.2.2.2.1.1
            go_upto_region 31 with fail
            refine start_ (n := 20) (S := fun V => V.cell? (ad6.add m) = some (.slice yA y.length yC) ∧ V.cell? ⟨gb, 2, none⟩ = some (.slice (some ad5) p.E.length eC) ∧ V.cell? ⟨(ad5.add (j * 3)).block, (ad5.add (j * 3)).off + 2, none⟩ = some (.slice sA ea.length sC) ∧ V.cell? (ad.add t) = some (.slice xA x.length xC)) (ds := []) (bs 20 0) (by kernel_rfl) rfl (by kernel_rfl) ⟨h0, g2, f2, d0⟩ (fun hHeld => ?_)
            have H62 := Aside0.mk (H61.out.up (below_drew1 (Below.refl wr.heap.size wr)))
            clear H61
            have HR := Aside0.mk (below_drew1 HR.out)
            generalize wr.drew = we at *
            have HSH := Lib.hid (fun V (hb : Below we.heap.size we V) => (And.intro (pw_cell_below hb hHeld.1) (And.intro (pw_cell_below hb hHeld.2.1) (And.intro (pw_cell_below hb hHeld.2.2.1) (pw_cell_below hb hHeld.2.2.2)))))
            clear h0 g2 f2 d0
            refine pu 0 170 (bs 20 1) ?_
            refine pu 1 171 (bs 20 3) ?_
            refine pu 2 172 (bs 20 7) ?_
            refine pu 3 173 (bs 20 15) ?_
            refine pu 4 174 (bs 20 31) ?_
            refine tk4 5 175 (bs 20 63) hHeld ?_
            refine pu 6 176 (bs 20 127) ?_
            refine tk4 7 177 (bs 20 255) hHeld ?_
            refine pu 8 178 (bs 20 511) ?_
            refine pu 9 179 (bs 20 1023) ?_
            refine pu 10 180 (bs 20 2047) ?_
            refine tk4 11 181 (bs 20 4095) hHeld ?_
            refine pu 13 183 (bs 20 12287) ?_
            refine pu 14 184 (bs 20 28671) ?_
            refine pu 15 185 (bs 20 61439) ?_
            refine tk4 16 186 (bs 20 126975) hHeld ?_
            refine on0 12 182 (bs 20 131071) fun K hK => ?_
            refine gs0 Try.func14 #[.slice yA y.length yC, .slice sA ea.length sC] ?_
            refine (plusL_any yA sA yC sC y ea we H62.out.1.1 H62.out.2.2.2.2.1.1 (by have := HYI.out.1; have h2 : (ea.length : Int) = p.Wd := HEM.out.wide; omega) (by have := HYI.out.1; omega) (HYI.out.2.mono (by decide)) ((show inL 2 ea from HEM.out.nums).mono (by decide))).mono ?_
            rintro e v12 ⟨uA, uC, rfl, h1, hb⟩
            have H63 := Aside0.mk (H62.out.up hb)
            clear H62
            have H64 := Aside0.mk (H63.out.row h1)
            clear H63
            refine ⟨_, rfl, hK.out _ _ (HSH.out _ hb) (fun hHeld => ?_)⟩
            clear hK K
            refine nm0 (some 182) ?_
            have hb1 := hb
            clear hb h1
            refine on0 17 187 (bs 20 262143) fun K hK => ?_
            refine gs0 Try.func16 #[.slice uA (plusN y ea).length uC, .slice xA x.length xC] ?_
            refine (equal_any uA xA uC xC (plusN y ea) x _ H64.out.1.1 H64.out.2.2.2.2.2.2.2.2.1.1).mono ?_
            rintro e v13 ⟨rfl, hb⟩
            have H65 := Aside0.mk (H64.out.up hb)
            clear H64
            have hb := below_then hb1 hb1.size hb
            refine ⟨_, rfl, hK.out _ _ (HSH.out _ hb) (fun hHeld => ?_)⟩
            clear hK K
            refine nm0 (some 187) ?_
            have HR := Aside0.mk (below_then HR.out HR.out.size hb)
            clear hb hb1 HSH hHeld H65
            refine pu 18 188 (bs 20 524287) ?_
            refine pu 19 20 (bs 20 1048575) ?_
            refine dn0 ?_
            go_wp2_with fail
            exact ⟨⟨m + 1, by rw [HSR.out, Bool.false_or], by go_num, by omega, HR⟩, by simp [intOf]; omega⟩
           ·skip
            go_upto_region 31 with fail
            refine start_ (n := 20) (S := fun V => True) (ds := []) (bs 20 0) (by kernel_rfl) rfl (by kernel_rfl) trivial (fun hHeld => ?_)
            have HR := Aside0.mk (below_drew1 HR.out)
            generalize wr.drew = we at *
            clear h0 hHeld
            refine pu 0 170 (bs 20 1) ?_
            refine pu 1 171 (bs 20 3) ?_
            refine uf0 2 172 (bs 20 7) ?_
            refine uf0 3 173 (bs 20 15) ?_
            refine uf0 4 174 (bs 20 31) ?_
            refine uf0 5 175 (bs 20 63) ?_
            refine uf0 6 176 (bs 20 127) ?_
            refine uf0 7 177 (bs 20 255) ?_
            refine uf0 8 178 (bs 20 511) ?_
            refine uf0 9 179 (bs 20 1023) ?_
            refine uf0 10 180 (bs 20 2047) ?_
            refine uf0 11 181 (bs 20 4095) ?_
            refine uf0 12 182 (bs 20 8191) ?_
            refine uf0 13 183 (bs 20 16383) ?_
            refine uf0 14 184 (bs 20 32767) ?_
            refine uf0 15 185 (bs 20 65535) ?_
            refine uf0 16 186 (bs 20 131071) ?_
            refine uf0 17 187 (bs 20 262143) ?_
            refine pu 18 188 (bs 20 524287) ?_
            refine pu 19 20 (bs 20 1048575) ?_
            refine dn0 ?_
            go_wp2_with fail
            exact ⟨⟨m + 1, by rw [HSR.out, Bool.true_or], by go_num, by omega, HR⟩, by simp [intOf]; omega⟩
          ·have hmE : ¬ (m : Int) < (pathF p ways a ef).length := by omega
           have HTR := Lib.hid (show (b1 || ((pathF p ways a ef).take m).any (fun y => decide (plusN y ea = x))) = (hitB a c x || (p.E.take (j + 1)).any (hitE p ways a c x)) by rw [List.take_of_length_le (by omega), HST.out])
           rw [HTR.out]
           have HR := Aside0.mk H60.out.2.2.2.2.1.1
           go_wp2_with fail
           exact ⟨⟨j + 1, rfl, by go_num, by omega, HR⟩, by simp [intOf]; omega⟩
        ·have hneE : (et != c) = true := by simp [hto]
         have HNE := Lib.hid (show (hitB a c x || (p.E.take (j + 1)).any (hitE p ways a c x)) = b1 by rw [HSN.out, hitE_neg (e := (ef, et, ea)) hto, Bool.or_false, HB1.out])
         clear hto
         have HR := Aside0.mk H52.out.2.2.1.1
         go_wp2_with fail
         exact ⟨⟨j + 1, by rw [HNE.out], by go_num, by omega, HR⟩, by simp [intOf]; omega⟩
       ·have hjE : ¬ (j : Int) < p.E.length := by omega
        have HTR := Lib.hid (show (hitB a c x || (p.E.take j).any (hitE p ways a c x)) = true by rw [List.take_of_length_le (by omega)]; exact HHT.out)
        rw [HTR.out]
        clear HTR
        have HR := Aside0.mk (H50.out.2.2.2.1.1)
        go_wp2_with fail
        exact ⟨⟨t + 1, by go_num, by omega, HR⟩, by simp [intOf]; omega⟩
    ·have htE : ¬ (t : Int) < (pathF p ways a c).length := by omega
     have H66 := Aside0.mk (H20.out.up hX.out)
     clear H20
     go_wp2_with fail
     refine progressed_fin H66.out.2.2.2.2.2.2.2.2.2.2.1.1 (fun w' hb => ?_)
     go_wp2_with fail
     go_ret
     exact ⟨rfl, hb⟩
end Go.Proofs.Ytbkfnmgkcgnifaa
namespace Go.Proofs.YtbkfnmgkcgnifaaW.PrintWords
open Go.ChangeShapes Go.WideShapes
theorem sized_ints {H : Type} {enc : TypeId × Value → H} {P : Program} {W : World} {base : Nat} {spare : Nat → Bool} {held : Bool} {t e : TypeId} {k : IntKind} {a : Option Addr} {len cap : Nat} {d : DataW H} {ps : List MemPlace} {ts : List TypeId} {ds : List (DataW H)} {j : Nat}
  (hsz : (DataW.weightsEach P ts ds).all (· ≤ reachBytes) = true) (ht : ts[j]? = some t) (hd : ds[j]? = some d) (hu : P.underlying t = some (.slice e)) (he : P.underlying e = some (.int k)) (hc : P.cellsOf e = 1) {B : Nat} (hB : P.bytesOf e = B)
  (h : DataW.Trod enc P W base spare held t (.slice a len cap) d ps) : len * B ≤ 140737488351232 := by
 obtain ⟨fuel, hf⟩ := h
 rcases open_ints hu he hc hf with ⟨hcs, _⟩ | ⟨x, l, c, zs, hcs, _, hl, _, hz, hx, _, _⟩
 ·simp [Value.cells] at hcs
  obtain ⟨rfl, rfl, rfl⟩ := hcs
  simp
 ·simp [Value.cells] at hcs
  obtain ⟨rfl, rfl, rfl⟩ := hcs
  obtain ⟨hx, _⟩ := Prod.mk.inj hx
  subst hx
  have z := sized_slice hsz ht hd hu
  rw [hB] at z
  have hl2 : len ≤ zs.length := by
   rw [hz]
   split
   ·exact hl
   ·exact Nat.le_refl _
  have h1 : (lits (H := H) k (zs.take len)).length + (lits (H := H) k (zs.drop len)).length = zs.length := by
   simp [lits]
   omega
  rw [h1] at z
  exact Nat.le_trans (Nat.mul_le_mul_right _ hl2) z
end Go.Proofs.YtbkfnmgkcgnifaaW.PrintWords
namespace Go.Proofs.Ytbkfnmgkcgnifaa.progressWays
open Go.ChangeShapes Go.WideShapes Go.ChangeAt Go.RowKit Go.Proofs.YtbkfnmgkcgnifaaW.PrintWords
set_option linter.unusedVariables false
theorem own : ownKnob Try.prog.godebug = none := by kernel_rfl
theorem laidOut : laidOutB Try.prog = true := by kernel_rfl
def IsRow (w : World) (a : Option Addr) (len cap : Nat) (zs : List Int) : Prop :=
 (a = none ∧ len = 0 ∧ cap = 0 ∧ zs = []) ∨
 ∃ x, a = some x ∧ len ≤ cap ∧ cap ≤ maxLen ∧ zs.length = cap ∧ (∀ i, i < zs.length → w.cell? (x.add i) = some (.int .i64 (zs.getD i 0))) ∧ ∀ n ∈ zs, (Lit.int .i64 n).wf = true
theorem ints_of : ∀ (L : List Value), (∀ i, i < L.length → ∃ a : Int, L[i]? = some (.int .i64 a)) → ∃ l : List Int, L = l.map (Value.int .i64)
 | [], _ => ⟨[], rfl⟩
 | x :: L, h => by
  obtain ⟨a, ha⟩ := h 0 (by simp)
  obtain ⟨l, rfl⟩ := ints_of L (fun i hi => by simpa using h (i + 1) (by simp; omega))
  exact ⟨a :: l, by have : x = Value.int .i64 a := (by simpa using ha); rw [this]; rfl⟩
theorem openN {P : Program} {H : Type} {enc : TypeId × Value → H} {W : World} {r : Reach} {b0 base : Nat} {sp : Nat → Bool} {held : Bool} {v : Value} {d : DataW H} {ps : List MemPlace} {t e n : Nat} (hu : P.underlying t = some (.array n e)) (he : P.underlying e = some (.int .i64)) (h1 : P.cellsOf e = 1) (h2 : P.cellsOf t = n) (hv : Value.okWide P W r b0 t v) (h : DataW.Trod enc P W base sp held t v d ps) : ∃ l : List Int, l.length = n ∧ v = .agg (l.map (Value.int .i64)).toArray := by
 simp only [Value.okWide, hu] at hv
 obtain ⟨cs, rfl, hs, _⟩ := hv
 obtain ⟨fuel, hf⟩ := h
 obtain ⟨xs, m, _, _, _, hl, hx⟩ := DataW.trod_array hu hf
 have hlen : cs.toList.length = n := by rw [Array.length_toList, hs, h2]
 obtain ⟨l, hL⟩ := ints_of cs.toList (fun i hi => by
  have e1 := (hx i (by omega)).trans (List.getElem?_eq_getElem (by omega))
  rw [h1, Nat.mul_one] at e1
  obtain ⟨a, ha, _⟩ := DataW.trod_int he e1
  have ha : (cs.toList.drop i).take 1 = [.int .i64 a] := ha
  exact ⟨a, by have h3 := congrArg (fun L => L[0]?) ha; simpa using h3⟩)
 refine ⟨l, ?_, ?_⟩
 ·have := congrArg List.length hL
  rw [List.length_map] at this; omega
 ·congr 1
  apply Array.toList_inj.1
  rw [hL]
set_option maxRecDepth 100000 in
theorem open3 {H : Type} {enc : TypeId × Value → H} {W : World} {r : Reach} {b0 base : Nat} {sp : Nat → Bool} {held : Bool} {v : Value} {d : DataW H} {ps : List MemPlace} (hv : Value.okWide Try.prog W r b0 23 v) (h : DataW.Trod enc Try.prog W base sp held 23 v d ps) : ∃ a0 a1 a2 : Int, v = .agg #[.int .i64 a0, .int .i64 a1, .int .i64 a2] := by
 obtain ⟨l, hl, rfl⟩ := openN Try.underlying23 Try.underlying3 (by kernel_rfl) (by kernel_rfl) hv h
 match l, hl with
 | [a0, a1, a2], _ => exact ⟨a0, a1, a2, rfl⟩
set_option maxRecDepth 100000 in
theorem lifted (os : Os) (started : os.Started) (H : Type) (enc : TypeId × Value → H) :
  ReturnsInHanded {} Try.checked os 3 .any (Rows.progressWaysSpec.pre6 enc Try.prog Try.f3 Rows.progressWaysRow.domain false) (Rows.progressWaysSpec.post enc Try.prog Try.f3 false true false false) := by
 refine returnsInHanded_of_change_sized (C := Try.checked) own started (by kernel_rfl) Try.func3
  (ChangeSpec.witness6 (enc := enc) (C := Try.checked) false ⟨#[], #[.slice none 0 0, .agg #[.int .i64 0, .int .i64 0, .int .i64 0]], []⟩ 8 (by kernel_rfl) (by kernel_rfl) (by kernel_rfl) (by kernel_rfl)) ?_
 intro W base args ds gs before hval0 hW hcnd hsz0 _
 have hsz : (DataW.weightsEach Try.prog (Try.f3.params.toList ++ Rows.progressWaysSpec.plain.varTypes Try.prog) (ds ++ gs)).all (· ≤ reachBytes) = true := hsz0
 have hval : ∀ (j : Nat) t v, Try.f3.params[j]? = some t → args[j]? = some v → Value.okWide Try.prog W .any base t v := hval0
 have hW' := hW
 obtain ⟨p, q, hA0, hV, rfl, hfz, hnd⟩ := hW
 have hA : DataW.TrodAll enc Try.prog W 0 (fun _ => true) true Try.f3.params.toList args.toList ds p := hA0
 rw [Try.params3] at hA hval hsz
 obtain ⟨v0, vs0, d0, ds0, p0, q0, hargs, rfl, rfl, h0, r0⟩ := trodAll_cons hA
 obtain ⟨v1, vs1, d1, ds1, p1, q1, rfl, rfl, rfl, h1, r1⟩ := trodAll_cons r0
 obtain ⟨rfl, rfl, rfl⟩ := trodAll_nil r1
 obtain rfl : args = #[v0, v1] := by cases args; simp_all
 obtain ⟨rfl, rfl⟩ := trodVars_none hV
 have k0 := h0
 have lt0 : ∀ x ∈ p0, x.block < W.heap.size := by obtain ⟨m, hm⟩ := k0; exact DataW.trod_lt m _ _ _ hm
 obtain ⟨a0, len0, cap0, rfl⟩ := okWide_slice Try.underlying22 (hval 0 22 v0 rfl rfl)
 obtain ⟨z0, w0⟩ : ∃ zs, IsRow W a0 len0 cap0 zs := by
  obtain ⟨fuel, hf⟩ := h0
  rcases open_ints Try.underlying22 Try.underlying3 (by kernel_rfl) hf with ⟨hcs, _⟩ | ⟨x, l, c, zs, hcs, _, hl, hm, hz, _, hcell, hwz⟩
  ·simp [Value.cells] at hcs
   obtain ⟨rfl, rfl, rfl⟩ := hcs
   exact ⟨[], .inl ⟨rfl, rfl, rfl, rfl⟩⟩
  ·simp [Value.cells] at hcs
   obtain ⟨rfl, rfl, rfl⟩ := hcs
   exact ⟨zs, .inr ⟨_, rfl, hl, hm, by simpa using hz, hcell, hwz⟩⟩
 have y0 : len0 * 8 ≤ 140737488351232 := sized_ints hsz (j := 0) (t := 22) rfl rfl Try.underlying22 Try.underlying3 (by kernel_rfl) (by kernel_rfl) h0
 obtain ⟨l0, rfl, hr0, hm0, hw0, hc0⟩ := ReadsInt.ofRowC w0
 have k1 := h1
 have lt1 : ∀ x ∈ p1, x.block < W.heap.size := by obtain ⟨m, hm⟩ := k1; exact DataW.trod_lt m _ _ _ hm
 obtain ⟨b0, b1, b2, rfl⟩ := open3 (hval 1 23 v1 rfl rfl) h1
 clear hA0 hval0 hsz0 hsz
 refine (ways_walk a0 cap0 l0 b0 b1 b2 W (Kd.C_of_reads (d := (0 : Int)) (h1 := fun _ => rfl) hr0) (by omega)).mono fun e W' ⟨he, bel⟩ => ?_
 subst he
 exact ⟨_, rfl, _, _, _, [], _, [], hW', trodAll_mk1 (shut_bool Try.underlying4 _), (trodAll_cons_mk (Below.trod laidOut (by kernel_rfl) (of_decide_eq_true (by kernel_rfl)) k0 bel lt0) (trodAll_cons_mk (Below.trod laidOut (by kernel_rfl) (of_decide_eq_true (by kernel_rfl)) k1 bel lt1) trodAll_mk0)), rfl, bel.frame _, fun h => by cases h⟩
theorem over : Rows.progressWaysRow.holds Try.pinned (OpenSpec.ofChange Rows.progressWaysSpec) :=
 OpenClaim.holds_of_wide 3 Try.f3 rfl rfl rfl rfl rfl rfl rfl ⟨rfl, rfl, rfl, rfl, rfl⟩ rfl rfl rfl rfl rfl (by kernel_rfl) Try.func3 (by kernel_rfl)
  (of_decide_eq_true (by kernel_rfl)) (by unfold Func.isWrapper; first | (rw [if_pos (by decide +kernel)]; kernel_rfl) | (rw [if_neg (by decide +kernel)]; exact ⟨rfl, rfl⟩))
  (fun os started H enc _ => lifted os started H enc)
theorem proved : Rows.ProgressWaysSaid := over
#print axioms proved
end Go.Proofs.Ytbkfnmgkcgnifaa.progressWays
