/- Part 5 of the proof of ProgressRuns and ProgressTells. -/
import Derived.Test.YtbkfnmgkcgnifaaGreatVt4
set_option linter.all false
set_option maxRecDepth 8000
set_option maxHeartbeats 16000000
namespace Go.Proofs.YtbkfnmgkcgnifaaGreat
open Go.RowKit Go.Shelf W1 W2 Mdl
def Yz0:=@Nat.le_trans
def Yz1:=@List.mem_cons
def Yz2:=@not_typed
def Yz3:=@Nat.zero_le
def Yz4:=@List.mem_map
theorem Jdk {w:World} {base:Nat} {g n cap:Nat} {xs:List (List (List Int))} (h:kLLI.R 28 w base (fun _=>True) (.slice (some ⟨g,0,none⟩) n cap) xs) {k:Nat} (hk:k<n) :
  ∃ sA sC,w.cell? ⟨g,k,none⟩=some (.slice sA (xs.getD k []).length sC)∧w.frozen? ⟨g,k,none⟩=false∧kLI.R 36 w base (fun _=>True) (.slice sA (xs.getD k []).length sC) (xs.getD k []):=by
 obtain ⟨cs,hcl,hM,hcc,hfr⟩:=Kd.R_elem h [] (k:Int) (by omega) (by omega)
 rw [Y06] at hM hcc hfr
 obtain ⟨u,rfl,hR⟩:=hM
 obtain ⟨sA,sC,rfl⟩:=Kd.c02 hR
 have h1:=hcc 0 _ rfl
 have h2:=hfr 0
 rw [show kLLI.sz=1 from rfl,Nat.mul_one,Nat.add_zero] at h1 h2
 exact ⟨sA,sC,h1,h2,Kd.c06 hR (fun _ _=>trivial)⟩
theorem Jr4 {w:World} {base g t:Nat} {v:Value} {l:List (List Int)} (h:kLI.R 36 w base (fun _=>True) v l) (ht:J0m w g t) (h1:(t == 3)=false) (h2:(t == 36)=false):kLI.R 36 w base (fun k=>True∧k≠g) v l :=
 Kd.c06 (Kd.c05 h) (fun k hk=>⟨trivial,fun he=>by
  obtain ⟨_,_,_,q,hq,hc⟩:=hk
  rcases Yz1.1 hq with hq | hq
  ·exact Yz2 ht h2 (he ▸ hq ▸ hc)
  rcases Yz1.1 hq with hq | hq
  ·exact Yz2 ht h1 (he ▸ hq ▸ hc)
  cases hq⟩)
theorem Jbx {W:World} {g n cap k base:Nat} {xs:List (List (List Int))} {u:Value} {x:List (List Int)} (HO:kLLI.R 28 W base (fun _=>True) (.slice (some ⟨g,0,none⟩) n cap) xs) (hk:k<n) (hu:kLI.R 36 W base (fun _=>True) u x) :
  (∃ v0,W.cell? ⟨g,k,none⟩=some v0)∧W.frozen? ⟨g,k,none⟩=false∧kLLI.R 28 (W.setCell ⟨g,k,none⟩ u) base (fun _=>True) (.slice (some ⟨g,0,none⟩) n cap) (xs.set k x)∧W.grownBy (W.setCell ⟨g,k,none⟩ u) (some g):=by
 obtain ⟨c,hcl,hM,hcc,hfr⟩:=Kd.R_elem HO [] (k:Int) (by omega) (by omega)
 rw [Y06] at hM hcc hfr
 obtain ⟨v0,rfl,_⟩:=hM
 have hs:=Kd.R_seg HO (k:Int) (by omega) (by omega) (j:=0) (seg:=[u]) (x':=x) hcl (by rw [Y06];exact hcc) (Y0e 1) ⟨u,rfl,Jr4 hu (Kd.R_typed HO g rfl) rfl rfl⟩ (fun _ h=>h)
 rw [Y06,show kLLI.sz=1 from rfl,Nat.mul_one,Nat.add_zero] at hs
 have h1:=hcc 0 _ rfl
 have h2:=hfr 0
 rw [show kLLI.sz=1 from rfl,Nat.mul_one,Nat.add_zero] at h1 h2
 exact ⟨⟨v0,h1⟩,h2,hs⟩
theorem Ji3 {W w1:World} (h:W.grownBy w1 none):Below W.heap.size W w1:=⟨h.os,h.tape,h.output,h.size,fun i hi=>h.block i hi (by simp)⟩
theorem Jpz {W:World} {base:Nat} {u:Value} {x:List Int} (h:kI.R 3 W base (fun _=>True) u x) (hb:base≤W.heap.size):kLI.R 36 (W.alloc (.cells #[u] 36)) base (fun _=>True) (.slice (some ⟨W.heap.size,0,none⟩) 1 1) [x]:=by
 have hn:=J02 W (.cells #[u] 36)
 have hblk:=Y0c W (.cells #[u] 36)
 have hM:kLI.M (W.alloc (.cells #[u] 36)) base (fun k=>True∧k≠W.heap.size) x [u]:=⟨u,rfl,Kd.c01 (Kd.c06 (Kd.c05 h) (fun k hk=>⟨trivial,by omega⟩)) hn⟩
 refine ⟨fun _ _=>trivial,[u],⟨rfl,.inr ⟨W.heap.size,1,#[u],rfl,hb,hblk,Y0e _,by decide,rfl,rfl⟩⟩,rfl,fun j p hj=>?_⟩
 obtain ⟨h1,rfl⟩:=Y0h.1 hj
 obtain rfl:j=0:=by simp at h1;omega
 exact kLI.M_mono (fun k hk=>⟨hk.1,fun he=>hk.2 (by simpa [Value.ownBlock] using he)⟩) hM
section
variable {ops:Array Oper} {Q:Exit→Act→World→Prop} {o:Oper} {a:Act} {w0 w2 W:World} {v:Value} {xs ys:List (List Int)} {Kc:Act→World→Prop} {A:Option Addr} {c:Nat}
theorem J1o.rowsS (h:J1o w0 w2 W v xs) (hs:kLI.R 36 w2 w0.heap.size (fun _=>True) (.slice A ys.length c) ys) (hl:xs.length+ys.length≤1000000000000) (s y:Operand) (hw:Region.wanted o (yielded ops a.tmps)=true)
  (ho:o.op=.call { callee:=.builtin .append,args:=#[s,y],argTypes:=#[28,28] }) (hsv:a.eval s=v) (hx:a.eval y=.slice A ys.length c)
  (k:∀ v1 w1,J1o w0 w2 w1 v1 (xs++ys)→Kc (a.put o.dst v1) w1):if Region.wanted o (yielded ops a.tmps)=true then Oper.wp Tryz.prog o a W Kc Q else Kc (a.put o.dst undef) W :=
 Kd.R_append_rows_step kLI (Rr:=kLI.M W w0.heap.size (fun q=>q<w2.heap.size)) (w0:=w0) w0.heap.size hw s y 28 36 (.slice none 0 0) 24 ho Tryz.underlying28 Tryz.infoInts rfl (by decide) (by decide) v xs ys A ys.length c (fun _=>True) (fun q=>q<w2.heap.size) hsv hx h.rows (Jqn hs h.below) (fun _ _ h=>h)
  (fun q hq=>⟨trivial,fun he=>by have:=h.own q he.symm;omega⟩) (fun _ _=>trivial) h.down h.down.size (by omega) (fun v1 w1 hR _ hg hat=>k v1 w1 (h.more hR hg hat))
end
theorem Jr7 {W:World} {g n cap base:Nat} {xs:List (List (List Int))} (HO:kLLI.R 28 W base (fun _=>True) (.slice (some ⟨g,0,none⟩) n cap) xs) (h:W.heap.size=g):False:=by
 obtain ⟨inner,ho⟩:=Kd.R_own HO
 have:=Jdh ho g (by simp [Value.ownBlock])
 omega
namespace Mdl
theorem Jo4 {q n m:Nat} (hq:q<n) (hn:n≤8) (hm:m≤16):q*m+m≤128:=by
 rw [← Nat.succ_mul]
 exact Nat.mul_le_mul (show q+1≤8 by omega) hm
theorem Jit {α:Type} (l:List (List α)) {i:Nat} (h:i<l.length):l.set i (l.getD i [])=l:=by
 rw [Y01,Y05 h];exact List.set_getElem_self h
theorem Jkq (n wd a:Nat) (h:wd≤3) {E:List Ed} : (List.replicate n ([]:List (List Int))).set a [List.replicate wd 0]=numF wd (J3e n E a 0):=by
 show _=List.map (List.map (J0g wd)) ((List.replicate n []).set a [(0,0,0)])
 rw [List.map_set,List.map_replicate]
 congr 1
 obtain rfl | rfl | rfl | rfl:wd=0∨wd=1∨wd=2∨wd=3:=by omega
 all_goals rfl
end Mdl
theorem Jas (wd:Nat) (r:List (List Tm)) (t:Nat) (l:List Tm):(numF wd r).set t (l.map (J0g wd))=numF wd (r.set t l):=by
 show (List.map (List.map (J0g wd)) r).set t (l.map (J0g wd))=List.map (List.map (J0g wd)) (r.set t l)
 rw [List.map_set]
theorem Jr8:∀ q,q ∈ 36::kLI.E→q≠28:=by decide
theorem kI_C {w:World} {base:Nat} {A:Option Addr} {n c:Nat} {l:List Int} (h:kI.R 3 w base (fun _=>True) (.slice A n c) l):kI.C w A n l:=by
 obtain ⟨A',c',he⟩:=Kd.c02 h
 injection he with _ e2 _
 subst e2
 exact (Kd.c03 h).2.2
theorem Jms {w:World} {base:Nat} {A:Option Addr} {c wd k:Nat} {xs:List Tm} (hw:wd≤3) (h:kLI.R 36 w base (fun _=>True) (.slice A xs.length c) (xs.map (J0g wd))) (hk:k<xs.length) :
  ∃ g sA sC,A=some ⟨g,0,none⟩∧w.cell? ⟨g,k,none⟩=some (.slice sA wd sC)∧kI.R 3 w base (fun _=>True) (.slice sA wd sC) (J0g wd xs[k]):=by
 have hl:(xs.map (J0g wd)).length=xs.length:=Y0g _
 rw [← hl] at h
 obtain ⟨g,sA,sC,rfl,h1,_,h2⟩:=Joq h (k:=k) (by rw [hl];exact hk)
 rw [Y0n,J0u _ hw] at h1 h2
 exact ⟨g,sA,sC,rfl,h1,h2⟩
theorem Jq2 {wd:Nat} (hw:wd≤3) (yA sA:Option Addr) (yC sC:Nat) (y:Tm) (add:List Int) (hadd:add.length=wd) (W:World) (hy:kI.C W yA wd (J0g wd y)) (ha:kI.C W sA wd add) :
  Calls Tryz.prog 72 #[.slice yA wd yC,.slice sA wd sC] W fun e w'=>∃ v,e=.returned v∧kI.R 3 w' W.heap.size (fun _=>True) v (J0g wd (J0l y (tmOf add)))∧Below W.heap.size W w':=by
 have hl:=J0u y hw
 have h:=Jbe yA sA yC sC (J0g wd y) add W (by rw [hl];exact hy) (by rw [hadd];exact ha) (by rw [hl,hadd]) (by rw [hl];omega)
 rw [hl,hadd] at h
 have he:J48 (J0g wd y) add=J0g wd (J0l y (tmOf add)):=by
  conv=>lhs;rw [← Jhy hadd hw]
  exact J9m hw y (tmOf add)
 rw [he] at h
 exact h
theorem Jcg {wd:Nat} (hw1:1≤wd) (hw:wd≤3) (cA:Option Addr) (cC:Nat) (l:List Tm) {base:Nat} (W:World) (hl:kLI.R 36 W base (fun _=>True) (.slice cA l.length cC) (l.map (J0g wd))) (hz:∀ x ∈ l,ZW wd x) (hn:l.length≤900000000000) :
  Calls Tryz.prog 73 #[.slice cA l.length cC] W fun e w'=>∃ v,e=.returned v∧kLI.R 36 w' W.heap.size (fun _=>True) v ((J0p l).map (J0g wd))∧Below W.heap.size W w':=by
 have hll:(l.map (J0g wd)).length=l.length:=Y0g _
 rw [← hll] at hl
 have h:=Jef cA cC wd (l.map (J0g wd)) W (Kd.c03 hl).2.2 (fun x hx=>by obtain ⟨t,_,rfl⟩:=Yz4.1 hx;exact J0u t hw) (by omega) (by rw [hll];exact hn)
 rw [hll,Jgz hw hw1 hz] at h
 exact h
theorem Jmb (n wd:Nat) (E:List Ed) (eA:Option Addr) (eC a:Nat) (w:World) (hE:kE.C w eA E.length E) (hn1:1≤n) (hn8:n≤8) (hw1:1≤wd) (hw3:wd≤3) (h16:E.length≤16) (hok:∀ e ∈ E,J1l n wd e=true) (ha:a<n) :
  Calls Tryz.prog 35 #[.agg #[.int .i64 (n:Int),.int .i64 (wd:Int),.slice eA E.length eC],.int .i64 (a:Int)] w fun e w'=>∃ v,e=.returned v∧kLLI.R 28 w' w.heap.size (fun _=>True) v (numF wd (J3e n E a n))∧Below w.heap.size w w':=by
 have HE:=Y00 hE
 have HOK:=Y08 hok
 have hEm:=Kd.C_max hE
 clear hE hok
 have HN:=Y08 (show J57 n E from fun e he=>by have:=J3k HOK.out (by omega) e he;omega)
 have hzb:=J02 w (.cells #[.int .i64 (n:Int),.int .i64 (wd:Int),.slice eA E.length eC] 24)
 have hgb:=Y0c w (.cells #[.int .i64 (n:Int),.int .i64 (wd:Int),.slice eA E.length eC] 24)
 obtain ⟨g0,g1,g2⟩:=bc3 hgb
 go_enter Tryz.func35,Tryz.ntmps35
 go_upto_region 1 with fail
 have HB1:=Y00 hzb
 generalize w.alloc (.cells #[.int .i64 (n:Int),.int .i64 (wd:Int),.slice eA E.length eC] 24)=w1 at *
 clear hzb hgb
 have HG:=Y08 (Y07 g0 (Y07 g1 g2))
 go_upto_region 2 with (at_make;go_must (refine Kd.R_make kLLI (w0:=w1) w1.heap.size 28 rfl (N:=13) rfl _ _ _ rfl n rfl rfl Tryz.underlying38 _ 24 Tryz.infoLLI rfl (by decide) (by decide) ([]:List (List Int)) (ok:=fun _=>True) (okp:=fun _=>False) ⟨_,rfl,Kd.R_nil _ _ _ _ _⟩ (fun _ h=>h.elim) trivial (by omega) (by omega) (Y0f w1.heap.size w1) (Y0e w1.heap.size) ?_;intro v7 w2 hR7 hb7 hg7 hown7;obtain ⟨g,cw,hv7,hgb,-,-⟩:=Kd.R_form hR7 (by simp;omega);rw [Y06,Y0j] at hv7;subst hv7;rw [Y06] at hR7;have HW:=Y00 (Y07 hR7 hb7);have HGE:=Y08 hgb;clear hR7 hb7 hg7 hown7 hgb))
 clear g0 g1 g2
 have g1:=J00 HW.out.2 HG.out.2.1
 have haE:(a:Int)<n:=by omega
 have ha0:(0:Int)≤a:=by omega
 go_upto_region 3 with (at_make;go_must (refine Kd.R_make kI (w0:=w1) w1.heap.size 3 rfl (N:=18) rfl _ _ _ rfl wd rfl rfl Tryz.underlying36 _ 8 Tryz.infoInt rfl (by decide) (by decide) (0:Int) (ok:=fun _=>True) (okp:=fun _=>False) rfl (fun _ h=>h.elim) trivial (by omega) (by omega) HW.out.2 HW.out.2.size ?_;intro v8 w3 hR8 hb8 hg8 hown8;rw [Y06] at hR8;have HZ:=Y00 (Jpz hR8 hb8.size);have hb38:=Ji3 hg8;obtain ⟨zA,zC,hzv⟩:=Kd.c02 hR8;rw [Y0j] at hzv;subst hzv;obtain ⟨⟨q0,zc⟩,zf,hR9,hg9⟩:=Jbx (Kd.c01 HW.out.1 (J01 hb38 hb38.size (J02 w3 (.cells #[.slice zA wd zC] 36)))) ha HZ.out;have HP:=Y00 (Y07 hR9 (Y07 hg9 (J01 hb8 hb8.size (J02 w3 (.cells #[.slice zA wd zC] 36)))));clear hR8 hb8 hg8 hown8 hb38 hR9 hg9))
 have HW2:=Y00 (show kLLI.R 28 ((w3.alloc (.cells #[.slice zA wd zC] 36)).setCell ⟨g,a,none⟩ (.slice (some ⟨w3.heap.size,0,none⟩) 1 1)) w1.heap.size (fun _=>True) (.slice (some ⟨g,0,none⟩) n cw) (numF wd (J3e n E a 0))∧Below w1.heap.size w1 ((w3.alloc (.cells #[.slice zA wd zC] 36)).setCell ⟨g,a,none⟩ (.slice (some ⟨w3.heap.size,0,none⟩) 1 1)) from ⟨by have h:=HP.out.1;rwa [Jkq (E:=E) n wd a hw3] at h,HP.out.2.2.setCell (p:=⟨g,a,none⟩) HGE.out _⟩)
 generalize (w3.alloc (.cells #[.slice zA wd zC] 36)).setCell ⟨g,a,none⟩ (.slice (some ⟨w3.heap.size,0,none⟩) 1 1)=w4 at *
 clear HP HZ zc zf g1 haE ha0 HW
 go_wp2_with fail
 go_loopw [6] (fun i wr=>∃ q:Nat,i=.int .i64 q∧q≤n∧J08 (kLLI.R 28 wr w1.heap.size (fun _=>True) (.slice (some ⟨g,0,none⟩) n cw) (numF wd (J3e n E a q))∧Below w1.heap.size w1 wr∧J6h n E a (q*E.length) (J3e n E a q))) (fun i _=>n - (intOf i).toNat)
 case atStart=>exact ⟨0,rfl,Yz3 _,⟨HW2.out.1,HW2.out.2,(J8h HN.out ha 0).1⟩⟩
 clear HW2
 obtain ⟨q,rfl,hq,hX⟩:=hrel
 have g0:=J00 hX.out.2.1 HG.out.1
 by_cases hqt:q<n
 rotate_left
 ·have hqE:¬ ((q:Int)<n):=by omega
  have HF:=Y00 (show kLLI.R 28 wr w.heap.size (fun _=>True) (.slice (some ⟨g,0,none⟩) n cw) (numF wd (J3e n E a n))∧Below w.heap.size w wr from ⟨by have h:=hX.out.1;rw [show q=n by omega] at h;exact Kd.c04 h HB1.out.size,J01 HB1.out HB1.out.size hX.out.2.1⟩)
  clear hX
  go_wp2_with fail
  go_ret
  exact ⟨_,rfl,HF.out.1,HF.out.2⟩
 have hqE:(q:Int)<n:=by omega
 have HQ:=Y08 (show J3e n E a (q+1)=E.foldl J1b (J3e n E a q) from rfl)
 have HS:=Y08 (show q*E.length+E.length≤128 from Jo4 hqt hn8 h16)
 generalize J3e n E a q=rs at *
 go_wp2_with fail
 generalize wr=wo at *
 go_loopw [7] (fun i wr=>∃ j:Nat,i=.int .i64 j∧j≤E.length∧J08 (kLLI.R 28 wr w1.heap.size (fun _=>True) (.slice (some ⟨g,0,none⟩) n cw) (numF wd ((E.take j).foldl J1b rs))∧Below w1.heap.size w1 wr∧J6h n E a (q*E.length+j) ((E.take j).foldl J1b rs))) (fun i _=>E.length - (intOf i).toNat)
 case atStart=>exact ⟨0,rfl,Yz3 _,⟨by simpa using hX.out.1,hX.out.2.1,by simpa using hX.out.2.2⟩⟩
 clear hX g0
 obtain ⟨j,rfl,hj,hY⟩:=hrel
 have g2:=J00 hY.out.2.1 HG.out.2.2
 by_cases hjt:j<E.length
 rotate_left
 ·have hjE:¬ ((j:Int)<E.length):=by omega
  have HR:=Y00 (show kLLI.R 28 wr w1.heap.size (fun _=>True) (.slice (some ⟨g,0,none⟩) n cw) (numF wd (J3e n E a (q+1)))∧Below w1.heap.size w1 wr∧J6h n E a ((q+1)*E.length) (J3e n E a (q+1)) from ⟨by have h:=hY.out.1;rw [Y0t (by omega),← HQ.out] at h;exact h,hY.out.2.1,by have h:=hY.out.2.2;rw [Y0t (by omega),← HQ.out,show j=E.length by omega,← Nat.succ_mul] at h;exact h⟩)
  go_wp2_with fail
  exact ⟨⟨q+1,by go_num,by omega,HR⟩,by simp [intOf];omega⟩
 have hjE:(j:Int)<E.length:=by omega
 have hj0:(0:Int)≤j:=by omega
 obtain ⟨ad,sA,sC,rfl,he0,he1,he2,heL,heC⟩:=J8e HE.out hjt
 have HEJ:=Y08 (show (E.take (j+1)).foldl J1b rs=J1b ((E.take j).foldl J1b rs) E[j] from J1m J1b rs E hjt)
 have HST:=Y08 ((hY.out.2.2.step HN.out (Y0l hjt)).1)
 have HJ:=Y08 (Y07 (HOK.out _ (Y0l hjt)) (HN.out _ (Y0l hjt)))
 have HFA:=Y08 (fun (b:Nat) (hb:b<n)=>hY.out.2.2.facts (Nd:=n) (Wd:=wd) HOK.out (by omega) (by have:=HS.out;omega) hb)
 have HJM:=Y08 (Y0l hjt)
 generalize E[j]=ee at *
 generalize (E.take j).foldl J1b rs=ry at *
 obtain ⟨fi,ti,add⟩:=ee
 obtain ⟨f,rfl⟩:∃ f:Nat,fi=f:=⟨fi.toNat,(Y0k HJ.out.2.1.1).symm⟩
 obtain ⟨t,rfl⟩:∃ t:Nat,ti=t:=⟨ti.toNat,(Y0k HJ.out.2.2.1).symm⟩
 have hfn:f<n:=by have:=HJ.out.2.1.2;simpa using this
 have htn:t<n:=by have:=HJ.out.2.2.2;simpa using this
 have HEG:=Y08 (J75 HJ.out.1)
 simp only at he0 he1 he2 heL HEG
 have hadd:add.length=wd:=by have:=HEG.out.1;omega
 rw [hadd] at he2 heL
 have HXC:=Y00 heL
 have HAD:=Y08 hadd
 clear heC heL hadd
 replace he0:=J00 (J01 HB1.out HB1.out.size hY.out.2.1) he0
 replace he1:=J00 (J01 HB1.out HB1.out.size hY.out.2.1) he1
 replace he2:=J00 (J01 HB1.out HB1.out.size hY.out.2.1) he2
 have HSE:=Y08 (show J1b ry ((f:Int),(t:Int),add)=ry.set t (J0p (ry.getD t []++(ry.getD f []).map (fun s=>addT s (tmOf add)))) from rfl)
 go_upto_region 10 with fail
 obtain ⟨be,hbe⟩:∃ be,be=wr.heap.size:=⟨_,rfl⟩
 have HX:=Y00 (show kLLI.R 28 (wr.alloc (.cells #[.int .i64 (f:Int),.int .i64 (t:Int),.slice sA wd sC] 129)) w1.heap.size (fun _=>True) (.slice (some ⟨g,0,none⟩) n cw) (numF wd (ry))∧Below w1.heap.size w1 (wr.alloc (.cells #[.int .i64 (f:Int),.int .i64 (t:Int),.slice sA wd sC] 129))∧(wr.alloc (.cells #[.int .i64 (f:Int),.int .i64 (t:Int),.slice sA wd sC] 129)).heap[be]?=some (.cells #[.int .i64 (f:Int),.int .i64 (t:Int),.slice sA wd sC] 129 (0,0))∧be≠g from ⟨Kd.c01 hY.out.1 (J02 wr _),J01 hY.out.2.1 hY.out.2.1.size (J02 wr _),by rw [hbe];exact Y0c wr _,by rw [hbe];exact fun he=>Jr7 hY.out.1 he⟩)
 rw [← hbe]
 generalize wr.alloc (.cells #[.int .i64 (f:Int),.int .i64 (t:Int),.slice sA wd sC] 129)=w5 at *
 clear hbe hY he0 he1 he2 g2
 skip
 have e0:w5.cell? ⟨be,0,none⟩=some (.int .i64 (f:Int)):=(J03 HX.out.2.2.1 0).trans rfl
 obtain ⟨bA,bC,zb,-,hbR⟩:=Jdk HX.out.1 (k:=f) hfn
 have hfE:(f:Int)<n:=by omega
 have hf0:(0:Int)≤f:=by omega
 have HBR:=Y00 hbR
 clear hbR
 have HNF:=Y08 (show ∀ b,(numF wd ry).getD b []=(ry.getD b []).map (J0g wd) from fun b=>J7g wd ry b)
 rw [HNF.out f] at zb HBR
 rw [Y0g] at zb HBR
 obtain ⟨br,hbr⟩:∃ br,br=ry.getD f []:=⟨_,rfl⟩
 rw [← hbr] at zb HBR
 have HBE:=Y08 hbr
 clear hbr
 go_wp2_with fail
 clear zb e0
 have HRL:=Y08 (show t<ry.length by have:=HST.out.len;unfold J1b at this;rw [Y0q] at this;omega)
 have HT0:=Y00 (show kLLI.R 28 w5 w1.heap.size (fun _=>True) (.slice (some ⟨g,0,none⟩) n cw) (numF wd (ry.set t (ry.getD t []++(br.take 0).map (fun s=>addT s (tmOf add)))))∧kLI.R 36 w5 w1.heap.size (fun _=>True) (.slice bA br.length bC) (br.map (J0g wd))∧Below w1.heap.size w1 w5∧w5.heap[be]?=some (.cells #[.int .i64 (f:Int),.int .i64 (t:Int),.slice sA wd sC] 129 (0,0)) from ⟨by rw [List.take_zero,List.map_nil,List.append_nil,Jit ry HRL.out];exact HX.out.1,HBR.out,HX.out.2.1,HX.out.2.2.1⟩)
 have HBG:=Y08 HX.out.2.2.2
 clear HX HBR
 have hbl:br.length≤163865601:=by rw [HBE.out];exact (HFA.out f hfn).1
 have HTL:=Y08 (HFA.out t htn)
 go_loopw [10] (fun i wr=>∃ k:Nat,i=.int .i64 k∧k≤br.length∧J08 (kLLI.R 28 wr w1.heap.size (fun _=>True) (.slice (some ⟨g,0,none⟩) n cw) (numF wd (ry.set t (ry.getD t []++(br.take k).map (fun s=>addT s (tmOf add)))))∧kLI.R 36 wr w1.heap.size (fun _=>True) (.slice bA br.length bC) (br.map (J0g wd))∧Below w1.heap.size w1 wr∧wr.heap[be]?=some (.cells #[.int .i64 (f:Int),.int .i64 (t:Int),.slice sA wd sC] 129 (0,0)))) (fun i _=>br.length - (intOf i).toNat)
 case atStart=>exact ⟨0,rfl,Yz3 _,HT0⟩
 clear HT0
 obtain ⟨k,rfl,hk,hT⟩:=hrel
 by_cases hkt:k<br.length
 rotate_left
 ·have hkE:¬ ((k:Int)<br.length):=by omega
  have HCE:=Y08 (show (ry.getD t []++(br.take k).map (fun s=>addT s (tmOf add)))=ry.getD t []++(ry.getD f []).map (fun s=>addT s (tmOf add)) by rw [Y0t (by omega),HBE.out])
  have HZL:=Y08 (show ∀ x ∈ ry.getD t []++(ry.getD f []).map (fun s=>addT s (tmOf add)),ZW wd x from fun x hx=>by rcases Y0m.1 hx with hx | hx;exact ((HFA.out t htn).2 x hx).1;obtain ⟨s,hs,rfl⟩:=Yz4.1 hx;exact Jpt ((HFA.out f hfn).2 s hs).1 (Jd6 HAD.out))
  have HLN:=Y08 (show (ry.getD t []++(ry.getD f []).map (fun s=>addT s (tmOf add))).length≤400000000 by have:=HTL.out.1;have:=(HFA.out f hfn).1;rw [Y02,Y0g];omega)
  have HT:=Y00 (show kLLI.R 28 wr w1.heap.size (fun _=>True) (.slice (some ⟨g,0,none⟩) n cw) (numF wd (ry.set t (ry.getD t []++(ry.getD f []).map (fun s=>addT s (tmOf add)))))∧Below w1.heap.size w1 wr∧wr.heap[be]?=some (.cells #[.int .i64 (f:Int),.int .i64 (t:Int),.slice sA wd sC] 129 (0,0)) from ⟨by rw [← HCE.out];exact hT.out.1,hT.out.2.2.1,hT.out.2.2.2⟩)
  clear hT HCE
  generalize ry.getD t []++(ry.getD f []).map (fun s=>addT s (tmOf add))=cl at *
  have hRr:kLLI.R 28 wr w1.heap.size (fun _=>True) (.slice (some ⟨g,0,none⟩) n cw) (numF wd (ry.set t cl)):=HT.out.1
  obtain ⟨cA,cC,zc,-,hcR⟩:=Jdk hRr (k:=t) htn
  rw [J7g,J0o _ _ _ _ HRL.out,Y0g] at zc hcR
  have htE:(t:Int)<n:=by omega
  have ht0:(0:Int)≤t:=by omega
  have e1:wr.cell? ⟨be,1,none⟩=some (.int .i64 (t:Int)):=(J03 HT.out.2.2 1).trans rfl
  go_upto_region 15 with fail
  refine sr1 11 (fun V=>V.cell? ⟨be,1,none⟩=some (.int .i64 (t:Int))∧V.cell? ⟨g,t,none⟩=some (.slice cA cl.length cC)) [10] ⟨e1,zc⟩ fun hJ0=>?_
  have HD:=Y00 (Y07 (Kd.c01 HT.out.1 (J05 (Y0f wr.heap.size wr))) (Y07 (J05 HT.out.2.1) (Y07 (J04 HT.out.2.2 (J05 (Y0f wr.heap.size wr))) (Kd.c01 hcR (J05 (Y0f wr.heap.size wr))))))
  clear HT hRr hcR e1 zc
  generalize wr.drew=wq at *
  refine pv 0 ?_
  refine pv 1 ?_
  refine tv2 2 ?_
  refine pv 3 ?_
  refine pv 4 ?_
  refine tv2 5 ?_
  refine pv 6 ?_
  refine tv2 7 ?_
  have HCA:=Y08 (Jcg hw1 hw3 cA cC cl wq (Kd.c04 HD.out.2.2.2 (Y0e _)) HZL.out (by have:=HLN.out;omega))
  refine ov 8 fun K hK=>?_
  refine gs0 Tryz.func73 #[.slice cA cl.length cC] ?_
  refine HCA.out.mono ?_
  rintro e w7 ⟨v7,rfl,hR7,hb7⟩
  obtain ⟨pA,pC,hpe⟩:=Kd.c02 hR7
  have HR7:=Y00 (Y07 (Kd.c04 hR7 HD.out.2.1.size) hb7)
  generalize hpn:((J0p cl).map (J0g wd)).length=pn at *
  subst hpe
  clear hR7 HCA hpn
  refine ⟨_,rfl,hK.out _ _ (st2 hb7 hJ0) (fun hJ0=>?_)⟩
  clear hb7
  clear hK K
  refine nm0 _ ?_
  refine pv 9 ?_
  obtain ⟨⟨q1,zc⟩,zf,hR9,hg9⟩:=Jbx (Kd.c01 HD.out.1 HR7.out.2) htn HR7.out.1
  have HP:=Y00 (Y07 hR9 hg9)
  clear hR9 hg9
  refine la0 10 (bs 11 2047) (N:=none) fun K hK=>?_
  refine sk0 ?_
  refine hK.out _ _ ?_
  clear hK K hJ0
  refine dn0 ?_
  have HR:=Y00 (show kLLI.R 28 (w7.setCell ⟨g,t,none⟩ (.slice pA pn pC)) w1.heap.size (fun _=>True) (.slice (some ⟨g,0,none⟩) n cw) (numF wd ((E.take (j+1)).foldl J1b rs))∧Below w1.heap.size w1 (w7.setCell ⟨g,t,none⟩ (.slice pA pn pC))∧J6h n E a (q*E.length+(j+1)) ((E.take (j+1)).foldl J1b rs) from ⟨by have h:=HP.out.1;rwa [Jas,List.set_set,← HSE.out,← HEJ.out] at h,(J01 HD.out.2.1 HD.out.2.1.size HR7.out.2).setCell (p:=⟨g,t,none⟩) HGE.out _,by rw [HEJ.out];exact HST.out⟩)
  clear HP HD zc zf
  go_wp2_with fail
  exact ⟨⟨j+1,by go_num,by omega,HR⟩,by simp [intOf];omega⟩
 have hkE:(k:Int)<br.length:=by omega
 have hk0:(0:Int)≤k:=by omega
 have htE:(t:Int)<n:=by omega
 have ht0:(0:Int)≤t:=by omega
 have HCL:=Y08 (show (ry.getD t []++(br.take (k+1)).map (fun s=>addT s (tmOf add)))=(ry.getD t []++(br.take k).map (fun s=>addT s (tmOf add)))++[addT br[k] (tmOf add)] by rw [Y0u hkt,List.map_append,Y0d];rfl)
 have HLN:=Y08 (show (ry.getD t []++(br.take k).map (fun s=>addT s (tmOf add))).length≤400000000 by have:=HTL.out.1;rw [Y02,Y0g,Y0o];omega)
 have HYB:=Y08 (show J0l br[k] (tmOf add)=addT br[k] (tmOf add) from (J8s ((HFA.out f hfn).2 _ (by rw [← HBE.out];exact Y0l hkt)).2 (J3k HOK.out (by omega) _ (HJM.out)).2.2 (by omega)).1)
 obtain ⟨bg,yA,yC,hbA,zy,hyR⟩:=Jms hw3 hT.out.2.1 hkt
 subst hbA
 generalize br[k]=y at *
 generalize (ry.getD t []++(br.take k).map (fun s=>addT s (tmOf add)))=cl at *
 have hRr:kLLI.R 28 wr w1.heap.size (fun _=>True) (.slice (some ⟨g,0,none⟩) n cw) (numF wd (ry.set t cl)):=hT.out.1
 obtain ⟨cA,cC,zc,-,hcR⟩:=Jdk hRr (k:=t) htn
 rw [J7g,J0o _ _ _ _ HRL.out,Y0g] at zc hcR
 have e1:wr.cell? ⟨be,1,none⟩=some (.int .i64 (t:Int)):=(J03 hT.out.2.2.2 1).trans rfl
 have e2:wr.cell? ⟨be,2,none⟩=some (.slice sA wd sC):=(J03 hT.out.2.2.2 2).trans rfl
 have HTT:=Y00 (Y07 hcR hyR)
 clear hcR hyR hRr
 go_upto_region 14 with fail
 refine sr1 21 (fun V=>V.cell? ⟨be,1,none⟩=some (.int .i64 (t:Int))∧V.cell? ⟨be,2,none⟩=some (.slice sA wd sC)∧V.cell? ⟨g,t,none⟩=some (.slice cA cl.length cC)∧V.cell? ⟨bg,k,none⟩=some (.slice yA wd yC)) [20] ⟨e1,e2,zc,zy⟩ fun hJ0=>?_
 have HD:=Y00 (Y07 (Kd.c01 hT.out.1 (J05 (Y0f wr.heap.size wr))) (Y07 (Kd.c01 hT.out.2.1 (J05 (Y0f wr.heap.size wr))) (Y07 (J05 hT.out.2.2.1) (Y07 (J04 hT.out.2.2.2 (J05 (Y0f wr.heap.size wr))) (Y07 (Kd.c01 HTT.out.1 (J05 (Y0f wr.heap.size wr))) (Kd.c01 HTT.out.2 (J05 (Y0f wr.heap.size wr))))))))
 clear hT HTT e1 e2 zc zy
 generalize wr.drew=wq at *
 have HQ:=Y00 hJ0
 have HN0:=Y00 (J1o.start HD.out.2.2.1)
 refine pv 0 ?_
 refine pv 1 ?_
 refine tv4 2 ?_
 refine pv 4 ?_
 refine pv 5 ?_
 refine tv4 6 ?_
 refine pv 7 ?_
 refine tv4 8 ?_
 refine pv 10 ?_
 refine pv 11 ?_
 refine pv 12 ?_
 refine tv4 13 ?_
 refine pv 14 ?_
 refine tv4 15 ?_
 refine ov 3 fun K hK=>?_
 refine va0 ?_
 refine hK.out _ _ (st4 HN0.out.below HQ.out) (fun hJ0=>?_)
 clear hK K
 refine nm0 _ ?_
 refine ov 9 fun K hK=>?_
 refine J1o.rowsS (ys:=cl.map (J0g wd)) HN0.out (by rw [Y0g];exact HD.out.2.2.2.2.1) (by rw [Y0g];have:=HLN.out;simp;omega) (.tmp 53) (.tmp 58) (by rfl) rfl rfl (by rw [Y0g];rfl) ?_
 intro v6 w6 hN6
 rw [List.nil_append] at hN6
 have HN6:=Y00 hN6
 clear hN6 HN0
 refine hK.out _ _ (st4 HN6.out.below HQ.out) (fun hJ0=>?_)
 clear hK K
 refine nm0 _ ?_
 have HCA:=Y08 (Jq2 hw3 yA sA yC sC y add HAD.out w6 (kI_C (Kd.c01 HD.out.2.2.2.2.2 HN6.out.below)) (Kd.c00 HXC.out (J01 HB1.out HB1.out.size HN6.out.down)))
 refine ov 16 fun K hK=>?_
 refine gs0 Tryz.func72 #[.slice yA wd yC,.slice sA wd sC] ?_
 refine HCA.out.mono ?_
 rintro e w7 ⟨v7,rfl,hR7,hb7⟩
 rw [HYB.out] at hR7
 obtain ⟨pA,pC,hpe⟩:=Kd.c02 hR7
 rw [J0u _ hw3] at hpe
 subst hpe
 have HN7:=Y00 (HN6.out.up hb7)
 have HR7:=Y00 (Kd.c04 hR7 HN6.out.down.size)
 clear hR7 hb7 HCA
 refine ⟨_,rfl,hK.out _ _ (st4 HN7.out.below HQ.out) (fun hJ0=>?_)⟩
 clear hK K
 refine nm0 _ ?_
 refine ov 17 fun K hK=>?_
 refine va0 ?_
 refine hK.out _ _ ⟨J00 (HN7.out.up (J02 w7 _)).below HQ.out.1,J00 (HN7.out.up (J02 w7 _)).below HQ.out.2.1,J00 (HN7.out.up (J02 w7 _)).below HQ.out.2.2.1,J00 (HN7.out.up (J02 w7 _)).below HQ.out.2.2.2⟩ (fun hJ0=>?_)
 clear hK K
 refine nm0 _ ?_
 refine ov 18 fun K hK=>?_
 refine J1o.appS HN7.out HR7.out (by rw [Y0g];have:=HLN.out;omega) (.tmp 59) (.tmp 67) (by rfl) rfl rfl rfl ?_
 intro v8 w8 hN8 hg8
 have HN8:=Y00 hN8
 clear hN8 hg8
 obtain ⟨vA,vC,hve⟩:=J1o.slice HN8.out
 generalize hvn:(cl.map (J0g wd)++[J0g wd (addT y (tmOf add))]).length=vn at *
 have HVN:=Y08 hvn
 clear hvn
 subst hve
 refine hK.out _ _ (st4 HN8.out.below HQ.out) (fun hJ0=>?_)
 clear hK K
 refine nm0 _ ?_
 refine pv 19 ?_
 obtain ⟨⟨q1,zc⟩,zf,hR9,hg9⟩:=Jbx (Kd.c01 HD.out.1 HN8.out.below) htn HN8.out.rows
 have HP:=Y00 (Y07 hR9 hg9)
 clear hR9 hg9
 refine la0 20 (bs 21 2097151) (N:=none) fun K hK=>?_
 refine sk0 ?_
 refine hK.out _ _ ?_
 clear hK K hJ0
 refine dn0 ?_
 have HR:=Y00 (show kLLI.R 28 (w8.setCell ⟨g,t,none⟩ (.slice vA vn vC)) w1.heap.size (fun _=>True) (.slice (some ⟨g,0,none⟩) n cw) (numF wd (ry.set t (ry.getD t []++(br.take (k+1)).map (fun s=>addT s (tmOf add)))))∧kLI.R 36 (w8.setCell ⟨g,t,none⟩ (.slice vA vn vC)) w1.heap.size (fun _=>True) (.slice (some ⟨bg,0,none⟩) br.length bC) (br.map (J0g wd))∧Below w1.heap.size w1 (w8.setCell ⟨g,t,none⟩ (.slice vA vn vC))∧(w8.setCell ⟨g,t,none⟩ (.slice vA vn vC)).heap[be]?=some (.cells #[.int .i64 (f:Int),.int .i64 (t:Int),.slice sA wd sC] 129 (0,0)) from ⟨by have h:=HP.out.1;rwa [show cl.map (J0g wd)++[J0g wd (addT y (tmOf add))]=(ry.getD t []++(br.take (k+1)).map (fun s=>addT s (tmOf add))).map (J0g wd) by rw [HCL.out];simp,Jas,List.set_set] at h,Kd.R_over (Kd.c01 HD.out.2.1 HN8.out.below) (Kd.c01 HD.out.1 HN8.out.below) Jr8 HP.out.2,HN8.out.down.setCell (p:=⟨g,t,none⟩) HGE.out _,(HP.out.2.block be (J0q (J04 HD.out.2.2.2.1 HN8.out.below)) (fun he=>HBG.out (by injection he))).trans (J04 HD.out.2.2.2.1 HN8.out.below)⟩)
 clear HP HD HQ zc zf
 go_wp2_with fail
 exact ⟨⟨k+1,by go_num,by omega,HR⟩,by simp [intOf];omega⟩
theorem Jrh (w:World) {eA mA sA:Option Addr} (hp:J1v w planP eA mA) (hs:kI.C w sA 4 [0,2,0,1]):Calls Tryz.prog 22 #[J1q planP eA 4 mA 1,.slice sA 4 4] w fun e w'=>e=.returned (.tuple #[.agg #[.int .i64 3,.int .i64 3,.int .i64 2],.int .i64 0])∧Below w.heap.size w w':=by
 refine (Jmj planP eA mA sA 4 1 4 [0,2,0,1] w hp hs (Y0e _)).mono ?_
 rintro e w' ⟨rfl,hb⟩
 rw [ex_r]
 exact ⟨rfl,hb⟩
theorem J7u (w:World):Calls Tryz.prog 11 #[] w fun e w'=>e=.returned (.bool true)∧Below w.heap.size w w':=by
 have HP:=fun w=>Y08 (Joh w)
 have H0:=Y00 (Al.start w)
 go_enter Tryz.func11,Tryz.ntmps11
 go_upto_region 1 with fail
 go_wp2_with fail
 refine (HP _).out.mono ?_
 rintro e v1 ⟨eA,mA,rfl,hp,hb⟩
 have H1:=Y00 ((H0.out.up hb).plan hp)
 clear H0
 simp only [J1q]
 clear hp hb HP
 have HM:∀ w:World,(Instr.makeSlice 38 (.int .i64 3) (.int .i64 3)).run Tryz.prog w=.ok (.slice (some ⟨w.heap.size,0,none⟩) 3 3) (w.alloc (.cells (madeCells #[.slice none 0 0] 3) 28)):=Ji0 3 (by decide)
 have HQ:∀ w,(binOp .neq 50 (.agg #[.int .i64 3,.int .i64 3,.int .i64 2]) (.agg #[.int .i64 3,.int .i64 3,.int .i64 2])).run Tryz.prog w=.ok (.bool false) w:=Jr5 3 3 2 3 3 2
 have H2:=Y00 (((H1.out).new (.cells #[.int .i64 0,.int .i64 2,.int .i64 0,.int .i64 1] 3) (b:=v1.heap.size) (by simp)).new (.cells #[.int .i64 planP.N,.int .i64 planP.Wd,.slice eA planP.E.length 4,.int .i64 planP.workers,.slice mA planP.start.length 1] 27) (b:=v1.heap.size+1) (by simp))
 clear H1
 go_upto_region 2 with fail
 generalize ((v1).alloc (.cells #[.int .i64 0,.int .i64 2,.int .i64 0,.int .i64 1] 3)).alloc (.cells #[.int .i64 planP.N,.int .i64 planP.Wd,.slice eA planP.E.length 4,.int .i64 planP.workers,.slice mA planP.start.length 1] 27)=v2 at *
 generalize hsb:v1.heap.size=sb at *
 generalize hpb:sb+1=pb at *
 clear hsb hpb
 have H3:=Y00 ((((((((H2.out).new (.cells #[.int .i64 0,.int .i64 0] 3) (b:=v2.heap.size) (by simp)).new (.cells #[.slice (some ⟨v2.heap.size,0,none⟩) 2 2] 36) (b:=v2.heap.size+1) (by simp)).new (.cells #[.int .i64 0,.int .i64 0] 3) (b:=v2.heap.size+1+1) (by simp)).new (.cells #[.slice (some ⟨v2.heap.size+1+1,0,none⟩) 2 2] 36) (b:=v2.heap.size+1+1+1) (by simp)).new (.cells #[.int .i64 0,.int .i64 1] 3) (b:=v2.heap.size+1+1+1+1) (by simp)).new (.cells #[.slice (some ⟨v2.heap.size+1+1+1+1,0,none⟩) 2 2] 36) (b:=v2.heap.size+1+1+1+1+1) (by simp)).new (.cells #[.slice (some ⟨v2.heap.size+1,0,none⟩) 1 1,.slice (some ⟨v2.heap.size+1+1+1,0,none⟩) 1 1,.slice (some ⟨v2.heap.size+1+1+1+1+1,0,none⟩) 1 1] 28) (b:=v2.heap.size+1+1+1+1+1+1) (by simp))
 clear H2
 go_upto_region 3 with fail
 generalize (((((((v2).alloc (.cells #[.int .i64 0,.int .i64 0] 3)).alloc (.cells #[.slice (some ⟨v2.heap.size,0,none⟩) 2 2] 36)).alloc (.cells #[.int .i64 0,.int .i64 0] 3)).alloc (.cells #[.slice (some ⟨v2.heap.size+1+1,0,none⟩) 2 2] 36)).alloc (.cells #[.int .i64 0,.int .i64 1] 3)).alloc (.cells #[.slice (some ⟨v2.heap.size+1+1+1+1,0,none⟩) 2 2] 36)).alloc (.cells #[.slice (some ⟨v2.heap.size+1,0,none⟩) 1 1,.slice (some ⟨v2.heap.size+1+1+1,0,none⟩) 1 1,.slice (some ⟨v2.heap.size+1+1+1+1+1,0,none⟩) 1 1] 28)=v3 at *
 generalize v2.heap.size=fb at *
 have hf:kLLI.C v3 (some ⟨fb+1+1+1+1+1+1,0,none⟩) 3 [[[0,0]],[[0,0]],[[0,1]]]:=Jah (xs:=[[[0,0]],[[0,0]],[[0,1]]]) [[.slice (some ⟨fb+1,0,none⟩) 1 1],[.slice (some ⟨fb+1+1+1,0,none⟩) 1 1],[.slice (some ⟨fb+1+1+1+1+1,0,none⟩) 1 1]] H3.out.1.1 ⟨K_sl (Jby H3.out.2.2.2.2.2.1.1 H3.out.2.2.2.2.2.2.1.1) rfl (Y0e _),K_sl (Jby H3.out.2.2.2.1.1 H3.out.2.2.2.2.1.1) rfl (Y0e _),K_sl (Jby H3.out.2.1.1 H3.out.2.2.1.1) rfl (Y0e _),trivial⟩ (by decide)
 have hs:kI.C v3 (some ⟨sb,0,none⟩) 4 [0,2,0,1]:=Jah (xs:=[0,2,0,1]) [[.int .i64 0],[.int .i64 2],[.int .i64 0],[.int .i64 1]] H3.out.2.2.2.2.2.2.2.2.1.1 ⟨rfl,rfl,rfl,rfl,trivial⟩ (by decide)
 have H4:=Y00 ((Al.row (H3.out.2.2.2.2.2.2.2) hf).row hs)
 clear H3
 generalize fb+1+1+1+1+1+1=fa at *
 clear hf hs
 obtain ⟨p0,p1,p2,p3,p4⟩:=bc5 H4.out.2.2.1.1
 go_wp2_with fail
 refine (Jbj Jsb (m:=([[0,1]]:List (List Int))) rfl (Jg3 planP.N planP.Wd planP.E eA 4 0 2 _ (H4.out.2.2.2.2.1.1).hE)).mono ?_
 rintro e v4 ⟨A1,c1,rfl,h1,-,hb⟩
 have H5:=Y00 ((H4.out.up hb).row h1)
 clear H4
 clear hb h1
 clear p0 p1 p2 p3 p4
 go_upto_region 4 with fail
 obtain ⟨p0,p1,p2,p3,p4⟩:=bc5 H5.out.2.2.2.1.1
 go_wp2_with fail
 refine (Jbj Jsa (m:=([[1,0]]:List (List Int))) rfl (Jg3 planP.N planP.Wd planP.E eA 4 2 0 _ (H5.out.2.2.2.2.2.1.1).hE)).mono ?_
 rintro e v5 ⟨A2,c2,rfl,h1,-,hb⟩
 have H6:=Y00 ((H5.out.up hb).row h1)
 clear H5
 clear hb h1
 clear p0 p1 p2 p3 p4
 go_upto_region 5 with fail
 obtain ⟨p0,p1,p2,p3,p4⟩:=bc5 H6.out.2.2.2.2.1.1
 go_wp2_with fail
 refine (Jbj ex_t (m:=([[[0,0]],[[0,0]],[[0,1]]]:List (List (List Int)))) rfl (Jfk planP eA mA none 4 1 0 [] 0 (by decide) _ H6.out.2.2.2.2.2.2.1.1 (Kd.C_nil kI _) (Y0e _))).mono ?_
 rintro e v6 ⟨A3,c3,rfl,h1,-,hb⟩
 have H7:=Y00 ((H6.out.up hb).row h1)
 clear H6
 clear hb h1
 clear p0 p1 p2 p3 p4
 go_upto_region 6 with fail
 obtain ⟨p0,p1,p2,p3,p4⟩:=bc5 H7.out.2.2.2.2.2.1.1
 go_wp2_with fail
 refine (Jbj Jsg (m:=([[],[],[]]:List (List (List Int)))) rfl (J9z planP eA mA none 4 1 0 [] 1 0 (by decide) _ H7.out.2.2.2.2.2.2.2.1.1 (Kd.C_nil kI _) (Y0e _))).mono ?_
 rintro e v7 ⟨A4,c4,rfl,h1,-,hb⟩
 have H8:=Y00 ((H7.out.up hb).row h1)
 clear H7
 clear hb h1
 clear p0 p1 p2 p3 p4
 go_upto_region 7 with fail
 obtain ⟨p0,p1,p2,p3,p4⟩:=bc5 H8.out.2.2.2.2.2.2.1.1
 go_wp2_with fail
 refine (Jbj Jsf (m:=([[[0,0]],[[0,0]],[[0,1]]]:List (List (List Int)))) rfl (J9z planP eA mA none 4 1 0 [] 1 1 (by decide) _ H8.out.2.2.2.2.2.2.2.2.1.1 (Kd.C_nil kI _) (Y0e _))).mono ?_
 rintro e v8 ⟨A5,c5,rfl,h1,-,hb⟩
 have H9:=Y00 ((H8.out.up hb).row h1)
 clear H8
 clear hb h1
 clear p0 p1 p2 p3 p4
 go_upto_region 8 with fail
 obtain ⟨p0,p1,p2,p3,p4⟩:=bc5 H9.out.2.2.2.2.2.2.2.1.1
 go_wp2_with fail
 refine (Jrh _ H9.out.2.2.2.2.2.2.2.2.2.1.1 H9.out.2.2.2.2.2.1.1).mono ?_
 rintro e v9 ⟨rfl,hb⟩
 have H10:=Y00 (H9.out.up hb)
 clear H9
 clear hb
 clear p0 p1 p2 p3 p4
 have H11:=Y00 ((H10.out).new (.cells #[.int .i64 3,.int .i64 3,.int .i64 2] 50) (b:=v9.heap.size) (by simp))
 clear H10
 go_upto_region 9 with fail
 generalize (v9).alloc (.cells #[.int .i64 3,.int .i64 3,.int .i64 2] 50)=v10 at *
 generalize v9.heap.size=rb at *
 go_wp2_with fail
 have H12:=Y00 (((H11.out).new (.cells #[.int .i64 0,.int .i64 1] 3) (b:=v10.heap.size) (by simp)).new (.cells #[.slice (some ⟨v10.heap.size,0,none⟩) 2 2] 36) (b:=v10.heap.size+1) (by simp))
 clear H11
 refine (J74 _ _ _ _ _ [[0,1]] H12.out.2.2.2.2.2.2.2.1.1 (Jby H12.out.1.1 H12.out.2.1.1)).mono ?_
 rintro e v11 ⟨rfl,hb⟩
 have H13:=Y00 (H12.out.up hb)
 clear H12
 clear hb
 have H14:=Y00 (H13.out.2)
 clear H13
 have H15:=Y00 (H14.out.2)
 clear H14
 generalize v10.heap.size=zr1 at *
 go_wp2_with fail
 have H16:=Y00 (((H15.out).new (.cells #[.int .i64 1,.int .i64 0] 3) (b:=v11.heap.size) (by simp)).new (.cells #[.slice (some ⟨v11.heap.size,0,none⟩) 2 2] 36) (b:=v11.heap.size+1) (by simp))
 clear H15
 refine (J74 _ _ _ _ _ [[1,0]] H16.out.2.2.2.2.2.2.1.1 (Jby H16.out.1.1 H16.out.2.1.1)).mono ?_
 rintro e v12 ⟨rfl,hb⟩
 have H17:=Y00 (H16.out.up hb)
 clear H16
 clear hb
 have H18:=Y00 (H17.out.2)
 clear H17
 have H19:=Y00 (H18.out.2)
 clear H18
 generalize v11.heap.size=zr2 at *
 go_wp2_with fail
 refine (J4l _ _ _ _ _ [[[0,0]],[[0,0]],[[0,1]]] H19.out.2.2.2.1.1 H19.out.2.2.2.2.2.2.2.1.1).mono ?_
 rintro e v13 ⟨rfl,hb⟩
 have H20:=Y00 (H19.out.up hb)
 clear H19
 clear hb
 go_wp2_with fail
 have H21:=Y00 ((H20.out).new (.cells (madeCells #[.slice none 0 0] 3) 28) (b:=v13.heap.size) (by simp))
 clear H20
 refine (J4l _ _ _ _ _ [[],[],[]] H21.out.2.2.2.1.1 (Js2 H21.out.1.1 (by decide))).mono ?_
 rintro e v14 ⟨rfl,hb⟩
 have H22:=Y00 (H21.out.up hb)
 clear H21
 clear hb
 have H23:=Y00 (H22.out.2)
 clear H22
 generalize v13.heap.size=zr4 at *
 go_wp2_with fail
 refine (J4l _ _ _ _ _ [[[0,0]],[[0,0]],[[0,1]]] H23.out.2.1.1 H23.out.2.2.2.2.2.2.2.1.1).mono ?_
 rintro e v15 ⟨rfl,hb⟩
 have H24:=Y00 (H23.out.up hb)
 clear H23
 clear hb
 obtain ⟨q0,q1,q2⟩:=bc3 H24.out.1.1
 go_upto_region 11 with fail
 clear HQ HM q0 q1 q2
 obtain ⟨p0,p1,p2,p3,p4⟩:=bc5 H24.out.2.2.2.2.2.2.2.2.1.1
 go_wp2_with fail
 refine (Jbj (f:=fun l=>l) ex_l rfl (Jdl planP eA mA (some ⟨sb,0,none⟩) 4 1 4 [0,2,0,1] 2 1 (by decide) _ H24.out.2.2.2.2.2.2.2.2.2.2.1.1 H24.out.2.2.2.2.2.2.1.1 (Y0e _))).mono ?_
 rintro e v16 ⟨A6,c6,rfl,h1,-,hb⟩
 have H25:=Y00 ((H24.out.up hb).row h1)
 clear H24
 clear hb h1
 clear p0 p1 p2 p3 p4
 go_upto_region 12 with fail
 obtain ⟨p0,p1,p2,p3,p4⟩:=bc5 H25.out.2.2.2.2.2.2.2.2.2.1.1
 go_wp2_with fail
 refine (Jbj (f:=fun l=>l) ex_h rfl (Jjk planP eA mA (some ⟨sb,0,none⟩) 4 1 4 [0,2,0,1] 2 0 (by decide) _ H25.out.2.2.2.2.2.2.2.2.2.2.2.1.1 H25.out.2.2.2.2.2.2.2.1.1 (Y0e _))).mono ?_
 rintro e v17 ⟨A7,c7,rfl,h1,-,hb⟩
 have H26:=Y00 ((H25.out.up hb).row h1)
 clear H25
 clear hb h1
 clear p0 p1 p2 p3 p4
 go_upto_region 13 with fail
 obtain ⟨p0,p1,p2,p3,p4⟩:=bc5 H26.out.2.2.2.2.2.2.2.2.2.2.1.1
 refine sr1 9 (fun V=>V.cell? ⟨pb,0,none⟩=some (.int .i64 planP.N)∧V.cell? ⟨pb,1,none⟩=some (.int .i64 planP.Wd)∧V.cell? ⟨pb,2,none⟩=some (.slice eA planP.E.length 4)∧V.cell? ⟨pb,3,none⟩=some (.int .i64 planP.workers)∧V.cell? ⟨pb,4,none⟩=some (.slice mA planP.start.length 1)) [] ⟨p0,p1,p2,p3,p4⟩ fun hJ0=>?_
 have H27:=Y00 (H26.out.up (J05 (Y0f v17.heap.size v17)))
 clear H26
 generalize v17.drew=v18 at *
 have HSH:=Y08 (fun V (hb:Below v18.heap.size v18 V)=>(Y07 (J00 hb hJ0.1) (Y07 (J00 hb hJ0.2.1) (Y07 (J00 hb hJ0.2.2.1) (Y07 (J00 hb hJ0.2.2.2.1) (J00 hb hJ0.2.2.2.2))))))
 clear p0 p1 p2 p3 p4
 refine tv5 0 ?_
 refine ov 1 fun K hK=>?_
 refine va0 ?_
 have H28:=Y00 ((H27.out).new (.cells #[.int .i64 5,.int .i64 1] 3) (b:=v18.heap.size) (by simp))
 clear H27
 have hb1:=J02 v18 (.cells #[.int .i64 5,.int .i64 1] 3)
 refine hK.out _ _ (HSH.out _ hb1) (fun hJ0=>?_)
 clear hK K
 refine nm0 _ ?_
 refine ov 2 fun K hK=>?_
 refine gs0 Tryz.func41 #[.int .i64 2,.slice (some ⟨v18.heap.size,0,none⟩) 2 2] ?_
 refine (Jag 2 (some ⟨v18.heap.size,0,none⟩) 2 2 _).mono ?_
 rintro e v19 ⟨rfl,hb⟩
 have H29:=Y00 (H28.out.up hb)
 clear H28
 have hb2:=J01 hb1 hb1.size hb
 refine ⟨_,rfl,hK.out _ _ (HSH.out _ hb2) (fun hJ0=>?_)⟩
 clear hK K
 refine nm0 _ ?_
 have hsz:=hb2.size
 clear hb hb1
 generalize v18.heap.size=xb at *
 refine ov 3 fun K hK=>?_
 refine gs0 Tryz.func26 #[J1q planP eA 4 mA 1,.slice none 0 0,.int .i64 1,.agg #[.int .i64 2,.slice (some ⟨xb,0,none⟩) 2 2]] ?_
 refine (Jb6 planP eA mA none (some ⟨xb,0,none⟩) 4 1 0 2 [] 1 2 [5,1] _ H29.out.2.2.2.2.2.2.2.2.2.2.2.2.2.1.1 (Kd.C_nil kI _) (Y0e _) (J2r H29.out.1.1)).mono ?_
 rintro e v20 ⟨rfl,hb⟩
 rw [Jse]
 simp only [Je9]
 have H30:=Y00 (H29.out.up hb)
 clear H29
 have hb3:=J01 hb2 hsz hb
 refine ⟨_,rfl,hK.out _ _ (HSH.out _ hb3) (fun hJ0=>?_)⟩
 clear hK K
 refine nm0 _ ?_
 clear hb hb2 hb3 hsz HSH hJ0
 have H31:=Y00 (H30.out.2)
 clear H30
 skip
 refine pv 4 ?_
 refine pv 5 ?_
 refine pv 6 ?_
 refine pv 7 ?_
 refine pv 8 ?_
 refine dn0 ?_
 go_upto_region 14 with fail
 obtain ⟨p0,p1,p2,p3,p4⟩:=bc5 H31.out.2.2.2.2.2.2.2.2.2.2.1.1
 refine sr1 9 (fun V=>V.cell? ⟨pb,0,none⟩=some (.int .i64 planP.N)∧V.cell? ⟨pb,1,none⟩=some (.int .i64 planP.Wd)∧V.cell? ⟨pb,2,none⟩=some (.slice eA planP.E.length 4)∧V.cell? ⟨pb,3,none⟩=some (.int .i64 planP.workers)∧V.cell? ⟨pb,4,none⟩=some (.slice mA planP.start.length 1)) [] ⟨p0,p1,p2,p3,p4⟩ fun hJ0=>?_
 have H32:=Y00 (H31.out.up (J05 (Y0f v20.heap.size v20)))
 clear H31
 generalize v20.drew=v21 at *
 have HSH:=Y08 (fun V (hb:Below v21.heap.size v21 V)=>(Y07 (J00 hb hJ0.1) (Y07 (J00 hb hJ0.2.1) (Y07 (J00 hb hJ0.2.2.1) (Y07 (J00 hb hJ0.2.2.2.1) (J00 hb hJ0.2.2.2.2))))))
 clear p0 p1 p2 p3 p4
 refine tv5 0 ?_
 refine ov 1 fun K hK=>?_
 refine va0 ?_
 have H33:=Y00 ((H32.out).new (.cells #[.int .i64 5,.int .i64 1] 3) (b:=v21.heap.size) (by simp))
 clear H32
 have hb1:=J02 v21 (.cells #[.int .i64 5,.int .i64 1] 3)
 refine hK.out _ _ (HSH.out _ hb1) (fun hJ0=>?_)
 clear hK K
 refine nm0 _ ?_
 refine ov 2 fun K hK=>?_
 refine gs0 Tryz.func41 #[.int .i64 2,.slice (some ⟨v21.heap.size,0,none⟩) 2 2] ?_
 refine (Jag 2 (some ⟨v21.heap.size,0,none⟩) 2 2 _).mono ?_
 rintro e v22 ⟨rfl,hb⟩
 have H34:=Y00 (H33.out.up hb)
 clear H33
 have hb2:=J01 hb1 hb1.size hb
 refine ⟨_,rfl,hK.out _ _ (HSH.out _ hb2) (fun hJ0=>?_)⟩
 clear hK K
 refine nm0 _ ?_
 have hsz:=hb2.size
 clear hb hb1
 generalize v21.heap.size=xb at *
 refine ov 3 fun K hK=>?_
 refine gs0 Tryz.func26 #[J1q planP eA 4 mA 1,.slice none 0 0,.int .i64 0,.agg #[.int .i64 2,.slice (some ⟨xb,0,none⟩) 2 2]] ?_
 refine (Jb6 planP eA mA none (some ⟨xb,0,none⟩) 4 1 0 2 [] 0 2 [5,1] _ H34.out.2.2.2.2.2.2.2.2.2.2.2.2.2.1.1 (Kd.C_nil kI _) (Y0e _) (J2r H34.out.1.1)).mono ?_
 rintro e v23 ⟨rfl,hb⟩
 rw [Jsd]
 simp only [Je9]
 have H35:=Y00 (H34.out.up hb)
 clear H34
 have hb3:=J01 hb2 hsz hb
 refine ⟨_,rfl,hK.out _ _ (HSH.out _ hb3) (fun hJ0=>?_)⟩
 clear hK K
 refine nm0 _ ?_
 clear hb hb2 hb3 hsz HSH hJ0
 have H36:=Y00 (H35.out.2)
 clear H35
 skip
 refine pv 4 ?_
 refine pv 5 ?_
 refine pv 6 ?_
 refine pv 7 ?_
 refine pv 8 ?_
 refine dn0 ?_
 go_upto_region 15 with fail
 obtain ⟨p0,p1,p2,p3,p4⟩:=bc5 H36.out.2.2.2.2.2.2.2.2.2.2.1.1
 refine sr1 9 (fun V=>V.cell? ⟨pb,0,none⟩=some (.int .i64 planP.N)∧V.cell? ⟨pb,1,none⟩=some (.int .i64 planP.Wd)∧V.cell? ⟨pb,2,none⟩=some (.slice eA planP.E.length 4)∧V.cell? ⟨pb,3,none⟩=some (.int .i64 planP.workers)∧V.cell? ⟨pb,4,none⟩=some (.slice mA planP.start.length 1)) [] ⟨p0,p1,p2,p3,p4⟩ fun hJ0=>?_
 have H37:=Y00 (H36.out.up (J05 (Y0f v23.heap.size v23)))
 clear H36
 generalize v23.drew=v24 at *
 have HSH:=Y08 (fun V (hb:Below v24.heap.size v24 V)=>(Y07 (J00 hb hJ0.1) (Y07 (J00 hb hJ0.2.1) (Y07 (J00 hb hJ0.2.2.1) (Y07 (J00 hb hJ0.2.2.2.1) (J00 hb hJ0.2.2.2.2))))))
 clear p0 p1 p2 p3 p4
 refine tv5 0 ?_
 refine ov 1 fun K hK=>?_
 refine va0 ?_
 have H38:=Y00 ((H37.out).new (.cells #[.int .i64 5,.int .i64 0] 3) (b:=v24.heap.size) (by simp))
 clear H37
 have hb1:=J02 v24 (.cells #[.int .i64 5,.int .i64 0] 3)
 refine hK.out _ _ (HSH.out _ hb1) (fun hJ0=>?_)
 clear hK K
 refine nm0 _ ?_
 refine ov 2 fun K hK=>?_
 refine gs0 Tryz.func41 #[.int .i64 2,.slice (some ⟨v24.heap.size,0,none⟩) 2 2] ?_
 refine (Jag 2 (some ⟨v24.heap.size,0,none⟩) 2 2 _).mono ?_
 rintro e v25 ⟨rfl,hb⟩
 have H39:=Y00 (H38.out.up hb)
 clear H38
 have hb2:=J01 hb1 hb1.size hb
 refine ⟨_,rfl,hK.out _ _ (HSH.out _ hb2) (fun hJ0=>?_)⟩
 clear hK K
 refine nm0 _ ?_
 have hsz:=hb2.size
 clear hb hb1
 generalize v24.heap.size=xb at *
 refine ov 3 fun K hK=>?_
 refine gs0 Tryz.func26 #[J1q planP eA 4 mA 1,.slice none 0 0,.int .i64 1,.agg #[.int .i64 2,.slice (some ⟨xb,0,none⟩) 2 2]] ?_
 refine (Jb6 planP eA mA none (some ⟨xb,0,none⟩) 4 1 0 2 [] 1 2 [5,0] _ H39.out.2.2.2.2.2.2.2.2.2.2.2.2.2.1.1 (Kd.C_nil kI _) (Y0e _) (J2r H39.out.1.1)).mono ?_
 rintro e v26 ⟨rfl,hb⟩
 rw [Jsc]
 simp only [Je9]
 have H40:=Y00 (H39.out.up hb)
 clear H39
 have hb3:=J01 hb2 hsz hb
 refine ⟨_,rfl,hK.out _ _ (HSH.out _ hb3) (fun hJ0=>?_)⟩
 clear hK K
 refine nm0 _ ?_
 clear hb hb2 hb3 hsz HSH hJ0
 have H41:=Y00 (H40.out.2)
 clear H40
 skip
 refine pv 4 ?_
 refine pv 5 ?_
 refine pv 6 ?_
 refine pv 7 ?_
 refine pv 8 ?_
 refine dn0 ?_
 go_upto_region 16 with fail
 go_wp2_with fail
 have H42:=Y00 ((H41.out).new (.cells #[.int .i64 0,.int .i64 0] 3) (b:=v26.heap.size) (by simp))
 clear H41
 refine (Jag 0 (some ⟨v26.heap.size,0,none⟩) 2 2 _).mono ?_
 rintro e v27 ⟨rfl,hb⟩
 have H43:=Y00 (H42.out.up hb)
 clear H42
 clear hb
 generalize v26.heap.size=ma at *
 go_wp2_with fail
 have H44:=Y00 ((H43.out).new (.cells #[.int .i64 0,.int .i64 0] 3) (b:=v27.heap.size) (by simp))
 clear H43
 refine (Jag 1 (some ⟨v27.heap.size,0,none⟩) 2 2 _).mono ?_
 rintro e v28 ⟨rfl,hb⟩
 have H45:=Y00 (H44.out.up hb)
 clear H44
 clear hb
 generalize v27.heap.size=mb at *
 go_wp2_with fail
 have H46:=Y00 ((H45.out).new (.cells #[.int .i64 0,.int .i64 1] 3) (b:=v28.heap.size) (by simp))
 clear H45
 refine (Jag 2 (some ⟨v28.heap.size,0,none⟩) 2 2 _).mono ?_
 rintro e v29 ⟨rfl,hb⟩
 have H47:=Y00 (H46.out.up hb)
 clear H46
 clear hb
 generalize v28.heap.size=mc at *
 go_wp2_with fail
 have H48:=Y00 ((H47.out).new (.cells #[.int .i64 0,.slice (some ⟨ma,0,none⟩) 2 2,.int .i64 1,.int .i64 1,.slice (some ⟨mb,0,none⟩) 2 2,.int .i64 (-1),.int .i64 2,.slice (some ⟨mc,0,none⟩) 2 2,.int .i64 1] 83) (b:=v29.heap.size) (by simp))
 clear H47
 have hl:kMs.C ((v29).alloc (.cells #[.int .i64 0,.slice (some ⟨ma,0,none⟩) 2 2,.int .i64 1,.int .i64 1,.slice (some ⟨mb,0,none⟩) 2 2,.int .i64 (-1),.int .i64 2,.slice (some ⟨mc,0,none⟩) 2 2,.int .i64 1] 83)) (some ⟨v29.heap.size,0,none⟩) 3 [((0,[0,0]),1),((1,[0,0]),-1),((2,[0,1]),1)]:=Jah (xs:=[((0,[0,0]),1),((1,[0,0]),-1),((2,[0,1]),1)]) [[.int .i64 0,.slice (some ⟨ma,0,none⟩) 2 2,.int .i64 1],[.int .i64 1,.slice (some ⟨mb,0,none⟩) 2 2,.int .i64 (-1)],[.int .i64 2,.slice (some ⟨mc,0,none⟩) 2 2,.int .i64 1]] H48.out.1.1 ⟨⟨_,_,rfl,⟨_,_,rfl,rfl,K_li (J2r H48.out.2.2.2.1.1) rfl (Y0e _)⟩,rfl⟩,⟨_,_,rfl,⟨_,_,rfl,rfl,K_li (J2r H48.out.2.2.1.1) rfl (Y0e _)⟩,rfl⟩,⟨_,_,rfl,⟨_,_,rfl,rfl,K_li (J2r H48.out.2.1.1) rfl (Y0e _)⟩,rfl⟩,trivial⟩ (by decide)
 refine (Jci _ _ _ _ _ [((0,[0,0]),1),((1,[0,0]),-1),((2,[0,1]),1)] H48.out.2.2.2.2.2.1.1 hl).mono ?_
 rintro e v30 ⟨rfl,hb⟩
 have H49:=Y00 (H48.out.up hb)
 clear H48
 clear hb hl
 go_wp2_with fail
 have H50:=Y00 ((H49.out).new (.cells #[.int .i64 0,.int .i64 1] 3) (b:=v30.heap.size) (by simp))
 clear H49
 refine (Jag 2 (some ⟨v30.heap.size,0,none⟩) 2 2 _).mono ?_
 rintro e v31 ⟨rfl,hb⟩
 have H51:=Y00 (H50.out.up hb)
 clear H50
 clear hb
 generalize v30.heap.size=md at *
 go_wp2_with fail
 have H52:=Y00 ((H51.out).new (.cells #[.int .i64 2,.slice (some ⟨md,0,none⟩) 2 2] 57) (b:=v31.heap.size) (by simp))
 clear H51
 have hl:kMk.C ((v31).alloc (.cells #[.int .i64 2,.slice (some ⟨md,0,none⟩) 2 2] 57)) (some ⟨v31.heap.size,0,none⟩) 1 [(2,[0,1])]:=Jah (xs:=[(2,[0,1])]) [[.int .i64 2,.slice (some ⟨md,0,none⟩) 2 2]] H52.out.1.1 ⟨⟨_,_,rfl,rfl,K_li (J2r H52.out.2.1.1) rfl (Y0e _)⟩,trivial⟩ (by decide)
 refine (Jdj _ _ _ _ _ [(2,[0,1])] H52.out.2.2.2.2.2.2.1.1 hl).mono ?_
 rintro e v32 ⟨rfl,hb⟩
 have H53:=Y00 (H52.out.up hb)
 clear H52
 clear hb hl
 obtain ⟨p0,p1,p2,p3,p4⟩:=bc5 H53.out.2.2.2.2.2.2.2.2.2.2.2.2.2.2.2.2.1.1
 go_wp2_with fail
 refine (Jnh planP eA mA 4 1 _ H53.out.2.2.2.2.2.2.2.2.2.2.2.2.2.2.2.2.2.2.1.1).mono ?_
 rintro e v33 ⟨rfl,hb⟩
 rw [Joz]
 have H54:=Y00 (H53.out.up hb)
 clear H53
 clear hb p0 p1 p2 p3 p4
 go_wp2_with fail
 go_ret
 exact ⟨rfl,H54.out.2.2.2.2.2.2.2.2.2.2.2.2.2.2.2.2.2.2.2.1.1⟩
end Go.Proofs.YtbkfnmgkcgnifaaGreat
namespace Go.Proofs.YtbkfnmgkcgnifaaGreat.Mdl
theorem Jeq {L:Led} (hn:(L.map (·.1)).Nodup) (h0:∀ e ∈ L,e.2≠0) (m:Mk):m ∈ L.map (·.1)↔getL L m≠0:=by
 constructor
 ·intro h
  obtain ⟨e,he,rfl⟩:=Yz4.1 h
  rw [J2e (v:=e.2) hn he];exact h0 e he
 intro h
 refine Classical.byContradiction fun hm=>h (J3z (fun e he hk=>hm (Yz4.2 ⟨e,he,hk⟩)))
abbrev RM:=Int × List Int
def J1h (m n:RM):Bool:=if m.1=n.1 then J2z m.2 n.2 else decide (m.1<n.1)
def putR (m:RM):Bool→List RM→List RM
 | done,[]=>if done then [] else [m]
 | done,x::r=>if (!done&&J1h m x)=true then m::x::putR m true r else x::putR m done r
def J0w (m:RM):Bool→List RM→List RM
 | _,[]=>[]
 | gone,x::r=>if (!gone&&decide (x=m))=true then J0w m true r else x::J0w m gone r
def entN (m:RM) (many:Int) (x:Msg):Int:=if m=x.1 then w64 (x.2+many) else x.2
def J0z (m:RM) (many:Int):Bool→List Msg→List Msg
 | done,[]=>if done then [] else [(m,many)]
 | done,x::r=>(if (!done&&J1h m x.1)=true then [(m,many)] else [])++((if entN m many x≠0 then [(x.1,entN m many x)] else [])++J0z m many (done || J1h m x.1 || decide (m=x.1)) r)
theorem J8n (m:RM):∀ r,putR m true r=r
 | []=>rfl
 | x::r=>by simp [putR,J8n m r]
theorem J8f (m:RM):∀ r,J0w m true r=r
 | []=>rfl
 | x::r=>by simp [J0w,J8f m r]
theorem Jcr {wd:Nat} (hw:wd≤3) (hw1:1≤wd) {m n:Mk} (hm:ZW wd m.2) (hn:ZW wd n.2):J1h (J0h wd m) (J0h wd n)=true↔cmpN m n<0:=by
 unfold J1h J0h cmpN
 by_cases h:m.1=n.1
 ·rw [if_pos h,if_neg (by simpa using h)];exact J9t hw hw1 hm hn
 rw [if_neg h,if_pos h,Y0y];omega
theorem Jaw {wd:Nat} (hw:wd≤3) (hw1:1≤wd) {m n:Mk} (hm:ZW wd m.2) (hn:ZW wd n.2):J0h wd m=J0h wd n↔m=n:=by
 constructor
 ·intro h
  unfold J0h at h
  injection h with h1 h2
  exact Prod.ext h1 (Jj9 hw hw1 hm hn h2)
 intro h;rw [h]
theorem Jb2 {α:Type} {R:α→α→Prop} (hR:∀ a b,R a b→¬ R b a):∀ {l m:List α},l.Pairwise R→m.Pairwise R→(∀ x,x ∈ l↔x ∈ m)→l=m
 | [],[],_,_,_=>rfl
 | [],b::m,_,_,h=>absurd ((h b).2 Y03) (by simp)
 | a::l,[],_,_,h=>absurd ((h a).1 Y03) (by simp)
 | a::l,b::m,hl,hm,h=>by
  have hl2:=List.pairwise_cons.1 hl
  have hm2:=List.pairwise_cons.1 hm
  have hab:a=b:=by
   rcases Yz1.1 ((h a).1 Y03) with h1 | h1
   ·exact h1
   rcases Yz1.1 ((h b).2 Y03) with h2 | h2
   ·exact h2.symm
   exact absurd (hl2.1 b h2) (hR b a (hm2.1 a h1))
  subst hab
  have hn:∀ x,R a x→x≠a:=fun x hx he=>by subst he;exact hR _ _ hx hx
  congr 1
  refine Jb2 hR hl2.2 hm2.2 (fun x=>⟨fun hx=>?_,fun hx=>?_⟩)
  ·rcases Yz1.1 ((h x).1 (Y04 _ hx)) with h1 | h1
   ·exact absurd h1 (hn x (hl2.1 x hx))
   exact h1
  rcases Yz1.1 ((h x).2 (Y04 _ hx)) with h1 | h1
  ·exact absurd h1 (hn x (hm2.1 x hx))
  exact h1
theorem Jop (a b:Mk) (h:cmpN a b<0):¬ cmpN b a<0:=by rw [J3v];omega
structure LOk (wd:Nat) (L:Led):Prop where
 nodup:(L.map (·.1)).Nodup
 nz:∀ e ∈ L,e.2≠0
 zw:∀ e ∈ L,ZW wd e.1.2
def Jd1 (L:Led):List Mk:=J61 (L.map (·.1))
theorem J2m {L:Led} (h:(L.map (·.1)).Nodup):(Jd1 L).Pairwise (fun a b=>cmpN a b<0)∧∀ x,x ∈ Jd1 L↔x ∈ L.map (·.1):=by
 obtain ⟨s,p⟩:=J2a ordN (l:=L.map (·.1)) (fun _ _=>trivial)
 refine ⟨?_,fun x=>p.mem_iff⟩
 have hn:(Jd1 L).Nodup:=p.nodup_iff.2 h
 have hs:J0c cmpN (Jd1 L):=s
 refine List.Pairwise.imp₂ (fun a b h1 h2=>?_) hs hn
 have:=J1x (a:=a) (b:=b)
 by_cases h0:cmpN a b=0
 ·exact absurd (this.1 h0) h2
 omega
def Jc5 (L:Led):List Mk:=(Jd1 L).flatMap fun m=>List.replicate (getL L m).toNat m
theorem J66 (wd:Nat) (L:Led):J2b wd L=(Jc5 L).map (J0h wd):=by
 unfold J2b Jc5 Jd1
 rw [List.map_flatMap]
 simp
theorem J65 {L:Led} (h:(L.map (·.1)).Nodup):J0c cmpN (Jc5 L):=by
 have hk:=(J2m h).1
 unfold Jc5
 generalize Jd1 L=ks at hk
 induction ks with
 | nil=>exact List.Pairwise.nil
 | cons a ks ih =>
  have hk2:=List.pairwise_cons.1 hk
  rw [List.flatMap_cons]
  refine List.pairwise_append.2 ⟨List.pairwise_replicate.2 (.inr (Int.le_of_eq (J1x.2 rfl))),ih hk2.2,fun x hx y hy=>?_⟩
  obtain ⟨k,hk',hy⟩:=List.mem_flatMap.1 hy
  rw [(List.mem_replicate.1 hx).2,(List.mem_replicate.1 hy).2]
  exact Int.le_of_lt (hk2.1 k hk')
theorem J5k {L:Led} (h:(L.map (·.1)).Nodup) (x:Mk):(Jc5 L).count x=(getL L x).toNat:=by
 obtain ⟨hk,hm⟩:=J2m h
 have hgen:∀ ks:List Mk,ks.Pairwise (fun a b=>cmpN a b<0)→(ks.flatMap fun m=>List.replicate (getL L m).toNat m).count x=if x ∈ ks then (getL L x).toNat else 0:=by
  intro ks
  induction ks with
  | nil=>intro _;rfl
  | cons a ks ih =>
   intro hp
   have hp2:=List.pairwise_cons.1 hp
   rw [List.flatMap_cons,List.count_append,ih hp2.2,List.count_replicate]
   by_cases hxa:a=x
   ·subst hxa
    have hn:a ∉ ks:=fun hin=>by have:=hp2.1 a hin;rw [J1x.2 rfl] at this;omega
    rw [if_neg hn];simp
   have:¬ (a == x)=true:=by simpa using hxa
   rw [if_neg this]
   simp [Ne.symm hxa]
 unfold Jc5
 rw [hgen _ hk]
 split
 ·rfl
 rename_i hx
 rw [J3z (fun e he hex=>hx ((hm x).2 (Yz4.2 ⟨e,he,hex⟩)))];rfl
theorem Jav {L:Led} (h:(L.map (·.1)).Nodup) {x:Mk} (hx:x ∈ Jc5 L):∃ e ∈ L,e.1=x:=by
 obtain ⟨k,hk,hx⟩:=List.mem_flatMap.1 hx
 rw [(List.mem_replicate.1 hx).2]
 obtain ⟨e,he,hek⟩:=Yz4.1 (((J2m h).2 k).1 hk)
 exact ⟨e,he,hek⟩
theorem Jiz {wd:Nat} (hw:wd≤3) (hw1:1≤wd) {m:Mk} (hm:ZW wd m.2):∀ l:List Mk,(∀ x ∈ l,ZW wd x.2)→putR (J0h wd m) false (l.map (J0h wd))=(insL cmpN m l).map (J0h wd)
 | [],_=>rfl
 | x::r,h=>by
  have hx:=h x Y03
  have hn:=J3v m x
  simp only [List.map_cons,putR,Bool.not_false,Bool.true_and,insL]
  by_cases hc:cmpN x m≤0
  ·rw [if_pos hc,if_neg (fun ha=>by have:=(Jcr hw hw1 hm hx).1 ha;omega),Jiz hw hw1 hm r (fun y hy=>h y (Y04 _ hy))];rfl
  rw [if_neg hc,if_pos ((Jcr hw hw1 hm hx).2 (by omega)),J8n];rfl
theorem Ja3 {wd:Nat} (hw:wd≤3) (hw1:1≤wd) {m:Mk} (hm:ZW wd m.2):∀ l:List Mk,(∀ x ∈ l,ZW wd x.2)→J0w (J0h wd m) false (l.map (J0h wd))=(l.erase m).map (J0h wd)
 | [],_=>rfl
 | x::r,h=>by
  have hx:=h x Y03
  simp only [List.map_cons,J0w,Bool.not_false,Bool.true_and]
  by_cases hc:x=m
  ·subst hc
   rw [if_pos (by simp),J8f,List.erase_cons_head]
  rw [if_neg (by simpa using fun he=>hc ((Jaw hw hw1 hx hm).1 he)),List.erase_cons_tail (by simpa using hc),Ja3 hw hw1 hm r (fun y hy=>h y (Y04 _ hy))];rfl
theorem Jfz {wd:Nat} (hw:wd≤3) (hw1:1≤wd) {L:Led} (h:Pos L) (hz:∀ e ∈ L,ZW wd e.1.2) (hc:cnt L≤1000000) {m:Mk} (hm:ZW wd m.2):putR (J0h wd m) false (J2b wd L)=J2b wd (J0j L m 1):=by
 rw [J66,J66,Jiz hw hw1 hm _ (fun x hx=>by obtain ⟨e,he,rfl⟩:=Jav h.nodup hx;exact hz e he)]
 congr 1
 have hn:=J1n m 1 h.nodup
 refine J47 ordN (fun _ _=>trivial) ?_ (J8a ordN trivial (fun _ _=>trivial) (J65 h.nodup)) (J65 hn)
 refine (J70 m _).trans (List.perm_iff_count.2 (fun x=>?_))
 rw [List.count_cons,J5k h.nodup,J5k hn,J3b]
 have hb:=J8b h m
 by_cases hx:m=x
 ·subst hx
  rw [if_pos rfl,J25 (by omega) (by omega)];simp;omega
 have:¬ (m == x)=true:=by simpa using hx
 rw [if_neg this,if_neg (Ne.symm hx)];rfl
theorem Je7 {wd:Nat} (hw:wd≤3) (hw1:1≤wd) {L:Led} (h:Pos L) (hz:∀ e ∈ L,ZW wd e.1.2) (hc:cnt L≤1000000) {m:Mk} (hm:ZW wd m.2) (hg:0<getL L m):J0w (J0h wd m) false (J2b wd L)=J2b wd (J0j L m (-1)):=by
 rw [J66,J66,Ja3 hw hw1 hm _ (fun x hx=>by obtain ⟨e,he,rfl⟩:=Jav h.nodup hx;exact hz e he)]
 congr 1
 have hn:=J1n m (-1) h.nodup
 refine J47 ordN (fun _ _=>trivial) (List.perm_iff_count.2 (fun x=>?_)) (List.Pairwise.sublist List.erase_sublist (J65 h.nodup)) (J65 hn)
 have hb:=J8b h m
 rw [J5k hn,J3b,List.count_erase,J5k h.nodup]
 by_cases hx:x=m
 ·subst hx
  rw [if_pos rfl,J25 (by omega) (by omega)];simp;omega
 have:¬ (x == m)=true:=by simpa using hx
 rw [if_neg hx]
 simp [Ne.symm hx]
def cntR (wd:Nat) (e:Mk × Int):Msg:=(J0h wd e.1,e.2)
def ledM (L:Led):List (Mk × Int):=(Jd1 L).map fun m=>(m,getL L m)
theorem J9p (wd:Nat) (L:Led):J11 wd L=(ledM L).map (cntR wd):=by unfold J11 ledM;rw [List.map_map];rfl
def LtK (a b:Mk × Int):Prop:=cmpN a.1 b.1<0
theorem J7h {L:Led} (h:(L.map (·.1)).Nodup):(ledM L).Pairwise LtK:=List.pairwise_map.2 (J2m h).1
theorem J64 {L:Led} (h:(L.map (·.1)).Nodup) (hz:∀ e ∈ L,e.2≠0) (e:Mk × Int):e ∈ ledM L↔getL L e.1=e.2∧e.2≠0:=by
 unfold ledM
 rw [Yz4]
 constructor
 ·rintro ⟨m,hm,rfl⟩
  exact ⟨rfl,(Jeq h hz m).1 (((J2m h).2 m).1 hm)⟩
 rintro ⟨h1,h2⟩
 exact ⟨e.1,((J2m h).2 _).2 ((Jeq h hz _).2 (by rw [h1];exact h2)),by rw [h1]⟩
def entM (m:Mk) (n:Int):List (Mk × Int)→List (Mk × Int)
 | []=>[(m,n)]
 | x::r=>if cmpN m x.1<0 then (m,n)::x::r else if m=x.1 then (if w64 (x.2+n)≠0 then (x.1,w64 (x.2+n))::r else r) else x::entM m n r
theorem Jia {wd:Nat} {m:Mk} {n:Int} {x:Mk × Int} (h:¬ J0h wd m=J0h wd x.1):entN (J0h wd m) n (cntR wd x)=x.2:=if_neg h
theorem Jqi {wd:Nat} {m:Mk} {n:Int} {x:Mk × Int} (h:J0h wd m=J0h wd x.1):entN (J0h wd m) n (cntR wd x)=w64 (x.2+n):=if_pos h
theorem Jn1 {a b c:Mk} (h:cmpN a b<0) (k:cmpN b c<0):cmpN a c<0:=by
 have h1:=J7m (Int.le_of_lt h) (Int.le_of_lt k)
 by_cases h2:cmpN a c=0
 ·have h3:=J1x.1 h2
  subst h3
  have:=J3v a b
  omega
 omega
theorem J6a {wd:Nat} (hw:wd≤3) (hw1:1≤wd) {m:Mk} (hm:ZW wd m.2) (n:Int):∀ r:List (Mk × Int),(∀ x ∈ r,ZW wd x.1.2∧x.2≠0∧m≠x.1)→J0z (J0h wd m) n true (r.map (cntR wd))=r.map (cntR wd)
 | [],_=>rfl
 | x::r,h=>by
  obtain ⟨h1,h2,h3⟩:=h x Y03
  have he:entN (J0h wd m) n (cntR wd x)=x.2:=Jia (fun h=>h3 ((Jaw hw hw1 hm h1).1 h))
  simp only [List.map_cons,J0z,Bool.not_true,Bool.false_and,Bool.true_or]
  rw [he,if_pos h2,J6a hw hw1 hm n r (fun y hy=>h y (Y04 _ hy))]
  simp;rfl
theorem Jae {wd:Nat} (hw:wd≤3) (hw1:1≤wd) {m:Mk} (hm:ZW wd m.2) (n:Int):∀ r:List (Mk × Int),r.Pairwise LtK→(∀ x ∈ r,ZW wd x.1.2∧x.2≠0)→J0z (J0h wd m) n false (r.map (cntR wd))=(entM m n r).map (cntR wd)
 | [],_,_=>rfl
 | x::r,hp,h=>by
  obtain ⟨h1,h2⟩:=h x Y03
  have hp2:=List.pairwise_cons.1 hp
  have hin:=Jaw hw hw1 hm h1
  have hah:=Jcr hw hw1 hm h1
  simp only [List.map_cons,J0z,Bool.not_false,Bool.true_and,Bool.false_or,entM]
  by_cases hc:cmpN m x.1<0
  ·have hne:m≠x.1:=fun he=>by rw [J1x.2 he] at hc;omega
   have he:entN (J0h wd m) n (cntR wd x)=x.2:=Jia (fun h=>hne (hin.1 h))
   have ha:J1h (J0h wd m) (cntR wd x).1=true:=hah.2 hc
   rw [if_pos hc,ha,he,if_pos h2,Bool.true_or,J6a hw hw1 hm n r (fun y hy=>⟨(h y (Y04 _ hy)).1,(h y (Y04 _ hy)).2,fun hy2=>by
    have h3:cmpN x.1 y.1<0:=hp2.1 y hy
    rw [← hy2,J3v] at h3;omega⟩)]
   simp;exact ⟨rfl,rfl⟩
  have ha:J1h (J0h wd m) (cntR wd x).1=false:=Bool.eq_false_iff.2 (fun h=>hc (hah.1 h))
  rw [if_neg hc,ha]
  by_cases hm2:m=x.1
  ·have he:entN (J0h wd m) n (cntR wd x)=w64 (x.2+n):=Jqi (hin.2 hm2)
   have hd:decide (J0h wd m=(cntR wd x).1)=true:=Y0r (hin.2 hm2)
   rw [if_pos hm2,he,hd,Bool.or_true,J6a hw hw1 hm n r (fun y hy=>⟨(h y (Y04 _ hy)).1,(h y (Y04 _ hy)).2,fun hy2=>by
    have h3:cmpN x.1 y.1<0:=hp2.1 y hy
    rw [← hy2,← hm2,J1x.2 rfl] at h3;omega⟩)]
   by_cases hz:w64 (x.2+n)=0
   ·simp [hz]
   simp [hz];rfl
  have he:entN (J0h wd m) n (cntR wd x)=x.2:=Jia (fun h=>hm2 (hin.1 h))
  have hd:decide (J0h wd m=(cntR wd x).1)=false:=Y0s (fun h=>hm2 (hin.1 h))
  rw [if_neg hm2,he,if_pos h2,hd,Bool.or_false,Jae hw hw1 hm n r hp2.2 (fun y hy=>h y (Y04 _ hy))]
  simp;rfl
theorem Jce (m:Mk) (n:Int):∀ r:List (Mk × Int),r.Pairwise LtK→(∀ y,LtK y (m,n)→(∀ x ∈ r,LtK y x)→∀ x ∈ entM m n r,LtK y x)∧(entM m n r).Pairwise LtK
 | [],_=>⟨fun y hy _ x hx=>by rw [Y11.1 hx];exact hy,List.pairwise_singleton _ _⟩
 | x::r,hp=>by
  have hp2:=List.pairwise_cons.1 hp
  obtain ⟨h1,h2⟩:=Jce m n r hp2.2
  unfold entM
  by_cases hc:cmpN m x.1<0
  ·rw [if_pos hc]
   refine ⟨fun y hy hr z hz=>?_,List.pairwise_cons.2 ⟨fun z hz=>?_,hp⟩⟩
   ·rcases Yz1.1 hz with hz | hz
    ·rw [hz];exact hy
    exact hr z hz
   rcases Yz1.1 hz with hz | hz
   ·rw [hz];exact hc
   exact Jn1 hc (hp2.1 z hz)
  rw [if_neg hc]
  by_cases hm2:m=x.1
  ·rw [if_pos hm2]
   split
   ·refine ⟨fun y hy hr z hz=>?_,List.pairwise_cons.2 ⟨fun z hz=>hp2.1 z hz,hp2.2⟩⟩
    rcases Yz1.1 hz with hz | hz
    ·rw [hz];exact hr x Y03
    exact hr z (Y04 _ hz)
   exact ⟨fun y hy hr z hz=>hr z (Y04 _ hz),hp2.2⟩
  rw [if_neg hm2]
  have hxm:LtK x (m,n):=by
   show cmpN x.1 m<0
   have h3:=J3v m x.1
   have h4:cmpN m x.1≠0:=fun h=>hm2 (J1x.1 h)
   omega
  refine ⟨fun y hy hr z hz=>?_,List.pairwise_cons.2 ⟨h1 x hxm hp2.1,h2⟩⟩
  rcases Yz1.1 hz with hz | hz
  ·rw [hz];exact hr x Y03
  exact h1 y hy (fun z hz=>hr z (Y04 _ hz)) z hz
theorem Jjt (m:Mk) (n:Int) (hn:n≠0) (g:Mk→Int) (hg:w64 n=n):∀ r:List (Mk × Int),r.Pairwise LtK→(∀ x ∈ r,g x.1=x.2)→((∀ x ∈ r,x.1≠m)→g m=0)→∀ e,e ∈ entM m n r↔(e.1=m∧e.2=w64 (g m+n)∧e.2≠0)∨(e.1≠m∧e ∈ r)
 | [],_,_,h0,e=>by
  have hgm:=h0 (by simp)
  rw [hgm,Int.zero_add,hg]
  simp only [entM,Y11,List.not_mem_nil,and_false,or_false]
  constructor
  ·rintro rfl;exact ⟨rfl,rfl,hn⟩
  rintro ⟨h1,h2,_⟩;exact Prod.ext h1 h2
 | x::r,hp,hx,h0,e=>by
  have hp2:=List.pairwise_cons.1 hp
  have hgx:=hx x Y03
  unfold entM
  by_cases hc:cmpN m x.1<0
  ·have hno:∀ y ∈ x::r,y.1≠m:=fun y hy he=>by
    rcases Yz1.1 hy with hy | hy
    ·rw [← hy,he,J1x.2 rfl] at hc;omega
    have h3:cmpN x.1 y.1<0:=hp2.1 y hy
    rw [he,J3v] at h3;omega
   rw [if_pos hc,Yz1,h0 hno,Int.zero_add,hg]
   constructor
   ·rintro (h | h)
    ·subst h;exact .inl ⟨rfl,rfl,hn⟩
    exact .inr ⟨hno e h,h⟩
   rintro (⟨h1,h2,_⟩ | ⟨_,h⟩)
   ·exact .inl (Prod.ext h1 h2)
   exact .inr h
  rw [if_neg hc]
  by_cases hm2:m=x.1
  ·rw [if_pos hm2]
   have hno:∀ y ∈ r,y.1≠m:=fun y hy he=>by
    have h3:cmpN x.1 y.1<0:=hp2.1 y hy
    rw [he,← hm2,J1x.2 rfl] at h3;omega
   have hgm:g m=x.2:=by rw [hm2];exact hgx
   rw [hgm]
   by_cases hz:w64 (x.2+n)=0
   ·rw [if_neg (by simpa using hz)]
    constructor
    ·intro h;exact .inr ⟨hno e h,Y04 _ h⟩
    rintro (⟨_,h2,h3⟩ | ⟨h1,h⟩)
    ·exact absurd (h2.trans hz) h3
    rcases Yz1.1 h with h | h
    ·exact absurd (by rw [h,hm2]) h1
    exact h
   rw [if_pos hz,Yz1]
   constructor
   ·rintro (h | h)
    ·subst h;exact .inl ⟨hm2.symm,rfl,hz⟩
    exact .inr ⟨hno e h,Y04 _ h⟩
   rintro (⟨h1,h2,_⟩ | ⟨h1,h⟩)
   ·exact .inl (Prod.ext (h1.trans hm2) h2)
   rcases Yz1.1 h with h | h
   ·exact absurd (by rw [h,hm2]) h1
   exact .inr h
  rw [if_neg hm2,Yz1,Jjt m n hn g hg r hp2.2 (fun y hy=>hx y (Y04 _ hy)) (fun hr=>h0 (fun y hy=>by
   rcases Yz1.1 hy with hy | hy
   ·rw [hy];exact Ne.symm hm2
   exact hr y hy)) e]
  constructor
  ·rintro (h | h | ⟨h1,h⟩)
   ·subst h;exact .inr ⟨Ne.symm hm2,Y03⟩
   ·exact .inl h
   exact .inr ⟨h1,Y04 _ h⟩
  rintro (h | ⟨h1,h⟩)
  ·exact .inr (.inl h)
  rcases Yz1.1 h with h | h
  ·exact .inl h
  exact .inr (.inr ⟨h1,h⟩)
theorem Jgu {L:Led} (h:(L.map (·.1)).Nodup) (hz:∀ e ∈ L,e.2≠0) (m:Mk) (n:Int):∀ e ∈ J0j L m n,e.2≠0:=fun e he=>by
 have hn:=J1n m n h
 have hg:=J2e (v:=e.2) hn he
 intro h0
 rw [h0,J3b] at hg
 unfold J0j at he
 split at he
 ·exact hz e (List.mem_filter.1 he).1 h0
 rename_i hne
 rcases Yz1.1 ((J1g m _ _).mem_iff.1 he) with he | he
 ·rw [he] at h0;exact hne h0
 exact hz e (List.mem_filter.1 he).1 h0
theorem J92 {wd:Nat} (hw:wd≤3) (hw1:1≤wd) {L:Led} (h:LOk wd L) {m:Mk} (hm:ZW wd m.2) {n:Int} (hn:n≠0) (hn64:w64 n=n):J0z (J0h wd m) n false (J11 wd L)=J11 wd (J0j L m n):=by
 rw [J9p,J9p,Jae hw hw1 hm n _ (J7h h.nodup) (fun x hx=>by
  obtain ⟨h1,h2⟩:=(J64 h.nodup h.nz x).1 hx
  have hk:=(Jeq h.nodup h.nz x.1).2 (by rw [h1];exact h2)
  obtain ⟨e,he,hek⟩:=Yz4.1 hk
  exact ⟨hek ▸ h.zw e he,h2⟩)]
 congr 1
 have hn2:=J1n m n h.nodup
 refine Jb2 (R:=LtK) (fun a b=>Jop a.1 b.1) (Jce m n _ (J7h h.nodup)).2 (J7h hn2) (fun e=>?_)
 rw [Jjt m n hn (getL L) hn64 _ (J7h h.nodup) (fun x hx=>((J64 h.nodup h.nz x).1 hx).1) (fun hno=>Classical.byContradiction fun h0=>hno (m,getL L m) ((J64 h.nodup h.nz _).2 ⟨rfl,h0⟩) rfl),J64 hn2 (Jgu h.nodup h.nz m n),J3b,J64 h.nodup h.nz]
 by_cases he:e.1=m
 ·rw [if_pos he];simp [he,eq_comm]
 rw [if_neg he];simp [he]
structure Fit (p:Plan) (ways:Ways):Prop where
 plan:J0t p=some ways
 open_:openedP p.N p.Wd p.E=some ways
 N:1≤p.N∧p.N≤8
 Wd:1≤p.Wd∧p.Wd≤3
 Wk:1≤p.workers∧p.workers≤4
 E16:p.E.length≤16
 S8:p.start.length≤8
 ok:∀ e ∈ p.E,J1l p.N p.Wd e=true
 msg:∀ m ∈ p.start,J3g p.N p.Wd p.workers m=true
theorem Jpm {p:Plan} {ways:Ways} (h:J0t p=some ways):Fit p ways:=by
 obtain ⟨ho,hr,hm⟩:=J5d h
 obtain ⟨hh,he,_⟩:=opened_ok ho
 exact ⟨h,ho,⟨hh.1,hh.2.1⟩,⟨hh.2.2.1,hh.2.2.2.1⟩,⟨hr.1,hr.2.1⟩,hh.2.2.2.2,hr.2.2,he,hm⟩
theorem Fit.in_ {p:Plan} {ways:Ways} (h:Fit p ways):EdIn p.N p.E:=J3k h.ok h.Wd.2
theorem Fit.wide {p:Plan} {ways:Ways} (h:Fit p ways) {e:Ed} (he:e ∈ p.E):e.2.2.length=p.Wd.toNat:=by have:=(J75 (h.ok e he)).1;omega
theorem Jat {N Wd wk:Int} {m:Msg} (h:J3g N Wd wk m=true):m.1.2.length=Wd.toNat:=by
 simp only [J3g,Y0x,Y0y] at h
 have:=h.2.1;omega
theorem Fit.here {p:Plan} {ways:Ways} (h:Fit p ways) {script:List Int} (hs:script.length≤300):∀ n,Here p script (stAt p script n)
 | 0=>⟨J8d h.plan hs (by have:=h.Wk;omega),Jlq h.plan hs (by have:=h.Wk;omega)⟩
 | n+1=>by
  have ih:=h.here hs n
  unfold stAt at *
  rw [J5i]
  cases he:J2j p.E p.workers.toNat (J24 p.E p.workers.toNat n (J0s p.workers.toNat p.start script)) with
  | some st'=>exact ⟨(ih.reach.step (by have:=h.Wk;omega) (fun e he=>(h.in_ e he).2.1) he).1,(Jm8 h.in_ (by have:=h.Wk;omega) ih.know ih.reach (by have:=h.E16;omega) he).1⟩
  | none=>exact ih
theorem Fit.allM {p:Plan} {ways:Ways} (h:Fit p ways) {P:Mk→Prop} {script:List Int} (hs:script.length≤300) (hE:∀ m e,P m→e ∈ p.E→P (e.2.1,J0l m.2 (tmOf e.2.2))) (h0:∀ m ∈ p.start,P (J0v m)):∀ n,AllM P (stAt p script n)
 | 0=>by
  refine ⟨J6o _ _ (fun L hL e he=>by rw [List.eq_of_mem_replicate hL] at he;cases he) h0,fun L hL=>?_,fun r hr q hq nt hp=>?_⟩
  ·rw [List.eq_of_mem_replicate (show L ∈ List.replicate p.workers.toNat (J17 p.start) from hL)]
   exact fun e he=>(J6n _ _ (P:=P) (fun e he=>by cases he) h0 e he).1
  rw [List.eq_of_mem_replicate (show r ∈ List.replicate p.workers.toNat (List.replicate p.workers.toNat []) from hr)] at hq
  rw [List.eq_of_mem_replicate hq] at hp
  cases hp
 | n+1=>by
  have ih:=h.allM hs hE h0 n
  have hr:=(h.here hs n).reach
  unfold stAt at *
  rw [J5i]
  cases he:J2j p.E p.workers.toNat (J24 p.E p.workers.toNat n (J0s p.workers.toNat p.start script)) with
  | some st'=>exact Jo6 hE hr ih he
  | none=>exact ih
theorem Fit.zw {p:Plan} {ways:Ways} (h:Fit p ways) {script:List Int} (hs:script.length≤300) (n:Nat):AllM (fun m=>ZW p.Wd.toNat m.2) (stAt p script n) :=
 h.allM (P:=fun m=>ZW p.Wd.toNat m.2) hs (fun m e hm he=>Jcs hm (Jd6 (h.wide he))) (fun m hm=>Jd6 (Jat (h.msg m hm))) n
def isB {α:Type} [DecidableEq α] (p:Option α) (x:α):Bool:=match p with
 | none=>false
 | some y=>decide (y=x)
theorem Jes {α:Type} [DecidableEq α] (y x:α):isB (some y) x=decide (y=x):=rfl
def J35 {α:Type} [DecidableEq α]:Option α→List α→List α
 | _,[]=>[]
 | p,x::r=>(if isB p x=true then [] else [x])++J35 (some x) r
def Jc2 {α:Type} : Option α→List α→Option α
 | p,[]=>p
 | _,x::r=>Jc2 (some x) r
theorem Jda {α:Type} [DecidableEq α] (x:α):∀ (l:List α) (p:Option α),J35 p (l++[x])=J35 p l++if isB (Jc2 p l) x=true then [] else [x]
 | [],p=>by simp [J35,Jc2];rfl
 | y::l,p=>by
  simp only [List.cons_append,J35,Jc2,Jda x l (some y),Y0d];rfl
theorem Jc1 {α:Type} (d:α):∀ (l:List α) (k:Nat) (p:Option α),k≤l.length→Jc2 p (l.take k)=if k=0 then p else some (l.getD (k - 1) d)
 | _,0,p,_=>by simp [Jc2]
 | y::l,k+1,p,h=>by
  rw [List.take_succ_cons]
  simp only [Jc2]
  rw [Jc1 d l k (some y) (by simpa using h)]
  cases k with
  | succ k=>simp
  | zero=>simp
 | [],k+1,p,h=>absurd h (by simp)
theorem Jkl {l:List RM} {k:Nat} (hk:k<l.length):J35 none (l.take (k+1))=J35 none (l.take k)++if k=0∨l.getD (k - 1) (0,[])≠l[k] then [l[k]] else []:=by
 rw [Y0u hk,Jda,Jc1 (0,[]) l k none (by omega)]
 congr 1
 by_cases h0:k=0
 ·rw [if_pos h0,if_pos (Or.inl h0)];rfl
 rw [if_neg h0]
 by_cases he:l.getD (k - 1) (0,[])=l[k]
 ·rw [Jes,Y0r he,if_pos rfl,if_neg (by rintro (h | h);exact h0 h;exact h he)]
 rw [Jes,Y0s he,if_neg (by simp),if_pos (Or.inr he)]
theorem Jfs {α:Type} [DecidableEq α] (a:α) (R:List α):∀ (c:Nat) (p:Option α),J35 p (List.replicate (c+1) a++R)=(if isB p a=true then [] else [a])++J35 (some a) R
 | 0,p=>rfl
 | c+1,p=>by
  rw [List.replicate_succ,List.cons_append]
  simp only [J35]
  rw [Jfs a R c (some a),Jes,Y0r rfl];rfl
theorem Jdb {L:Led} (hp:∀ e ∈ L,1≤e.2):∀ (ks:List Mk) (p:Option Mk),ks.Pairwise (fun a b=>cmpN a b<0)→(∀ k ∈ ks,1≤getL L k)→(∀ k ∈ ks,isB p k=false)→J35 p (ks.flatMap fun m=>List.replicate (getL L m).toNat m)=ks
 | [],_,_,_,_=>rfl
 | a::ks,p,hs,hg,hb=>by
  have hs2:=List.pairwise_cons.1 hs
  obtain ⟨c,hc⟩:∃ c,(getL L a).toNat=c+1:=⟨(getL L a).toNat - 1,by have:=hg a Y03;omega⟩
  rw [List.flatMap_cons,hc,Jfs,hb a Y03,Jdb hp ks (some a) hs2.2 (fun k hk=>hg k (Y04 _ hk)) (fun k hk=>Y0s fun he=>by
   have:=hs2.1 k hk
   rw [he,J1x.2 rfl] at this;omega)];rfl
theorem Jfu {wd:Nat} (hw:wd≤3) (hw1:1≤wd):∀ (l:List Mk) (p:Option Mk),(∀ x ∈ l,ZW wd x.2)→(∀ b,p=some b→ZW wd b.2)→J35 (p.map (J0h wd)) (l.map (J0h wd))=(J35 p l).map (J0h wd)
 | [],_,_,_=>rfl
 | x::l,p,h,hp=>by
  have hx:=h x Y03
  simp only [List.map_cons,J35,List.map_append]
  have ih:=Jfu hw hw1 l (some x) (fun y hy=>h y (Y04 _ hy)) (fun b hb=>by injection hb with hb;rw [← hb];exact hx)
  rw [show some (J0h wd x)=(some x).map (J0h wd) from rfl,ih]
  congr 1
  have hb:isB (p.map (J0h wd)) (J0h wd x)=isB p x:=by
   cases p with
   | some b=>exact decide_eq_decide.2 (Jaw hw hw1 (hp b rfl) hx)
   | none=>rfl
  rw [hb]
  cases isB p x<;>rfl
theorem Jmh {wd:Nat} (hw:wd≤3) (hw1:1≤wd) {L:Led} (h:Pos L) (hz:∀ e ∈ L,ZW wd e.1.2):J35 none (J2b wd L)=(Jd1 L).map (J0h wd):=by
 obtain ⟨hs,hm⟩:=J2m h.nodup
 rw [J66,show (none:Option RM)=(none:Option Mk).map (J0h wd) from rfl,Jfu hw hw1 _ none (fun x hx=>by obtain ⟨e,he,rfl⟩:=Jav h.nodup hx;exact hz e he) (fun b hb=>by cases hb)]
 congr 1
 refine Jdb h.pos _ none hs (fun k hk=>?_) (fun _ _=>rfl)
 obtain ⟨e,he,rfl⟩:=Yz4.1 ((hm k).1 hk)
 rw [J2e (v:=e.2) h.nodup he];exact h.pos e he
structure RS where
 held:List (List RM)
 led:List (List Msg)
 nts:Nat→Nat→List (List Msg)
 script:List Int
 works:Int
 sent:Int
 took:Int
structure RW where
 held:List (List RM)
 script:List Int
 sent:Int
 note:List Msg
abbrev MvT:=(Int × Bool) × (RM × Int)
def J86 (m:RM) (e:Ed):RM:=(e.2.1,J48 m.2 e.2.2)
def J4x (W:Nat) (m:RM) (s:RW) (e:Ed):RW :=
 if e.1=m.1 then
  if numP s.script ((W:Int)+1)=0 then { s with script:=s.script.tail }
  else
   {held:=s.held.set (numP s.script ((W:Int)+1) - 1).toNat (putR (J86 m e) false (s.held.getD (numP s.script ((W:Int)+1) - 1).toNat []))
    script:=s.script.tail,sent:=w64 (s.sent+1),note:=s.note++[(J86 m e,1)] }
 else s
def allR (l note:List Msg):List Msg:=note.foldl (fun l x=>J0z x.1 x.2 false l) l
def upQ (f:Nat→Nat→List (List Msg)) (i k:Nat) (l:List (List Msg)):Nat→Nat→List (List Msg):=fun a b=>if a=i∧b=k then l else f a b
def J88 (i:Nat) (note:List Msg) (n:Nat) (f:Nat→Nat→List (List Msg)):Nat→Nat→List (List Msg):=fun a b=>if a=i∧b<n∧b≠i then f a b++[note] else f a b
def J4z (E:List Ed) (W:Nat) (s:RS) (i:Nat) (m:RM):RW:=E.foldl (J4x W m) ⟨s.held.set i (J0w m false (s.held.getD i [])),s.script,s.sent,[(m,-1)]⟩
def Jb1 (E:List Ed) (W:Nat) (s:RS) (i:Nat) (m:RM):RS :=
 {held:=(J4z E W s i m).held,led:=s.led.set i (allR (s.led.getD i []) (J4z E W s i m).note),nts:=J88 i (J4z E W s i m).note W s.nts
  script:=(J4z E W s i m).script,works:=w64 (s.works+1),sent:=(J4z E W s i m).sent,took:=s.took }
def Jo2 (s:RS) (i k:Nat):RS :=
 {s with led:=s.led.set i (allR (s.led.getD i []) ((s.nts k i).headD [])),nts:=upQ s.nts k i (s.nts k i).tail,took:=w64 (s.took+1) }
def Jg8 (E:List Ed) (W:Nat) (s:RS) (mv:MvT):RS:=if mv.1.2=true then Jb1 E W s mv.1.1.toNat mv.2.1 else Jo2 s mv.1.1.toNat mv.2.2.toNat
def J36 (s:RS) (w:Nat):List MvT:=(J35 none (s.held.getD w [])).map fun m=>(((w:Int),true),(m,0))
def J21 (s:RS) (w k:Nat):List MvT:=if s.nts k w=[] then [] else [(((w:Int),false),((0,[]),(k:Int)))]
def J44 (W:Nat) (s:RS):List MvT:=((List.range W).flatMap (J36 s))++(List.range W).flatMap fun w=>(List.range W).flatMap (J21 s w)
def J60 (E:List Ed) (W:Nat) (s:RS):Option RS:=match J44 W s with
 | []=>none
 | a::l=>some (Jg8 E W { s with script:=s.script.tail } ((a::l).getD (numP s.script ((l.length:Int)+1)).toNat a))
def J8t (wd:Nat) (note:Note):List Msg:=note.map (cntR wd)
def toRW (wd:Nat) (s:WS):RW:=⟨s.has.map (J2b wd),s.script,s.sent,J8t wd s.note⟩
def toR (wd:Nat) (st:St):RS:=⟨st.has.map (J2b wd),st.led.map (J11 wd),fun a b=>(st.queue b a).map (J8t wd),st.script,st.works,st.sent,st.nts⟩
def mvT (wd:Nat):Mv→MvT
 | .work i m=>(((i:Int),true),(J0h wd m,0))
 | .take i k=>(((i:Int),false),((0,[]),(k:Int)))
theorem J2y {α β:Type} (f:α→β) (l:List α) (i:Nat) (d:α) (d':β) (h:f d=d'):(l.map f).getD i d'=f (l.getD i d):=by
 rw [← h,Y01,Y01,List.getElem?_map]
 cases l[i]?<;>rfl
theorem Jmf {wd:Nat} (hw:wd≤3) (m:Mk) {e:Ed} (he:e.2.2.length=wd):J86 (J0h wd m) e=J0h wd (e.2.1,J0l m.2 (tmOf e.2.2)):=by
 unfold J86 J0h
 congr 1
 conv=>lhs;rw [← Jhy he hw]
 exact J9m hw m.2 (tmOf e.2.2)
theorem Jp0 {wd W:Nat} {N:Int} (hw:wd≤3) (hw1:1≤wd) {m:Mk} {s:WS} {e:Ed} (h:J2g W N s.has) (hc:msgs s.has≤1000000) (hz:∀ L ∈ s.has,∀ e ∈ L,ZW wd e.1.2) (hm:ZW wd m.2) (he:e.2.2.length=wd):J4x W (J0h wd m) (toRW wd s) e=toRW wd (J20 W m s e):=by
 unfold J4x J20
 show (if e.1=m.1 then _ else _)=_
 by_cases h1:e.1=m.1
 ·rw [if_pos h1,if_pos h1]
  show (if numP s.script ((W:Int)+1)=0 then _ else _)=_
  by_cases h0:numP s.script ((W:Int)+1)=0
  ·rw [if_pos h0,if_pos h0];rfl
  rw [if_neg h0,if_neg h0]
  have hr:=J3q s.script (show (1:Int)≤(W:Int)+1 by omega)
  have hj:(numP s.script ((W:Int)+1) - 1).toNat<s.has.length:=by rw [h.len];omega
  show RW.mk _ _ _ _=RW.mk _ _ _ _
  rw [Jmf hw m he]
  congr 1
  ·show (s.has.map (J2b wd)).set (numP s.script ((W:Int)+1) - 1).toNat (putR _ false ((s.has.map (J2b wd)).getD (numP s.script ((W:Int)+1) - 1).toNat []))=_
   generalize (numP s.script ((W:Int)+1) - 1).toNat=j at *
   rw [J2y (J2b wd) s.has j [] [] rfl,Jfz hw hw1 (h.pos _ (J0i hj [])) (hz _ (J0i hj [])) (by have:=J1d hj;omega) (Jcs hm (Jd6 he)),List.map_set]
  simp [J8t,toRW];rfl
 rw [if_neg h1,if_neg h1]
theorem Jjn {wd W:Nat} {N:Int} (hw:wd≤3) (hw1:1≤wd) {m:Mk} (hm:ZW wd m.2):∀ (E:List Ed) (s:WS),J2g W N s.has→msgs s.has+s.script.length≤1000000→(∀ L ∈ s.has,∀ e ∈ L,ZW wd e.1.2)→(∀ e ∈ E,(0≤e.2.1∧e.2.1<N)∧e.2.2.length=wd)→E.foldl (J4x W (J0h wd m)) (toRW wd s)=toRW wd (E.foldl (J20 W m) s)
 | [],_,_,_,_,_=>rfl
 | e::E,s,h,hc,hz,he=>by
  have he0:=he e Y03
  have h1:=Jcf (m:=m) h (by omega) he0.1
  have hz1:=(Jay (P:=fun m=>ZW wd m.2) (W:=W) hm [e] (fun m' x hm' hx=>by rw [Y11.1 hx];exact Jcs hm' (Jd6 he0.2)) { s with note:=[] } hz (fun e he=>by cases he)).1
  have hz2:∀ L ∈ (J20 W m s e).has,∀ e ∈ L,ZW wd e.1.2:=by
   have e1:(J20 W m { s with note:=[] } e).has=(J20 W m s e).has:=by unfold J20;split<;>(try split)<;>rfl
   rw [← e1];exact hz1
  rw [List.foldl_cons,List.foldl_cons,Jp0 hw hw1 h (by omega) hz hm he0.2]
  exact Jjn hw hw1 hm E _ h1.has (by have:=h1.msg;omega) hz2 (fun x hx=>he x (Y04 _ hx))
theorem LOk.enter {wd:Nat} {L:Led} (h:LOk wd L) {m:Mk} (hm:ZW wd m.2) (n:Int):LOk wd (J0j L m n) :=
 ⟨J1n m n h.nodup,Jgu h.nodup h.nz m n,J5p (P:=fun m=>ZW wd m.2) h.zw hm n⟩
theorem Jih {wd:Nat} (hw:wd≤3) (hw1:1≤wd):∀ (note:Note) {L:Led},LOk wd L→(∀ x ∈ note,ZW wd x.1.2∧(x.2=1∨x.2=-1))→allR (J11 wd L) (J8t wd note)=J11 wd (J2h L note)
 | [],_,_,_=>rfl
 | x::note,L,h,hx=>by
  obtain ⟨h1,h2⟩:=hx x Y03
  show allR (J0z (J0h wd x.1) x.2 false (J11 wd L)) (J8t wd note)=J11 wd (J2h (J0j L x.1 x.2) note)
  rw [J92 hw hw1 h h1 (by rcases h2 with h2 | h2<;>rw [h2]<;>decide) (by rcases h2 with h2 | h2<;>rw [h2]<;>decide)]
  exact Jih hw hw1 note (h.enter h1 x.2) (fun y hy=>hx y (Y04 _ hy))
theorem Jiw {ns:List (List (List Note))} {W i k:Nat} (h:ns.length=W∧∀ r ∈ ns,r.length=W) (hi:i<W) (hk:k<W) (q:List Note) (b a:Nat):qOf (putQ ns i k q) b a=if b=i∧a=k then q else qOf ns b a:=by
 unfold qOf putQ
 by_cases hb:i=b
 ·subst hb
  rw [J0o _ _ _ _ (by rw [h.1];exact hi)]
  by_cases ha:k=a
  ·subst ha
   rw [J0o _ _ _ _ (by rw [h.2 _ (J0i (by rw [h.1];exact hi) [])];exact hk),if_pos ⟨rfl,rfl⟩]
  rw [getD_set_ne _ _ _ ha,if_neg (fun h=>ha h.2.symm)]
 rw [getD_set_ne _ _ _ hb,if_neg (fun h=>hb h.1.symm)]
theorem Jj2 {ns:List (List (List Note))} {W i:Nat} (note:Note) (h:ns.length=W∧∀ r ∈ ns,r.length=W) (hi:i<W):∀ n,n≤W→∀ b a,qOf ((List.range n).foldl (J0y i note) ns) b a=if a=i∧b<n∧b≠i then qOf ns b a++[note] else qOf ns b a
 | 0,_,b,a=>by rw [if_neg (by omega)];rfl
 | n+1,hn,b,a=>by
  have ih:=Jj2 note h hi n (by omega)
  have hl:=(J8o (P:=fun _=>True) (note:=note) hi h (fun _ _ _ _ _ _=>trivial) trivial n (by omega)).len
  rw [List.range_succ,List.foldl_append]
  generalize (List.range n).foldl (J0y i note) ns=ns1 at *
  simp only [List.foldl_cons,List.foldl_nil,J0y]
  by_cases hni:n=i
  ·rw [if_pos hni,ih]
   by_cases hc:a=i∧b<n∧b≠i
   ·rw [if_pos hc,if_pos (by omega)]
   rw [if_neg hc,if_neg (by omega)]
  rw [if_neg hni]
  show qOf (putQ ns1 n i (qOf ns1 n i++[note])) b a=_
  rw [Jiw hl (by omega) hi,ih,ih]
  by_cases hb:b=n∧a=i
  ·obtain ⟨rfl,rfl⟩:=hb
   rw [if_pos ⟨rfl,rfl⟩,if_neg (by omega),if_pos (by omega)]
  rw [if_neg hb]
  by_cases hc:a=i∧b<n∧b≠i
  ·rw [if_pos hc,if_pos (by omega)]
  rw [if_neg hc,if_neg (by omega)]
theorem Jq9 {E:List Ed} {N c:Int} {note:Note} (h:J56 E N c note):∀ x ∈ note,x.2=1∨x.2=-1:=by
 obtain ⟨m,rest,rfl,_,h3⟩:=h
 intro e he
 rcases Yz1.1 he with he | he
 ·subst he;exact .inr rfl
 exact .inl (h3 e he).1
theorem Jql {W:Nat} {m:Mk} {s:WS} {e:Ed} (h:∀ x ∈ s.note,x.2=1∨x.2=-1):∀ x ∈ (J20 W m s e).note,x.2=1∨x.2=-1:=by
 unfold J20
 split
 ·split
  ·exact h
  intro x hx
  rcases Y0m.1 hx with hx | hx
  ·exact h x hx
  rw [Y11.1 hx];exact .inl rfl
 exact h
theorem Jjq {W:Nat} {m:Mk} : ∀ (E:List Ed) (s:WS),(∀ x ∈ s.note,x.2=1∨x.2=-1)→∀ x ∈ (E.foldl (J20 W m) s).note,x.2=1∨x.2=-1
 | [],_,h=>h
 | _::E,_,h=>Jjq E _ (Jql h)
structure Jhf (wd W:Nat) (N:Int) (st:St):Prop where
 inv:Inv W N st
 msg:msgs st.has+st.script.length≤1000000
 zw:AllM (fun m=>ZW wd m.2) st
 nz:∀ L ∈ st.led,∀ e ∈ L,e.2≠0
 pm:∀ r ∈ st.notes,∀ q ∈ r,∀ p ∈ q,∀ x ∈ p,x.2=1∨x.2=-1
theorem Jhf.led {wd W:Nat} {N:Int} {st:St} (h:Jhf wd W N st) {i:Nat} (hi:i<W):LOk wd (st.ledOf i):=by
 have hm:st.ledOf i ∈ st.led:=J0i (by rw [h.inv.llen];exact hi) []
 exact ⟨(h.inv.ledN _ hm).1,h.nz _ hm,h.zw.led _ hm⟩
theorem RS.eq {a b:RS} (h1:a.held=b.held) (h2:a.led=b.led) (h3:a.nts=b.nts) (h4:a.script=b.script) (h5:a.works=b.works) (h6:a.sent=b.sent) (h7:a.took=b.took):a=b:=by
 cases a;cases b;simp only at h1 h2 h3 h4 h5 h6 h7;subst h1 h2 h3 h4 h5 h6 h7;rfl
theorem Jnx {wd W:Nat} {N:Int} {E:List Ed} {st:St} (hw:wd≤3) (hw1:1≤wd) (h:Jhf wd W N st) (hE:∀ e ∈ E,(0≤e.2.1∧e.2.1<N)∧e.2.2.length=wd) {i:Nat} (hi:i<W) {m:Mk} (hm:∃ v,(m,v) ∈ st.hasOf i):Jb1 E W (toR wd st) i (J0h wd m)=toR wd (J33 E W st i m):=by
 obtain ⟨v,hv⟩:=hm
 have hil:i<st.has.length:=by rw [h.inv.has.len];exact hi
 have hmem:=J0i hil ([]:Led)
 have hle:=J1d hil
 have hPos:=h.inv.has.pos _ hmem
 have hmg:=h.msg
 have hzm:ZW wd m.2:=h.zw.has _ hmem _ hv
 obtain ⟨g1,g2⟩:=hPos.enterN (m:=m) hv (by omega)
 have hgv:0<getL (st.has.getD i []) m:=by rw [J2e (v:=v) hPos.nodup hv];have:=hPos.pos _ hv;simp only at this;omega
 have hmn:J1k N m:=h.inv.has.node _ hmem _ hv
 have hms:=J51 (J0j (st.has.getD i []) m (-1)) hil
 have h0:J2g W N (st.has.set i (J0j (st.hasOf i) m (-1))):=h.inv.has.set i g1 (fun x hx=>by
  rcases J1j hx with hx | hx
  ·rw [hx];exact hmn
  exact h.inv.has.node _ hmem x hx)
 have e0:RW.mk ((toR wd st).held.set i (J0w (J0h wd m) false ((toR wd st).held.getD i []))) (toR wd st).script (toR wd st).sent [(J0h wd m,-1)]=toRW wd ⟨st.has.set i (J0j (st.hasOf i) m (-1)),st.script,st.sent,[(m,-1)]⟩:=by
  show RW.mk ((st.has.map (J2b wd)).set i (J0w (J0h wd m) false ((st.has.map (J2b wd)).getD i []))) _ _ _=RW.mk _ _ _ _
  rw [J2y (J2b wd) st.has i [] [] rfl,Je7 hw hw1 hPos (h.zw.has _ hmem) (by omega) hzm hgv,List.map_set];rfl
 have eW:J4z E W (toR wd st) i (J0h wd m)=toRW wd (J4w E W st i m):=by
  unfold J4z J4w
  rw [e0]
  refine Jjn (N:=N) hw hw1 hzm E _ h0 ?_ (J85 (P:=fun m=>ZW wd m.2) h.zw.has (J5p (P:=fun m=>ZW wd m.2) (h.zw.has _ hmem) hzm (-1))) hE
  have e1:st.has.getD i []=st.hasOf i:=rfl
  rw [e1] at hms g2 hle
  simp only;omega
 have hn1:=(Jay (P:=fun m=>ZW wd m.2) (W:=W) hzm E (fun m' e hm' he=>Jcs hm' (Jd6 (hE e he).2)) ⟨st.has.set i (J0j (st.hasOf i) m (-1)),st.script,st.sent,[(m,-1)]⟩ (J85 (P:=fun m=>ZW wd m.2) h.zw.has (J5p (P:=fun m=>ZW wd m.2) (h.zw.has _ hmem) hzm (-1))) (fun e he=>by rw [Y11.1 he];exact hzm)).2
 have hn2:=Jjq (W:=W) (m:=m) E ⟨st.has.set i (J0j (st.hasOf i) m (-1)),st.script,st.sent,[(m,-1)]⟩ (fun x hx=>by rw [Y11.1 hx];exact .inr rfl)
 have hal:=Jih hw hw1 (J4w E W st i m).note (h.led hi) (fun x hx=>⟨hn1 x hx,hn2 x hx⟩)
 refine RS.eq ?_ ?_ ?_ ?_ rfl ?_ rfl
 ·show (J4z E W (toR wd st) i (J0h wd m)).held=_
  rw [eW];rfl
 ·show (st.led.map (J11 wd)).set i (allR ((st.led.map (J11 wd)).getD i []) (J4z E W (toR wd st) i (J0h wd m)).note)=(st.led.set i (J2h (st.ledOf i) (J4w E W st i m).note)).map (J11 wd)
  rw [eW,J2y (J11 wd) st.led i [] [] rfl,List.map_set]
  exact congrArg _ hal
 ·show J88 i (J4z E W (toR wd st) i (J0h wd m)).note W (toR wd st).nts=fun a b=>(qOf (J9l W i (J4w E W st i m).note st.notes) b a).map (J8t wd)
  rw [eW]
  funext a b
  unfold J9l
  rw [Jj2 _ h.inv.nlen hi W (Y0e _)]
  unfold J88
  by_cases hc:a=i∧b<W∧b≠i
  ·rw [if_pos hc,if_pos hc,List.map_append];rfl
  rw [if_neg hc,if_neg hc];rfl
 ·show (J4z E W (toR wd st) i (J0h wd m)).script=_
  rw [eW];rfl
 show (J4z E W (toR wd st) i (J0h wd m)).sent=_
 rw [eW];rfl
theorem Jo1 {wd W:Nat} {N:Int} {st:St} (hw:wd≤3) (hw1:1≤wd) (h:Jhf wd W N st) {i k:Nat} (hi:i<W) (hk:k<W):Jo2 (toR wd st) i k=toR wd (J9g st i k):=by
 have hq1:=J9k (P:=fun p=>∀ x ∈ p,ZW wd x.1.2) (i:=i) (k:=k) h.zw.notes
 have hq2:=J9k (P:=fun p=>∀ x ∈ p,x.2=1∨x.2=-1) (i:=i) (k:=k) h.pm
 have hd:((toR wd st).nts k i).headD []=J8t wd ((st.queue i k).headD []):=by
  show ((st.queue i k).map (J8t wd)).headD []=_
  cases st.queue i k<;>rfl
 have hal:=Jih hw hw1 ((st.queue i k).headD []) (h.led hi) (fun x hx=>by
  have e:qOf st.notes i k=st.queue i k:=rfl
  rw [e] at hq1 hq2
  cases hq:st.queue i k with
  | nil=>rw [hq] at hx;cases hx
  | cons n q=>rw [hq] at hx hq1 hq2;exact ⟨hq1 n Y03 x hx,hq2 n Y03 x hx⟩)
 refine RS.eq rfl ?_ ?_ rfl rfl rfl rfl
 ·show (st.led.map (J11 wd)).set i (allR ((st.led.map (J11 wd)).getD i []) (((toR wd st).nts k i).headD []))=(st.led.set i (J2h (st.ledOf i) ((st.queue i k).headD []))).map (J11 wd)
  rw [hd,J2y (J11 wd) st.led i [] [] rfl,List.map_set]
  exact congrArg _ hal
 funext a b
 show upQ (toR wd st).nts k i ((toR wd st).nts k i).tail a b=(qOf (putQ st.notes i k (st.queue i k).tail) b a).map (J8t wd)
 rw [Jiw h.inv.nlen hi hk]
 unfold upQ
 by_cases hc:a=k∧b=i
 ·rw [if_pos hc,if_pos ⟨hc.2,hc.1⟩,List.map_tail];rfl
 rw [if_neg hc,if_neg (fun h=>hc ⟨h.2,h.1⟩)];rfl
theorem J5m {α β:Type} {f g:α→List β} : ∀ {l:List α},(∀ a ∈ l,f a=g a)→l.flatMap f=l.flatMap g
 | [],_=>rfl
 | a::l,h=>by rw [List.flatMap_cons,List.flatMap_cons,h a Y03,J5m (fun b hb=>h b (Y04 _ hb))]
theorem Jmv {wd W:Nat} {N:Int} {st:St} (hw:wd≤3) (hw1:1≤wd) (h:Jhf wd W N st):J44 W (toR wd st)=(J28 W st).map (mvT wd):=by
 unfold J44 J28
 rw [List.map_append,List.map_flatMap,List.map_flatMap]
 congr 1
 ·refine J5m (fun i hi=>?_)
  have hil:i<st.has.length:=by rw [h.inv.has.len];exact Y12.1 hi
  have hmem:=J0i hil ([]:Led)
  show (J35 none ((st.has.map (J2b wd)).getD i [])).map _=_
  rw [J2y (J2b wd) st.has i [] [] rfl,Jmh hw hw1 (h.inv.has.pos _ hmem) (h.zw.has _ hmem),List.map_map,List.map_map];rfl
 refine J5m (fun i _=>?_)
 rw [List.map_flatMap]
 refine J5m (fun k _=>?_)
 show (if (st.queue i k).map (J8t wd)=[] then _ else _)=_
 by_cases hq:st.queue i k=[]
 ·rw [if_pos hq,if_pos (by rw [hq];rfl)];rfl
 rw [if_neg hq,if_neg (by simpa using hq)];rfl
theorem Jo5 {wd W:Nat} {N:Int} {E:List Ed} {st:St} (hw:wd≤3) (hw1:1≤wd) (h:Jhf wd W N st) (hE:∀ e ∈ E,(0≤e.2.1∧e.2.1<N)∧e.2.2.length=wd):J60 E W (toR wd st)=(J2j E W st).map (toR wd):=by
 unfold J60 J2j
 rw [Jmv hw hw1 h]
 cases hm:J28 W st with
 | nil=>rfl
 | cons a l=>?_
 rw [List.map_cons]
 show some (Jg8 E W (toR wd { st with script:=st.script.tail }) ((mvT wd a::l.map (mvT wd)).getD (numP st.script (((l.map (mvT wd)).length:Int)+1)).toNat (mvT wd a)))=some (toR wd (Jkv E W { st with script:=st.script.tail } ((a::l).getD (numP st.script ((l.length:Int)+1)).toNat a)))
 rw [Y0g,← List.map_cons,J2y (mvT wd) (a::l) _ a (mvT wd a) rfl]
 generalize hmv:(a::l).getD (numP st.script ((l.length:Int)+1)).toNat a=mv
 have hmem:mv ∈ J28 W st:=by rw [hm];exact J49 Y03 hmv
 have hok:=(J6w hmem).script st.script.tail
 have h2:Jhf wd W N { st with script:=st.script.tail }:=⟨⟨h.inv.has,h.inv.llen,h.inv.nlen,h.inv.ledN,h.inv.noteN⟩,by have:=h.msg;simp only [List.length_tail];omega,⟨h.zw.has,h.zw.led,h.zw.notes⟩,h.nz,h.pm⟩
 congr 1
 cases mv with
 | take i k=>exact Jo1 hw hw1 h2 hok.1 hok.2.1
 | work i m=>exact Jnx hw hw1 h2 hE hok.1 hok.2
theorem Fit.simOk {p:Plan} {ways:Ways} (h:Fit p ways) {script:List Int} (hs:script.length≤300) (n:Nat):Jhf p.Wd.toNat p.workers.toNat p.N (stAt p script n):=by
 have hh:=h.here hs n
 refine ⟨hh.reach.inv,?_,h.zw hs n,fun L hL e he=>(hh.know.ledT L hL e he).2,fun r hr q hq p hp=>Jq9 (hh.know.noteU r hr q hq p hp)⟩
 have:=hh.reach.phi
 unfold phi at this
 omega
theorem Fit.edges {p:Plan} {ways:Ways} (h:Fit p ways):∀ e ∈ p.E,(0≤e.2.1∧e.2.1<p.N)∧e.2.2.length=p.Wd.toNat:=fun e he=>⟨(h.in_ e he).2.1,h.wide he⟩
theorem Fit.step {p:Plan} {ways:Ways} (h:Fit p ways) {script:List Int} (hs:script.length≤300) (n:Nat):J60 p.E p.workers.toNat (toR p.Wd.toNat (stAt p script n))=(J2j p.E p.workers.toNat (stAt p script n)).map (toR p.Wd.toNat) :=
 Jo5 (by have:=h.Wd;omega) (by have:=h.Wd;omega) (h.simOk hs n) h.edges
def J2n (hs:List (List RM)) (m:Msg):List (List RM):=hs.set m.2.toNat (putR m.1 false (hs.getD m.2.toNat []))
def J7e (W:Nat) (ms:List Msg):List (List RM):=ms.foldl J2n (List.replicate W [])
def J4h (ms:List Msg):List Msg:=ms.foldl (fun l m=>J0z m.1 1 false l) []
def Jha (W:Nat) (ms:List Msg) (script:List Int):RS:=⟨J7e W ms,List.replicate W (J4h ms),fun _ _=>[],script,0,0,0⟩
theorem Jdp {wd:Nat} (hw:wd≤3) {m:Msg} (h:m.1.2.length=wd):J0h wd (J0v m)=m.1:=by
 unfold J0h J0v
 exact Prod.ext rfl (Jhy h hw)
theorem Jgb {wd:Nat} (hw:wd≤3) (hw1:1≤wd):∀ (ms:List Msg) (L:Led),LOk wd L→(∀ m ∈ ms,m.1.2.length=wd)→ms.foldl (fun l m=>J0z m.1 1 false l) (J11 wd L)=J11 wd (ms.foldl (fun L m=>J0j L (J0v m) 1) L)∧LOk wd (ms.foldl (fun L m=>J0j L (J0v m) 1) L)
 | [],_,h,_=>⟨rfl,h⟩
 | m::ms,L,h,hm=>by
  have h1:=hm m Y03
  have hz:ZW wd (J0v m).2:=Jd6 h1
  rw [List.foldl_cons,List.foldl_cons]
  conv=>lhs;lhs;arg 2;rw [← Jdp hw h1]
  rw [J92 hw hw1 h hz (by decide) (by decide)]
  exact Jgb hw hw1 ms _ (h.enter hz 1) (fun x hx=>hm x (Y04 _ hx))
theorem Jc4 {wd W:Nat} {N:Int} (hw:wd≤3) (hw1:1≤wd):∀ (ms:List Msg) (has:List Led),J2g W N has→msgs has+ms.length≤1000→(∀ L ∈ has,∀ e ∈ L,ZW wd e.1.2)→(∀ m ∈ ms,m.1.2.length=wd∧J1k N (J0v m)∧m.2.toNat<W)→ms.foldl J2n (has.map (J2b wd))=(ms.foldl J2c has).map (J2b wd)
 | [],_,_,_,_,_=>rfl
 | m::ms,has,h,hc,hz,hm=>by
  obtain ⟨h1,h2,h3⟩:=hm m Y03
  have hj:m.2.toNat<has.length:=by rw [h.len];exact h3
  have hmem:=J0i hj ([]:Led)
  have hzm:ZW wd (J0v m).2:=Jd6 h1
  have hle:=J1d hj
  rw [Y0z] at hc
  obtain ⟨g1,g2⟩:=(h.pos _ hmem).enter1 (J0v m) (by omega)
  have hms:=J51 (J0j (has.getD m.2.toNat []) (J0v m) 1) hj
  rw [List.foldl_cons,List.foldl_cons]
  have e1:J2n (has.map (J2b wd)) m=(J2c has m).map (J2b wd):=by
   unfold J2n J2c
   rw [J2y (J2b wd) has m.2.toNat [] [] rfl,List.map_set]
   congr 1
   conv=>lhs;arg 1;rw [← Jdp hw h1]
   exact Jfz hw hw1 (h.pos _ hmem) (hz _ hmem) (by omega) hzm
  rw [e1]
  refine Jc4 (N:=N) hw hw1 ms _ (h.set _ g1 (fun x hx=>?_)) ?_ (J85 (P:=fun m=>ZW wd m.2) hz (J5p (P:=fun m=>ZW wd m.2) (hz _ hmem) hzm 1)) (fun x hx=>hm x (Y04 _ hx))
  ·rcases J1j hx with hx | hx
   ·rw [hx];exact h2
   exact h.node _ hmem x hx
  show msgs (has.set _ _)+ms.length≤1000
  omega
theorem Fit.begin {p:Plan} {ways:Ways} (h:Fit p ways) (script:List Int):Jha p.workers.toNat p.start script=toR p.Wd.toNat (J0s p.workers.toNat p.start script):=by
 have hw:p.Wd.toNat≤3:=by have:=h.Wd;omega
 have hw1:1≤p.Wd.toNat:=by have:=h.Wd;omega
 have h0:J2g p.workers.toNat p.N (List.replicate p.workers.toNat []):=⟨by simp,fun L hL=>by rw [List.eq_of_mem_replicate hL];exact ⟨List.nodup_nil,fun e he=>by cases he⟩,fun L hL=>by rw [List.eq_of_mem_replicate hL];exact fun e he=>by cases he⟩
 have hm0:msgs (List.replicate p.workers.toNat ([]:Led))=0:=J46 _ _ (fun L hL=>by rw [List.eq_of_mem_replicate hL];rfl)
 refine RS.eq ?_ ?_ ?_ rfl rfl rfl rfl
 ·have:=Jc4 (N:=p.N) hw hw1 p.start _ h0 (by rw [hm0];have:=h.S8;omega) (fun L hL e he=>by rw [List.eq_of_mem_replicate hL] at he;cases he) (fun m hm=>⟨Jat (h.msg m hm),J5f (h.msg m hm),by
   have hk:=h.msg m hm
   simp only [J3g,Y0x,Y0y] at hk
   omega⟩)
  rw [List.map_replicate] at this
  exact this
 ·show List.replicate p.workers.toNat (J4h p.start)=(List.replicate p.workers.toNat (J17 p.start)).map (J11 p.Wd.toNat)
  rw [List.map_replicate]
  congr 1
  exact (Jgb hw hw1 p.start [] ⟨List.nodup_nil,fun e he=>(by cases he),fun e he=>(by cases he)⟩ (fun m hm=>Jat (h.msg m hm))).1
 funext a b
 show []=(qOf (List.replicate p.workers.toNat (List.replicate p.workers.toNat [])) b a).map (J8t p.Wd.toNat)
 have:qOf (List.replicate p.workers.toNat (List.replicate p.workers.toNat ([]:List Note))) b a=[]:=by
  unfold qOf
  simp only [Y01,List.getElem?_replicate]
  split
  ·simp only [Option.getD_some,List.getElem?_replicate];split<;>rfl
  rfl
 rw [this];rfl
def J1s (l:List Msg):List RM:=(l.filter fun x=>decide (0<x.2)).map (·.1)
def J37 (L:Led):List Mk:=((ledM L).filter fun x=>decide (0<x.2)).map (·.1)
theorem Jh8 (wd:Nat) (L:Led):J1s (J11 wd L)=(J37 L).map (J0h wd):=by
 rw [J9p]
 unfold J1s J37
 rw [List.filter_map,List.map_map,List.map_map];rfl
theorem Jlp {L:Led} (h:(L.map (·.1)).Nodup) (hz:∀ e ∈ L,e.2≠0) (x:Mk):x ∈ J37 L↔x ∈ posL L:=by
 rw [Jj5 h]
 unfold J37
 simp only [Yz4,List.mem_filter,Y0y]
 constructor
 ·rintro ⟨e,⟨h1,h2⟩,rfl⟩
  rw [((J64 h hz e).1 h1).1];exact h2
 intro hx
 exact ⟨(x,getL L x),⟨(J64 h hz _).2 ⟨rfl,by simp only;omega⟩,hx⟩,rfl⟩
theorem Jgi (n:Nat) (ways:Ways) {xs ys:List Mk} (h:∀ x,x ∈ xs↔x ∈ ys):J1u n ways xs=J1u n ways ys:=by
 unfold J1u
 refine List.map_congr_left (fun k _=>Jca (fun x=>?_))
 unfold rowP
 simp only [List.mem_flatMap,h]
theorem Jh9 {N:Int} {st:St} (ways:Ways) {who:Nat} (h:((st.ledOf who).map (·.1)).Nodup) (hz:∀ e ∈ st.ledOf who,e.2≠0):J1u N.toNat ways (J37 (st.ledOf who))=J3t N ways st who:=Jgi _ _ (Jlp h hz)
theorem Jod {N Wd:Int} {E:List Ed} {ways:Ways} (h:openedP N Wd E=some ways) {m:Mk} (hm:0≤m.1∧m.1<N) {b:Nat} (hb:b<N.toNat):((J3e N.toNat E m.1.toNat N.toNat).getD b []).map (J0l m.2)=(J7p ways m.1 b).map (J0l m.2):=by
 rw [Jo3 h (show m.1.toNat<N.toNat by omega) hb]
 have e:((m.1.toNat:Nat):Int)=m.1:=by omega
 rw [e]
end Go.Proofs.YtbkfnmgkcgnifaaGreat.Mdl
namespace Go.Proofs.YtbkfnmgkcgnifaaGreat
open Go.RowKit Go.Shelf W1 W2 Mdl
abbrev rmV (m:RM) (sA:Option Addr) (sC:Nat):Value:=.agg #[.int .i64 m.1,.slice sA m.2.length sC]
theorem Jb3 (w:World) (a b:Array Value) (t:TypeId):∃ w2,(w.alloc (.cells a t)).alloc (.cells b t)=w2∧Below w.heap.size w w2∧w2.heap[w.heap.size]?=some (.cells a t (0,0))∧w2.heap[w.heap.size+1]?=some (.cells b t (0,0)):=by
 have h1:=J02 w (.cells a t)
 have h2:=J02 (w.alloc (.cells a t)) (.cells b t)
 have hs:(w.alloc (.cells a t)).heap.size=w.heap.size+1:=by simp
 refine ⟨_,rfl,J01 h1 h1.size h2,J04 (Y0c w _) h2,?_⟩
 have:=Y0c (w.alloc (.cells a t)) (.cells b t)
 rwa [hs] at this
theorem Jhd (m n:RM) (sA tA:Option Addr) (sC tC:Nat) (w:World) (hm:kI.C w sA m.2.length m.2) (hn:kI.C w tA n.2.length n.2) (hlen:m.2.length=n.2.length) :
  Calls Tryz.prog 108 #[rmV m sA sC,rmV n tA tC] w fun e w'=>e=.returned (.bool (J1h m n))∧Below w.heap.size w w':=by
 obtain ⟨x,l⟩:=m
 obtain ⟨y,r⟩:=n
 simp only at hm hn hlen
 have HF:=Y08 (fun W (hb:Below w.heap.size w W)=>Jgr sA tA sC tC l r W (Kd.c00 hm hb) (Kd.c00 hn hb) hlen)
 obtain ⟨w2,he,hb2,b0,b1⟩:=Jb3 w #[.int .i64 x,.slice sA l.length sC] #[.int .i64 y,.slice tA r.length tC] 57
 have c0:w2.cell? ⟨w.heap.size,0,none⟩=some (.int .i64 x):=J03 b0 0
 have c1:w2.cell? ⟨w.heap.size,1,none⟩=some (.slice sA l.length sC):=J03 b0 1
 have d0:w2.cell? ⟨w.heap.size+1,0,none⟩=some (.int .i64 y):=J03 b1 0
 have d1:w2.cell? ⟨w.heap.size+1,1,none⟩=some (.slice tA r.length tC):=J03 b1 1
 have HB:=Y00 hb2
 clear hm hn hlen b0 b1 hb2
 by_cases hxy:x=y
 ·have hf:(x != y)=false:=by simpa using hxy
  have HT:=Y08 (show J1h (x,l) (y,r)=J2z l r from if_pos hxy)
  clear hxy
  go_enter Tryz.func108,Tryz.ntmps108
  go_upto_region 1 with fail
  clear he
  go_wp2_with fail
  refine (HF.out _ HB.out).mono ?_
  rintro e w3 ⟨rfl,hb3⟩
  have HB3:=Y00 (J01 HB.out HB.out.size hb3)
  go_wp2_with fail
  go_ret
  exact ⟨by rw [HT.out];rfl,HB3.out⟩
 have hf:(x != y)=true:=by simpa using hxy
 have HT:=Y08 (show J1h (x,l) (y,r)=decide (x<y) from if_neg hxy)
 clear hxy
 go_enter Tryz.func108,Tryz.ntmps108
 go_upto_region 1 with fail
 clear he
 go_wp2_with fail
 go_ret
 exact ⟨by rw [HT.out];rfl,HB.out⟩
theorem Jeh (m n:RM) (sA tA:Option Addr) (sC tC:Nat) (w:World) (hm:kI.C w sA m.2.length m.2) (hn:kI.C w tA n.2.length n.2) :
  Calls Tryz.prog 109 #[rmV m sA sC,rmV n tA tC] w fun e w'=>e=.returned (.bool (decide (m=n)))∧Below w.heap.size w w':=by
 obtain ⟨x,l⟩:=m
 obtain ⟨y,r⟩:=n
 simp only at hm hn
 have HF:=Y08 (fun W (hb:Below w.heap.size w W)=>J73 sA tA sC tC l r W (Kd.c00 hm hb) (Kd.c00 hn hb))
 obtain ⟨w2,he,hb2,b0,b1⟩:=Jb3 w #[.int .i64 x,.slice sA l.length sC] #[.int .i64 y,.slice tA r.length tC] 57
 have c0:w2.cell? ⟨w.heap.size,0,none⟩=some (.int .i64 x):=J03 b0 0
 have c1:w2.cell? ⟨w.heap.size,1,none⟩=some (.slice sA l.length sC):=J03 b0 1
 have d0:w2.cell? ⟨w.heap.size+1,0,none⟩=some (.int .i64 y):=J03 b1 0
 have d1:w2.cell? ⟨w.heap.size+1,1,none⟩=some (.slice tA r.length tC):=J03 b1 1
 have HB:=Y00 hb2
 clear hm hn b0 b1 hb2
 by_cases hxy:x=y
 ·have hf:(x == y)=true:=by simpa using hxy
  have HT:=Y08 (show decide ((x,l)=(y,r))=decide (l=r) by rw [hxy];simp)
  clear hxy
  go_enter Tryz.func109,Tryz.ntmps109
  go_upto_region 1 with fail
  clear he
  go_wp2_with fail
  refine (HF.out _ HB.out).mono ?_
  rintro e w3 ⟨rfl,hb3⟩
  have HB3:=Y00 (J01 HB.out HB.out.size hb3)
  go_wp2_with fail
  go_ret
  exact ⟨by rw [HT.out];rfl,HB3.out⟩
 have hf:(x == y)=false:=by simpa using hxy
 have HT:=Y08 (show decide ((x,l)=(y,r))=false by simp [hxy])
 clear hxy
 go_enter Tryz.func109,Tryz.ntmps109
 go_upto_region 1 with fail
 clear he
 go_wp2_with fail
 go_ret
 exact ⟨by rw [HT.out];rfl,HB.out⟩
def FzAt (w0 wk:World) (u:Value) (l:List Int):Prop:=∃ A c,u=.slice A l.length c∧kI.C wk A l.length l∧l.length≤c∧∀ a,A=some a→l=[]∨a.block<w0.heap.size∨J0m wk a.block 3
theorem FzAt.one {w0 wk:World} {u:Value} {l:List Int} (h:FzAt w0 wk u l):u.oneCell'=true:=by
 obtain ⟨A,c,rfl,_⟩:=h;rfl
def kMF (w0 wk:World):Kd RM where
 sz:=2
 E:=[]
 K:=fun _ x cs=>∃ u,cs=[.int .i64 x.1,u]∧FzAt w0 wk u x.2
 M:=fun _ _ _ x cs=>∃ u,cs=[.int .i64 x.1,u]∧FzAt w0 wk u x.2
 K_len:=fun h=>by obtain ⟨u,rfl,_⟩:=h;rfl
 K_one:=fun h=>by
  obtain ⟨u,rfl,hf⟩:=h
  intro v hv
  rcases Yz1.1 hv with hv | hv
  ·rw [hv];rfl
  rw [Y11.1 hv];exact hf.one
 K_below:=fun _ h=>h
 K_of_M:=fun h=>h
 M_mono:=fun _ h=>h
 M_bound:=fun h=>h
 M_move:=fun _ h=>h
 M_lower:=fun _ h=>h
abbrev kCF (w0 wk:World):Kd Msg:=Kd.pair (kMF w0 wk) kI
theorem FzAt.below {w0 wk w':World} {u:Value} {l:List Int} (h:FzAt w0 wk u l) (hb:Below wk.heap.size wk w'):FzAt w0 w' u l:=by
 obtain ⟨A,c,rfl,h1,h2,h3⟩:=h
 refine ⟨A,c,rfl,Kd.c00 h1 hb,h2,fun a ha=>?_⟩
 rcases h3 a ha with h | h | ⟨cs,h⟩
 ·exact .inl h
 ·exact .inr (.inl h)
 exact .inr (.inr ⟨cs,J04 h hb⟩)
theorem Jni {w w':World} {a:Addr} (h:w'.heap[a.block]?=w.heap[a.block]?):w'.cell? a=w.cell? a:=by
 unfold World.cell?
 rw [h]
theorem Jhe (a:Addr) (j:Nat):(a.add j).block=a.block:=by unfold Addr.add;split<;>rfl
theorem Js1 {wk w':World} {A:Option Addr} {n:Nat} {l:List Int} (h:kI.C wk A n l) (hs:∀ a,A=some a→l=[]∨w'.heap[a.block]?=wk.heap[a.block]?):kI.C w' A n l :=
 ⟨h.1,h.2.1,fun hn=>by
  obtain ⟨ad,e,hc⟩:=h.2.2 hn
  have hb:w'.heap[ad.block]?=wk.heap[ad.block]?:=by
   rcases hs ad e with h0 | h0
   ·rw [h0] at h;have:=h.1;simp at this;omega
   exact h0
  refine ⟨ad,e,fun j p hj=>?_⟩
  obtain ⟨c,hl,hr,hcell⟩:=hc j p hj
  exact ⟨c,hl,hr,fun i u hu=>(Jni (by rw [Jhe];exact hb)).trans (hcell i u hu)⟩⟩
theorem FzAt.kept {w0 wk w':World} {S:Nat→Prop} {u:Value} {l:List Int} (h:FzAt w0 wk u l) (h0:w0.heap.size≤wk.heap.size) (hk:Kept wk w' S) (hS:∀ k,S k→w0.heap.size≤k∧¬ J0m wk k 3):FzAt w0 w' u l:=by
 obtain ⟨A,c,rfl,h1,h2,h3⟩:=h
 have hsame:∀ a,A=some a→l=[]∨(w'.heap[a.block]?=wk.heap[a.block]?∧(a.block<w0.heap.size∨J0m wk a.block 3)):=fun a ha=>by
  rcases h3 a ha with h | h | h
  ·exact .inl h
  ·exact .inr ⟨hk.2 _ (by omega) (fun hs=>by have:=(hS _ hs).1;omega),.inl h⟩
  obtain ⟨cs,hc⟩:=h
  exact .inr ⟨hk.2 _ (J0q hc) (fun hs=>(hS _ hs).2 ⟨cs,hc⟩),.inr ⟨cs,hc⟩⟩
 refine ⟨A,c,rfl,Js1 h1 (fun a ha=>(hsame a ha).imp id (·.1)),h2,fun a ha=>?_⟩
 rcases hsame a ha with h | ⟨h,h' | ⟨cs,hc⟩⟩
 ·exact .inl h
 ·exact .inr (.inl h')
 exact .inr (.inr ⟨cs,h.trans hc⟩)
structure KdUp {α:Type} (d d':Kd α):Prop where
 sz:d.sz=d'.sz
 K:∀ {w x cs},d.K w x cs→d'.K w x cs
 M:∀ {w base ok x cs},d.M w base ok x cs→d'.M w base ok x cs
theorem KdUp.R {α:Type} {d d':Kd α} (h:KdUp d d') {e base:Nat} {w:World} {ok:Nat→Prop} {v:Value} {xs:List α} (hR:d.R e w base ok v xs):d'.R e w base ok v xs :=
 ⟨hR.1,by rw [← h.sz];exact hR.2.imp_ (fun _ _ hp=>h.M hp)⟩
theorem KdUp.C {α:Type} {d d':Kd α} (h:KdUp d d') {w:World} {A:Option Addr} {n:Nat} {xs:List α} (hC:d.C w A n xs):d'.C w A n xs:=by
 unfold Kd.C
 rw [← h.sz]
 exact J19.imp_ hC (Y0f _ _) (fun _ _ hp=>h.K hp)
theorem J6l {w0 wk wk':World} (hf:∀ u l,FzAt w0 wk u l→FzAt w0 wk' u l):KdUp (kMF w0 wk) (kMF w0 wk') :=
 ⟨rfl,fun ⟨u,h,hx⟩=>⟨u,h,hf _ _ hx⟩,fun ⟨u,h,hx⟩=>⟨u,h,hf _ _ hx⟩⟩
theorem KdUp.pair {α β:Type} {a a':Kd α} {b b':Kd β} (ha:KdUp a a') (hb:KdUp b b'):KdUp (Kd.pair a b) (Kd.pair a' b') :=
 ⟨by show a.sz+b.sz=a'.sz+b'.sz;rw [ha.sz,hb.sz],fun ⟨c0,c1,h,h0,h1⟩=>⟨c0,c1,h,ha.K h0,hb.K h1⟩,fun ⟨c0,c1,h,h0,h1⟩=>⟨c0,c1,h,ha.M h0,hb.M h1⟩⟩
theorem KdUp.rfl_ {α:Type} (d:Kd α):KdUp d d:=⟨rfl,id,id⟩
theorem J58 {w0 wk wk':World} (hf:∀ u l,FzAt w0 wk u l→FzAt w0 wk' u l):KdUp (kCF w0 wk) (kCF w0 wk'):=(J6l hf).pair (KdUp.rfl_ kI)
def FzUp (w0 wk wk':World):Prop:=∀ u l,FzAt w0 wk u l→FzAt w0 wk' u l
theorem FzUp.below {w0 wk wk':World} (hb:Below wk.heap.size wk wk'):FzUp w0 wk wk':=fun _ _ h=>h.below hb
theorem FzUp.kept {w0 wk w':World} {S:Nat→Prop} (h0:w0.heap.size≤wk.heap.size) (hk:Kept wk w' S) (hS:∀ k,S k→w0.heap.size≤k∧¬ J0m wk k 3):FzUp w0 wk w':=fun _ _ h=>h.kept h0 hk hS
theorem Jmx {w0 wk w:World} {A:Option Addr} {xs:List RM} (h:(kMF w0 wk).C w A xs.length xs) {k:Nat} (hk:k<xs.length) :
  ∃ ad sA sC,A=some ad∧w.cell? (ad.add (k*2))=some (.int .i64 xs[k].1)∧w.cell? ⟨(ad.add (k*2)).block,(ad.add (k*2)).off+1,none⟩=some (.slice sA xs[k].2.length sC)∧FzAt w0 wk (.slice sA xs[k].2.length sC) xs[k].2:=by
 obtain ⟨ad,c,rfl,hcl,⟨u,rfl,hf⟩,hcc⟩:=J19.get_ h (0,[]) (k:Int) (by omega) (by omega)
 rw [Y06] at hf hcc
 have e:xs.getD k (0,[])=xs[k]:=by rw [Y01,Y05 hk];rfl
 rw [e] at hf hcc
 obtain ⟨sA,sC,rfl,h1,h2,h3⟩:=hf
 have c1:=hcc 1 _ rfl
 rw [show (kMF w0 wk).sz=2 from rfl,J1i _ _ _ (by omega)] at c1
 exact ⟨ad,sA,sC,rfl,hcc 0 _ rfl,c1,⟨sA,sC,rfl,h1,h2,h3⟩⟩
end Go.Proofs.YtbkfnmgkcgnifaaGreat
namespace Go.Proofs.YtbkfnmgkcgnifaaGreat.Mdl
def J8z (m:RM) (g:Bool) (l:List RM):Bool:=g || l.any fun x=>decide (x=m)
theorem Jl5 (m:RM) (g:Bool) (l:List RM) (x:RM):J8z m g (l++[x])=(J8z m g l || decide (x=m)):=by simp [J8z,List.any_append,Bool.or_assoc]
theorem J5x (m x:RM):∀ (l:List RM) (g:Bool),J0w m g (l++[x])=J0w m g l++if (!J8z m g l&&decide (x=m))=true then [] else [x]
 | [],g=>by simp only [List.nil_append,J0w,J8z,List.any_nil,Bool.or_false]
 | y::l,g=>by
  simp only [List.cons_append,J0w]
  by_cases h:(!g&&decide (y=m))=true
  ·rw [if_pos h,if_pos h,J5x m x l true]
   congr 1
   simp only [Y0x,Bool.not_eq_true',Y0y] at h
   simp [J8z,h.1,h.2]
  rw [if_neg h,if_neg h,J5x m x l g]
  have e:J8z m g (y::l)=J8z m g l:=by
   cases g with
   | false=>simp only [Bool.not_false,Bool.true_and,Y0y] at h;simp [J8z,h]
   | true=>simp [J8z]
  rw [e];rfl
def putB (m:RM):Bool→List RM→List RM
 | _,[]=>[]
 | d,x::r=>if (!d&&J1h m x)=true then m::x::putB m true r else x::putB m d r
def J4y (m:RM) (d:Bool) (l:List RM):Bool:=d || l.any (J1h m)
theorem Jlg (m:RM) (d:Bool) (l:List RM) (x:RM):J4y m d (l++[x])=(J4y m d l || J1h m x):=by simp [J4y,List.any_append,Bool.or_assoc]
theorem Jbo (m:RM):∀ (l:List RM) (d:Bool),putR m d l=putB m d l++if J4y m d l=true then [] else [m]
 | [],d=>by simp [putR,putB,J4y]
 | x::r,d=>by
  simp only [putR,putB]
  by_cases h:(!d&&J1h m x)=true
  ·rw [if_pos h,if_pos h,Jbo m r true]
   simp only [Y0x] at h
   simp [J4y,h.2]
  rw [if_neg h,if_neg h,Jbo m r d]
  have e:J4y m d (x::r)=J4y m d r:=by
   cases d with
   | false=>simp only [Bool.not_false,Bool.true_and] at h;simp [J4y,h]
   | true=>simp [J4y]
  rw [e];rfl
theorem Jbp (m x:RM):∀ (l:List RM) (d:Bool),putB m d (l++[x])=putB m d l++if (!J4y m d l&&J1h m x)=true then [m,x] else [x]
 | [],d=>by simp only [List.nil_append,putB,J4y,List.any_nil,Bool.or_false]
 | y::l,d=>by
  simp only [List.cons_append,putB]
  by_cases h:(!d&&J1h m y)=true
  ·rw [if_pos h,if_pos h,Jbp m x l true]
   simp only [Y0x] at h
   simp [J4y,h.2]
  rw [if_neg h,if_neg h,Jbp m x l d]
  have e:J4y m d (y::l)=J4y m d l:=by
   cases d with
   | false=>simp only [Bool.not_false,Bool.true_and] at h;simp [J4y,h]
   | true=>simp [J4y]
  rw [e];rfl
def entB (m:RM) (n:Int):Bool→List Msg→List Msg
 | _,[]=>[]
 | d,x::r=>(if (!d&&J1h m x.1)=true then [(m,n)] else [])++((if entN m n x≠0 then [(x.1,entN m n x)] else [])++entB m n (d || J1h m x.1 || decide (m=x.1)) r)
def J9u (m:RM) (d:Bool) (l:List Msg):Bool:=d || l.any fun x=>J1h m x.1 || decide (m=x.1)
theorem Jlf (m:RM) (d:Bool) (l:List Msg) (x:Msg):J9u m d (l++[x])=(J9u m d l || J1h m x.1 || decide (m=x.1)):=by simp [J9u,List.any_append,Bool.or_assoc]
theorem Jdw (m:RM) (d:Bool) (x:Msg) (l:List Msg):J9u m d (x::l)=J9u m (d || J1h m x.1 || decide (m=x.1)) l:=by simp [J9u,Bool.or_assoc]
theorem J94 (m:RM) (n:Int):∀ (l:List Msg) (d:Bool),J0z m n d l=entB m n d l++if J9u m d l=true then [] else [(m,n)]
 | [],d=>by simp [J0z,entB,J9u]
 | x::r,d=>by
  simp only [J0z,entB]
  rw [J94 m n r,Jdw]
  simp only [Y0d]
theorem Jgv (m:RM) (n:Int) (x:Msg):∀ (l:List Msg) (d:Bool),entB m n d (l++[x])=entB m n d l++((if (!J9u m d l&&J1h m x.1)=true then [(m,n)] else [])++if entN m n x≠0 then [(x.1,entN m n x)] else [])
 | [],d=>by simp only [List.nil_append,entB,J9u,List.any_nil,Bool.or_false,List.append_nil]
 | y::l,d=>by
  simp only [List.cons_append,entB]
  rw [Jgv m n x l,Jdw]
  simp only [Y0d]
end Go.Proofs.YtbkfnmgkcgnifaaGreat.Mdl
namespace Go.Proofs.YtbkfnmgkcgnifaaGreat
open Go.RowKit Go.Shelf W1 W2 Mdl
theorem FzAt.C {w0 wk:World} {A:Option Addr} {c:Nat} {l:List Int} (h:FzAt w0 wk (.slice A l.length c) l):kI.C wk A l.length l:=by
 obtain ⟨A',c',he,h1,_⟩:=h
 injection he with e1 e2 e3
 subst e1
 exact h1
def J29 (w0 wk w:World) (o:Value) (xs:List RM) (wr:World):Prop:=(kMF w0 wk).R 57 wr w.heap.size (fun _=>True) o xs∧Below w.heap.size w wr
theorem J29.up {w0 wk w wr w1:World} {o:Value} {xs:List RM} (h:J29 w0 wk w o xs wr) (hb:Below wr.heap.size wr w1):J29 w0 wk w o xs w1:=⟨Kd.c01 h.1 hb,J01 h.2 h.2.size hb⟩
theorem J29.down {w0 wk w w1 wr:World} {o:Value} {xs:List RM} (h:J29 w0 wk w1 o xs wr) (hb:Below w.heap.size w w1):J29 w0 wk w o xs wr:=⟨Kd.c04 h.1 hb.size,J01 hb hb.size h.2⟩
theorem J29.start (w0 wk w:World):J29 w0 wk w (.slice (some ⟨w.heap.size,0,none⟩) 0 0) [] (w.alloc (.cells #[] 57)):=⟨Jcu (kMF w0 wk) 57 w.heap.size w (Y0e _),J02 w _⟩
theorem J6k (m:RM):∀ (l:List RM) (g:Bool),(J0w m g l).length≤l.length
 | [],_=>Y0e _
 | x::r,g=>by
  simp only [J0w]
  split
  ·have:=J6k m r true;simp;omega
  have:=J6k m r g;simp;omega
theorem Jhh (w0:World) (A:Option Addr) (cA:Nat) (l:List RM) (m:RM) (mA:Option Addr) (mC:Nat) (w:World) (hl:(kMF w0 w).C w A l.length l) (hm:FzAt w0 w (.slice mA m.2.length mC) m.2) (hn:l.length≤1000000) :
  Calls Tryz.prog 111 #[.slice A l.length cA,rmV m mA mC] w fun e w'=>∃ v,e=.returned v∧J29 w0 w w v (J0w m false l) w':=by
 have HL:=Y00 hl
 have HM:=Y00 hm
 have hb0:=J02 w (.cells #[.int .i64 m.1,.slice mA m.2.length mC] 57)
 have hblk:=Y0c w (.cells #[.int .i64 m.1,.slice mA m.2.length mC] 57)
 have c0:(w.alloc (.cells #[.int .i64 m.1,.slice mA m.2.length mC] 57)).cell? ⟨w.heap.size,0,none⟩=some (.int .i64 m.1):=J03 hblk 0
 have c1:(w.alloc (.cells #[.int .i64 m.1,.slice mA m.2.length mC] 57)).cell? ⟨w.heap.size,1,none⟩=some (.slice mA m.2.length mC):=J03 hblk 1
 have HB:=Y00 hb0
 clear hl hm hb0 hblk
 go_enter Tryz.func111,Tryz.ntmps111
 go_upto_region 1 with fail
 generalize w.alloc (.cells #[.int .i64 m.1,.slice mA m.2.length mC] 57)=w1 at *
 have HC:=Y00 (Y07 c0 c1)
 clear c0 c1
 go_wp2_with fail
 have HO:=Y00 (J29.start w0 w w1)
 generalize w1.alloc (.cells #[] 57)=w2 at *
 go_loopw [5,6,7] (fun o g i wr=>∃ k:Nat,i=.int .i64 k∧g=.bool (J8z m false (l.take k))∧k≤l.length∧J08 (J29 w0 w w1 o (J0w m false (l.take k)) wr)) (fun _ _ i _=>l.length - (intOf i).toNat)
 case atStart=>exact ⟨0,rfl,rfl,Yz3 _,HO⟩
 clear HO
 obtain ⟨k,rfl,rfl,hk,hX⟩:=hrel
 by_cases hlt:k<l.length
 rotate_left
 ·have hkE:¬ ((k:Int)<l.length):=by omega
  have HZ:=Y00 (show J29 w0 w w1 _ (J0w m false l) wr by have h:=hX.out;rwa [Y0t (by omega)] at h)
  clear hX
  go_wp2_with fail
  go_ret
  exact ⟨_,rfl,HZ.out.down HB.out⟩
 have hkE:(k:Int)<l.length:=by omega
 have hk0:(0:Int)≤k:=by omega
 obtain ⟨ad,sA,sC,rfl,e0,e1,hf⟩:=Jmx HL.out hlt
 have HT:=Y08 (Y0u hlt)
 generalize l[k]=x at *
 have HSM:=Y08 (fun W (hb:Below w.heap.size w W)=>Jeh x m sA mA sC mC W (Kd.c00 hf.C hb) (Kd.c00 HM.out.C hb))
 have HXC:=Y00 (Y07 e0 (Y07 e1 hf))
 have e0:=J00 (J01 HB.out HB.out.size hX.out.2) e0
 have e1:=J00 (J01 HB.out HB.out.size hX.out.2) e1
 have m0:=J00 hX.out.2 HC.out.1
 have m1:=J00 hX.out.2 HC.out.2
 have HW:=Y08 (J5x m x (l.take k) false)
 have HGN:=Y08 (Jl5 m false (l.take k) x)
 have HPL:=Y08 (show (J0w m false (l.take k)).length≤1000000 by have:=J6k m (l.take k) false;rw [Y0o] at this;omega)
 generalize J0w m false (l.take k)=pre at *
 generalize J8z m false (l.take k)=b at *
 cases b with
 | true =>
  go_upto_region 5 with fail
  refine sr1 10 (fun w'=>w'.cell? (ad.add (k*2))=some (.int .i64 x.1)∧w'.cell? ⟨(ad.add (k*2)).block,(ad.add (k*2)).off+1,none⟩=some (.slice sA x.2.length sC)∧w'.cell? ⟨w.heap.size,0,none⟩=some (.int .i64 m.1)∧w'.cell? ⟨w.heap.size,1,none⟩=some (.slice mA m.2.length mC)) [] ⟨e0,e1,m0,m1⟩ fun hJ0=>?_
  have HR:=Y00 (hX.out.up (J05 (Y0f _ _)))
  generalize wr.drew=wd at *
  clear e0 e1 m0 m1 hX
  refine pv 0 ?_
  refine pv 1 ?_
  refine pv 2 ?_
  refine uv 3 ?_
  refine uv 4 ?_
  refine uv 5 ?_
  refine uv 6 ?_
  refine uv 7 ?_
  refine uv 8 ?_
  refine pv 9 ?_
  refine dn0 ?_
  obtain ⟨e0,e1,m0,m1⟩:=hJ0
  go_wp2_with (at_builtin;go_must (refine Kd.R_append (kMF w0 w) (w0:=w1) w1.heap.size rfl (.tmp 25) (.tmp 30) _ 57 _ 32 rfl Tryz.underlying46 Tryz.infoAmark rfl (Y0v rfl) (Y0v rfl) _ pre x _ (fun _=>True) (fun _=>False) rfl rfl ⟨_,rfl,hf⟩ (fun _ h=>h.elim) (fun _ _=>trivial) HR.out.1 HR.out.2 HR.out.2.size (by have:=HPL.out;omega) ?_);intro v6 w6 hR6 hb6 hg6 hat6)
  have HS:=Y00 (show J29 w0 w w1 v6 (J0w m false (l.take (k+1))) w6 by rw [HT.out,HW.out];exact ⟨hR6,hb6⟩)
  have HG:=Y08 (show J8z m false (l.take (k+1))=true by rw [HT.out,HGN.out];rfl)
  clear hR6 hb6 hg6 hat6
  exact ⟨⟨k+1,by go_num,by rw [HG.out],by omega,HS⟩,by simp [intOf];omega⟩
 | false=>?_
 go_upto_region 5 with fail
 refine sr1 10 (fun w'=>w'.cell? (ad.add (k*2))=some (.int .i64 x.1)∧w'.cell? ⟨(ad.add (k*2)).block,(ad.add (k*2)).off+1,none⟩=some (.slice sA x.2.length sC)∧w'.cell? ⟨w.heap.size,0,none⟩=some (.int .i64 m.1)∧w'.cell? ⟨w.heap.size,1,none⟩=some (.slice mA m.2.length mC)) [] ⟨e0,e1,m0,m1⟩ fun hJ0=>?_
 have HD:=Y00 (hX.out.up (J05 (Y0f _ _)))
 generalize wr.drew=wd at *
 clear e0 e1 m0 m1 hX
 refine pv 0 ?_
 refine pv 1 ?_
 refine pv 2 ?_
 refine pv 3 ?_
 refine pv 4 ?_
 refine pv 5 ?_
 refine tv4 6 ?_
 refine tv4 7 ?_
 refine oc 8 Tryz.func109 #[rmV x sA sC,rmV m mA mC] ?_
 refine (HSM.out _ (J01 HB.out HB.out.size HD.out.2)).mono ?_
 rintro e w4 ⟨rfl,hb4⟩
 refine ⟨_,rfl,(st4 hb4 hJ0),fun hJ0=>?_⟩
 have HR:=Y00 (HD.out.up hb4)
 clear hb4 HD
 refine nm0 _ ?_
 by_cases hxm:x=m
 ·have hd:decide (x=m)=true:=Y0r hxm
  have HXM:=Y08 hxm
  rw [hd] at *
  clear hxm
  refine pv 9 ?_
  refine dn0 ?_
  go_wp2_with fail
  have HS:=Y00 (show J29 w0 w w1 u5 (J0w m false (l.take (k+1))) w4 by rw [HT.out,HW.out,if_pos (by rw [HXM.out];simp),List.append_nil];exact HR.out)
  have HG:=Y08 (show J8z m false (l.take (k+1))=true by rw [HT.out,HGN.out,HXM.out];simp)
  exact ⟨⟨k+1,by go_num,by rw [HG.out],by omega,HS⟩,by simp [intOf];omega⟩
 skip
 have hd:decide (x=m)=false:=Y0s hxm
 have HXM:=Y08 hxm
 rw [hd] at *
 clear hxm
 refine pv 9 ?_
 refine dn0 ?_
 obtain ⟨e0,e1,m0,m1⟩:=hJ0
 go_wp2_with (at_builtin;go_must (refine Kd.R_append (kMF w0 w) (w0:=w1) w1.heap.size rfl (.tmp 25) (.tmp 30) _ 57 _ 32 rfl Tryz.underlying46 Tryz.infoAmark rfl (Y0v rfl) (Y0v rfl) _ pre x _ (fun _=>True) (fun _=>False) rfl rfl ⟨_,rfl,hf⟩ (fun _ h=>h.elim) (fun _ _=>trivial) HR.out.1 HR.out.2 HR.out.2.size (by have:=HPL.out;omega) ?_);intro v6 w6 hR6 hb6 hg6 hat6)
 have HS:=Y00 (show J29 w0 w w1 v6 (J0w m false (l.take (k+1))) w6 by rw [HT.out,HW.out,if_neg (by simpa using HXM.out)];exact ⟨hR6,hb6⟩)
 have HG:=Y08 (show J8z m false (l.take (k+1))=false by rw [HT.out,HGN.out];simpa using HXM.out)
 clear hR6 hb6 hg6 hat6
 exact ⟨⟨k+1,by go_num,by rw [HG.out],by omega,HS⟩,by simp [intOf];omega⟩
theorem Jaq (m:RM):∀ (l:List RM) (d:Bool),(putB m d l).length≤2*l.length
 | [],_=>Y0e _
 | x::r,d=>by
  simp only [putB]
  split
  ·have:=Jaq m r true;simp;omega
  have:=Jaq m r d;simp;omega
theorem Jmn (w0:World) (A:Option Addr) (cA:Nat) (l:List RM) (m:RM) (mA:Option Addr) (mC:Nat) (w:World) (hl:(kMF w0 w).C w A l.length l) (hm:FzAt w0 w (.slice mA m.2.length mC) m.2) (hn:l.length≤1000000) (hw:∀ x ∈ l,m.2.length=x.2.length) :
  Calls Tryz.prog 87 #[.slice A l.length cA,rmV m mA mC] w fun e w'=>∃ v,e=.returned v∧J29 w0 w w v (putR m false l) w':=by
 have HL:=Y00 hl
 have HM:=Y00 hm
 have HWD:=Y08 hw
 have hb0:=J02 w (.cells #[.int .i64 m.1,.slice mA m.2.length mC] 57)
 have hblk:=Y0c w (.cells #[.int .i64 m.1,.slice mA m.2.length mC] 57)
 have c0:(w.alloc (.cells #[.int .i64 m.1,.slice mA m.2.length mC] 57)).cell? ⟨w.heap.size,0,none⟩=some (.int .i64 m.1):=J03 hblk 0
 have c1:(w.alloc (.cells #[.int .i64 m.1,.slice mA m.2.length mC] 57)).cell? ⟨w.heap.size,1,none⟩=some (.slice mA m.2.length mC):=J03 hblk 1
 have HB:=Y00 hb0
 clear hl hm hb0 hblk hw
 go_enter Tryz.func87,Tryz.ntmps87
 go_upto_region 1 with fail
 generalize w.alloc (.cells #[.int .i64 m.1,.slice mA m.2.length mC] 57)=w1 at *
 have HC:=Y00 (Y07 c0 c1)
 clear c0 c1
 go_wp2_with fail
 have HO:=Y00 (J29.start w0 w w1)
 generalize w1.alloc (.cells #[] 57)=w2 at *
 go_loopw [5,6,7] (fun o g i wr=>∃ k:Nat,i=.int .i64 k∧g=.bool (J4y m false (l.take k))∧k≤l.length∧J08 (J29 w0 w w1 o (putB m false (l.take k)) wr)) (fun _ _ i _=>l.length - (intOf i).toNat)
 case atStart=>exact ⟨0,rfl,rfl,Yz3 _,HO⟩
 clear HO
 obtain ⟨k,rfl,rfl,hk,hX⟩:=hrel
 by_cases hlt:k<l.length
 rotate_left
 ·have hkE:¬ ((k:Int)<l.length):=by omega
  have HZ:=Y00 (show J29 w0 w w1 _ (putB m false l) wr by have h:=hX.out;rwa [Y0t (by omega)] at h)
  have HPB:=Y08 (Jbo m l false)
  have HPL:=Y08 (show (putB m false l).length≤2000000 by have:=Jaq m l false;omega)
  rw [show l.take k=l from Y0t (by omega)] at *
  have m0:=J00 hX.out.2 HC.out.1
  have m1:=J00 hX.out.2 HC.out.2
  clear hX
  generalize J4y m false l=b at *
  cases b with
  | false =>
   go_wp2_with (at_builtin;go_must (refine Kd.R_append (kMF w0 w) (w0:=w1) w1.heap.size rfl (.tmp 38) (.tmp 40) _ 57 _ 32 rfl Tryz.underlying46 Tryz.infoAmark rfl (Y0v rfl) (Y0v rfl) _ (putB m false l) m _ (fun _=>True) (fun _=>False) rfl rfl ⟨_,rfl,HM.out⟩ (fun _ h=>h.elim) (fun _ _=>trivial) HZ.out.1 HZ.out.2 HZ.out.2.size (by have:=HPL.out;(try simp only [Y02,Y0z,List.length_nil]);omega) ?_);intro v6 w6 hR6 hb6 hg6 hat6)
   go_ret
   exact ⟨_,rfl,by rw [HPB.out];exact (show J29 w0 w w1 v6 (putB m false l++[m]) w6 from ⟨hR6,hb6⟩).down HB.out⟩
  | true=>?_
  go_wp2_with fail
  go_ret
  exact ⟨_,rfl,by rw [HPB.out];simpa using HZ.out.down HB.out⟩
 have hkE:(k:Int)<l.length:=by omega
 have hk0:(0:Int)≤k:=by omega
 obtain ⟨ad,sA,sC,rfl,e0,e1,hf⟩:=Jmx HL.out hlt
 have HT:=Y08 (Y0u hlt)
 have HXW:=Y08 (HWD.out _ (Y0l hlt))
 generalize l[k]=x at *
 have HSM:=Y08 (fun W (hb:Below w.heap.size w W)=>Jhd m x mA sA mC sC W (Kd.c00 HM.out.C hb) (Kd.c00 hf.C hb) HXW.out)
 have HXC:=Y00 (Y07 e0 (Y07 e1 hf))
 have e0:=J00 (J01 HB.out HB.out.size hX.out.2) e0
 have e1:=J00 (J01 HB.out HB.out.size hX.out.2) e1
 have m0:=J00 hX.out.2 HC.out.1
 have m1:=J00 hX.out.2 HC.out.2
 have HW:=Y08 (Jbp m x (l.take k) false)
 have HGN:=Y08 (Jlg m false (l.take k) x)
 have HPL:=Y08 (show (putB m false (l.take k)).length≤2000000 by have:=Jaq m (l.take k) false;rw [Y0o] at this;omega)
 generalize putB m false (l.take k)=pre at *
 generalize J4y m false (l.take k)=b at *
 cases b with
 | true =>
  go_upto_region 5 with fail
  refine sr1 10 (fun w'=>w'.cell? (ad.add (k*2))=some (.int .i64 x.1)∧w'.cell? ⟨(ad.add (k*2)).block,(ad.add (k*2)).off+1,none⟩=some (.slice sA x.2.length sC)∧w'.cell? ⟨w.heap.size,0,none⟩=some (.int .i64 m.1)∧w'.cell? ⟨w.heap.size,1,none⟩=some (.slice mA m.2.length mC)) [] ⟨e0,e1,m0,m1⟩ fun hJ0=>?_
  have HR:=Y00 (hX.out.up (J05 (Y0f _ _)))
  generalize wr.drew=wd at *
  clear e0 e1 m0 m1 hX
  refine pv 0 ?_
  refine pv 1 ?_
  refine pv 2 ?_
  refine uv 3 ?_
  refine uv 4 ?_
  refine uv 5 ?_
  refine uv 6 ?_
  refine uv 7 ?_
  refine uv 8 ?_
  refine pv 9 ?_
  refine dn0 ?_
  obtain ⟨e0,e1,m0,m1⟩:=hJ0
  go_wp2_with (at_builtin;go_must (refine Kd.R_append (kMF w0 w) (w0:=w1) w1.heap.size rfl (.tmp 29) (.tmp 34) _ 57 _ 32 rfl Tryz.underlying46 Tryz.infoAmark rfl (Y0v rfl) (Y0v rfl) _ pre x _ (fun _=>True) (fun _=>False) rfl rfl ⟨_,rfl,hf⟩ (fun _ h=>h.elim) (fun _ _=>trivial) HR.out.1 HR.out.2 HR.out.2.size (by have:=HPL.out;(try simp only [Y02,Y0z,List.length_nil]);omega) ?_);intro v6 w6 hR6 hb6 hg6 hat6)
  have HS:=Y00 (show J29 w0 w w1 v6 (putB m false (l.take (k+1))) w6 by rw [HT.out,HW.out];exact ⟨hR6,hb6⟩)
  have HG:=Y08 (show J4y m false (l.take (k+1))=true by rw [HT.out,HGN.out];rfl)
  clear hR6 hb6 hg6 hat6
  exact ⟨⟨k+1,by go_num,by rw [HG.out],by omega,HS⟩,by simp [intOf];omega⟩
 | false=>?_
 go_upto_region 5 with fail
 refine sr1 10 (fun w'=>w'.cell? (ad.add (k*2))=some (.int .i64 x.1)∧w'.cell? ⟨(ad.add (k*2)).block,(ad.add (k*2)).off+1,none⟩=some (.slice sA x.2.length sC)∧w'.cell? ⟨w.heap.size,0,none⟩=some (.int .i64 m.1)∧w'.cell? ⟨w.heap.size,1,none⟩=some (.slice mA m.2.length mC)) [] ⟨e0,e1,m0,m1⟩ fun hJ0=>?_
 have HD:=Y00 (hX.out.up (J05 (Y0f _ _)))
 generalize wr.drew=wd at *
 clear e0 e1 m0 m1 hX
 refine pv 0 ?_
 refine pv 1 ?_
 refine pv 2 ?_
 refine pv 4 ?_
 refine pv 5 ?_
 refine pv 6 ?_
 refine tv4 3 ?_
 refine tv4 7 ?_
 refine oc 8 Tryz.func108 #[rmV m mA mC,rmV x sA sC] ?_
 refine (HSM.out _ (J01 HB.out HB.out.size HD.out.2)).mono ?_
 rintro e w4 ⟨rfl,hb4⟩
 refine ⟨_,rfl,(st4 hb4 hJ0),fun hJ0=>?_⟩
 have HR:=Y00 (HD.out.up hb4)
 clear hb4 HD
 refine nm0 _ ?_
 generalize J1h m x=ab at *
 cases ab with
 | false =>
  refine pv 9 ?_
  refine dn0 ?_
  obtain ⟨e0,e1,m0,m1⟩:=hJ0
  go_wp2_with (at_builtin;go_must (refine Kd.R_append (kMF w0 w) (w0:=w1) w1.heap.size rfl (.tmp 29) (.tmp 34) _ 57 _ 32 rfl Tryz.underlying46 Tryz.infoAmark rfl (Y0v rfl) (Y0v rfl) _ pre x _ (fun _=>True) (fun _=>False) rfl rfl ⟨_,rfl,hf⟩ (fun _ h=>h.elim) (fun _ _=>trivial) HR.out.1 HR.out.2 HR.out.2.size (by have:=HPL.out;(try simp only [Y02,Y0z,List.length_nil]);omega) ?_);intro v6 w6 hR6 hb6 hg6 hat6)
  have HS:=Y00 (show J29 w0 w w1 v6 (putB m false (l.take (k+1))) w6 by rw [HT.out,HW.out];exact ⟨hR6,hb6⟩)
  have HG:=Y08 (show J4y m false (l.take (k+1))=false by rw [HT.out,HGN.out];rfl)
  clear hR6 hb6 hg6 hat6
  exact ⟨⟨k+1,by go_num,by rw [HG.out],by omega,HS⟩,by simp [intOf];omega⟩
 | true=>?_
 refine pv 9 ?_
 refine dn0 ?_
 obtain ⟨e0,e1,m0,m1⟩:=hJ0
 have HCX:=Y00 (Y07 e0 (Y07 e1 hf))
 go_upto_region 7 with (at_builtin;go_must (refine Kd.R_append (kMF w0 w) (w0:=w1) w1.heap.size rfl (.tmp 25) (.tmp 27) _ 57 _ 32 rfl Tryz.underlying46 Tryz.infoAmark rfl (Y0v rfl) (Y0v rfl) _ pre m _ (fun _=>True) (fun _=>False) rfl rfl ⟨_,rfl,HM.out⟩ (fun _ h=>h.elim) (fun _ _=>trivial) HR.out.1 HR.out.2 HR.out.2.size (by have:=HPL.out;(try simp only [Y02,Y0z,List.length_nil]);omega) ?_);intro v6 w6 hR6 hb6 hg6 hat6)
 have HR2:=Y00 (show J29 w0 w w1 v6 (pre++[m]) w6 from ⟨hR6,hb6⟩)
 have e0:=J00 (J01 HB.out HB.out.size hb6) HXC.out.1
 have e1:=J00 (J01 HB.out HB.out.size hb6) HXC.out.2.1
 clear hR6 hb6 hg6 hat6
 go_wp2_with (at_builtin;go_must (refine Kd.R_append (kMF w0 w) (w0:=w1) w1.heap.size rfl (.tmp 29) (.tmp 34) _ 57 _ 32 rfl Tryz.underlying46 Tryz.infoAmark rfl (Y0v rfl) (Y0v rfl) _ (pre++[m]) x _ (fun _=>True) (fun _=>False) rfl rfl ⟨_,rfl,hf⟩ (fun _ h=>h.elim) (fun _ _=>trivial) HR2.out.1 HR2.out.2 HR2.out.2.size (by have:=HPL.out;(try simp only [Y02,Y0z,List.length_nil]);omega) ?_);intro v7 w7 hR6 hb6 hg6 hat6)
 have HS:=Y00 (show J29 w0 w w1 v7 (putB m false (l.take (k+1))) w7 by rw [HT.out,HW.out];exact ⟨by simpa using hR6,hb6⟩)
 have HG:=Y08 (show J4y m false (l.take (k+1))=true by rw [HT.out,HGN.out];rfl)
 clear hR6 hb6 hg6 hat6
 exact ⟨⟨k+1,by go_num,by rw [HG.out],by omega,HS⟩,by simp [intOf];omega⟩
def J3n (w0 wk w:World) (o:Value) (xs:List Msg) (wr:World):Prop:=(kCF w0 wk).R 83 wr w.heap.size (fun _=>True) o xs∧Below w.heap.size w wr
theorem J3n.down {w0 wk w w1 wr:World} {o:Value} {xs:List Msg} (h:J3n w0 wk w1 o xs wr) (hb:Below w.heap.size w w1):J3n w0 wk w o xs wr:=⟨Kd.c04 h.1 hb.size,J01 hb hb.size h.2⟩
theorem J3n.start (w0 wk w:World):J3n w0 wk w (.slice (some ⟨w.heap.size,0,none⟩) 0 0) [] (w.alloc (.cells #[] 83)):=⟨Jcu (kCF w0 wk) 83 w.heap.size w (Y0e _),J02 w _⟩
def J7d (w0 wk w:World) (be:Nat) (o:Value) (xs:List Msg) (x:Msg) (sA:Option Addr) (sC:Nat) (wr:World):Prop :=
 (kCF w0 wk).R 83 wr w.heap.size (fun k=>k≠be) o xs∧Below w.heap.size w wr∧w.heap.size≤be∧wr.heap[be]?=some (.cells #[.int .i64 x.1.1,.slice sA x.1.2.length sC,.int .i64 x.2] 83 (0,0))
theorem J3n.box {w0 wk w wr:World} {o:Value} {xs:List Msg} (h:J3n w0 wk w o xs wr) (x:Msg) (sA:Option Addr) (sC:Nat):J7d w0 wk w wr.heap.size o xs x sA sC (wr.alloc (.cells #[.int .i64 x.1.1,.slice sA x.1.2.length sC,.int .i64 x.2] 83)) :=
 ⟨Kd.c01 (Kd.c06 (Kd.c05 h.1) (fun k hk=>by have:=hk.2.2.1;omega)) (J02 wr _),J01 h.2 h.2.size (J02 wr _),h.2.size,Y0c wr _⟩
section
variable {w0 wk w wr w6:World} {be:Nat} {o v6:Value} {xs ys:List Msg} {x:Msg} {sA:Option Addr} {sC:Nat}
theorem J7d.up (h:J7d w0 wk w be o xs x sA sC wr) (hb:Below wr.heap.size wr w6):J7d w0 wk w be o xs x sA sC w6:=⟨Kd.c01 h.1 hb,J01 h.2.1 h.2.1.size hb,h.2.2.1,J04 h.2.2.2 hb⟩
theorem J7d.lt (h:J7d w0 wk w be o xs x sA sC wr):be<wr.heap.size:=J0q h.2.2.2
theorem J7d.off (h:J7d w0 wk w be o xs x sA sC wr):J3n w0 wk w o xs wr:=⟨Kd.c06 h.1 (fun _ _=>trivial),h.2.1⟩
theorem J7d.more (h:J7d w0 wk w be o xs x sA sC wr) (hR:(kCF w0 wk).R 83 w6 w.heap.size (fun k=>k≠be) v6 ys) (hb:Below w.heap.size w w6) (hg:wr.grownBy w6 o.ownBlock):J7d w0 wk w be v6 ys x sA sC w6 :=
 ⟨hR,hb,h.2.2.1,J0x h.2.2.2 hg (fun he=>h.1.1 be he.symm rfl)⟩
theorem J7d.put (h:J7d w0 wk w be o xs x sA sC wr) (n:Int):J7d w0 wk w be o xs (x.1,n) sA sC (wr.setCell ⟨be,2,none⟩ (.int .i64 n)):=by
 have hg:wr.grownBy (wr.setCell ⟨be,2,none⟩ (.int .i64 n)) (some be):=J0e be [.int .i64 n] 2 wr
 refine ⟨Kd.R_move h.1 (fun k hk=>?_),J0k h.2.1 hg h.2.2.1,h.2.2.1,J0d h.2.2.2 2 _ rfl⟩
 by_cases hlt:k<wr.heap.size
 ·exact hg.block k hlt (fun he=>hk (by injection he))
 have h1:wr.heap[k]?=none:=Array.getElem?_eq_none_iff.2 (by omega)
 have h2:(wr.setCell ⟨be,2,none⟩ (.int .i64 n)).heap.size=wr.heap.size:=by simp [World.setCell]
 rw [h1];exact Array.getElem?_eq_none_iff.2 (by omega)
end
theorem Jqv {w0 wk w:World} {A:Option Addr} {xs:List Msg} (h:(kCF w0 wk).C w A xs.length xs) {k:Nat} (hk:k<xs.length) :
  ∃ ad sA sC,A=some ad∧w.cell? (ad.add (k*3))=some (.int .i64 xs[k].1.1)∧w.cell? ⟨(ad.add (k*3)).block,(ad.add (k*3)).off+1,none⟩=some (.slice sA xs[k].1.2.length sC)∧w.cell? ⟨(ad.add (k*3)).block,(ad.add (k*3)).off+2,none⟩=some (.int .i64 xs[k].2)∧FzAt w0 wk (.slice sA xs[k].1.2.length sC) xs[k].1.2:=by
 obtain ⟨ad,c,rfl,hcl,⟨c0,c1,rfl,⟨u,rfl,hf⟩,h1⟩,hcc⟩:=J19.get_ h ((0,[]),0) (k:Int) (by omega) (by omega)
 cases h1
 rw [Y06] at hf hcc
 have e:xs.getD k ((0,[]),0)=xs[k]:=by rw [Y01,Y05 hk];rfl
 rw [e] at hf hcc
 obtain ⟨sA,sC,rfl,h1,h2,h3⟩:=hf
 have c1:=hcc 1 _ rfl
 have c2:=hcc 2 _ rfl
 rw [show (kCF w0 wk).sz=3 from rfl,J1i _ _ _ (by omega)] at c1 c2
 exact ⟨ad,sA,sC,rfl,hcc 0 _ rfl,c1,c2,⟨sA,sC,rfl,h1,h2,h3⟩⟩
end Go.Proofs.YtbkfnmgkcgnifaaGreat
namespace Go.Proofs.YtbkfnmgkcgnifaaGreat.Mdl
theorem Jj0 (m:RM):∀ (l:List RM) (d:Bool),(putR m d l).length≤l.length+1
 | [],d=>by cases d<;>simp [putR]
 | x::r,d=>by
  unfold putR
  split
  ·rw [J8n];simp
  have:=Jj0 m r d;simp only [Y0z];omega
theorem Jiy {m y:RM} : ∀ (l:List RM) (d:Bool),y ∈ putR m d l→y=m∨y ∈ l
 | [],d,h=>by cases d<;>simp [putR] at h;exact .inl h
 | x::r,d,h=>by
  unfold putR at h
  split at h
  ·rw [J8n] at h
   exact (Yz1.1 h)
  rcases Yz1.1 h with h | h
  ·rw [h];exact .inr Y03
  exact (Jiy r d h).imp id (Y04 _)
theorem J6j {m y:RM} : ∀ (l:List RM) (g:Bool),y ∈ J0w m g l→y ∈ l
 | [],_,h=>h
 | x::r,g,h=>by
  unfold J0w at h
  split at h
  ·exact Y04 _ (J6j r true h)
  rcases Yz1.1 h with h | h
  ·rw [h];exact Y03
  exact Y04 _ (J6j r g h)
theorem J93 (m:RM) (n:Int):∀ (l:List Msg),(J0z m n true l).length≤l.length
 | []=>by simp [J0z]
 | x::r=>by
  have h:=J93 m n r
  unfold J0z
  simp only [Bool.not_true,Bool.false_and,Bool.true_or,Y02]
  have h2:(if entN m n x≠0 then [(x.1,entN m n x)] else []).length≤1:=by split<;>simp
  simp only [Y0z,Bool.false_eq_true,if_false,List.length_nil];omega
theorem Jaf (m:RM) (n:Int):∀ (l:List Msg),(J0z m n false l).length≤l.length+1
 | []=>by simp [J0z]
 | x::r=>by
  have h:=J93 m n r
  have h':=Jaf m n r
  unfold J0z
  have h2:(if entN m n x≠0 then [(x.1,entN m n x)] else []).length≤1:=by split<;>simp
  simp only [Bool.not_false,Bool.true_and,Bool.false_or,Y02,Y0z]
  generalize decide (m=x.1)=d at *
  cases J1h m x.1
  ·cases d<;>simp only [Bool.or_self,Bool.or_true,Bool.false_or,Bool.false_eq_true,if_false,List.length_nil] at*<;> omega
  simp only [Bool.true_or,if_true,Y0z,List.length_nil] at *;omega
theorem Jad {m:RM} {n:Int} {y:Msg} : ∀ (l:List Msg) (d:Bool),y ∈ J0z m n d l→y.1=m∨∃ x ∈ l,y.1=x.1
 | [],d,h=>by
  unfold J0z at h
  split at h
  ·cases h
  rw [Y11.1 h];exact .inl rfl
 | x::r,d,h=>by
  unfold J0z at h
  rcases Y0m.1 h with h | h
  ·split at h
   ·rw [Y11.1 h];exact .inl rfl
   cases h
  rcases Y0m.1 h with h | h
  ·split at h
   ·rw [Y11.1 h];exact .inr ⟨x,Y03,rfl⟩
   cases h
  exact (Jad r _ h).imp id (fun ⟨z,hz,e⟩=>⟨z,Y04 _ hz,e⟩)
def MsOk (wd n:Nat) (l:List RM):Prop:=l.length≤n∧∀ x ∈ l,x.2.length=wd
def CsOk (wd n:Nat) (l:List Msg):Prop:=l.length≤n∧∀ x ∈ l,x.1.2.length=wd
section
variable {wd n:Nat}
theorem MsOk.put {l:List RM} (h:MsOk wd n l) {m:RM} (hm:m.2.length=wd):MsOk wd (n+1) (putR m false l) :=
 ⟨Yz0 (Jj0 m l false) (by have:=h.1;omega),fun x hx=>by rcases Jiy l false hx with hx | hx;rw [hx];exact hm;exact h.2 x hx⟩
theorem MsOk.without {l:List RM} (h:MsOk wd n l) (m:RM):MsOk wd n (J0w m false l) :=
 ⟨Yz0 (by
  have:∀ (l:List RM) (g:Bool),(J0w m g l).length≤l.length:=fun l=>by
   induction l with
   | nil=>intro g;exact Y0e _
   | cons x r ih =>
    intro g
    unfold J0w
    split
    ·have:=ih true;simp only [Y0z];omega
    have:=ih g;simp only [Y0z];omega
  exact this l false) h.1,fun x hx=>h.2 x (J6j l false hx)⟩
theorem CsOk.enter {l:List Msg} (h:CsOk wd n l) {m:RM} (hm:m.2.length=wd) (c:Int):CsOk wd (n+1) (J0z m c false l) :=
 ⟨Yz0 (Jaf m c l) (by have:=h.1;omega),fun x hx=>by
  rcases Jad l false hx with hx | ⟨y,hy,hx⟩
  ·rw [hx];exact hm
  rw [hx];exact h.2 y hy⟩
theorem Jno (l note:List Msg) (x:Msg):allR l (note++[x])=J0z x.1 x.2 false (allR l note):=by unfold allR;rw [List.foldl_append];rfl
theorem CsOk.all {l:List Msg} (h:CsOk wd n l):∀ {note:List Msg} {k:Nat},CsOk wd k note→CsOk wd (n+k) (allR l note):=by
 intro note
 induction note generalizing l n with
 | nil=>intro k hk;exact ⟨by show l.length≤_;have:=h.1;omega,h.2⟩
 | cons x r ih =>
  intro k hk
  have h1:=hk.1
  rw [Y0z] at h1
  have:=ih (h.enter (hk.2 x Y03) x.2) (k:=k - 1) ⟨by omega,fun y hy=>hk.2 y (Y04 _ hy)⟩
  exact ⟨Yz0 this.1 (by omega),this.2⟩
theorem MsOk.mono {n':Nat} {l:List RM} (h:MsOk wd n l) (hn:n≤n'):MsOk wd n' l:=⟨Yz0 h.1 hn,h.2⟩
theorem CsOk.mono {n':Nat} {l:List Msg} (h:CsOk wd n l) (hn:n≤n'):CsOk wd n' l:=⟨Yz0 h.1 hn,h.2⟩
theorem CsOk.take {l:List Msg} (h:CsOk wd n l) (k:Nat):CsOk wd n (l.take k):=⟨by have:=h.1;rw [Y0o];omega,fun x hx=>h.2 x (List.mem_of_mem_take hx)⟩
structure RWOk (wd W n k:Nat) (s:RW):Prop where
 len:s.held.length=W
 held:∀ L ∈ s.held,MsOk wd n L
 note:CsOk wd k s.note
theorem RWOk.edge {W k:Nat} {s:RW} (h:RWOk wd W n k s) {m:RM} (hm:m.2.length=wd) {e:Ed} (he:e.2.2.length=wd):RWOk wd W (n+1) (k+1) (J4x W m s e):=by
 unfold J4x
 have hs:(J86 m e).2.length=wd:=by show (J48 m.2 e.2.2).length=wd;rw [J8r (by omega)];exact hm
 split
 ·split
  ·exact ⟨h.len,fun L hL=>(h.held L hL).mono (by omega),h.note.mono (by omega)⟩
  refine ⟨by simp only [Y0q];exact h.len,fun L hL=>?_,⟨by have:=h.note.1;simp only [Y02,Y0z,List.length_nil];omega,fun x hx=>?_⟩⟩
  ·rcases List.mem_or_eq_of_mem_set hL with hL | rfl
   ·exact (h.held L hL).mono (by omega)
   refine MsOk.put ?_ hs
   rw [Y01]
   cases hg:s.held[(numP s.script ((W:Int)+1) - 1).toNat]? with
   | some L=>exact h.held L (List.mem_of_getElem? hg)
   | none=>exact ⟨Yz3 _,fun x hx=>by cases hx⟩
  rcases Y0m.1 hx with hx | hx
  ·exact h.note.2 x hx
  rw [Y11.1 hx];exact hs
 exact ⟨h.len,fun L hL=>(h.held L hL).mono (by omega),h.note.mono (by omega)⟩
structure OkR (wd W n:Nat) (r:RS):Prop where
 hlen:r.held.length=W
 llen:r.led.length=W
 held:∀ L ∈ r.held,MsOk wd n L
 led:∀ L ∈ r.led,CsOk wd n L
 nts:∀ i k,i<W→k<W→(r.nts i k).length≤n∧∀ nt ∈ r.nts i k,CsOk wd n nt∧nt≠[]
theorem OkR.heldAt {W:Nat} {r:RS} (h:OkR wd W n r) (i:Nat):MsOk wd n (r.held.getD i []):=by
 rw [Y01]
 cases hg:r.held[i]? with
 | some L=>exact h.held L (List.mem_of_getElem? hg)
 | none=>exact ⟨Yz3 _,fun x hx=>by cases hx⟩
theorem OkR.ledAt {W:Nat} {r:RS} (h:OkR wd W n r) (i:Nat):CsOk wd n (r.led.getD i []):=by
 rw [Y01]
 cases hg:r.led[i]? with
 | some L=>exact h.led L (List.mem_of_getElem? hg)
 | none=>exact ⟨Yz3 _,fun x hx=>by cases hx⟩
theorem RWOk.begin {W:Nat} {r:RS} (h:OkR wd W n r) (i:Nat) {m:RM} (hm:m.2.length=wd):RWOk wd W n 1 ⟨r.held.set i (J0w m false (r.held.getD i [])),r.script,r.sent,[(m,-1)]⟩ :=
 ⟨by rw [Y0q];exact h.hlen,fun L hL=>by
  rcases List.mem_or_eq_of_mem_set hL with hL | rfl
  ·exact h.held L hL
  exact (h.heldAt i).without m,⟨Y0e _,fun x hx=>by rw [Y11.1 hx];exact hm⟩⟩
end
theorem Jmy {α:Type} (f:α→Nat) {x:α} : ∀ {l:List α},x ∈ l→f x≤(l.map f).sum
 | y::l,h=>by
  rw [List.map_cons,List.sum_cons]
  rcases Yz1.1 h with h | h
  ·rw [h];omega
  have:=Jmy f h;omega
theorem Jgg (wd:Nat) {L:Led} (h:Pos L):(J2b wd L).length≤cnt L:=by
 unfold J2b
 rw [List.length_flatMap]
 have hpm:=(J2a ordN (l:=L.map (·.1)) (fun _ _=>trivial)).2
 rw [show J61 (L.map (·.1))=Jho cmpN (L.map (·.1)) from rfl,Jim (hpm.map _),List.map_map]
 unfold cnt
 refine Nat.le_of_eq ?_
 congr 1
 refine List.map_congr_left (fun e he=>?_)
 show (List.replicate (getL _ e.1).toNat _).length=_
 rw [Y0j,J2e (v:=e.2) h.nodup he]
theorem Jbs {wd:Nat} (hw:wd≤3) (t:Tm):(J0g wd t).length=wd:=by
 unfold J0g;rw [Y0o];simp;omega
theorem Fit.okR {p:Plan} {ways:Ways} (h:Fit p ways) {script:List Int} (hs:script.length≤300) (n:Nat):OkR p.Wd.toNat p.workers.toNat 2000 (toR p.Wd.toNat (stAt p script n)):=by
 have hw:p.Wd.toNat≤3:=by have:=h.Wd;omega
 have hr:=(h.here hs n).reach
 have hk:=(h.here hs n).know
 have so:=h.simOk hs n
 have hm:msgs (stAt p script n).has≤2000:=by have:=hr.phi;unfold phi at this;omega
 refine ⟨by show ((stAt p script n).has.map _).length=_;rw [Y0g];exact hr.inv.has.len,by show ((stAt p script n).led.map _).length=_;rw [Y0g];exact hr.inv.llen,fun L hL=>?_,fun L hL=>?_,fun i k hi hk'=>?_⟩
 ·obtain ⟨L',hL',rfl⟩:=Yz4.1 (show L ∈ (stAt p script n).has.map (J2b p.Wd.toNat) from hL)
  obtain ⟨i,hi,he⟩:=List.mem_iff_getElem.1 hL'
  have hc:=J1d hi
  rw [Y01,Y05 hi,he] at hc
  refine ⟨?_,fun x hx=>?_⟩
  ·have:=Jgg p.Wd.toNat (hr.inv.has.pos L' hL')
   simp only [Option.getD_some] at hc
   omega
  rw [J66] at hx
  obtain ⟨m,_,rfl⟩:=Yz4.1 hx
  exact Jbs hw m.2
 ·obtain ⟨L',hL',rfl⟩:=Yz4.1 (show L ∈ (stAt p script n).led.map (J11 p.Wd.toNat) from hL)
  obtain ⟨i,hi,he⟩:=List.mem_iff_getElem.1 hL'
  have hl:=hr.led_len (i:=i) (by rw [← hr.inv.llen];exact hi)
  unfold St.ledOf at hl
  rw [Y01,Y05 hi,he] at hl
  simp only [Option.getD_some] at hl
  refine ⟨?_,fun x hx=>?_⟩
  ·unfold J11;rw [Y0g,J6q,Y0g];omega
  unfold J11 at hx
  obtain ⟨m,_,rfl⟩:=Yz4.1 hx
  exact Jbs hw m.2
 refine ⟨?_,fun nt hnt=>?_⟩
 ·show ((((stAt p script n).queue k i)).map _).length≤_
  rw [Y0g]
  have:=hr.queue k i;omega
 obtain ⟨nt',hnt',rfl⟩:=Yz4.1 (show nt ∈ ((stAt p script n).queue k i).map (J8t p.Wd.toNat) from hnt)
 have hl:nt'.length≤2000:=by
  have h1:=Jmy List.length hnt'
  have h2:=J4b (fun q:List Note=>(q.map List.length).sum) [] ((stAt p script n).notes.getD k []) i (by rw [hr.inv.nlen.2 _ (J0i (by rw [hr.inv.nlen.1];exact hk') [])];exact hi)
  have h3:=hr.psi k hk'
  unfold psi J7r at h3
  have h4:(((stAt p script n).queue k i).map List.length).sum≤(((stAt p script n).notes.getD k []).map (fun q:List Note=>(q.map List.length).sum)).sum:=h2
  omega
 have hne:=J9k (P:=fun p=>p≠[]) (ns:=(stAt p script n).notes) (i:=k) (k:=i) (fun r hr q hq p hp=>by obtain ⟨m,rest,rfl,_⟩:=hk.noteU r hr q hq p hp;simp) nt' hnt'
 refine ⟨⟨by unfold J8t;rw [Y0g];exact hl,fun x hx=>?_⟩,by unfold J8t;simpa using hne⟩
 obtain ⟨e,_,rfl⟩:=Yz4.1 hx
 exact Jbs hw e.1.2
end Go.Proofs.YtbkfnmgkcgnifaaGreat.Mdl
namespace Go.Proofs.YtbkfnmgkcgnifaaGreat
open Go.RowKit Go.Shelf W1 W2 Mdl Go.ChangeMaps
def J4s (w:World) (b:Nat) (t:TypeId) (n:Nat) (P:Nat→Value→Prop):Prop:=∃ cells,w.heap[b]?=some (.cells cells t (0,0))∧∀ i,i<n→∃ v,cells[i]?=some v∧P i v
section
variable {w w':World} {b n:Nat} {t:TypeId} {P P':Nat→Value→Prop} {S:Nat→Prop}
theorem J4s.typed (h:J4s w b t n P):J0m w b t:=by obtain ⟨c,h,_⟩:=h;exact ⟨c,h⟩
theorem J4s.get (h:J4s w b t n P) {i:Nat} (hi:i<n):∃ v,w.cell? ⟨b,i,none⟩=some v∧P i v:=by
 obtain ⟨c,h1,h2⟩:=h
 obtain ⟨v,e,hv⟩:=h2 i hi
 exact ⟨v,by rw [J03 h1];exact e,hv⟩
theorem J4s.frozen (h:J4s w b t n P) (i:Nat):w.frozen? ⟨b,i,none⟩=false:=by
 obtain ⟨c,h1,_⟩:=h
 exact J07 h1 i
theorem J4s.kept (h:J4s w b t n P) (hk:Kept w w' S) (hS:¬ S b) (hP:∀ i v,P i v→P' i v):J4s w' b t n P':=by
 obtain ⟨c,h1,h2⟩:=h
 exact ⟨c,J0f h1 hk hS,fun i hi=>by obtain ⟨v,e,hv⟩:=h2 i hi;exact ⟨v,e,hP i v hv⟩⟩
theorem J4s.set (h:J4s w b t n P) {i:Nat} {v:Value} (hv:P' i v) (hP:∀ j u,j≠i→P j u→P' j u):J4s (w.setCell ⟨b,i,none⟩ v) b t n P':=by
 obtain ⟨c,h1,h2⟩:=h
 refine ⟨_,J9y h1 i v,fun j hj=>?_⟩
 obtain ⟨u,e,hu⟩:=h2 j hj
 by_cases hji:j=i
 ·subst hji
  have hsz:j<c.size:=(Array.getElem?_eq_some_iff.1 e).1
  exact ⟨v,by simp [hsz],hv⟩
 exact ⟨u,by rw [Y0i (Ne.symm hji)];exact e,hP j u hji hu⟩
end
theorem J0n (w:World) (b i:Nat) (v:Value):Kept w (w.setCell ⟨b,i,none⟩ v) (fun k=>k=b):=by
 have hg:w.grownBy (w.setCell ⟨b,i,none⟩ v) (some b):=J0e b [v] i w
 exact ⟨hg.size,fun k hk hn=>hg.block k hk (fun he=>hn (by injection he))⟩
theorem J39 {w w':World} {row:Option Nat} (hg:w.grownBy w' row):Kept w w' (fun k=>row=some k):=⟨hg.size,fun k hk hn=>hg.block k hk (fun he=>hn he.symm)⟩
def Ja0 (w:World) (lim k:Nat):Prop:=¬ J0m w k 3∧¬ J0m w k 57∧(k<lim→¬ J0m w k 83)
theorem Ja0.of {w:World} {lim k:Nat} {t:TypeId} (h:J0m w k t) (h1:(t == 3)=false) (h2:(t == 57)=false) (h3:(t == 83)=false):Ja0 w lim k:=⟨Yz2 h h1,Yz2 h h2,fun _=>Yz2 h h3⟩
def HdAt (w0 w:World) (v:Value) (l:List RM):Prop:=(kMF w0 w).R 57 w w0.heap.size (fun _=>True) v l
def CtAt (w0:World) (lim:Nat) (w:World) (v:Value) (l:List Msg):Prop:=(kCF w0 w).R 83 w w0.heap.size (fun k=>k<lim) v l
section
variable {w0 w w':World} {lim:Nat} {S:Nat→Prop} {v:Value}
theorem HdAt.kept {l:List RM} (h:HdAt w0 w v l) (h0:w0.heap.size≤w.heap.size) (hk:Kept w w' S) (hS:∀ k,S k→w0.heap.size≤k∧Ja0 w lim k):HdAt w0 w' v l:=by
 refine (J6l (FzUp.kept h0 hk (fun k hk=>⟨(hS k hk).1,(hS k hk).2.1⟩))).R (Kd.c06 (Kd.c0a (Kd.c05 h) hk (fun k hk' hs=>?_)) (fun _ h=>h.1))
 obtain ⟨_,_,_,q,hq,hc⟩:=hk'
 have hq:q=57:=by
  rw [show (kMF w0 w).E=[] from rfl] at hq
  simpa using hq
 subst hq
 exact (hS k hs).2.2.1 hc
theorem CtAt.kept {l:List Msg} (h:CtAt w0 lim w v l) (h0:w0.heap.size≤w.heap.size) (hk:Kept w w' S) (hS:∀ k,S k→w0.heap.size≤k∧Ja0 w lim k):CtAt w0 lim w' v l:=by
 refine (J58 (FzUp.kept h0 hk (fun k hk=>⟨(hS k hk).1,(hS k hk).2.1⟩))).R (Kd.c06 (Kd.c0a (Kd.c05 h) hk (fun k hk' hs=>?_)) (fun _ h=>h.1))
 obtain ⟨hl,_,_,q,hq,hc⟩:=hk'
 have hq:q=83:=by
  rw [show (kCF w0 w).E=[] from rfl] at hq
  simpa using hq
 subst hq
 exact (hS k hs).2.2.2 hl hc
theorem CtAt.one {l:List Msg} (h:CtAt w0 lim w v l):v.oneCell'=true:=by
 obtain ⟨A,c,rfl⟩:=Kd.c02 h
 rfl
end
structure RQ where
 hb:Nat
 hc:Nat
 lb:Nat
 lc:Nat
 nb:Nat
 nc:Nat
 rb:Nat→Nat
 rc:Nat→Nat
structure RunR (w0:World) (G:RQ) (W lim:Nat) (r:RS) (q:Nat→Nat→Value) (w:World):Prop where
 below:Below w0.heap.size w0 w
 held:J4s w G.hb 46 W (fun i v=>HdAt w0 w v (r.held.getD i []))
 led:J4s w G.lb 43 W (fun i v=>CtAt w0 lim w v (r.led.getD i []))
 rows:J4s w G.nb 158 W (fun i v=>v=.slice (some ⟨G.rb i,0,none⟩) W (G.rc i))
 row:∀ i,i<W→J4s w (G.rb i) 109 W (fun k v=>v=q i k)
 qs:∀ i k,i<W→k<W→QxAt 43 (CtAt w0 lim w) w0.heap.size w (q i k) (r.nts i k)
 qdis:∀ i k i' k',i<W→k<W→i'<W→k'<W→(i≠i'∨k≠k')→qOwn (q i k)=none∨qOwn (q i k)≠qOwn (q i' k')
 qlb:∀ i k,i<W→k<W→qOwn (q i k)≠some G.lb
 irb:∀ i j,i<W→j<W→G.rb i=G.rb j→i=j
 low:w0.heap.size≤G.hb∧w0.heap.size≤G.lb∧∀ i,i<W→w0.heap.size≤G.rb i
 lens:r.held.length=W∧r.led.length=W
section
variable {w0 w w':World} {G:RQ} {W lim:Nat} {r:RS} {q:Nat→Nat→Value}
theorem RunR.sz (h:RunR w0 G W lim r q w):w0.heap.size≤w.heap.size:=h.below.size
theorem RunR.q_ty (h:RunR w0 G W lim r q w) {i k:Nat} (hi:i<W) (hk:k<W) {b:Nat} (hb:qOwn (q i k)=some b):J0m w b 43:=((h.qs i k hi hk).c07 hb).2
theorem RunR.kept {S:Nat→Prop} (h:RunR w0 G W lim r q w) (hb:Below w0.heap.size w0 w') (hk:Kept w w' S) (hS:∀ k,S k→w0.heap.size≤k∧Ja0 w lim k)
  (hN:∀ k,S k→¬ J0m w k 46∧¬ J0m w k 43∧¬ J0m w k 109∧¬ J0m w k 158):RunR w0 G W lim r q w' :=
 ⟨hb,h.held.kept hk (fun hs=>(hN _ hs).1 h.held.typed) (fun _ _ hv=>hv.kept h.sz hk hS),h.led.kept hk (fun hs=>(hN _ hs).2.1 h.led.typed) (fun _ _ hv=>hv.kept h.sz hk hS),h.rows.kept hk (fun hs=>(hN _ hs).2.2.2 h.rows.typed) (fun _ _ hv=>hv),
  fun i hi=>(h.row i hi).kept hk (fun hs=>(hN _ hs).2.2.1 (h.row i hi).typed) (fun _ _ hv=>hv),
  fun i k hi hk'=>(h.qs i k hi hk').kept hk (fun _ _ hv=>hv.kept h.sz hk hS) (fun b hb hs=>(hN _ hs).2.1 (h.q_ty hi hk' hb)),h.qdis,h.qlb,h.irb,h.low,h.lens⟩
theorem RunR.c08 (h:RunR w0 G W lim r q w) (hb:Below w.heap.size w w'):RunR w0 G W lim r q w' :=
 h.kept (S:=fun _=>False) (J01 h.below h.below.size hb) (Kept.of_below hb _) (fun _ h=>h.elim) (fun _ h=>h.elim)
theorem RunR.set_new (h:RunR w0 G W lim r q w) {row:Option Nat} (hg:w.grownBy w' row) (hr:∀ k,row=some k→w0.heap.size≤k∧Ja0 w lim k∧¬ J0m w k 46∧¬ J0m w k 43∧¬ J0m w k 109∧¬ J0m w k 158):RunR w0 G W lim r q w':=by
 refine h.kept ?_ (J39 hg) (fun k hk=>⟨(hr k hk).1,(hr k hk).2.1⟩) (fun k hk=>(hr k hk).2.2)
 cases row with
 | some k=>exact J0k h.below hg (hr k rfl).1
 | none=>exact ⟨hg.os.trans h.below.os,hg.tape.trans h.below.tape,hg.output.trans h.below.output,Yz0 h.below.size hg.size,fun b hb=>(hg.block b (Nat.lt_of_lt_of_le hb h.below.size) (by simp)).trans (h.below.block b hb)⟩
theorem RunR.set_held (h:RunR w0 G W lim r q w) {i:Nat} (hi:i<W) {v:Value} {L:List RM} (hv:HdAt w0 w v L):RunR w0 G W lim { r with held:=r.held.set i L } q (w.setCell ⟨G.hb,i,none⟩ v):=by
 have hk:=J0n w G.hb i v
 have t:=h.held.typed
 have hS:∀ k,k=G.hb→w0.heap.size≤k∧Ja0 w lim k:=fun k hk=>by subst hk;exact ⟨h.low.1,.of t rfl rfl rfl⟩
 have hN:∀ {t':TypeId} {b:Nat},J0m w b t'→(46 == t')=false→¬ b=G.hb:=fun ht h1 he=>by subst he;exact Yz2 t h1 ht
 refine ⟨J0k h.below (J0e G.hb [v] i w) h.low.1,h.held.set ?_ (fun j u hj hu=>?_),h.led.kept hk (hN h.led.typed rfl) (fun _ _ hv=>hv.kept h.sz hk hS),h.rows.kept hk (hN h.rows.typed rfl) (fun _ _ hv=>hv),
  fun i hi=>(h.row i hi).kept hk (hN (h.row i hi).typed rfl) (fun _ _ hv=>hv),fun i k hi hk'=>(h.qs i k hi hk').kept hk (fun _ _ hv=>hv.kept h.sz hk hS) (fun b hb=>hN (h.q_ty hi hk' hb) rfl),h.qdis,h.qlb,h.irb,h.low,⟨by rw [← h.lens.1];simp,h.lens.2⟩⟩
 ·rw [J0o _ _ _ _ (by rw [h.lens.1];exact hi)]
  exact hv.kept h.sz hk hS
 rw [getD_set_ne _ _ _ (Ne.symm hj)]
 exact hu.kept h.sz hk hS
theorem RunR.set_led (h:RunR w0 G W lim r q w) {i:Nat} (hi:i<W) {v:Value} {L:List Msg} (hv:CtAt w0 lim w v L):RunR w0 G W lim { r with led:=r.led.set i L } q (w.setCell ⟨G.lb,i,none⟩ v):=by
 have hk:=J0n w G.lb i v
 have t:=h.led.typed
 have hS:∀ k,k=G.lb→w0.heap.size≤k∧Ja0 w lim k:=fun k hk=>by subst hk;exact ⟨h.low.2.1,.of t rfl rfl rfl⟩
 have hN:∀ {t':TypeId} {b:Nat},J0m w b t'→(43 == t')=false→¬ b=G.lb:=fun ht h1 he=>by subst he;exact Yz2 t h1 ht
 refine ⟨J0k h.below (J0e G.lb [v] i w) h.low.2.1,h.held.kept hk (hN h.held.typed rfl) (fun _ _ hv=>hv.kept h.sz hk hS),h.led.set ?_ (fun j u hj hu=>?_),h.rows.kept hk (hN h.rows.typed rfl) (fun _ _ hv=>hv),
  fun i hi=>(h.row i hi).kept hk (hN (h.row i hi).typed rfl) (fun _ _ hv=>hv),fun i k hi hk'=>(h.qs i k hi hk').kept hk (fun _ _ hv=>hv.kept h.sz hk hS) (fun b hb he=>h.qlb i k hi hk' (by rw [hb,he])),h.qdis,h.qlb,h.irb,h.low,⟨h.lens.1,by rw [← h.lens.2];simp⟩⟩
 ·rw [J0o _ _ _ _ (by rw [h.lens.2];exact hi)]
  exact hv.kept h.sz hk hS
 rw [getD_set_ne _ _ _ (Ne.symm hj)]
 exact hu.kept h.sz hk hS
theorem RunR.set_q (h:RunR w0 G W lim r q w) {i k:Nat} (hi:i<W) (hk:k<W) {w1:World} (hg:w.grownBy w1 (qOwn (q i k))) {v:Value} {l:List (List Msg)} (hv:QxAt 43 (CtAt w0 lim w) w0.heap.size w1 v l) (ho:qOwn v=none∨qOwn v=qOwn (q i k)∨∃ b,qOwn v=some b∧w.heap.size≤b) :
  RunR w0 G W lim { r with nts:=upQ r.nts i k l } (fun j m=>if j=i∧m=k then v else q j m) (w1.setCell ⟨G.rb i,k,none⟩ v):=by
 have hq:=h.qs i k hi hk
 have hqt:∀ b,qOwn (q i k)=some b→J0m w b 43:=fun b hb=>h.q_ty hi hk hb
 have hk1:=J39 hg
 have hrt:=(h.row i hi).typed
 have hr1:J4s w1 (G.rb i) 109 W (fun m v=>v=q i m):=(h.row i hi).kept hk1 (fun hb=>J1t hrt (hqt _ hb) rfl rfl) (fun _ _ hv=>hv)
 have hk2:Kept w (w1.setCell ⟨G.rb i,k,none⟩ v) (fun b=>qOwn (q i k)=some b∨b=G.rb i) :=
  Kept.then_ (S2:=fun b=>b=G.rb i) (hk1.mono (fun _ hb=>.inl hb)) (J0n w1 (G.rb i) k v) (fun b hb=>.inl (.inr hb))
 have hS:∀ b,(qOwn (q i k)=some b∨b=G.rb i)→w0.heap.size≤b∧Ja0 w lim b:=fun b hb=>by
  rcases hb with hb | rfl
  ·exact ⟨(hq.c07 hb).1,.of (hqt _ hb) rfl rfl rfl⟩
  exact ⟨h.low.2.2 i hi,.of hrt rfl rfl rfl⟩
 have hN:∀ {t:TypeId} {b:Nat},J0m w b t→(43 == t)=false→(109 == t)=false→¬ (qOwn (q i k)=some b∨b=G.rb i):=by
  intro t b ht h1 h2 hb
  rcases hb with hb | hb
  ·exact Yz2 (hqt _ hb) h1 ht
  subst hb;exact Yz2 hrt h2 ht
 have hbelow:Below w0.heap.size w0 (w1.setCell ⟨G.rb i,k,none⟩ v):=by
  have hb1:Below w0.heap.size w0 w1:=by
   cases hqo:qOwn (q i k) with
   | some b=>rw [hqo] at hg;exact J0k h.below hg (hq.c07 hqo).1
   | none=>rw [hqo] at hg;exact ⟨hg.os.trans h.below.os,hg.tape.trans h.below.tape,hg.output.trans h.below.output,Yz0 h.below.size hg.size,fun b hb=>(hg.block b (Nat.lt_of_lt_of_le hb h.below.size) (by simp)).trans (h.below.block b hb)⟩
  exact J0k hb1 (J0e (G.rb i) [v] k w1) (h.low.2.2 i hi)
 have hCt:∀ nv x,CtAt w0 lim w nv x→CtAt w0 lim (w1.setCell ⟨G.rb i,k,none⟩ v) nv x:=fun _ _ hv=>hv.kept h.sz hk2 hS
 have hqother:∀ j m,j<W→m<W→(j≠i∨m≠k)→qOwn (q j m)=none∨qOwn (q j m)≠qOwn v:=by
  intro j m hj hm hne
  rcases ho with ho | ho | ⟨b,ho,hb⟩
  ·cases hqo:qOwn (q j m) with
   | some b'=>right;rw [ho];simp
   | none=>exact .inl rfl
  ·rw [ho];exact h.qdis j m i k hj hm hi hk hne
  cases hqo:qOwn (q j m) with
  | none=>exact .inl rfl
  | some b'=>?_
  right
  rw [ho]
  intro he
  injection he with he
  obtain ⟨cc,hcc⟩:=h.q_ty hj hm hqo
  have:=J0q hcc
  omega
 refine ⟨hbelow,h.held.kept hk2 (hN h.held.typed rfl rfl) (fun _ _ hv=>hv.kept h.sz hk2 hS),h.led.kept hk2 (fun hb=>?_) (fun _ _ hv=>hCt _ _ hv),h.rows.kept hk2 (hN h.rows.typed rfl rfl) (fun _ _ hv=>hv),fun j hj=>?_,fun j m hj hm=>?_,fun j m j' m' hj hm hj' hm' hne=>?_,fun j m hj hm=>?_,h.irb,h.low,h.lens⟩
 ·rcases hb with hb | hb
  ·exact h.qlb i k hi hk hb
  exact J1t h.led.typed hrt rfl hb
 ·by_cases hji:j=i
  ·subst hji
   exact hr1.set (if_pos ⟨rfl,rfl⟩).symm (fun m u hm hu=>by rw [if_neg (fun h=>hm h.2)];exact hu)
  refine (h.row j hj).kept hk2 (fun hb=>?_) (fun m u hu=>by rw [if_neg (fun h=>hji h.1)];exact hu)
  rcases hb with hb | hb
  ·exact J1t (hqt _ hb) (h.row j hj).typed rfl rfl
  exact hji (h.irb j i hj hi hb)
 ·by_cases hjm:j=i∧m=k
  ·obtain ⟨rfl,rfl⟩:=hjm
   rw [if_pos ⟨rfl,rfl⟩,show ({ r with nts:=upQ r.nts j m l } : RS).nts j m=l from if_pos ⟨rfl,rfl⟩]
   exact hv.kept (J0n w1 (G.rb j) m v) hCt (fun b hb he=>by subst he;exact Yz2 hr1.typed rfl (hv.c07 hb).2)
  rw [if_neg hjm,show ({ r with nts:=upQ r.nts i k l } : RS).nts j m=r.nts j m from if_neg hjm]
  have hne:j≠i∨m≠k:=by
   by_cases h1:j=i
   ·exact .inr (fun h2=>hjm ⟨h1,h2⟩)
   exact .inl h1
  refine (h.qs j m hj hm).kept hk2 hCt (fun b hb he=>?_)
  rcases he with he | he
  ·rcases h.qdis j m i k hj hm hi hk hne with h1 | h1
   ·rw [h1] at hb;cases hb
   exact h1 (hb.trans he.symm)
  subst he;exact Yz2 hrt rfl (h.q_ty hj hm hb)
 ·by_cases h1:j=i∧m=k
  ·obtain ⟨rfl,rfl⟩:=h1
   rw [if_pos ⟨rfl,rfl⟩,if_neg (fun h=>hne.elim (fun h1=>h1 h.1.symm) (fun h1=>h1 h.2.symm))]
   rcases hqother j' m' hj' hm' (hne.imp Ne.symm Ne.symm) with h2 | h2
   ·cases hv':qOwn v with
    | some b=>right;rw [h2];simp
    | none=>exact .inl rfl
   exact .inr (Ne.symm h2)
  rw [if_neg h1]
  by_cases h2:j'=i∧m'=k
  ·obtain ⟨rfl,rfl⟩:=h2
   rw [if_pos ⟨rfl,rfl⟩]
   exact hqother j m hj hm hne
  rw [if_neg h2]
  exact h.qdis j m j' m' hj hm hj' hm' hne
 by_cases h1:j=i∧m=k
 ·rw [if_pos h1]
  rcases ho with ho | ho | ⟨b,ho,hb⟩
  ·rw [ho];simp
  ·rw [ho];exact h.qlb i k hi hk
  rw [ho]
  intro he
  injection he with he
  obtain ⟨cc,hcc⟩:=h.led.typed
  have:=J0q hcc
  omega
 rw [if_neg h1];exact h.qlb j m hj hm
theorem CtAt.relim {lim':Nat} {v:Value} {l:List Msg} (h:CtAt w0 lim w v l) (hl:lim≤lim'∨w.heap.size≤lim'):CtAt w0 lim' w v l :=
 Kd.c06 (Kd.c05 h) (fun k hk=>by have h1:=hk.1;have h2:=hk.2.2.1;omega)
theorem RunR.relim {lim':Nat} (h:RunR w0 G W lim r q w) (hl:lim≤lim'∨w.heap.size≤lim'):RunR w0 G W lim' r q w :=
 ⟨h.below,h.held,h.led.kept (S:=fun _=>False) (Kept.of_below (Y0f _ _) _) (fun h=>h) (fun _ _ hv=>hv.relim hl),h.rows,h.row,fun i k hi hk=>(h.qs i k hi hk).mono (fun _ _ hv=>hv.relim hl),h.qdis,h.qlb,h.irb,h.low,h.lens⟩
end
structure SV where
 p:Plan
 eA:Option Addr
 mA:Option Addr
 sA:Option Addr
 eC:Nat
 mC:Nat
 sC:Nat
 script:List Int
 G:RQ
 W:Nat
abbrev stC (V:SV) (tk x y z:Int):Array Value:=#[.int .i64 V.p.N,.int .i64 V.p.Wd,.slice V.eA V.p.E.length V.eC,.int .i64 V.p.workers,.slice V.mA V.p.start.length V.mC,.slice (some ⟨V.G.hb,0,none⟩) V.W V.G.hc,.slice (some ⟨V.G.lb,0,none⟩) V.W V.G.lc,.slice (some ⟨V.G.nb,0,none⟩) V.W V.G.nc,.slice V.sA V.script.length V.sC,.int .i64 tk,.int .i64 x,.int .i64 y,.int .i64 z]
abbrev stV (V:SV) (tk x y z:Int):Value:=.agg (stC V tk x y z)
theorem Jmt (x:Int) (r:List Int) {many:Int} (h:1≤many):numP (x::r) many=Jfj x many:=by
 unfold Jfj
 rw [if_neg (by omega)];rfl
theorem Jiq (V:SV) (tk:Nat) (x y z many:Int) (w:World) (hs:kI.C w V.sA V.script.length V.script) (h1:1≤many) (h2:many≤1000000000000000) (ht:tk≤1000000000000) (hl:V.script.length≤1000000000000) :
  Calls Tryz.prog 91 #[stV V tk x y z,.int .i64 many] w fun e w'=>e=.returned (.int .i64 (numP (V.script.drop tk) many))∧Below w.heap.size w w':=by
 have hb0:=J02 w (.cells (stC V tk x y z) 112)
 have hblk:=Y0c w (.cells (stC V tk x y z) 112)
 have c8:(w.alloc (.cells (stC V tk x y z) 112)).cell? ⟨w.heap.size,8,none⟩=some (.slice V.sA V.script.length V.sC):=(J03 hblk 8).trans rfl
 have c9:(w.alloc (.cells (stC V tk x y z) 112)).cell? ⟨w.heap.size,9,none⟩=some (.int .i64 tk):=(J03 hblk 9).trans rfl
 have HB:=Y00 hb0
 clear hb0 hblk
 by_cases h:tk<V.script.length
 ·have hE:(tk:Int)<V.script.length:=by omega
  have hge:¬ ((V.script.length:Int)≤tk):=by omega
  have h0:(0:Int)≤tk:=by omega
  obtain ⟨ad,hA,e0⟩:=Jjx hs h
  rw [hA] at c8
  have e0:=J00 HB.out e0
  have HR:=Y08 (show numP (V.script.drop tk) many=Jfj V.script[tk] many by rw [List.drop_eq_getElem_cons h];exact Jmt _ _ h1)
  generalize V.script[tk]=n at *
  clear hs hA
  go_enter Tryz.func91,Tryz.ntmps91
  go_upto_region 1 with fail
  generalize w.alloc (.cells _ 112)=w1 at *
  go_wp2_with fail
  refine (Jnz _ _ _ h1 h2).mono ?_
  rintro e w2 ⟨rfl,rfl⟩
  go_wp2_with fail
  go_ret
  exact ⟨J2k HR.out.symm,HB.out⟩
 have hge:(V.script.length:Int)≤tk:=by omega
 have HR:=Y08 (show numP (V.script.drop tk) many=0 by rw [List.drop_eq_nil_of_le (by omega)];rfl)
 clear hs
 go_enter Tryz.func91,Tryz.ntmps91
 go_upto_region 1 with fail
 generalize w.alloc (.cells _ 112)=w1 at *
 go_wp2_with fail
 go_ret
 exact ⟨J2k HR.out.symm,HB.out⟩
end Go.Proofs.YtbkfnmgkcgnifaaGreat
namespace Go.Proofs.YtbkfnmgkcgnifaaGreat
open Go.RowKit Go.Shelf W1 W2 Mdl
theorem Jf2 (m:RM) (n:Int):∀ (l:List Msg) (d:Bool),(entB m n d l).length≤2*l.length
 | [],_=>Y0e _
 | x::r,d=>by
  simp only [entB,Y02]
  have:=Jf2 m n r (d || J1h m x.1 || decide (m=x.1))
  have h1:(if (!d&&J1h m x.1)=true then [(m,n)] else []).length≤1:=by split<;>simp
  have h2:(if entN m n x≠0 then [(x.1,entN m n x)] else []).length≤1:=by split<;>simp
  simp only [Y0z];omega
theorem Jcd (w0:World) (A:Option Addr) (cA:Nat) (l:List Msg) (m:RM) (mA:Option Addr) (mC:Nat) (n:Int) (w:World) (hl:(kCF w0 w).C w A l.length l) (hm:FzAt w0 w (.slice mA m.2.length mC) m.2) (hn:l.length≤1000000) (hw:∀ x ∈ l,m.2.length=x.1.2.length) :
  Calls Tryz.prog 88 #[.slice A l.length cA,rmV m mA mC,.int .i64 n] w fun e w'=>∃ v,e=.returned v∧J3n w0 w w v (J0z m n false l) w':=by
 have HL:=Y00 hl
 have HM:=Y00 hm
 have HWD:=Y08 hw
 have hb0:=J02 w (.cells #[.int .i64 m.1,.slice mA m.2.length mC] 57)
 have hblk:=Y0c w (.cells #[.int .i64 m.1,.slice mA m.2.length mC] 57)
 have c0:(w.alloc (.cells #[.int .i64 m.1,.slice mA m.2.length mC] 57)).cell? ⟨w.heap.size,0,none⟩=some (.int .i64 m.1):=J03 hblk 0
 have c1:(w.alloc (.cells #[.int .i64 m.1,.slice mA m.2.length mC] 57)).cell? ⟨w.heap.size,1,none⟩=some (.slice mA m.2.length mC):=J03 hblk 1
 have HB:=Y00 hb0
 clear hl hm hb0 hblk hw
 go_enter Tryz.func88,Tryz.ntmps88
 go_upto_region 1 with fail
 generalize w.alloc (.cells #[.int .i64 m.1,.slice mA m.2.length mC] 57)=w1 at *
 have HC:=Y00 (Y07 c0 c1)
 clear c0 c1
 go_wp2_with fail
 have HO:=Y00 (J3n.start w0 w w1)
 generalize w1.alloc (.cells #[] 83)=w2 at *
 go_loopw [7,8,9] (fun o g i wr=>∃ k:Nat,i=.int .i64 k∧g=.bool (J9u m false (l.take k))∧k≤l.length∧J08 (J3n w0 w w1 o (entB m n false (l.take k)) wr)) (fun _ _ i _=>l.length - (intOf i).toNat)
 case atStart=>exact ⟨0,rfl,rfl,Yz3 _,HO⟩
 clear HO
 obtain ⟨k,rfl,rfl,hk,hX⟩:=hrel
 by_cases hlt:k<l.length
 rotate_left
 ·have hkE:¬ ((k:Int)<l.length):=by omega
  have HZ:=Y00 (show J3n w0 w w1 _ (entB m n false l) wr by have h:=hX.out;rwa [Y0t (by omega)] at h)
  have HPB:=Y08 (J94 m n l false)
  have HPL:=Y08 (show (entB m n false l).length≤2000000 by have:=Jf2 m n l false;omega)
  rw [show l.take k=l from Y0t (by omega)] at *
  have m0:=J00 hX.out.2 HC.out.1
  have m1:=J00 hX.out.2 HC.out.2
  clear hX
  generalize J9u m false l=b at *
  cases b with
  | false =>
   go_wp2_with (at_builtin;go_must (refine Kd.R_append (kCF w0 w) (w0:=w1) w1.heap.size rfl (.tmp 54) (.tmp 58) _ 83 _ 40 rfl Tryz.underlying43 Tryz.infoCnt rfl (Y0v rfl) (Y0v rfl) _ (entB m n false l) (m,n) _ (fun _=>True) (fun _=>False) rfl rfl ⟨[_,_],[_],rfl,⟨_,rfl,HM.out⟩,rfl⟩ (fun _ h=>h.elim) (fun _ _=>trivial) HZ.out.1 HZ.out.2 HZ.out.2.size (by have:=HPL.out;omega) ?_);intro v6 w6 hR6 hb6 hg6 hat6)
   go_ret
   exact ⟨_,rfl,by rw [HPB.out];exact (show J3n w0 w w1 v6 (entB m n false l++[(m,n)]) w6 from ⟨hR6,hb6⟩).down HB.out⟩
  | true=>?_
  go_wp2_with fail
  go_ret
  exact ⟨_,rfl,by rw [HPB.out];simpa using HZ.out.down HB.out⟩
 have hkE:(k:Int)<l.length:=by omega
 have hk0:(0:Int)≤k:=by omega
 obtain ⟨ad,sA,sC,rfl,e0,e1,e2,hf⟩:=Jqv HL.out hlt
 have HT:=Y08 (Y0u hlt)
 have HXW:=Y08 (HWD.out _ (Y0l hlt))
 have HW:=Y08 (Jgv m n l[k] (l.take k) false)
 have HGN:=Y08 (Jlf m false (l.take k) l[k])
 generalize l[k]=x at *
 have HAH:=Y08 (fun W (hb:Below w.heap.size w W)=>Jhd m x.1 mA sA mC sC W (Kd.c00 HM.out.C hb) (Kd.c00 hf.C hb) HXW.out)
 have HSM:=Y08 (fun W (hb:Below w.heap.size w W)=>Jeh m x.1 mA sA mC sC W (Kd.c00 HM.out.C hb) (Kd.c00 hf.C hb))
 have e0:=J00 (J01 HB.out HB.out.size hX.out.2) e0
 have e1:=J00 (J01 HB.out HB.out.size hX.out.2) e1
 have e2:=J00 (J01 HB.out HB.out.size hX.out.2) e2
 have HPL:=Y08 (show (entB m n false (l.take k)).length≤2000000 by have:=Jf2 m n (l.take k) false;rw [Y0o] at this;omega)
 generalize entB m n false (l.take k)=pre at *
 generalize J9u m false (l.take k)=b at *
 have HFX:=Y00 hf
 have HBX:=Y00 (hX.out.box x sA sC)
 clear hX hf
 go_upto_region 6 with fail
 generalize wr.alloc (.cells #[.int .i64 x.1.1,.slice sA x.1.2.length sC,.int .i64 x.2] 83)=wb at *
 have HBE:=Y08 (show wr.heap.size<wb.heap.size from J0q HBX.out.2.2.2)
 generalize wr.heap.size=be at *
 clear e0 e1 e2
 have HAB:=Y08 (show (!b&&J1h m x.1)=(!b&&J1h m x.1) from rfl)
 go_cut [29] from 22 to 29 (fun s29 wx=>s29=.bool (!b&&J1h m x.1)∧J08 (J7d w0 w w1 be u7 pre x sA sC wx))
 case first =>
  have m0:=J00 HBX.out.2.1 HC.out.1
  have m1:=J00 HBX.out.2.1 HC.out.2
  have b0:wb.cell? ⟨be,0,none⟩=some (.int .i64 x.1.1):=J03 HBX.out.2.2.2 0
  have b1:wb.cell? ⟨be,1,none⟩=some (.slice sA x.1.2.length sC):=J03 HBX.out.2.2.2 1
  cases b with
  | true =>
   go_wp2_with fail
   go_meet
   exact ⟨rfl,HBX⟩
  | false=>?_
  go_wp2_with fail
  refine (HAH.out wb (J01 HB.out HB.out.size HBX.out.2.1)).mono ?_
  rintro e w4 ⟨rfl,hb4⟩
  have H4:=Y00 (HBX.out.up hb4)
  clear hb4
  go_wp2_with fail
  go_meet
  exact ⟨rfl,H4⟩
 clear HBX HAH HBE
 obtain ⟨rfl,HBX⟩:=hcut
 go_upto_if 29 with fail
 go_cut [7,8] from 30 to 35 (fun s7 s8 wx=>s8=.bool (b || J1h m x.1)∧J08 (J7d w0 w w1 be s7 (pre++if (!b&&J1h m x.1)=true then [(m,n)] else []) x sA sC wx))
 case first =>
  have m0:=J00 HBX.out.2.1 HC.out.1
  have m1:=J00 HBX.out.2.1 HC.out.2
  generalize J1h m x.1=ab at *
  cases b with
  | true =>
   rw [show (!true&&ab)=false from rfl]
   go_wp2_with fail
   go_meet
   exact ⟨rfl,⟨by simpa using HBX.out⟩⟩
  | false=>?_
  cases ab with
  | false =>
   rw [show (!false&&false)=false from rfl]
   go_wp2_with fail
   go_meet
   exact ⟨rfl,⟨by simpa using HBX.out⟩⟩
  | true=>?_
  rw [show (!false&&true)=true from rfl]
  go_wp2_with (at_builtin;go_must (refine Kd.R_append (kCF w0 w) (w0:=w1) w1.heap.size rfl (.tmp 30) (.tmp 34) _ 83 _ 40 rfl Tryz.underlying43 Tryz.infoCnt rfl (Y0v rfl) (Y0v rfl) _ pre (m,n) _ (fun k=>k≠be) (fun _=>False) rfl rfl ⟨[_,_],[_],rfl,⟨_,rfl,HM.out⟩,rfl⟩ (fun _ h=>h.elim) (fun k hk=>by have:=HBX.out.lt;omega) HBX.out.1 HBX.out.2.1 HBX.out.2.1.size (by have:=HPL.out;omega) ?_);intro v6 w6 hR6 hb6 hg6 hat6)
  go_meet
  exact ⟨rfl,⟨HBX.out.more hR6 hb6 hg6⟩⟩
 clear HBX
 obtain ⟨rfl,HBX⟩:=hcut
 have HPL2:=Y08 (show (pre++if (!b&&J1h m x.1)=true then [(m,n)] else []).length≤2000001 by have:=HPL.out;rw [Y02];split<;>simp<;>omega)
 generalize hp2:(pre++if (!b&&J1h m x.1)=true then [(m,n)] else [])=pre2 at *
 have HP2:=Y08 hp2
 clear hp2
 have HMC:=Y00 (Y07 (J00 HBX.out.2.1 HC.out.1) (J00 HBX.out.2.1 HC.out.2))
 have m0:=HMC.out.1
 have m1:=HMC.out.2
 have b0:wc.cell? ⟨be,0,none⟩=some (.int .i64 x.1.1):=J03 HBX.out.2.2.2 0
 have b1:wc.cell? ⟨be,1,none⟩=some (.slice sA x.1.2.length sC):=J03 HBX.out.2.2.2 1
 go_upto_if 39 with fail
 refine (HSM.out wc (J01 HB.out HB.out.size HBX.out.2.1)).mono ?_
 rintro e w4 ⟨rfl,hb4⟩
 have H4:=Y00 (HBX.out.up hb4)
 clear HBX hb4 HMC m0 m1 b0 b1 HSM
 go_upto_if 39 with fail
 go_cut [8] from 39 to 44 (fun s8 wx=>s8=.bool (b || J1h m x.1 || decide (m=x.1))∧J08 (J7d w0 w w1 be u7 pre2 (x.1,entN m n x) sA sC wx))
 case first =>
  have b2:w4.cell? ⟨be,2,none⟩=some (.int .i64 x.2):=J03 H4.out.2.2.2 2
  have f2:=J07 H4.out.2.2.2 2
  by_cases hmx:m=x.1
  ·rw [Y0r hmx]
   have HEN:=Y08 (show entN m n x=w64 (x.2+n) from if_pos hmx)
   have HDM:=Y08 (Y0r hmx)
   clear hmx
   go_wp2_with fail
   go_meet
   exact ⟨by rw [HDM.out];simp,⟨by have h:=H4.out.put (w64 (x.2+n));rw [HEN.out,J2u];exact h⟩⟩
  rw [Y0s hmx]
  have HEN:=Y08 (show entN m n x=x.2 from if_neg hmx)
  have HDM:=Y08 (Y0s hmx)
  clear hmx
  go_wp2_with fail
  go_meet
  exact ⟨by rw [HDM.out];simp,⟨by rw [HEN.out];exact H4.out⟩⟩
 clear H4
 obtain ⟨rfl,HBX⟩:=hcut
 have HSN:=Y08 (show entB m n false (l.take (k+1))=pre2++if entN m n x≠0 then [(x.1,entN m n x)] else [] by rw [HT.out,HW.out,← HP2.out,Y0d])
 have HDN:=Y08 (show J9u m false (l.take (k+1))=(b || J1h m x.1 || decide (m=x.1)) by rw [HT.out,HGN.out])
 clear HW HGN HP2 HT
 generalize entN m n x=c at *
 generalize (b || J1h m x.1 || decide (m=x.1))=b3 at *
 have d0:wc.cell? ⟨be,0,none⟩=some (.int .i64 x.1.1):=J03 HBX.out.2.2.2 0
 have d1:wc.cell? ⟨be,1,none⟩=some (.slice sA x.1.2.length sC):=J03 HBX.out.2.2.2 1
 have d2:wc.cell? ⟨be,2,none⟩=some (.int .i64 c):=J03 HBX.out.2.2.2 2
 by_cases hc0:c=0
 ·have HC0:=Y08 hc0
  have hcn:(c != 0)=false:=by rw [hc0];rfl
  clear hc0
  have HS:=Y00 (show J3n w0 w w1 u7 (entB m n false (l.take (k+1))) wc by rw [HSN.out,if_neg (by rw [HC0.out];simp),List.append_nil];exact HBX.out.off)
  go_wp2_with fail
  exact ⟨⟨k+1,by go_num,by rw [HDN.out],by omega,HS⟩,by simp [intOf];omega⟩
 have HC0:=Y08 hc0
 have hcn:(c != 0)=true:=by simpa using hc0
 clear hc0
 have HN:=Y00 HBX.out.off
 go_wp2_with (at_builtin;go_must (refine Kd.R_append (kCF w0 w) (w0:=w1) w1.heap.size rfl (.tmp 48) (.tmp 50) _ 83 _ 40 rfl Tryz.underlying43 Tryz.infoCnt rfl (Y0v rfl) (Y0v rfl) _ pre2 (x.1,c) _ (fun _=>True) (fun _=>False) rfl rfl ⟨[_,_],[_],rfl,⟨_,rfl,HFX.out⟩,rfl⟩ (fun _ h=>h.elim) (fun _ _=>trivial) HN.out.1 HN.out.2 HN.out.2.size (by have:=HPL2.out;omega) ?_);intro v6 w6 hR6 hb6 hg6 hat6)
 have HS:=Y00 (show J3n w0 w w1 v6 (entB m n false (l.take (k+1))) w6 by rw [HSN.out,if_pos HC0.out];exact ⟨hR6,hb6⟩)
 clear hR6 hb6 hg6 hat6
 exact ⟨⟨k+1,by go_num,by rw [HDN.out],by omega,HS⟩,by simp [intOf];omega⟩
theorem J3n.wk {w0 wk wk' w wr:World} {o:Value} {xs:List Msg} (h:J3n w0 wk w o xs wr) (hf:FzUp w0 wk wk'):J3n w0 wk' w o xs wr:=⟨(J58 hf).R h.1,h.2⟩
def Jph (w0 w:World) (l note:List Msg) (k:Nat) (A:Option Addr) (c:Nat) (wr:World):Prop :=
 (kCF w0 wr).C wr A (allR l (note.take k)).length (allR l (note.take k))∧Below w.heap.size w wr∧(0<k→J3n w0 wr w (.slice A (allR l (note.take k)).length c) (allR l (note.take k)) wr)
theorem Jnn (w0:World) (A:Option Addr) (cA:Nat) (l:List Msg) (nA:Option Addr) (nC:Nat) (note:List Msg) (wd:Nat) (w:World) (hl:(kCF w0 w).C w A l.length l) (hnt:(kCF w0 w).C w nA note.length note)
  (ho:CsOk wd 400000 l) (hno:CsOk wd 400000 note) (hne:note≠[]) :
  Calls Tryz.prog 93 #[.slice A l.length cA,.slice nA note.length nC] w fun e w'=>∃ v,e=.returned v∧J3n w0 w' w v (allR l note) w':=by
 have HN:=Y00 hnt
 have HO:=Y08 (Y07 ho hno)
 have HNE:=Y08 (List.length_pos_iff.2 hne)
 have HS:=Y00 (show Jph w0 w l note 0 A cA w from ⟨hl,Y0f _ _,fun h=>absurd h (Nat.lt_irrefl 0)⟩)
 have hnl:=hno.1
 clear hl hnt ho hno hne
 go_enter Tryz.func93,Tryz.ntmps93
 go_wp2_with fail
 go_loopw [0,5] (fun a i wr=>∃ k:Nat,i=.int .i64 k∧k≤note.length∧∃ A' c',a=.slice A' (allR l (note.take k)).length c'∧J08 (Jph w0 w l note k A' c' wr)) (fun _ i _=>note.length - (intOf i).toNat)
 case atStart=>exact ⟨0,rfl,Yz3 _,A,cA,rfl,HS⟩
 clear HS
 obtain ⟨k,rfl,hk,A',c',rfl,hX⟩:=hrel
 by_cases hlt:k<note.length
 rotate_left
 ·have hkE:¬ ((k:Int)<note.length):=by omega
  have HZ:=Y00 (show J3n w0 wr w (.slice A' (allR l (note.take k)).length c') (allR l note) wr by
   have h:=hX.out.2.2 (by have:=HNE.out;omega)
   rwa [Y0t (by omega)] at h ⊢)
  clear hX
  generalize allR l (note.take k)=pre at *
  go_wp2_with fail
  go_ret
  exact ⟨_,rfl,HZ.out⟩
 have hkE:(k:Int)<note.length:=by omega
 have hk0:(0:Int)≤k:=by omega
 obtain ⟨ad,sA,sC,rfl,e0,e1,e2,hf⟩:=Jqv HN.out hlt
 have HT:=Y08 (Y0u hlt)
 have HC1:=Y08 ((HO.out.1.all (HO.out.2.take k)))
 have HXW:=Y08 (HO.out.2.2 _ (Y0l hlt))
 have HAL:=Y08 (Jno l (note.take k) note[k])
 generalize note[k]=x at *
 have e0:=J00 hX.out.2.1 e0
 have e1:=J00 hX.out.2.1 e1
 have e2:=J00 hX.out.2.1 e2
 have HE:=Y08 (fun W (hb:Below wr.heap.size wr W)=>Jcd w0 A' c' (allR l (note.take k)) x.1 sA sC x.2 W ((J58 (FzUp.below hb)).C (Kd.c00 hX.out.1 hb)) ((hf.below hX.out.2.1).below hb) (by have:=HC1.out.1;omega) (fun y hy=>by rw [HXW.out,HC1.out.2 y hy]))
 have HB:=Y00 hX.out.2.1
 clear hX hf
 generalize hpr:allR l (note.take k)=pre at *
 have HPR:=Y08 hpr
 clear hpr
 go_upto_region 4 with fail
 refine sr1 13 (fun w'=>w'.cell? (ad.add (k*3))=some (.int .i64 x.1.1)∧w'.cell? ⟨(ad.add (k*3)).block,(ad.add (k*3)).off+1,none⟩=some (.slice sA x.1.2.length sC)∧w'.cell? ⟨(ad.add (k*3)).block,(ad.add (k*3)).off+2,none⟩=some (.int .i64 x.2)) [] ⟨e0,e1,e2⟩ fun hJ0=>?_
 refine pv 0 ?_
 refine pv 1 ?_
 refine pv 2 ?_
 refine pv 3 ?_
 refine pv 4 ?_
 refine pv 6 ?_
 refine pv 7 ?_
 refine pv 8 ?_
 refine pv 9 ?_
 refine tv3 5 ?_
 refine tv3 10 ?_
 refine oc 11 Tryz.func88 #[.slice A' pre.length c',rmV x.1 sA sC,.int .i64 x.2] ?_
 refine (HE.out _ (J05 (Y0f _ _))).mono ?_
 rintro e w4 ⟨v,rfl,hN⟩
 obtain ⟨vA,vC,hve,-,hvR⟩:=Kd.c09 hN.1
 have HN4:=Y00 (show Jph w0 w l note (k+1) vA vC w4 from by
  have hb4:=J01 HB.out HB.out.size (J01 (J05 (Y0f _ _)) (Y0e _) hN.2)
  have e1:allR l (note.take (k+1))=J0z x.1 x.2 false pre:=by rw [HT.out,HAL.out]
  unfold Jph
  rw [e1]
  refine ⟨(J58 (FzUp.below hN.2)).C hvR,hb4,fun _=>?_⟩
  rw [← hve]
  exact (hN.wk (FzUp.below hN.2)).down (J01 HB.out HB.out.size (J05 (Y0f _ _))))
 refine ⟨_,rfl,(st3 hN.2 hJ0),fun hJ0=>?_⟩
 have HVE:=Y08 (show v=.slice vA (allR l (note.take (k+1))).length vC by rw [hve,HT.out,HAL.out])
 clear hN hve hvR HE HN
 refine nm0 _ ?_
 refine pv 12 ?_
 refine dn0 ?_
 go_wp2_with fail
 exact ⟨⟨k+1,by go_num,by omega,vA,vC,HVE.out,HN4⟩,by simp [intOf];omega⟩
end Go.Proofs.YtbkfnmgkcgnifaaGreat
namespace Go.Proofs.YtbkfnmgkcgnifaaGreat
open Go.RowKit Go.Shelf W1 W2 Mdl Go.ChangeMaps
structure WkAt (w0:World) (V:SV) (lim sb:Nat) (Z:List (Nat × Array Value × TypeId)) (T:List (Value × List Int)) (no:Nat→Prop) (nv:Value) (nt:List Msg) (tk:Nat) (r:RS) (q:Nat→Nat→Value) (w:World):Prop where
 run:RunR w0 V.G V.W lim r q w
 box:w.heap[sb]?=some (.cells (stC V tk r.works r.took r.sent) 112 (0,0))
 low:w0.heap.size≤sb
 frz:∀ x ∈ Z,w.heap[x.1]?=some (.cells x.2.1 x.2.2 (0,0))∧x.1≠sb∧(x.2.2 == 46)=false∧(x.2.2 == 43)=false∧(x.2.2 == 109)=false∧(x.2.2 == 83)=false
 tms:∀ x ∈ T,FzAt w0 w x.1 x.2
 note:(kCF w0 w).R 83 w w0.heap.size no nv nt
 drop:r.script=V.script.drop tk
theorem J13 {w:World} {b:Nat} {V:SV} {tk x y z:Int} {t:TypeId} (h:w.heap[b]?=some (.cells (stC V tk x y z) t (0,0))) :
  (w.cell? ⟨b,0,none⟩=some (.int .i64 V.p.N)∧w.cell? ⟨b,1,none⟩=some (.int .i64 V.p.Wd)∧w.cell? ⟨b,2,none⟩=some (.slice V.eA V.p.E.length V.eC)∧w.cell? ⟨b,3,none⟩=some (.int .i64 V.p.workers)∧w.cell? ⟨b,4,none⟩=some (.slice V.mA V.p.start.length V.mC)) ∧
  (w.cell? ⟨b,5,none⟩=some (.slice (some ⟨V.G.hb,0,none⟩) V.W V.G.hc)∧w.cell? ⟨b,6,none⟩=some (.slice (some ⟨V.G.lb,0,none⟩) V.W V.G.lc)∧w.cell? ⟨b,7,none⟩=some (.slice (some ⟨V.G.nb,0,none⟩) V.W V.G.nc)∧w.cell? ⟨b,8,none⟩=some (.slice V.sA V.script.length V.sC)) ∧
  (w.cell? ⟨b,9,none⟩=some (.int .i64 tk)∧w.cell? ⟨b,10,none⟩=some (.int .i64 x)∧w.cell? ⟨b,11,none⟩=some (.int .i64 y)∧w.cell? ⟨b,12,none⟩=some (.int .i64 z)) :=
 ⟨⟨(J03 h 0).trans rfl,(J03 h 1).trans rfl,(J03 h 2).trans rfl,(J03 h 3).trans rfl,(J03 h 4).trans rfl⟩,⟨(J03 h 5).trans rfl,(J03 h 6).trans rfl,(J03 h 7).trans rfl,(J03 h 8).trans rfl⟩,⟨(J03 h 9).trans rfl,(J03 h 10).trans rfl,(J03 h 11).trans rfl,(J03 h 12).trans rfl⟩⟩
section
variable {w0 w w':World} {V:SV} {lim sb tk:Nat} {Z:List (Nat × Array Value × TypeId)} {T:List (Value × List Int)} {no:Nat→Prop} {nv:Value} {nt:List Msg} {r:RS} {q:Nat→Nat→Value}
def RunS (sb:Nat) (w:World) (k:Nat):Prop:=k=sb∨J0m w k 46∨J0m w k 43∨J0m w k 109
theorem WkAt.t_box (h:WkAt w0 V lim sb Z T no nv nt tk r q w):J0m w sb 112:=⟨_,h.box⟩
theorem WkAt.free (h:WkAt w0 V lim sb Z T no nv nt tk r q w) {k:Nat} (hk:RunS sb w k):Ja0 w lim k∧¬ J0m w k 83:=by
 rcases hk with rfl | hk | hk | hk
 ·exact ⟨.of h.t_box rfl rfl rfl,Yz2 h.t_box rfl⟩
 ·exact ⟨.of hk rfl rfl rfl,Yz2 hk rfl⟩
 ·exact ⟨.of hk rfl rfl rfl,Yz2 hk rfl⟩
 exact ⟨.of hk rfl rfl rfl,Yz2 hk rfl⟩
theorem WkAt.step {r':RS} {q':Nat→Nat→Value} {tk':Nat} {S:Nat→Prop} (h:WkAt w0 V lim sb Z T no nv nt tk r q w) (hrun:RunR w0 V.G V.W lim r' q' w') (hbox:w'.heap[sb]?=some (.cells (stC V tk' r'.works r'.took r'.sent) 112 (0,0)))
  (hdrop:r'.script=V.script.drop tk') (hk:Kept w w' S) (hS:∀ k,S k→w0.heap.size≤k∧RunS sb w k):WkAt w0 V lim sb Z T no nv nt tk' r' q' w':=by
 have hF:∀ k,S k→w0.heap.size≤k∧Ja0 w lim k:=fun k hs=>⟨(hS k hs).1,(h.free (hS k hs).2).1⟩
 have hup:=FzUp.kept h.run.sz hk (fun k hs=>⟨(hS k hs).1,(hF k hs).2.1⟩)
 refine ⟨hrun,hbox,h.low,fun x hx=>?_,fun x hx=>hup _ _ (h.tms x hx),(J58 hup).R (Kd.c06 (Kd.c0a (Kd.c05 h.note) hk (fun k hk' hs=>?_)) (fun _ h=>h.1)),hdrop⟩
 ·obtain ⟨h1,h2,h3,h4,h5,h6⟩:=h.frz x hx
  refine ⟨J0f h1 hk (fun hs=>?_),h2,h3,h4,h5,h6⟩
  have t:J0m w x.1 x.2.2:=⟨_,h1⟩
  rcases (hS _ hs).2 with e | e | e | e
  ·exact h2 e
  ·exact Yz2 t h3 e
  ·exact Yz2 t h4 e
  exact Yz2 t h5 e
 obtain ⟨_,_,_,c,hc,hcc⟩:=hk'
 have hc:c=83:=by
  rw [show (kCF w0 w).E=[] from rfl] at hc
  simpa using hc
 subst hc
 exact (h.free (hS k hs).2).2 hcc
theorem WkAt.below (h:WkAt w0 V lim sb Z T no nv nt tk r q w) (hb:Below w.heap.size w w'):WkAt w0 V lim sb Z T no nv nt tk r q w' :=
 h.step (S:=fun _=>False) (h.run.c08 hb) (J04 h.box hb) h.drop (Kept.of_below hb _) (fun _ h=>h.elim)
theorem WkAt.cell (h:WkAt w0 V lim sb Z T no nv nt tk r q w) (j:Nat) (u:Value) {r':RS} {tk':Nat} (hc:(stC V tk r.works r.took r.sent).setIfInBounds j u=stC V tk' r'.works r'.took r'.sent) (h1:r'.held=r.held) (h2:r'.led=r.led) (h3:r'.nts=r.nts) (hd:r'.script=V.script.drop tk') :
  WkAt w0 V lim sb Z T no nv nt tk' r' q (w.setCell ⟨sb,j,none⟩ u):=by
 have hr:=h.run.set_new (J0e sb [u] j w) (fun k hk=>by injection hk with hk;subst hk;exact ⟨h.low,.of h.t_box rfl rfl rfl,Yz2 h.t_box rfl,Yz2 h.t_box rfl,Yz2 h.t_box rfl,Yz2 h.t_box rfl⟩)
 have hr2:RunR w0 V.G V.W lim r' q (w.setCell ⟨sb,j,none⟩ u):=⟨hr.below,by rw [h1];exact hr.held,by rw [h2];exact hr.led,hr.rows,hr.row,by rw [h3];exact hr.qs,hr.qdis,hr.qlb,hr.irb,hr.low,by rw [h1,h2];exact hr.lens⟩
 exact h.step hr2 (by rw [← hc];exact J9y h.box j u) hd (J0n w sb j u) (fun k hk=>by subst hk;exact ⟨h.low,.inl rfl⟩)
theorem WkAt.held (h:WkAt w0 V lim sb Z T no nv nt tk r q w) {i:Nat} (hi:i<V.W) {v:Value} {L:List RM} (hv:HdAt w0 w v L):WkAt w0 V lim sb Z T no nv nt tk { r with held:=r.held.set i L } q (w.setCell ⟨V.G.hb,i,none⟩ v) :=
 h.step (h.run.set_held hi hv) (J0f h.box (J0n w V.G.hb i v) (fun he=>J1t h.t_box h.run.held.typed rfl he)) h.drop (J0n w V.G.hb i v) (fun k hk=>by subst hk;exact ⟨h.run.low.1,.inr (.inl h.run.held.typed)⟩)
theorem WkAt.led (h:WkAt w0 V lim sb Z T no nv nt tk r q w) {i:Nat} (hi:i<V.W) {v:Value} {L:List Msg} (hv:CtAt w0 lim w v L):WkAt w0 V lim sb Z T no nv nt tk { r with led:=r.led.set i L } q (w.setCell ⟨V.G.lb,i,none⟩ v) :=
 h.step (h.run.set_led hi hv) (J0f h.box (J0n w V.G.lb i v) (fun he=>J1t h.t_box h.run.led.typed rfl he)) h.drop (J0n w V.G.lb i v) (fun k hk=>by subst hk;exact ⟨h.run.low.2.1,.inr (.inr (.inl h.run.led.typed))⟩)
theorem WkAt.queue (h:WkAt w0 V lim sb Z T no nv nt tk r q w) {i k:Nat} (hi:i<V.W) (hk:k<V.W) {w1:World} (hg:w.grownBy w1 (qOwn (q i k))) {v:Value} {l:List (List Msg)} (hv:QxAt 43 (CtAt w0 lim w) w0.heap.size w1 v l) (ho:qOwn v=none∨qOwn v=qOwn (q i k)∨∃ b,qOwn v=some b∧w.heap.size≤b) :
  WkAt w0 V lim sb Z T no nv nt tk { r with nts:=upQ r.nts i k l } (fun j m=>if j=i∧m=k then v else q j m) (w1.setCell ⟨V.G.rb i,k,none⟩ v):=by
 have hk2:Kept w (w1.setCell ⟨V.G.rb i,k,none⟩ v) (fun b=>qOwn (q i k)=some b∨b=V.G.rb i) :=
  Kept.then_ (S2:=fun b=>b=V.G.rb i) ((J39 hg).mono (fun _ hb=>.inl hb)) (J0n w1 (V.G.rb i) k v) (fun b hb=>.inl (.inr hb))
 have hS:∀ b,(qOwn (q i k)=some b∨b=V.G.rb i)→w0.heap.size≤b∧RunS sb w b:=fun b hb=>by
  rcases hb with hb | rfl
  ·exact ⟨((h.run.qs i k hi hk).c07 hb).1,.inr (.inr (.inl (h.run.q_ty hi hk hb)))⟩
  exact ⟨h.run.low.2.2 i hi,.inr (.inr (.inr (h.run.row i hi).typed))⟩
 refine h.step (h.run.set_q hi hk hg hv ho) (J0f h.box hk2 (fun hb=>?_)) h.drop hk2 hS
 rcases hb with hb | hb
 ·exact J1t h.t_box (h.run.q_ty hi hk hb) rfl rfl
 exact J1t h.t_box (h.run.row i hi).typed rfl hb
theorem WkAt.grow (h:WkAt w0 V lim sb Z T (fun k=>lim≤k) nv nt tk r q w) {nv':Value} {nt':List Msg} (hg:w.grownBy w' nv.ownBlock) (hR:(kCF w0 w).R 83 w' w0.heap.size (fun k=>lim≤k) nv' nt'):WkAt w0 V lim sb Z T (fun k=>lim≤k) nv' nt' tk r q w':=by
 have hk:=J39 hg
 obtain ⟨inner,ho⟩:=Kd.R_own h.note
 have hty:∀ k,nv.ownBlock=some k→J0m w k 83:=fun k hk=>c07 ho k hk
 have hlow:∀ k,nv.ownBlock=some k→w0.heap.size≤k:=fun k hk=>J3i ho k hk
 have hup:=FzUp.kept (w0:=w0) h.run.sz hk (fun k hs=>⟨hlow k hs,Yz2 (hty k hs) rfl⟩)
 refine ⟨h.run.set_new hg (fun k hs=>⟨hlow k hs,⟨Yz2 (hty k hs) rfl,Yz2 (hty k hs) rfl,fun hlt=>absurd (h.note.1 k hs) (by omega)⟩,Yz2 (hty k hs) rfl,Yz2 (hty k hs) rfl,Yz2 (hty k hs) rfl,Yz2 (hty k hs) rfl⟩),J0f h.box hk (fun hs=>J1t h.t_box (hty _ hs) rfl rfl),h.low,fun x hx=>?_,fun x hx=>hup _ _ (h.tms x hx),(J58 hup).R hR,h.drop⟩
 obtain ⟨h1,h2,h3,h4,h5,h6⟩:=h.frz x hx
 exact ⟨J0f h1 hk (fun hs=>J1t ⟨_,h1⟩ (hty _ hs) h6 rfl),h2,h3,h4,h5,h6⟩
theorem WkAt.freeze (h:WkAt w0 V lim sb Z T no nv nt tk r q w) {b:Nat} {cs:Array Value} {t:TypeId} (hb:w.heap[b]?=some (.cells cs t (0,0))) (h1:b≠sb) (h2:(t == 46)=false) (h3:(t == 43)=false) (h4:(t == 109)=false) (h5:(t == 83)=false):WkAt w0 V lim sb ((b,cs,t)::Z) T no nv nt tk r q w :=
 ⟨h.run,h.box,h.low,fun x hx=>by rcases Yz1.1 hx with hx | hx;rw [hx];exact ⟨hb,h1,h2,h3,h4,h5⟩;exact h.frz x hx,h.tms,h.note,h.drop⟩
theorem WkAt.time (h:WkAt w0 V lim sb Z T no nv nt tk r q w) {u:Value} {l:List Int} (hu:FzAt w0 w u l):WkAt w0 V lim sb Z ((u,l)::T) no nv nt tk r q w :=
 ⟨h.run,h.box,h.low,h.frz,fun x hx=>by rcases Yz1.1 hx with hx | hx;rw [hx];exact hu;exact h.tms x hx,h.note,h.drop⟩
theorem WkAt.thaw {x:Nat × Array Value × TypeId} (h:WkAt w0 V lim sb (x::Z) T no nv nt tk r q w):WkAt w0 V lim sb Z T no nv nt tk r q w:=⟨h.run,h.box,h.low,fun y hy=>h.frz y (Y04 _ hy),h.tms,h.note,h.drop⟩
theorem WkAt.late {x:Value × List Int} (h:WkAt w0 V lim sb Z (x::T) no nv nt tk r q w):WkAt w0 V lim sb Z T no nv nt tk r q w:=⟨h.run,h.box,h.low,h.frz,fun y hy=>h.tms y (Y04 _ hy),h.note,h.drop⟩
theorem WkAt.sent (h:WkAt w0 V lim sb Z T no nv nt tk r q w):WkAt w0 V w.heap.size sb Z T (fun k=>k<w.heap.size) nv nt tk r q w:=⟨h.run.relim (.inr (Y0e _)),h.box,h.low,h.frz,h.tms,Kd.c06 (Kd.c05 h.note) (fun _ hk=>hk.2.2.1),h.drop⟩
end
theorem Jhk (w:World) (a b c:Array Value) (s t u:TypeId):∃ w3,((w.alloc (.cells a s)).alloc (.cells b t)).alloc (.cells c u)=w3∧Below w.heap.size w w3∧w3.heap[w.heap.size]?=some (.cells a s (0,0))∧w3.heap[w.heap.size+1]?=some (.cells b t (0,0))∧w3.heap[w.heap.size+1+1]?=some (.cells c u (0,0)):=by
 have h1:=J02 w (.cells a s)
 have h2:=J02 (w.alloc (.cells a s)) (.cells b t)
 have h3:=J02 ((w.alloc (.cells a s)).alloc (.cells b t)) (.cells c u)
 have hs:(w.alloc (.cells a s)).heap.size=w.heap.size+1:=by simp
 have hs2:((w.alloc (.cells a s)).alloc (.cells b t)).heap.size=w.heap.size+1+1:=by simp
 refine ⟨_,rfl,J01 (J01 h1 h1.size h2) (Yz0 h1.size h2.size) h3,J04 (J04 (Y0c w _) h2) h3,?_,?_⟩
 ·have:=Y0c (w.alloc (.cells a s)) (.cells b t)
  rw [hs] at this
  exact J04 this h3
 have:=Y0c ((w.alloc (.cells a s)).alloc (.cells b t)) (.cells c u)
 rwa [hs2] at this
namespace Mdl
theorem Jde (i:Nat) (note:List Msg) (n:Nat) (f:Nat→Nat→List (List Msg)):J88 i note (n+1) f=if n=i then J88 i note n f else upQ (J88 i note n f) i n (J88 i note n f i n++[note]):=by
 by_cases h:n=i
 ·rw [if_pos h]
  funext a b
  unfold J88
  by_cases hc:a=i∧b<n∧b≠i
  ·rw [if_pos hc,if_pos (by omega)]
  rw [if_neg hc,if_neg (by omega)]
 rw [if_neg h]
 funext a b
 unfold upQ
 by_cases hab:a=i∧b=n
 ·rw [if_pos hab]
  unfold J88
  rw [if_pos (by omega),if_neg (by omega),hab.1,hab.2]
 rw [if_neg hab]
 unfold J88
 by_cases hc:a=i∧b<n∧b≠i
 ·rw [if_pos hc,if_pos (by omega)]
 rw [if_neg hc,if_neg (by omega)]
def stR (r:RS) (s:RW):RS:={ r with held:=s.held,script:=s.script,sent:=s.sent }
theorem Jp5 {W:Nat} {m:RM} {s:RW} {e:Ed} (h:e.1≠m.1):J4x W m s e=s:=by unfold J4x;rw [if_neg h]
theorem Jlc {W:Nat} {m:RM} {s:RW} {e:Ed} (h:e.1=m.1) (h0:numP s.script ((W:Int)+1)=0):J4x W m s e={ s with script:=s.script.tail }:=by unfold J4x;rw [if_pos h,if_pos h0]
theorem Jld {W:Nat} {m:RM} {s:RW} {e:Ed} {j:Nat} (h:e.1=m.1) (h0:numP s.script ((W:Int)+1)=(j:Int)+1) :
  J4x W m s e={ held:=s.held.set j (putR (J86 m e) false (s.held.getD j [])),script:=s.script.tail,sent:=w64 (s.sent+1),note:=s.note++[(J86 m e,1)] }:=by
 unfold J4x
 rw [if_pos h,if_neg (by omega),show (numP s.script ((W:Int)+1) - 1).toNat=j by omega]
theorem RWOk.fold {wd W:Nat} {m:RM} (hm:m.2.length=wd):∀ (E:List Ed) (n k:Nat) (s:RW),RWOk wd W n k s→(∀ e ∈ E,e.2.2.length=wd)→RWOk wd W (n+E.length) (k+E.length) (E.foldl (J4x W m) s)
 | [],_,_,_,h,_=>h
 | e::E,n,k,s,h,he=>by
  have:=RWOk.fold hm E (n+1) (k+1) _ (h.edge hm (he e Y03)) (fun x hx=>he x (Y04 _ hx))
  rw [List.foldl_cons,Y0z,show n+(E.length+1)=n+1+E.length by omega,show k+(E.length+1)=k+1+E.length by omega]
  exact this
end Mdl
theorem Jol (w0 w:World) {lim:Nat} (m:RM) (mA:Option Addr) (mC:Nat) (n:Int) (hm:FzAt w0 w (.slice mA m.2.length mC) m.2) (hl:lim≤w.heap.size) (h0:w0.heap.size≤w.heap.size) :
  (kCF w0 w).R 83 (w.alloc (.cells #[.int .i64 m.1,.slice mA m.2.length mC,.int .i64 n] 83)) w0.heap.size (fun k=>lim≤k) (.slice (some ⟨w.heap.size,0,none⟩) 1 1) [(m,n)]:=by
 refine ⟨fun k hk=>?_,[.int .i64 m.1,.slice mA m.2.length mC,.int .i64 n],⟨rfl,.inr ⟨w.heap.size,1,_,rfl,h0,Y0c w _,Y0e _,by decide,rfl,rfl⟩⟩,⟨rfl,fun j p hj=>?_⟩⟩
 ·have:w.heap.size=k:=by simpa [Value.ownBlock] using hk
  omega
 cases j with
 | succ j=>simp at hj
 | zero=>?_
 have hj:(m,n)=p:=by simpa using hj
 subst hj
 exact ⟨[_,_],[_],rfl,⟨_,rfl,hm⟩,rfl⟩
theorem WkAt.at0 {w0 w:World} {V:SV} {lim sb tk b:Nat} {cs:Array Value} {t:TypeId} {Z:List (Nat × Array Value × TypeId)} {T:List (Value × List Int)} {no:Nat→Prop} {nv:Value} {nt:List Msg} {r:RS} {q:Nat→Nat→Value} (h:WkAt w0 V lim sb ((b,cs,t)::Z) T no nv nt tk r q w):w.heap[b]?=some (.cells cs t (0,0)):=(h.frz _ Y03).1
theorem WkAt.tm0 {w0 w:World} {V:SV} {lim sb tk:Nat} {u:Value} {l:List Int} {Z:List (Nat × Array Value × TypeId)} {T:List (Value × List Int)} {no:Nat→Prop} {nv:Value} {nt:List Msg} {r:RS} {q:Nat→Nat→Value} (h:WkAt w0 V lim sb Z ((u,l)::T) no nv nt tk r q w):FzAt w0 w u l:=h.tms _ Y03
section
variable {w0 w:World} {V:SV} {lim sb tk b b' b2:Nat} {cs cs' cs2:Array Value} {t t' t2:TypeId} {Z:List (Nat × Array Value × TypeId)} {T:List (Value × List Int)} {u u':Value} {l l':List Int} {no:Nat→Prop} {nv:Value} {nt:List Msg} {r:RS} {q:Nat→Nat→Value}
theorem WkAt.at1 (h:WkAt w0 V lim sb ((b',cs',t')::(b,cs,t)::Z) T no nv nt tk r q w):w.heap[b]?=some (.cells cs t (0,0)):=h.thaw.at0
end
abbrev mvC (i:Nat) (bw:Bool) (m:RM) (mA:Option Addr) (mC:Nat) (fr:Int):Array Value:=#[.int .i64 i,.bool bw,.int .i64 m.1,.slice mA m.2.length mC,.int .i64 fr]
abbrev stZ:Array Value:=#[.int .i64 0,.int .i64 0,.slice none 0 0,.int .i64 0,.slice none 0 0,.slice none 0 0,.slice none 0 0,.slice none 0 0,.slice none 0 0,.int .i64 0,.int .i64 0,.int .i64 0,.int .i64 0]
def Je4 (Zx:List (Nat × Array Value × TypeId)) (w:World):Prop:=∀ x ∈ Zx,w.heap[x.1]?=some (.cells x.2.1 x.2.2 (0,0))∧(x.2.2 == 46)=false∧(x.2.2 == 43)=false∧(x.2.2 == 109)=false∧(x.2.2 == 83)=false
abbrev WkW (w0:World) (V:SV) (lim:Nat) (Zx:List (Nat × Array Value × TypeId)) (sb mb rb i:Nat) (bw:Bool) (m:RM) (mA:Option Addr) (mC:Nat) (fr:Int) (nv:Value) (nt:List Msg) (tk:Nat) (r:RS) (q:Nat→Nat→Value) (w:World):Prop:=WkAt w0 V lim sb ((mb,mvC i bw m mA mC fr,163)::(rb,stZ,112)::Zx) [(.slice mA m.2.length mC,m.2)] (fun k=>lim≤k) nv nt tk r q w
theorem J6t {w:World} {b:Nat} {t:TypeId} (h:w.heap[b]?=some (.cells stZ t (0,0))) (v0 v1 v2 v3 v4 v5 v6 v7 v8 v9 v10 v11 v12:Value):(((((((((((((w.setCell ⟨b,0,none⟩ v0).setCell ⟨b,1,none⟩ v1).setCell ⟨b,2,none⟩ v2).setCell ⟨b,3,none⟩ v3).setCell ⟨b,4,none⟩ v4).setCell ⟨b,5,none⟩ v5).setCell ⟨b,6,none⟩ v6).setCell ⟨b,7,none⟩ v7).setCell ⟨b,8,none⟩ v8).setCell ⟨b,9,none⟩ v9).setCell ⟨b,10,none⟩ v10).setCell ⟨b,11,none⟩ v11).setCell ⟨b,12,none⟩ v12).heap[b]?=some (.cells #[v0,v1,v2,v3,v4,v5,v6,v7,v8,v9,v10,v11,v12] t (0,0))∧w.grownBy (((((((((((((w.setCell ⟨b,0,none⟩ v0).setCell ⟨b,1,none⟩ v1).setCell ⟨b,2,none⟩ v2).setCell ⟨b,3,none⟩ v3).setCell ⟨b,4,none⟩ v4).setCell ⟨b,5,none⟩ v5).setCell ⟨b,6,none⟩ v6).setCell ⟨b,7,none⟩ v7).setCell ⟨b,8,none⟩ v8).setCell ⟨b,9,none⟩ v9).setCell ⟨b,10,none⟩ v10).setCell ⟨b,11,none⟩ v11).setCell ⟨b,12,none⟩ v12) (some b):=by
 have h0:=J0d (cs':=#[v0,.int .i64 0,.slice none 0 0,.int .i64 0,.slice none 0 0,.slice none 0 0,.slice none 0 0,.slice none 0 0,.slice none 0 0,.int .i64 0,.int .i64 0,.int .i64 0,.int .i64 0]) h 0 v0 rfl
 have h1:=J0d (cs':=#[v0,v1,.slice none 0 0,.int .i64 0,.slice none 0 0,.slice none 0 0,.slice none 0 0,.slice none 0 0,.slice none 0 0,.int .i64 0,.int .i64 0,.int .i64 0,.int .i64 0]) h0 1 v1 rfl
 have h2:=J0d (cs':=#[v0,v1,v2,.int .i64 0,.slice none 0 0,.slice none 0 0,.slice none 0 0,.slice none 0 0,.slice none 0 0,.int .i64 0,.int .i64 0,.int .i64 0,.int .i64 0]) h1 2 v2 rfl
 have h3:=J0d (cs':=#[v0,v1,v2,v3,.slice none 0 0,.slice none 0 0,.slice none 0 0,.slice none 0 0,.slice none 0 0,.int .i64 0,.int .i64 0,.int .i64 0,.int .i64 0]) h2 3 v3 rfl
 have h4:=J0d (cs':=#[v0,v1,v2,v3,v4,.slice none 0 0,.slice none 0 0,.slice none 0 0,.slice none 0 0,.int .i64 0,.int .i64 0,.int .i64 0,.int .i64 0]) h3 4 v4 rfl
 have h5:=J0d (cs':=#[v0,v1,v2,v3,v4,v5,.slice none 0 0,.slice none 0 0,.slice none 0 0,.int .i64 0,.int .i64 0,.int .i64 0,.int .i64 0]) h4 5 v5 rfl
 have h6:=J0d (cs':=#[v0,v1,v2,v3,v4,v5,v6,.slice none 0 0,.slice none 0 0,.int .i64 0,.int .i64 0,.int .i64 0,.int .i64 0]) h5 6 v6 rfl
 have h7:=J0d (cs':=#[v0,v1,v2,v3,v4,v5,v6,v7,.slice none 0 0,.int .i64 0,.int .i64 0,.int .i64 0,.int .i64 0]) h6 7 v7 rfl
 have h8:=J0d (cs':=#[v0,v1,v2,v3,v4,v5,v6,v7,v8,.int .i64 0,.int .i64 0,.int .i64 0,.int .i64 0]) h7 8 v8 rfl
 have h9:=J0d (cs':=#[v0,v1,v2,v3,v4,v5,v6,v7,v8,v9,.int .i64 0,.int .i64 0,.int .i64 0]) h8 9 v9 rfl
 have h10:=J0d (cs':=#[v0,v1,v2,v3,v4,v5,v6,v7,v8,v9,v10,.int .i64 0,.int .i64 0]) h9 10 v10 rfl
 have h11:=J0d (cs':=#[v0,v1,v2,v3,v4,v5,v6,v7,v8,v9,v10,v11,.int .i64 0]) h10 11 v11 rfl
 have h12:=J0d (cs':=#[v0,v1,v2,v3,v4,v5,v6,v7,v8,v9,v10,v11,v12]) h11 12 v12 rfl
 exact ⟨h12,J0e b [v0,v1,v2,v3,v4,v5,v6,v7,v8,v9,v10,v11,v12] 0 w⟩
theorem J95 {s l:List Int} {tk:Nat} (h:s=l.drop tk):s.tail=l.drop (tk+1):=by rw [h,List.tail_drop]
theorem FzAt.of_R {w0 w:World} {base:Nat} {ok:Nat→Prop} {v:Value} {l:List Int} (h:kI.R 3 w base ok v l):FzAt w0 w v l:=by
 obtain ⟨A,c,rfl,h1,h2⟩:=Kd.c09 h
 obtain ⟨inner,ho⟩:=Kd.R_own h
 refine ⟨A,c,rfl,h2,h1,fun a ha=>?_⟩
 subst ha
 obtain ⟨hlen,⟨he,hz⟩ | ⟨g,cap,cur,he,hbg,hgg,hr⟩⟩:=ho
 ·injection he with he;cases he
 injection he with he
 injection he with he
 subst he
 exact .inr (.inr ⟨_,hgg⟩)
namespace Mdl
theorem RWOk.heldAt {wd W n k:Nat} {s:RW} (h:RWOk wd W n k s) (j:Nat):MsOk wd n (s.held.getD j []):=by
 rw [Y01]
 cases hg:s.held[j]? with
 | some L=>exact h.held L (List.mem_of_getElem? hg)
 | none=>exact ⟨Yz3 _,fun x hx=>by cases hx⟩
theorem Jnb {W:Nat} {m:RM} {s:RW} {e:Ed} (h:s.note≠[]):(J4x W m s e).note≠[]:=by
 unfold J4x
 split
 ·split
  ·exact h
  simp
 exact h
theorem Jgm {W:Nat} {m:RM} : ∀ (E:List Ed) (s:RW),s.note≠[]→(E.foldl (J4x W m) s).note≠[]
 | [],_,h=>h
 | _::E,_,h=>Jgm E _ (Jnb h)
theorem Jko (i:Nat) (note:List Msg) (f:Nat→Nat→List (List Msg)):J88 i note 0 f=f:=by
 funext a b
 exact if_neg (by omega)
theorem Jmo (i:Nat) (note:List Msg) (n:Nat) (f:Nat→Nat→List (List Msg)) (a b:Nat):(J88 i note n f a b).length≤(f a b).length+1:=by
 unfold J88
 split<;>simp
end Mdl
def Mdl.wkR (r:RS) (s:RW) (i:Nat) (l:List Msg) (n:Nat):RS:=⟨s.held,r.led.set i l,J88 i s.note n r.nts,s.script,r.works,s.sent,r.took⟩
theorem Tryz.infoCs:(Tryz.prog.info? 43).map (fun i=>(i.zero,i.size,i.bytes))=some (some (.slice none 0 0),1,24):=by kernel_rfl
theorem J3n.ct {w0 w w':World} {v:Value} {l:List Msg} (h:J3n w0 w' w v l w') (h0:w0.heap.size≤w.heap.size):CtAt w0 w'.heap.size w' v l:=Kd.c06 (Kd.c05 (Kd.c04 h.1 h0)) (fun _ hk=>hk.2.2.1)
theorem FzAt.put {w0 w:World} {u:Value} {l:List Int} (h:FzAt w0 w u l) (h0:w0.heap.size≤w.heap.size) {g:Nat} {cs:Array Value} {t:TypeId} (hg:w.heap[g]?=some (.cells cs t (0,0))) (hge:w0.heap.size≤g) (ht:(t == 3)=false) (i:Nat) (v:Value):FzAt w0 (w.setCell ⟨g,i,none⟩ v) u l :=
 h.kept h0 (J0n w g i v) (fun k hk=>by subst hk;exact ⟨hge,Yz2 ⟨_,hg⟩ ht⟩)
theorem J29.hd {w0 wk w w':World} {v:Value} {l:List RM} (h:J29 w0 wk w v l w') (hf:FzUp w0 wk w') (h0:w0.heap.size≤w.heap.size):HdAt w0 w' v l:=(J6l hf).R (Kd.c04 h.1 h0)
def kV {α:Type} (P:Value→α→Prop) (h1:∀ v x,P v x→v.oneCell'=true):Kd α where
 sz:=1
 E:=[]
 K:=fun _ x cs=>∃ v,cs=[v]∧P v x
 M:=fun _ _ _ x cs=>∃ v,cs=[v]∧P v x
 K_len:=fun h=>by obtain ⟨v,rfl,_⟩:=h;rfl
 K_one:=fun h=>by
  obtain ⟨v,rfl,hp⟩:=h
  intro u hu
  rw [Y11.1 hu]
  exact h1 _ _ hp
 K_below:=fun _ h=>h
 K_of_M:=fun h=>h
 M_mono:=fun _ h=>h
 M_bound:=fun h=>h
 M_move:=fun _ h=>h
 M_lower:=fun _ h=>h
theorem Js5 {α:Type} {P P':Value→α→Prop} {h1:∀ v x,P v x→v.oneCell'=true} {h1':∀ v x,P' v x→v.oneCell'=true} (h:∀ v x,P v x→P' v x):KdUp (kV P h1) (kV P' h1') :=
 ⟨rfl,fun ⟨v,e,hp⟩=>⟨v,e,h v _ hp⟩,fun ⟨v,e,hp⟩=>⟨v,e,h v _ hp⟩⟩
theorem Jgd {α:Type} {P:Value→α→Prop} {h1:∀ v x,P v x→v.oneCell'=true} {t:TypeId} {w:World} {base:Nat} {ok:Nat→Prop} {v:Value} {xs:List α} (h:(kV P h1).R t w base ok v xs) (d:α) (hp:0<xs.length) :
  ∃ g c,v=.slice (some ⟨g,0,none⟩) xs.length c∧base≤g∧J4s w g t xs.length (fun i u=>P u (xs.getD i d)):=by
 obtain ⟨_,inner,⟨hlen,⟨he,hz⟩ | ⟨g,cap,cur,he,hb,hg,hnc,hcm,hcs,hct⟩⟩,hr⟩:=h
 ·omega
 refine ⟨g,cap,he,hb,cur,hg,fun i hi=>?_⟩
 have h2:=hr.2 i _ (Y05 hi)
 obtain ⟨u,hu,hpu⟩:=h2
 have hil:i<inner.length:=by have:=hr.1;rw [show (kV P h1).sz=1 from rfl,Nat.mul_one] at this;omega
 have hu2:inner[i]=u:=by
  have h3:(inner.drop (i*1)).take 1=[u]:=hu
  rw [Nat.mul_one,List.drop_eq_getElem_cons hil] at h3
  have h4:=congrArg List.head? h3
  rw [List.take_succ_cons] at h4
  exact Option.some.inj h4
 refine ⟨u,?_,show P u (xs.getD i d) by rw [Y01,Y05 hi];exact hpu⟩
 have hii:inner[i]?=some u:=by rw [Y05 hil,hu2]
 rw [← hct,List.getElem?_take] at hii
 split at hii
 ·simpa using hii
 cases hii
theorem Jqg {w:World} {A:Option Addr} {l:List Int} {c:Nat} (h:kI.C w A l.length l) (hc:l.length≤c):FzAt w w (.slice A l.length c) l:=by
 refine ⟨A,c,rfl,h,hc,fun a ha=>?_⟩
 cases l with
 | nil=>exact .inl rfl
 | cons x r=>?_
 right;left
 obtain ⟨ad,e,hcell⟩:=Jjx h (k:=0) (by simp)
 rw [ha] at e
 injection e with e
 subst e
 have hb:(a.add 0).block=a.block:=Jhe a 0
 rw [← hb]
 exact Nat.lt_of_not_le (fun hle=>by
  have:w.heap[(a.add 0).block]?=none:=Array.getElem?_eq_none_iff.2 hle
  simp [World.cell?,this] at hcell)
def nilP (v:Value) (l:List RM):Prop:=v=.slice none 0 0∧l=[]
theorem Jjb (v:Value) (l:List RM) (h:nilP v l):v.oneCell'=true:=by rw [h.1];rfl
def nilQ (v:Value) (_:Unit):Prop:=v=.slice none 0 0
theorem Jom (v:Value) (x:Unit) (h:nilQ v x):v.oneCell'=true:=by rw [show v=_ from h];rfl
def rowQ (W:Nat) (v:Value) (g:Nat × Nat):Prop:=v=.slice (some ⟨g.1,0,none⟩) W g.2
theorem Jej (W:Nat) (v:Value) (x:Nat × Nat) (h:rowQ W v x):v.oneCell'=true:=by rw [show v=_ from h];rfl
theorem J9c (w0:World) (lim:Nat) (w:World) (v:Value) (l:List Msg) (h:CtAt w0 lim w v l):v.oneCell'=true:=h.one
theorem Tryz.infoAms:(Tryz.prog.info? 46).map (fun i=>(i.zero,i.size,i.bytes))=some (some (.slice none 0 0),1,24):=by kernel_rfl
theorem Tryz.infoL1c:(Tryz.prog.info? 109).map (fun i=>(i.zero,i.size,i.bytes))=some (some (.slice none 0 0),1,24):=by kernel_rfl
theorem Tryz.infoL2c:(Tryz.prog.info? 158).map (fun i=>(i.zero,i.size,i.bytes))=some (some (.slice none 0 0),1,24):=by kernel_rfl
structure BgAt (w:World) (sb hb W:Nat) (bx:Array Value) (Z:List (Nat × Array Value × TypeId)) (hs:List (List RM)) (lv:Value) (ll:List Msg) (wr:World):Prop where
 below:Below w.heap.size w wr
 box:wr.heap[sb]?=some (.cells bx 112 (0,0))
 held:J4s wr hb 46 W (fun i v=>HdAt w wr v (hs.getD i []))
 low:w.heap.size≤sb∧w.heap.size≤hb
 frz:∀ x ∈ Z,wr.heap[x.1]?=some (.cells x.2.1 x.2.2 (0,0))∧x.1≠sb∧(x.2.2 == 46)=false∧(x.2.2 == 43)=false∧(x.2.2 == 158)=false
 led:(kCF w wr).R 83 wr w.heap.size (fun _=>True) lv ll
 len:hs.length=W
section
variable {w wr w':World} {sb hb W:Nat} {bx bx':Array Value} {Z:List (Nat × Array Value × TypeId)} {hs:List (List RM)} {lv:Value} {ll:List Msg}
theorem BgAt.step {S:Nat→Prop} {hs':List (List RM)} (h:BgAt w sb hb W bx Z hs lv ll wr) (hb':Below w.heap.size w w') (hbox:w'.heap[sb]?=some (.cells bx' 112 (0,0))) (hheld:J4s w' hb 46 W (fun i v=>HdAt w w' v (hs'.getD i []))) (hl:hs'.length=W)
  (hk:Kept wr w' S) (hS:∀ k,S k→w.heap.size≤k∧(k=sb∨J0m wr k 46∨J0m wr k 43∨J0m wr k 158)):BgAt w sb hb W bx' Z hs' lv ll w':=by
 have hty:∀ k,S k→¬ J0m wr k 3∧¬ J0m wr k 83:=fun k hs=>by
  rcases (hS k hs).2 with rfl | h1 | h1 | h1
  ·exact ⟨Yz2 ⟨_,h.box⟩ rfl,Yz2 ⟨_,h.box⟩ rfl⟩
  ·exact ⟨Yz2 h1 rfl,Yz2 h1 rfl⟩
  ·exact ⟨Yz2 h1 rfl,Yz2 h1 rfl⟩
  exact ⟨Yz2 h1 rfl,Yz2 h1 rfl⟩
 have hup:=FzUp.kept (w0:=w) h.below.size hk (fun k hs=>⟨(hS k hs).1,(hty k hs).1⟩)
 refine ⟨hb',hbox,hheld,h.low,fun x hx=>?_,(J58 hup).R (Kd.c06 (Kd.c0a (Kd.c05 h.led) hk (fun k hk' hs=>?_)) (fun _ h=>h.1)),hl⟩
 ·obtain ⟨h1,h2,h3,h4,h5⟩:=h.frz x hx
  refine ⟨J0f h1 hk (fun hs=>?_),h2,h3,h4,h5⟩
  have t:J0m wr x.1 x.2.2:=⟨_,h1⟩
  rcases (hS _ hs).2 with e | e | e | e
  ·exact h2 e
  ·exact Yz2 t h3 e
  ·exact Yz2 t h4 e
  exact Yz2 t h5 e
 obtain ⟨_,_,_,c,hc,hcc⟩:=hk'
 have hc:c=83:=by
  rw [show (kCF w wr).E=[] from rfl] at hc
  simpa using hc
 subst hc
 exact (hty k hs).2 hcc
theorem BgAt.hdkept {S:Nat→Prop} (h:BgAt w sb hb W bx Z hs lv ll wr) (hk:Kept wr w' S) (hS:∀ k,S k→w.heap.size≤k∧¬ J0m wr k 3∧¬ J0m wr k 57) {v:Value} {l:List RM} (hv:HdAt w wr v l):HdAt w w' v l :=
 hv.kept (lim:=0) h.below.size hk (fun k hs=>⟨(hS k hs).1,(hS k hs).2.1,(hS k hs).2.2,fun hlt=>absurd hlt (Nat.not_lt_zero k)⟩)
theorem BgAt.c08 (h:BgAt w sb hb W bx Z hs lv ll wr) (hw:Below wr.heap.size wr w'):BgAt w sb hb W bx Z hs lv ll w' :=
 h.step (S:=fun _=>False) (J01 h.below h.below.size hw) (J04 h.box hw) (h.held.kept (S:=fun _=>False) (Kept.of_below hw _) (fun h=>h) (fun _ _ hv=>h.hdkept (S:=fun _=>False) (Kept.of_below hw _) (fun _ h=>h.elim) hv)) h.len (Kept.of_below hw _) (fun _ h=>h.elim)
theorem BgAt.put (h:BgAt w sb hb W bx Z hs lv ll wr) {i:Nat} (hi:i<W) {v:Value} {L:List RM} (hv:HdAt w wr v L):BgAt w sb hb W bx Z (hs.set i L) lv ll (wr.setCell ⟨hb,i,none⟩ v):=by
 have hk:=J0n wr hb i v
 have t:=h.held.typed
 have hS:∀ k,k=hb→w.heap.size≤k∧¬ J0m wr k 3∧¬ J0m wr k 57:=fun k hk=>by subst hk;exact ⟨h.low.2,Yz2 t rfl,Yz2 t rfl⟩
 refine h.step (J0k h.below (J0e hb [v] i wr) h.low.2) (J0f h.box hk (fun he=>J1t ⟨_,h.box⟩ t rfl he)) (h.held.set ?_ (fun j u hj hu=>?_)) (by rw [Y0q];exact h.len) hk (fun k hk=>by subst hk;exact ⟨h.low.2,.inr (.inl t)⟩)
 ·rw [J0o _ _ _ _ (by rw [h.len];exact hi)];exact h.hdkept hk hS hv
 rw [getD_set_ne _ _ _ (Ne.symm hj)];exact h.hdkept hk hS hu
theorem BgAt.freeze (h:BgAt w sb hb W bx Z hs lv ll wr) {b:Nat} {cs:Array Value} {t:TypeId} (hb':wr.heap[b]?=some (.cells cs t (0,0))) (h1:b≠sb) (h2:(t == 46)=false) (h3:(t == 43)=false) (h4:(t == 158)=false):BgAt w sb hb W bx ((b,cs,t)::Z) hs lv ll wr :=
 ⟨h.below,h.box,h.held,h.low,fun x hx=>by rcases Yz1.1 hx with hx | hx;rw [hx];exact ⟨hb',h1,h2,h3,h4⟩;exact h.frz x hx,h.led,h.len⟩
theorem BgAt.thaw {x:Nat × Array Value × TypeId} (h:BgAt w sb hb W bx (x::Z) hs lv ll wr):BgAt w sb hb W bx Z hs lv ll wr:=⟨h.below,h.box,h.held,h.low,fun y hy=>h.frz y (Y04 _ hy),h.led,h.len⟩
theorem BgAt.at0 {b:Nat} {cs:Array Value} {t:TypeId} (h:BgAt w sb hb W bx ((b,cs,t)::Z) hs lv ll wr):wr.heap[b]?=some (.cells cs t (0,0)):=(h.frz _ Y03).1
theorem BgAt.newLed (h:BgAt w sb hb W bx Z hs lv ll wr) {lv':Value} {ll':List Msg} (hn:J3n w wr wr lv' ll' w'):BgAt w sb hb W bx Z hs lv' ll' w':=by
 have h':=h.c08 hn.2
 exact ⟨h'.below,h'.box,h'.held,h'.low,h'.frz,(J58 (FzUp.below hn.2)).R (Kd.c04 hn.1 h.below.size),h'.len⟩
end
structure BgL (w:World) (W i j:Nat) (ll:List Msg) (L N:Value) (gs:List (Nat × Nat)) (wr:World):Prop where
 leds:(kV (CtAt w wr.heap.size wr) (J9c w wr.heap.size wr)).R 43 wr w.heap.size (fun _=>True) L (List.replicate i ll)
 rows:(kV (rowQ W) (Jej W)).R 158 wr w.heap.size (fun _=>True) N gs
 len:gs.length=j
 nodup:(gs.map (·.1)).Nodup
 row:∀ g ∈ gs,J4s wr g.1 109 W (fun _ v=>v=.slice none 0 0)∧w.heap.size≤g.1
section
variable {w wr w':World} {W i j:Nat} {ll:List Msg} {L N:Value} {gs:List (Nat × Nat)}
theorem Jer {α:Type} {P:Value→α→Prop} {h1:∀ v x,P v x→v.oneCell'=true} {t:TypeId} {base:Nat} {v:Value} {xs:List α} {S:Nat→Prop} (h:(kV P h1).R t wr base (fun _=>True) v xs) (hk:Kept wr w' S) (hS:∀ k,S k→¬ J0m wr k t):(kV P h1).R t w' base (fun _=>True) v xs:=by
 refine Kd.c06 (Kd.c0a (Kd.c05 h) hk (fun k hk' hs=>?_)) (fun _ h=>h.1)
 obtain ⟨_,_,_,c,hc,hcc⟩:=hk'
 have hc:c=t:=by
  rw [show (kV P h1).E=[] from rfl] at hc
  simpa using hc
 subst hc
 exact hS k hs hcc
theorem Jqm {lim lim':Nat} (h0:w.heap.size≤wr.heap.size) (hl:lim≤lim') {S:Nat→Prop} (hk:Kept wr w' S) (hS:∀ k,S k→w.heap.size≤k∧Ja0 wr lim k):KdUp (kV (CtAt w lim wr) (J9c w lim wr)) (kV (CtAt w lim' w') (J9c w lim' w')) :=
 Js5 (fun _ _ h=>(h.kept h0 hk hS).relim (.inl hl))
theorem BgL.kept {S:Nat→Prop} (h:BgL w W i j ll L N gs wr) (h0:w.heap.size≤wr.heap.size) (hk:Kept wr w' S) (hS:∀ k,S k→w.heap.size≤k∧Ja0 wr wr.heap.size k∧¬ J0m wr k 43∧¬ J0m wr k 109∧¬ J0m wr k 158):BgL w W i j ll L N gs w' :=
 ⟨(Jqm h0 hk.1 hk (fun k hs=>⟨(hS k hs).1,(hS k hs).2.1⟩)).R (Jer h.leds hk (fun k hs=>(hS k hs).2.2.1)),Jer h.rows hk (fun k hs=>(hS k hs).2.2.2.2),h.len,h.nodup,fun g hg=>⟨(h.row g hg).1.kept hk (fun hs=>(hS _ hs).2.2.2.1 (h.row g hg).1.typed) (fun _ _ hv=>hv),(h.row g hg).2⟩⟩
theorem BgL.below (h:BgL w W i j ll L N gs wr) (h0:w.heap.size≤wr.heap.size) (hb:Below wr.heap.size wr w'):BgL w W i j ll L N gs w':=h.kept (S:=fun _=>False) h0 (Kept.of_below hb _) (fun _ h=>h.elim)
theorem BgL.led (h:BgL w W i j ll L N gs wr) (h0:w.heap.size≤wr.heap.size) (hg:wr.grownBy w' L.ownBlock) {L':Value} (hR:(kV (CtAt w wr.heap.size wr) (J9c w wr.heap.size wr)).R 43 w' w.heap.size (fun _=>True) L' (List.replicate i ll++[ll])):BgL w W (i+1) j ll L' N gs w':=by
 have hk:=J39 hg
 obtain ⟨inner,ho⟩:=Kd.R_own h.leds
 have ht:∀ k,L.ownBlock=some k→J0m wr k 43:=fun k hk=>c07 ho k hk
 exact ⟨(Jqm h0 hk.1 hk (fun k hs=>⟨J3i ho k hs,.of (ht k hs) rfl rfl rfl⟩)).R (by rw [List.replicate_succ'];exact hR),Jer h.rows hk (fun k hs=>Yz2 (ht k hs) rfl),h.len,h.nodup,fun g hg=>⟨(h.row g hg).1.kept hk (fun hs=>Yz2 (ht _ hs) rfl (h.row g hg).1.typed) (fun _ _ hv=>hv),(h.row g hg).2⟩⟩
theorem BgL.more (h:BgL w W i j ll L N gs wr) (h0:w.heap.size≤wr.heap.size) (hg:wr.grownBy w' N.ownBlock) {N':Value} {g:Nat × Nat} (hR:(kV (rowQ W) (Jej W)).R 158 w' w.heap.size (fun _=>True) N' (gs++[g])) (hn:g.1 ∉ gs.map (·.1)) (hrow:J4s wr g.1 109 W (fun _ v=>v=.slice none 0 0)) (hge:w.heap.size≤g.1):BgL w W i (j+1) ll L N' (gs++[g]) w':=by
 have hk:=J39 hg
 obtain ⟨inner,ho⟩:=Kd.R_own h.rows
 have ht:∀ k,N.ownBlock=some k→J0m wr k 158:=fun k hk=>c07 ho k hk
 refine ⟨(Jqm h0 hk.1 hk (fun k hs=>⟨J3i ho k hs,.of (ht k hs) rfl rfl rfl⟩)).R (Jer h.leds hk (fun k hs=>Yz2 (ht k hs) rfl)),hR,by rw [Y02,h.len];rfl,?_,fun x hx=>?_⟩
 ·rw [List.map_append,List.map_cons,List.map_nil]
  exact List.nodup_append.2 ⟨h.nodup,by simp,fun a ha b hb=>by rw [Y11.1 hb];rintro rfl;exact hn ha⟩
 rcases Y0m.1 hx with hx | hx
 ·exact ⟨(h.row x hx).1.kept hk (fun hs=>Yz2 (ht _ hs) rfl (h.row x hx).1.typed) (fun _ _ hv=>hv),(h.row x hx).2⟩
 rw [Y11.1 hx]
 exact ⟨hrow.kept hk (fun hs=>Yz2 (ht _ hs) rfl hrow.typed) (fun _ _ hv=>hv),hge⟩
theorem BgL.own (h:BgL w W i j ll L N gs wr):(∀ k,L.ownBlock=some k→w.heap.size≤k∧J0m wr k 43)∧∀ k,N.ownBlock=some k→w.heap.size≤k∧J0m wr k 158:=by
 obtain ⟨i1,o1⟩:=Kd.R_own h.leds
 obtain ⟨i2,o2⟩:=Kd.R_own h.rows
 exact ⟨fun k hk=>⟨J3i o1 k hk,c07 o1 k hk⟩,fun k hk=>⟨J3i o2 k hk,c07 o2 k hk⟩⟩
theorem BgL.start (w wr:World) (W:Nat) (ll:List Msg):BgL w W 0 0 ll (.slice none 0 0) (.slice none 0 0) [] wr:=⟨Kd.R_nil _ _ _ _ _,Kd.R_nil _ _ _ _ _,rfl,List.nodup_nil,fun g hg=>by cases hg⟩
end
section
variable {w wr w':World} {sb hb W:Nat} {bx bx':Array Value} {Z:List (Nat × Array Value × TypeId)} {hs:List (List RM)} {lv:Value} {ll:List Msg}
theorem BgAt.grow (h:BgAt w sb hb W bx Z hs lv ll wr) {row:Option Nat} (hg:wr.grownBy w' row) (hr:∀ k,row=some k→w.heap.size≤k∧(J0m wr k 43∨J0m wr k 158)):BgAt w sb hb W bx Z hs lv ll w':=by
 have hk:=J39 hg
 have hty:∀ k,row=some k→¬ J0m wr k 3∧¬ J0m wr k 57∧¬ J0m wr k 112∧¬ J0m wr k 46:=fun k hs=>by
  rcases (hr k hs).2 with h1 | h1
  ·exact ⟨Yz2 h1 rfl,Yz2 h1 rfl,Yz2 h1 rfl,Yz2 h1 rfl⟩
  exact ⟨Yz2 h1 rfl,Yz2 h1 rfl,Yz2 h1 rfl,Yz2 h1 rfl⟩
 have hb':Below w.heap.size w w':=by
  cases row with
  | some k=>exact J0k h.below hg (hr k rfl).1
  | none=>exact ⟨hg.os.trans h.below.os,hg.tape.trans h.below.tape,hg.output.trans h.below.output,Yz0 h.below.size hg.size,fun b hb=>(hg.block b (Nat.lt_of_lt_of_le hb h.below.size) (by simp)).trans (h.below.block b hb)⟩
 exact h.step hb' (J0f h.box hk (fun hs=>(hty _ hs).2.2.1 ⟨_,h.box⟩)) (h.held.kept hk (fun hs=>(hty _ hs).2.2.2 h.held.typed) (fun _ _ hv=>h.hdkept hk (fun k hs=>⟨(hr k hs).1,(hty k hs).1,(hty k hs).2.1⟩) hv)) h.len hk (fun k hs=>⟨(hr k hs).1,.inr (.inr (hr k hs).2)⟩)
theorem BgAt.cell (h:BgAt w sb hb W bx Z hs lv ll wr) (j:Nat) (u:Value) (hc:bx.setIfInBounds j u=bx'):BgAt w sb hb W bx' Z hs lv ll (wr.setCell ⟨sb,j,none⟩ u):=by
 have hk:=J0n wr sb j u
 have t:J0m wr sb 112:=⟨_,h.box⟩
 exact h.step (J0k h.below (J0e sb [u] j wr) h.low.1) (J0d h.box j u hc) (h.held.kept hk (fun he=>J1t t h.held.typed rfl he.symm) (fun _ _ hv=>h.hdkept hk (fun k hs=>by subst hs;exact ⟨h.low.1,Yz2 t rfl,Yz2 t rfl⟩) hv)) h.len hk (fun k hs=>by subst hs;exact ⟨h.low.1,.inl rfl⟩)
theorem BgL.cell {i0 j0:Nat} {L N:Value} {gs:List (Nat × Nat)} (hl:BgL w W i0 j0 ll L N gs wr) (h:BgAt w sb hb W bx Z hs lv ll wr) (j:Nat) (u:Value):BgL w W i0 j0 ll L N gs (wr.setCell ⟨sb,j,none⟩ u):=by
 have t:J0m wr sb 112:=⟨_,h.box⟩
 exact hl.kept h.below.size (J0n wr sb j u) (fun k hs=>by subst hs;exact ⟨h.low.1,.of t rfl rfl rfl,Yz2 t rfl,Yz2 t rfl,Yz2 t rfl⟩)
theorem BgL.run {L N:Value} {gs:List (Nat × Nat)} {script:List Int} (hl:BgL w W W W ll L N gs wr) (h:BgAt w sb hb W bx Z hs lv ll wr) (hW:1≤W) (hc:Nat) :
  ∃ lb lc nb nc,L=.slice (some ⟨lb,0,none⟩) W lc∧N=.slice (some ⟨nb,0,none⟩) W nc∧RunR w ⟨hb,hc,lb,lc,nb,nc,fun i=>(gs.getD i (0,0)).1,fun i=>(gs.getD i (0,0)).2⟩ W wr.heap.size ⟨hs,List.replicate W ll,fun _ _=>[],script,0,0,0⟩ (fun _ _=>.slice none 0 0) wr:=by
 obtain ⟨lb,lc,hL,hlb,htl⟩:=Jgd hl.leds [] (by rw [Y0j];omega)
 obtain ⟨nb,nc,hN,hnb,htn⟩:=Jgd hl.rows (0,0) (by rw [hl.len];omega)
 rw [Y0j] at hL htl
 rw [hl.len] at hN htn
 have hmem:∀ i,i<W→gs.getD i (0,0) ∈ gs:=fun i hi=>J0i (by rw [hl.len];exact hi) _
 refine ⟨lb,lc,nb,nc,hL,hN,h.below,h.held,htl,htn.kept (S:=fun _=>False) (Kept.of_below (Y0f _ _) _) (fun h=>h) (fun _ _ hv=>hv),fun i hi=>(hl.row _ (hmem i hi)).1,fun _ _ _ _=>QxAt.nil _ _ _ _,fun _ _ _ _ _ _ _ _ _=>.inl rfl,fun _ _ _ _=>by simp [qOwn],fun i j hi hj he=>?_,⟨h.low.2,hlb,fun i hi=>(hl.row _ (hmem i hi)).2⟩,⟨h.len,by simp⟩⟩
 have hnd:=List.pairwise_iff_getElem.1 hl.nodup
 have hi':i<gs.length:=by rw [hl.len];exact hi
 have hj':j<gs.length:=by rw [hl.len];exact hj
 have he2:gs[i].1=gs[j].1:=by
  have he3:(gs.getD i (0,0)).1=(gs.getD j (0,0)).1:=he
  simpa only [Y01,Y05 hi',Y05 hj',Option.getD_some] using he3
 rcases Nat.lt_trichotomy i j with hlt | he3 | hlt
 ·exact absurd (by rw [Y0n,Y0n];exact he2) (hnd i j (by simpa using hi') (by simpa using hj') hlt)
 ·exact he3
 exact absurd (by rw [Y0n,Y0n];exact he2.symm) (hnd j i (by simpa using hj') (by simpa using hi') hlt)
end
theorem Jk5 (w0:World) (V:SV) (lim:Nat) (r:RS) (q:Nat→Nat→Value) (tk:Nat) (w:World) (i:Nat) (m:RM) (mA:Option Addr) (mC:Nat) (bw:Bool) (fr:Int) (wd:Nat)
  (hR:RunR w0 V.G V.W lim r q w) (hlim:lim≤w.heap.size) (hok:OkR wd V.W 2000 r) (hW:V.W≤4) (hwk:V.p.workers=V.W) (hi:i<V.W) (hm:FzAt w0 w (.slice mA m.2.length mC) m.2) (hmw:m.2.length=wd)
  (hE:kE.C w0 V.eA V.p.E.length V.p.E) (hEw:∀ e ∈ V.p.E,e.2.2.length=wd) (h16:V.p.E.length≤16) (hsc:kI.C w0 V.sA V.script.length V.script) (hsl:V.script.length≤1000) (hdr:r.script=V.script.drop tk) (hw3:wd≤3) (htk:tk≤1000000) (Zx:List (Nat × Array Value × TypeId)) (hZx:Je4 Zx w) :
  Calls Tryz.prog 92 #[stV V tk r.works r.took r.sent,.agg #[.int .i64 i,.bool bw,.int .i64 m.1,.slice mA m.2.length mC,.int .i64 fr]] w fun e w'=>∃ (q':Nat→Nat→Value) (tk':Nat),e=.returned (stV V tk' (Jb1 V.p.E V.W r i m).works (Jb1 V.p.E V.W r i m).took (Jb1 V.p.E V.W r i m).sent)∧tk'≤tk+16∧RunR w0 V.G V.W w'.heap.size (Jb1 V.p.E V.W r i m) q' w'∧(Jb1 V.p.E V.W r i m).script=V.script.drop tk'∧Je4 Zx w':=by
 obtain ⟨w3,he3,hb3,k0,k1,k2⟩:=Jhk w (stC V tk r.works r.took r.sent) (mvC i bw m mA mC fr) stZ 112 163 112
 have H0:=Y00 (show WkW w0 V lim Zx w.heap.size (w.heap.size+1) (w.heap.size+1+1) i bw m mA mC fr (.slice none 0 0) [] tk r q w3 from
  ⟨hR.c08 hb3,k0,hR.sz,fun x hx=>by
   rcases Yz1.1 hx with hx | hx
   ·rw [hx];exact ⟨k1,by simp only;omega,rfl,rfl,rfl,rfl⟩
   rcases Yz1.1 hx with hx | hx
   ·rw [hx];exact ⟨k2,by simp only;omega,rfl,rfl,rfl,rfl⟩
   obtain ⟨z1,z2,z3,z4,z5⟩:=hZx x hx
   exact ⟨J04 z1 hb3,by have:=J0q z1;omega,z2,z3,z4,z5⟩,fun x hx=>by rw [Y11.1 hx];exact hm.below hb3,Kd.R_nil _ _ _ _ _,hdr⟩)
 have HZX:=Y08 (show ∀ x ∈ Zx,x.1<w.heap.size+1+1 from fun x hx=>by have:=J0q (hZx x hx).1;omega)
 have HOK:=Y08 hok
 have HS:=Y08 (Y07 hsc (Y07 hsl hEw))
 have HE:=Y00 hE
 have HL:=Y08 (show lim≤w3.heap.size from Yz0 hlim hb3.size)
 have HMW:=Y08 hmw
 have hwk4:V.p.workers≤4:=by omega
 have hwk0:0≤V.p.workers:=by omega
 have HWK:=Y08 hwk
 have HW3:=Y08 hw3
 clear hZx hR hb3 k0 k1 k2 hm hok hsc hsl hE hdr hEw hmw hwk hw3
 go_enter Tryz.func92,Tryz.ntmps92
 go_upto_region 1 with fail
 clear he3 hlim
 generalize w.heap.size=sb at *
 have HRB2:=Y08 (show sb≤sb+1+1 by omega)
 generalize sb+1=mb at *
 generalize mb+1=rb at *
 obtain ⟨ws0,hws⟩:∃ s,s=RW.mk (r.held.set i (J0w m false (r.held.getD i []))) r.script r.sent [(m,-1)]:=⟨_,rfl⟩
 have HWO:=Y08 (show RWOk wd V.W 2000 1 ws0 by rw [hws];exact RWOk.begin HOK.out i HMW.out)
 have HWS:=Y08 (show J4z V.p.E V.W r i m=V.p.E.foldl (J4x V.W m) ws0 by rw [hws];rfl)
 have HW0:=Y08 hws
 clear hws
 obtain ⟨lv,e5,hHd⟩:=H0.out.run.held.get hi
 obtain ⟨lA,lC,rfl,-,hLC⟩:=Kd.c09 hHd
 have hiE:(i:Int)<V.W:=by omega
 have hi0:(0:Int)≤i:=by omega
 have HLO:=Y08 (HOK.out.heldAt i)
 generalize r.held.getD i []=L at *
 have s5:=(J13 H0.out.box).2.1.1
 have b0:w3.cell? ⟨mb,0,none⟩=some (.int .i64 i):=(J03 H0.out.at0 0).trans rfl
 have b2:w3.cell? ⟨mb,2,none⟩=some (.int .i64 m.1):=(J03 H0.out.at0 2).trans rfl
 have b3:w3.cell? ⟨mb,3,none⟩=some (.slice mA m.2.length mC):=(J03 H0.out.at0 3).trans rfl
 have HHD:=Y00 hLC
 clear hHd hLC
 refine sr1 15 (fun W'=>W'.cell? ⟨sb,5,none⟩=some (.slice (some ⟨V.G.hb,0,none⟩) V.W V.G.hc)∧W'.cell? ⟨mb,0,none⟩=some (.int .i64 i)∧W'.cell? ⟨mb,2,none⟩=some (.int .i64 m.1)∧W'.cell? ⟨mb,3,none⟩=some (.slice mA m.2.length mC)∧W'.cell? ⟨V.G.hb,i,none⟩=some (.slice lA L.length lC)) [14] ⟨s5,b0,b2,b3,e5⟩ fun hJ0=>?_
 have hdr1:=J05 (Y0f w3.heap.size w3)
 have H1:=Y00 (H0.out.below hdr1)
 have HSM:=Y08 (Jhh w0 lA lC L m mA mC w3.drew ((J6l (FzUp.below hdr1)).C (Kd.c00 HHD.out hdr1)) H1.out.tm0 (by have:=HLO.out.1;omega))
 have HL1:=Y08 (Yz0 HL.out hdr1.size)
 clear hdr1 s5 b0 b2 b3 e5 HHD H0 HL
 generalize w3.drew=wd0 at *
 refine pu 0 11 (bs 15 1) ?_
 refine pu 2 13 (bs 15 5) ?_
 refine pu 4 15 (bs 15 21) ?_
 refine pu 6 17 (bs 15 85) ?_
 refine pu 10 21 (bs 15 1109) ?_
 refine tk5 1 12 (bs 15 1111) hJ0 ?_
 refine tk5 3 14 (bs 15 1119) hJ0 ?_
 refine tk5 5 16 (bs 15 1151) hJ0 ?_
 refine tk5 7 18 (bs 15 1279) hJ0 ?_
 refine pu 8 19 (bs 15 1535) ?_
 refine tk5 9 20 (bs 15 2047) hJ0 ?_
 refine tk5 11 22 (bs 15 4095) hJ0 ?_
 refine on0 12 23 (bs 15 8191) fun K hK=>?_
 refine gs0 Tryz.func111 #[.slice lA L.length lC,rmV m mA mC] ?_
 refine HSM.out.mono ?_
 rintro e w4 ⟨v,rfl,hN⟩
 obtain ⟨vA,vC,hve⟩:=Kd.c02 hN.1
 generalize hvn:(J0w m false L).length=vn at hve
 subst hve
 have HN:=Y00 hN
 clear hN hvn HSM
 refine ⟨_,rfl,hK.out _ _ (st5 HN.out.2 hJ0) (fun hJ0=>?_)⟩
 clear hK K
 refine nm0 _ ?_
 refine pu 13 24 (bs 15 16383) ?_
 have e5:=hJ0.2.2.2.2
 have zf:=(H1.out.below HN.out.2).run.held.frozen i
 refine la0 14 (bs 15 32767) (N:=none) fun K hK=>?_
 refine sk0 ?_
 refine hK.out _ _ ?_
 clear hK K hJ0 e5 zf
 refine dn0 ?_
 have H2:=Y00 ((H1.out.below HN.out.2).held hi (HN.out.hd (FzUp.below HN.out.2) H1.out.run.sz))
 have HL2:=Y08 (show lim≤(w4.setCell ⟨V.G.hb,i,none⟩ (.slice vA vn vC)).heap.size from Yz0 HL1.out (Yz0 HN.out.2.size (J0n w4 V.G.hb i (.slice vA vn vC)).1))
 clear H1 HN HL1
 generalize w4.setCell ⟨V.G.hb,i,none⟩ (.slice vA vn vC)=w5 at *
 have b2:w5.cell? ⟨mb,2,none⟩=some (.int .i64 m.1):=(J03 H2.out.at0 2).trans rfl
 have b3:w5.cell? ⟨mb,3,none⟩=some (.slice mA m.2.length mC):=(J03 H2.out.at0 3).trans rfl
 go_upto_region 3 with fail
 have H3:=Y00 (show WkW w0 V lim Zx sb mb rb i bw m mA mC fr (.slice (some ⟨w5.heap.size,0,none⟩) 1 1) ws0.note tk (stR r ws0) q (w5.alloc (.cells #[.int .i64 m.1,.slice mA m.2.length mC,.int .i64 (-1)] 83))∧lim≤(w5.alloc (.cells #[.int .i64 m.1,.slice mA m.2.length mC,.int .i64 (-1)] 83)).heap.size from by
  rw [HW0.out]
  exact ⟨H2.out.grow (J0b (J02 w5 _)) (Jol w0 w5 m mA mC (-1) H2.out.tm0 HL2.out H2.out.run.sz),Yz0 HL2.out (J02 w5 _).size⟩)
 clear H2 HL2 b2 b3
 generalize w5.alloc (.cells #[.int .i64 m.1,.slice mA m.2.length mC,.int .i64 (-1)] 83)=w6 at *
 go_wp2_with fail
 go_loopw [5,6] (fun v ix wr=>∃ (k tk':Nat),k≤V.p.E.length∧ix=.int .i64 k∧tk'≤tk+k∧J08 (WkW w0 V lim Zx sb mb rb i bw m mA mC fr v ((V.p.E.take k).foldl (J4x V.W m) ws0).note tk' (stR r ((V.p.E.take k).foldl (J4x V.W m) ws0)) q wr∧lim≤wr.heap.size)) (fun _ ix _=>V.p.E.length - (intOf ix).toNat)
 case atStart=>exact ⟨0,tk,Yz3 _,rfl,Y0e _,H3⟩
 clear H3
 obtain ⟨k,tk',hk,rfl,htk',hX⟩:=hrel
 have s2:=(J13 hX.out.1.box).1.2.2.1
 by_cases hlt:k<V.p.E.length
 rotate_left
 ·have hkE:¬ ((k:Int)<V.p.E.length):=by omega
  obtain ⟨sE,hsE⟩:∃ s,s=V.p.E.foldl (J4x V.W m) ws0:=⟨_,rfl⟩
  have HSE:=Y08 (show J4z V.p.E V.W r i m=sE by rw [HWS.out,hsE])
  have hX2:WkW w0 V lim Zx sb mb rb i bw m mA mC fr u5 sE.note tk' (stR r sE) q wr∧lim≤wr.heap.size:=by rw [hsE];have h:=hX.out;rwa [Y0t (by omega)] at h
  have HNO:=Y08 (show CsOk wd 17 sE.note by rw [hsE];exact (RWOk.fold HMW.out V.p.E 2000 1 ws0 HWO.out HS.out.2.2).note.mono (by omega))
  have HNE:=Y08 (show sE.note≠[] by rw [hsE];exact Jgm _ _ (by rw [HW0.out];simp))
  clear hX hsE s2
  obtain ⟨nA,nC,hnv⟩:=Kd.c02 hX2.1.note
  subst hnv
  generalize hnl:sE.note.length=nl at *
  have HNL:=Y08 hnl
  clear hnl
  have H4:=Y00 hX2.1
  clear hX2
  obtain ⟨lv,e6,hLd⟩:=H4.out.run.led.get hi
  have hLd:CtAt w0 lim wr lv (r.led.getD i []):=hLd
  obtain ⟨lA,lC,rfl,-,hLC⟩:=Kd.c09 hLd
  have HLO3:=Y08 (HOK.out.ledAt i)
  obtain ⟨Ll,hLL⟩:∃ Ll,Ll=r.led.getD i []:=⟨_,rfl⟩
  rw [← hLL] at e6 hLd hLC HLO3
  have HLL:=Y08 hLL
  clear hLL
  have s2:=(J13 H4.out.box).1.2.2.1
  have s6:=(J13 H4.out.box).2.1.2.1
  have b0:wr.cell? ⟨mb,0,none⟩=some (.int .i64 i):=(J03 H4.out.at0 0).trans rfl
  have HLC:=Y00 hLC
  have HNC:=Y00 (Kd.c03 H4.out.note).2.2
  clear hLd hLC
  go_upto_region 15 with fail
  refine sr1 14 (fun W'=>W'.cell? ⟨sb,6,none⟩=some (.slice (some ⟨V.G.lb,0,none⟩) V.W V.G.lc)∧W'.cell? ⟨mb,0,none⟩=some (.int .i64 i)∧W'.cell? ⟨V.G.lb,i,none⟩=some (.slice lA Ll.length lC)) [13] ⟨s6,b0,e6⟩ fun hJ0=>?_
  have hdr1:=J05 (Y0f wr.heap.size wr)
  have H5:=Y00 (H4.out.below hdr1)
  have HAL:=Y08 (show Calls Tryz.prog 93 #[.slice lA Ll.length lC,.slice nA nl nC] wr.drew fun e w'=>∃ v,e=.returned v∧J3n w0 w' wr.drew v (allR Ll sE.note) w' by
   have hn:=(J58 (FzUp.below hdr1)).C (Kd.c00 HNC.out hdr1)
   rw [← HNL.out]
   exact Jnn w0 lA lC Ll nA nC sE.note wd wr.drew ((J58 (FzUp.below hdr1)).C (Kd.c00 HLC.out hdr1)) hn (HLO3.out.mono (by omega)) (HNO.out.mono (by omega)) HNE.out)
  clear hdr1 s2 s6 b0 e6 HLC HNC H4
  generalize wr.drew=wE at *
  refine pu 0 96 (bs 14 1) ?_
  refine pu 2 98 (bs 14 5) ?_
  refine pu 4 100 (bs 14 21) ?_
  refine pu 6 102 (bs 14 85) ?_
  refine pu 10 106 (bs 14 1109) ?_
  refine tk3 1 97 (bs 14 1111) hJ0 ?_
  refine tk3 3 99 (bs 14 1119) hJ0 ?_
  refine tk3 5 101 (bs 14 1151) hJ0 ?_
  refine tk3 7 103 (bs 14 1279) hJ0 ?_
  refine pu 8 104 (bs 14 1535) ?_
  refine tk3 9 105 (bs 14 2047) hJ0 ?_
  refine on0 11 107 (bs 14 4095) fun K hK=>?_
  refine gs0 Tryz.func93 #[.slice lA Ll.length lC,.slice nA nl nC] ?_
  refine HAL.out.mono ?_
  rintro e w4 ⟨v,rfl,hN⟩
  obtain ⟨vA,vC,hve⟩:=Kd.c02 hN.1
  generalize hvn:(allR Ll sE.note).length=vn at hve
  subst hve
  have HN:=Y00 hN
  clear hN hvn HAL
  refine ⟨_,rfl,hK.out _ _ (st3 HN.out.2 hJ0) (fun hJ0=>?_)⟩
  clear hK K
  refine nm0 _ ?_
  refine pu 12 108 (bs 14 8191) ?_
  have e6:=hJ0.2.2
  have zf:=(H5.out.below HN.out.2).run.led.frozen i
  refine la0 13 (bs 14 16383) (N:=none) fun K hK=>?_
  refine sk0 ?_
  refine hK.out _ _ ?_
  clear hK K hJ0 e6 zf
  refine dn0 ?_
  have H6:=Y00 ((H5.out.below HN.out.2).sent.led hi (HN.out.ct H5.out.run.sz))
  clear H5 HN
  generalize w4.setCell ⟨V.G.lb,i,none⟩ (.slice vA vn vC)=wF at *
  generalize w4.heap.size=lim2 at *
  have H7:=Y00 (show WkAt w0 V lim2 sb ((mb,mvC i bw m mA mC fr,163)::(rb,stZ,112)::Zx) [(.slice mA m.2.length mC,m.2)] (fun k=>k<lim2) (.slice nA nl nC) sE.note tk' (wkR r sE i (allR Ll sE.note) 0) q wF from by unfold wkR;rw [Jko];exact H6.out)
  clear H6
  go_wp2_with fail
  go_loopw [10] (fun ix wr=>∃ (n:Nat) (q':Nat→Nat→Value),n≤V.W∧ix=.int .i64 n∧J08 (WkAt w0 V lim2 sb ((mb,mvC i bw m mA mC fr,163)::(rb,stZ,112)::Zx) [(.slice mA m.2.length mC,m.2)] (fun k=>k<lim2) (.slice nA nl nC) sE.note tk' (wkR r sE i (allR Ll sE.note) n) q' wr)) (fun ix _=>V.W - (intOf ix).toNat)
  case atStart=>exact ⟨0,q,Yz3 _,rfl,H7⟩
  clear H7
  obtain ⟨n,q',hnw,rfl,hX⟩:=hrel
  have s3:=(J13 hX.out.box).1.2.2.2.1
  by_cases hnW:n<V.W
  rotate_left
  ·have hnE:¬ ((n:Int)<V.p.workers):=by rw [HWK.out];omega
   have c10:wr.cell? ⟨sb,10,none⟩=some (.int .i64 r.works):=(J13 hX.out.box).2.2.2.1
   have f10:=J07 hX.out.box 10
   have HWE:=Y08 (show Jb1 V.p.E V.W r i m={ wkR r sE i (allR Ll sE.note) n with works:=w64 (r.works+1) } by unfold Jb1 wkR;rw [HSE.out,HLL.out,show n=V.W by omega])
   go_upto_region 22 with fail
   have H8:=Y00 (hX.out.cell 10 (.int .i64 (wrap64 (r.works+1))) (r':={ wkR r sE i (allR Ll sE.note) n with works:=w64 (r.works+1) }) (tk':=tk') (by show _=stC V _ (w64 (r.works+1)) _ _;rw [J2u];rfl) rfl rfl rfl hX.out.drop)
   clear hX c10 f10 s3
   generalize wr.setCell ⟨sb,10,none⟩ (.int .i64 (wrap64 (r.works+1)))=w8 at *
   obtain ⟨⟨c0,c1,c2,c3,c4⟩,⟨c5,c6,c7,c8⟩,⟨c9,c10,c11,c12⟩⟩:=J13 (show w8.heap[sb]?=some (.cells (stC V tk' (w64 (r.works+1)) r.took sE.sent) 112 (0,0)) from H8.out.box)
   have hrb:=H8.out.at1
   obtain ⟨z0,z1,z2,z3,z4,z5,z6,z7,z8,z9,z10,z11,z12⟩:=bc13 hrb
   obtain ⟨y0,y1,y2,y3,y4,y5,y6,y7,y8,y9,y10,y11,y12⟩:=bf13 hrb
   have HRB:=Y08 hrb
   clear hrb
   generalize hwk64:w64 (r.works+1)=wks at *
   have HK64:=Y08 hwk64
   clear hwk64
   go_wp2_with fail
   have hrb:=HRB.out
   obtain ⟨hfin,hg⟩:=J6t hrb (.int .i64 V.p.N) (.int .i64 V.p.Wd) (.slice V.eA V.p.E.length V.eC) (.int .i64 V.p.workers) (.slice V.mA V.p.start.length V.mC) (.slice (some ⟨V.G.hb,0,none⟩) V.W V.G.hc) (.slice (some ⟨V.G.lb,0,none⟩) V.W V.G.lc) (.slice (some ⟨V.G.nb,0,none⟩) V.W V.G.nc) (.slice V.sA V.script.length V.sC) (.int .i64 tk') (.int .i64 wks) (.int .i64 r.took) (.int .i64 sE.sent)
   generalize ((((((((((((w8.setCell ⟨rb,0,none⟩ (.int .i64 V.p.N)).setCell ⟨rb,1,none⟩ (.int .i64 V.p.Wd)).setCell ⟨rb,2,none⟩ (.slice V.eA V.p.E.length V.eC)).setCell ⟨rb,3,none⟩ (.int .i64 V.p.workers)).setCell ⟨rb,4,none⟩ (.slice V.mA V.p.start.length V.mC)).setCell ⟨rb,5,none⟩ (.slice (some ⟨V.G.hb,0,none⟩) V.W V.G.hc)).setCell ⟨rb,6,none⟩ (.slice (some ⟨V.G.lb,0,none⟩) V.W V.G.lc)).setCell ⟨rb,7,none⟩ (.slice (some ⟨V.G.nb,0,none⟩) V.W V.G.nc)).setCell ⟨rb,8,none⟩ (.slice V.sA V.script.length V.sC)).setCell ⟨rb,9,none⟩ (.int .i64 tk')).setCell ⟨rb,10,none⟩ (.int .i64 wks)).setCell ⟨rb,11,none⟩ (.int .i64 r.took)).setCell ⟨rb,12,none⟩ (.int .i64 sE.sent)=vF at *
   obtain ⟨q0,q1,q2,q3,q4,q5,q6,q7,q8,q9,q10,q11,q12⟩:=bc13 hfin
   refine bodyPost_ret (v:=.agg #[.int .i64 V.p.N,.int .i64 V.p.Wd,.slice V.eA V.p.E.length V.eC,.int .i64 V.p.workers,.slice V.mA V.p.start.length V.mC,.slice (some ⟨V.G.hb,0,none⟩) V.W V.G.hc,.slice (some ⟨V.G.lb,0,none⟩) V.W V.G.lc,.slice (some ⟨V.G.nb,0,none⟩) V.W V.G.nc,.slice V.sA V.script.length V.sC,.int .i64 tk',.int .i64 wks,.int .i64 r.took,.int .i64 sE.sent]) (by simp [results,Tryz.results92,go_sem,q0,q1,q2,q3,q4,q5,q6,q7,q8,q9,q10,q11,q12]) rfl ⟨q',tk',?_,by omega,?_,?_,?_⟩
   ·rw [HWE.out,← HK64.out];rfl
   ·rw [HWE.out]
    have t:J0m w8 rb 112:=⟨_,hrb⟩
    exact (H8.out.run.set_new hg (fun k hk=>by injection hk with hk;subst hk;exact ⟨Yz0 H8.out.low (by have:=HRB2.out;omega),.of t rfl rfl rfl,Yz2 t rfl,Yz2 t rfl,Yz2 t rfl,Yz2 t rfl⟩)).relim (.inr (Y0e _))
   ·rw [HWE.out];exact H8.out.drop
   intro x hx
   obtain ⟨z1,-,z2⟩:=H8.out.frz x (Y04 _ (Y04 _ hx))
   exact ⟨J0x z1 hg (fun he=>by have h1:=HZX.out x hx;injection he with he;omega),z2⟩
  have hnE:(n:Int)<V.p.workers:=by rw [HWK.out];omega
  have hnI:(n:Int)<V.W:=by omega
  have hn0:(0:Int)≤n:=by omega
  have b0:wr.cell? ⟨mb,0,none⟩=some (.int .i64 i):=(J03 hX.out.at0 0).trans rfl
  by_cases hni:n=i
  ·have hb:((n:Int) != (i:Int))=false:=by simp;omega
   have HRT:=Y08 (show wkR r sE i (allR Ll sE.note) (n+1)=wkR r sE i (allR Ll sE.note) n by unfold wkR;rw [Jde,if_pos hni])
   clear hni
   go_wp2_with fail
   exact ⟨⟨n+1,q',by omega,by go_num,by rw [HRT.out];exact hX⟩,by simp [intOf];omega⟩
  have hb:((n:Int) != (i:Int))=true:=by simp;omega
  have HRT:=Y08 (show wkR r sE i (allR Ll sE.note) (n+1)={ wkR r sE i (allR Ll sE.note) n with nts:=upQ (wkR r sE i (allR Ll sE.note) n).nts i n ((wkR r sE i (allR Ll sE.note) n).nts i n++[sE.note]) } by unfold wkR;rw [Jde,if_neg hni])
  clear hni
  obtain ⟨_,r0,rfl⟩:=hX.out.run.rows.get hi
  obtain ⟨_,q0,rfl⟩:=(hX.out.run.row i hi).get hnW
  have c7:=(J13 hX.out.box).2.1.2.2.1
  have HQL:=Y08 (show ((wkR r sE i (allR Ll sE.note) n).nts i n).length≤2000000000 by
   have h1:=Jmo i sE.note n r.nts i n
   have h2:=(HOK.out.nts i n hi hnW).1
   show (J88 i sE.note n r.nts i n).length≤_
   omega)
  generalize hqv:q' i n=qv at *
  have HQV:=Y08 hqv
  clear hqv
  go_upto_region 20 with fail
  refine sr1 21 (fun W'=>W'.cell? ⟨sb,7,none⟩=some (.slice (some ⟨V.G.nb,0,none⟩) V.W V.G.nc)∧W'.cell? ⟨mb,0,none⟩=some (.int .i64 i)∧W'.cell? ⟨V.G.nb,i,none⟩=some (.slice (some ⟨V.G.rb i,0,none⟩) V.W (V.G.rc i))∧W'.cell? ⟨V.G.rb i,n,none⟩=some qv) [20] ⟨c7,b0,r0,q0⟩ fun hJ0=>?_
  have HD:=Y00 (hX.out.below (J05 (Y0f wr.heap.size wr)))
  clear c7 b0 r0 q0 s3 hX
  generalize wr.drew=wd9 at *
  have HQD:=Y00 (show QxAt 43 (CtAt w0 lim2 wd9) w0.heap.size wd9 qv ((wkR r sE i (allR Ll sE.note) n).nts i n) by have h:=HD.out.run.qs i n hi hnW;rw [HQV.out] at h;exact h)
  refine pu 0 120 (bs 21 1) ?_
  refine pu 2 122 (bs 21 5) ?_
  refine pu 6 126 (bs 21 69) ?_
  refine pu 7 127 (bs 21 197) ?_
  refine pu 9 129 (bs 21 709) ?_
  refine pu 13 133 (bs 21 8901) ?_
  refine pu 16 136 (bs 21 74437) ?_
  refine tk4 1 121 (bs 21 74439) hJ0 ?_
  refine tk4 3 123 (bs 21 74447) hJ0 ?_
  refine tk4 8 128 (bs 21 74703) hJ0 ?_
  refine tk4 10 130 (bs 21 75727) hJ0 ?_
  refine pu 4 124 (bs 21 75743) ?_
  refine pu 11 131 (bs 21 77791) ?_
  refine tk4 5 125 (bs 21 77823) hJ0 ?_
  refine tk4 12 132 (bs 21 81919) hJ0 ?_
  refine pu 14 134 (bs 21 98303) ?_
  refine tk4 15 135 (bs 21 131071) hJ0 ?_
  refine on0 17 137 (bs 21 262143) fun K hK=>?_
  refine va0 ?_
  have HD0:=Y00 hJ0
  have b0:=J02 wd9 (.cells #[.slice nA nl nC] 43)
  refine hK.out _ _ (st4 b0 hJ0) (fun hJ0=>?_)
  clear hK K
  refine nm0 _ ?_
  refine on0 18 138 (bs 21 524287) fun K hK=>?_
  obtain ⟨vn6,w6,hrun,hqn,hg6,hon⟩:=QxAt.append 109 Tryz.infoCs Tryz.underlying109 rfl HD.out.run.sz HQD.out (show CtAt w0 lim2 wd9 (.slice nA nl nC) sE.note from HD.out.note) HQL.out
  obtain ⟨A6,c6,hv6⟩:∃ A c,vn6=Value.slice A ((wkR r sE i (allR Ll sE.note) n).nts i n++[sE.note]).length c:=by obtain ⟨A,c,h,_⟩:=hqn;exact ⟨A,c,h⟩
  subst hv6
  have HQN:=Y00 hqn
  clear hqn
  generalize ((wkR r sE i (allR Ll sE.note) n).nts i n++[sE.note]).length=l6 at *
  refine Jcq (by rfl) rfl (.tmp 135) (.tmp 137) 109 rfl qv (.slice (some ⟨wd9.heap.size,0,none⟩) 1 1) rfl rfl hrun ?_
  have hqt:∀ (t:TypeId),(43 == t)=false→∀ k,qOwn qv=some k→¬ J0m wd9 k t:=fun t ht k hk=>Yz2 (HQD.out.c07 hk).2 ht
  have g0:=J09 hg6 HD0.out.1 (fun he=>hqt 112 rfl _ he.symm HD.out.t_box)
  have g1:=J09 hg6 HD0.out.2.1 (fun he=>hqt 163 rfl _ he.symm ⟨_,HD.out.at0⟩)
  have g2:=J09 hg6 HD0.out.2.2.1 (fun he=>hqt 158 rfl _ he.symm HD.out.run.rows.typed)
  have g3:=J09 hg6 HD0.out.2.2.2 (fun he=>hqt 109 rfl _ he.symm (HD.out.run.row i hi).typed)
  have zf:w6.frozen? ⟨V.G.rb i,n,none⟩=false:=by
   obtain ⟨cc,hcc⟩:=(HD.out.run.row i hi).typed
   exact J07 (J0x hcc hg6 (fun he=>hqt 109 rfl _ he.symm (HD.out.run.row i hi).typed)) _
  have H8:=Y00 (HD.out.queue hi hnW (by rw [HQV.out];exact hg6) HQN.out (by rw [HQV.out];exact .inr hon))
  refine hK.out _ _ ⟨g0,g1,g2,g3⟩ (fun hJ0=>?_)
  clear hrun hg6 hon hqt g0 g1 g2 HD0 HD HQN HQD
  clear hK K
  refine nm0 _ ?_
  refine pu 19 139 (bs 21 1048575) ?_
  refine la0 20 (bs 21 2097151) (N:=none) fun K hK=>?_
  refine sk0 ?_
  refine hK.out _ _ ?_
  clear hK K hJ0
  refine dn0 ?_
  clear g3 zf
  generalize w6.setCell ⟨V.G.rb i,n,none⟩ (.slice A6 l6 c6)=w7 at *
  go_wp2_with fail
  exact ⟨⟨n+1,_,by omega,by go_num,by rw [HRT.out];exact H8⟩,by simp [intOf];omega⟩
 have hkE:(k:Int)<V.p.E.length:=by omega
 have hk0:(0:Int)≤k:=by omega
 obtain ⟨ad,sA,sC,hA,he0,he1,he2,heL,heC⟩:=J8e HE.out hlt
 rw [hA] at s2
 replace he0:=J00 hX.out.1.run.below he0
 replace he1:=J00 hX.out.1.run.below he1
 replace he2:=J00 hX.out.1.run.below he2
 have HEL:=Y00 heL
 have HEC:=Y08 (Y07 hA heC)
 have HST:=Y08 (J1m (J4x V.W m) ws0 V.p.E hlt)
 have HRW:=Y08 (RWOk.fold HMW.out (V.p.E.take k) 2000 1 ws0 HWO.out (fun e he=>HS.out.2.2 e (List.mem_of_mem_take he)))
 have HEW:=Y08 (HS.out.2.2 _ (Y0l hlt))
 have HTL:=Y08 (show (V.p.E.take k).length≤16 by rw [Y0o];omega)
 clear hA heC heL
 generalize (V.p.E.take k).foldl (J4x V.W m) ws0=sk at *
 generalize V.p.E[k]=ee at *
 go_upto_region 7 with fail
 have HX:=Y00 (Y07 ((hX.out.1.below (J02 wr (.cells #[.int .i64 ee.1,.int .i64 ee.2.1,.slice sA ee.2.2.length sC] 129))).freeze (Y0c wr _) (fun he=>by have:=J0q hX.out.1.box;omega) rfl rfl rfl rfl) (Yz0 hX.out.2 (J02 wr (.cells #[.int .i64 ee.1,.int .i64 ee.2.1,.slice sA ee.2.2.length sC] 129)).size))
 clear he0 he1 he2 hX s2
 generalize wr.alloc (.cells #[.int .i64 ee.1,.int .i64 ee.2.1,.slice sA ee.2.2.length sC] 129)=wq at *
 generalize wr.heap.size=be at *
 have e0:wq.cell? ⟨be,0,none⟩=some (.int .i64 ee.1):=(J03 HX.out.1.at0 0).trans rfl
 have b2:wq.cell? ⟨mb,2,none⟩=some (.int .i64 m.1):=(J03 HX.out.1.at1 2).trans rfl
 by_cases hne:ee.1=m.1
 rotate_left
 ·have hneb:(ee.1 != m.1)=true:=by simpa using hne
  have HST2:=Y08 (HST.out.trans (Jp5 hne))
  clear hne
  go_wp2_with fail
  exact ⟨⟨k+1,tk',by omega,by go_num,by omega,by rw [HST2.out];exact ⟨⟨HX.out.1.thaw,HX.out.2⟩⟩⟩,by simp [intOf];omega⟩
 have hneb:(ee.1 != m.1)=false:=by simpa using hne
 have HNE:=Y08 hne
 clear hne
 obtain ⟨⟨c0,c1,c2,c3,c4⟩,⟨c5,c6,c7,c8⟩,⟨c9,c10,c11,c12⟩⟩:=J13 HX.out.1.box
 have HN:=Y08 (Jiq V tk' r.works r.took sk.sent (V.p.workers+1) wq (Kd.c00 HS.out.1 HX.out.1.run.below) (by omega) (by omega) (by omega) (by have:=HS.out.2.1;omega))
 have HNP:=Y08 (show numP (V.script.drop tk') (V.p.workers+1)=numP sk.script ((V.W:Int)+1) by rw [HWK.out,show sk.script=V.script.drop tk' from HX.out.1.drop])
 have HRG:=Y08 (J3q sk.script (show (1:Int)≤(V.W:Int)+1 by omega))
 go_wp2_with fail
 refine HN.out.mono ?_
 rintro e w8 ⟨rfl,hb8⟩
 have H8:=Y00 (Y07 (HX.out.1.below hb8) (Yz0 HX.out.2 hb8.size))
 rw [HNP.out]
 clear HN HNP HX hb8 c0 c1 c2 c3 c4 c5 c6 c7 c8 c9 c10 c11 c12 e0 b2 hneb
 have c9:=(J13 H8.out.1.box).2.2.1
 have f9:=J07 H8.out.1.box 9
 by_cases hz:numP sk.script ((V.W:Int)+1)=0
 ·have HST2:=Y08 (HST.out.trans (Jlc HNE.out hz))
  rw [hz]
  clear hz
  go_wp2_with fail
  exact ⟨⟨k+1,tk'+1,by omega,by go_num,by omega,by rw [HST2.out];exact ⟨⟨H8.out.1.thaw.cell 9 (.int .i64 ((tk':Int)+1)) (r':=stR r { sk with script:=sk.script.tail }) (tk':=tk'+1) rfl rfl rfl rfl (J95 H8.out.1.drop),Yz0 H8.out.2 (J0n _ _ _ _).1⟩⟩⟩,by simp [intOf];omega⟩
 obtain ⟨j,hj⟩:∃ j:Nat,numP sk.script ((V.W:Int)+1)=(j:Int)+1:=⟨(numP sk.script ((V.W:Int)+1) - 1).toNat,by have:=HRG.out;omega⟩
 have hjW:j<V.W:=by have:=HRG.out;omega
 have HST2:=Y08 (HST.out.trans (Jld HNE.out hj))
 rw [hj]
 have hj0:(0:Int)≤j:=by omega
 have hjp:(0:Int)<(j:Int)+1:=by omega
 have hjWI:(j:Int)<V.W:=by omega
 clear hz hj
 go_upto_region 11 with fail
 have H9:=Y00 (Y07 (H8.out.1.cell 9 (.int .i64 ((tk':Int)+1)) (r':=stR r { sk with script:=sk.script.tail }) (tk':=tk'+1) rfl rfl rfl rfl (J95 H8.out.1.drop)) (Yz0 H8.out.2 (J0n w8 sb 9 (.int .i64 ((tk':Int)+1))).1))
 clear H8 c9 f9
 generalize w8.setCell ⟨sb,9,none⟩ (.int .i64 ((tk':Int)+1))=w9 at *
 have e1:w9.cell? ⟨be,1,none⟩=some (.int .i64 ee.2.1):=(J03 H9.out.1.at0 1).trans rfl
 have e2:w9.cell? ⟨be,2,none⟩=some (.slice sA ee.2.2.length sC):=(J03 H9.out.1.at0 2).trans rfl
 have b3:w9.cell? ⟨mb,3,none⟩=some (.slice mA m.2.length mC):=(J03 H9.out.1.at1 3).trans rfl
 refine sr1 11 (fun W'=>W'.cell? ⟨be,1,none⟩=some (.int .i64 ee.2.1)∧W'.cell? ⟨be,2,none⟩=some (.slice sA ee.2.2.length sC)∧W'.cell? ⟨mb,3,none⟩=some (.slice mA m.2.length mC)) [10] ⟨e1,e2,b3⟩ fun hJ0=>?_
 have H10:=Y00 (Y07 (H9.out.1.below (J05 (Y0f _ _))) (Yz0 H9.out.2 (J05 (Y0f w9.heap.size w9)).size))
 clear H9 e1 e2 b3
 generalize w9.drew=wd9 at *
 have HSH:=Y08 (fun W' (hb:Below wd9.heap.size wd9 W')=>Y07 (J00 hb hJ0.1) (Y07 (J00 hb hJ0.2.1) (J00 hb hJ0.2.2)))
 have HPU:=Y08 (fun W' (hb:Below wd9.heap.size wd9 W')=>Jbe mA sA mC sC m.2 ee.2.2 W' (H10.out.1.tm0.below hb).C (Kd.c00 HEL.out (J01 H10.out.1.run.below H10.out.1.run.below.size hb)) (by rw [HMW.out,HEW.out]) (by rw [HMW.out];have:=HW3.out;omega))
 have HPLN:=Y08 (show (J48 m.2 ee.2.2).length=m.2.length from J8r (by rw [HMW.out,HEW.out]))
 refine pu 0 63 (bs 11 1) ?_
 refine pu 2 65 (bs 11 5) ?_
 refine pu 3 66 (bs 11 13) ?_
 refine pu 5 68 (bs 11 45) ?_
 refine tk3 1 64 (bs 11 47) hJ0 ?_
 refine tk3 4 67 (bs 11 63) hJ0 ?_
 refine tk3 6 69 (bs 11 127) hJ0 ?_
 refine Jl1 1 (bs 11 1023) (fun g:Nat × Option Addr × Nat=>[(70,.slice g.2.1 m.2.length g.2.2),(71,.agg #[.int .i64 ee.2.1,.slice g.2.1 m.2.length g.2.2]),(9,.pointer (some ⟨g.1,0,none⟩))]) (fun g w'=>Below wd9.heap.size wd9 w'∧w'.heap[g.1]?=some (.cells #[.int .i64 0,.slice none 0 0] 57 (0,0))∧wd9.heap.size≤g.1∧FzAt w0 w' (.slice g.2.1 m.2.length g.2.2) (J48 m.2 ee.2.2)) ?_ ?_
 ·rintro ⟨g,pA,pC⟩ w' ⟨hbw,hbk,hge,hfz⟩
  simp only at hbk hge hfz
  obtain ⟨z0,z1⟩:=bc2 hbk
  obtain ⟨y0,y1⟩:=bf2 hbk
  refine Jkr (a':=?_) ?_ ?_
  rotate_left
  ·show J2x _ _=_
   simp only [J2x,Act.put,List.setIfInBounds_toArray,List.set_cons_zero,List.set_cons_succ]
   rfl
  refine la0 10 (bs 11 2047) (N:=none) fun K hK=>?_
  refine sk0 ?_
  refine hK.out _ _ ?_
  clear hK K
  refine dn0 ?_
  have hbm:((w'.setCell ⟨g,0,none⟩ (.int .i64 ee.2.1)).setCell ⟨g,1,none⟩ (.slice pA m.2.length pC)).heap[g]?=some (.cells #[.int .i64 ee.2.1,.slice pA m.2.length pC] 57 (0,0)):=J0d (J0d hbk 0 _ rfl) 1 _ rfl
  have hB:Below wd9.heap.size wd9 ((w'.setCell ⟨g,0,none⟩ (.int .i64 ee.2.1)).setCell ⟨g,1,none⟩ (.slice pA m.2.length pC)):=(hbw.setCell hge _).setCell hge _
  have hsz0:w0.heap.size≤w'.heap.size:=Yz0 H10.out.1.run.sz hbw.size
  have hfz2:=(hfz.put hsz0 hbk (Yz0 H10.out.1.run.sz hge) rfl 0 (.int .i64 ee.2.1)).put (Yz0 hsz0 (J0n w' g 0 (.int .i64 ee.2.1)).1) (J0d hbk 0 (.int .i64 ee.2.1) rfl) (Yz0 H10.out.1.run.sz hge) rfl 1 (.slice pA m.2.length pC)
  have H11:=Y00 (Y07 (((H10.out.1.below hB).freeze hbm (fun he=>by have:=J0q H10.out.1.box;omega) rfl rfl rfl rfl).time hfz2) (Yz0 H10.out.2 hB.size))
  clear H10 hB hbm hbw hbk hge hfz hfz2 hsz0 z0 z1 y0 y1 hJ0 HSH HPU
  generalize (w'.setCell ⟨g,0,none⟩ (.int .i64 ee.2.1)).setCell ⟨g,1,none⟩ (.slice pA m.2.length pC)=wA at *
  obtain ⟨lv,e5,hHd⟩:=H11.out.1.run.held.get hjW
  have hHd:HdAt w0 wA lv (sk.held.getD j []):=hHd
  obtain ⟨lA,lC,rfl,-,hLC⟩:=Kd.c09 hHd
  have HLO2:=Y08 (HRW.out.heldAt j)
  generalize sk.held.getD j []=L at *
  have s5:=(J13 H11.out.1.box).2.1.1
  obtain ⟨n0,n1⟩:=bq2 H11.out.1.at0 (.int .i64 ee.2.1) (.slice pA m.2.length pC)
  have wj:IntKind.i64.wrap ((j:Int)+1 - 1)=(j:Int):=by rw [Y0b];omega
  have wj2:IntKind.i64.wrap (j:Int)=(j:Int):=by rw [Y0b];omega
  have HHD:=Y00 hLC
  clear hHd hLC
  go_upto_region 12 with fail
  refine sr1 14 (fun W'=>W'.cell? ⟨sb,5,none⟩=some (.slice (some ⟨V.G.hb,0,none⟩) V.W V.G.hc)∧W'.cell? ⟨V.G.hb,j,none⟩=some (.slice lA L.length lC)∧W'.cell? ⟨g,0,none⟩=some (.int .i64 ee.2.1)∧W'.cell? ⟨g,1,none⟩=some (.slice pA m.2.length pC)) [13] ⟨s5,e5,n0,n1⟩ fun hJ0=>?_
  have hdr1:=J05 (Y0f wA.heap.size wA)
  have H12:=Y00 (Y07 (H11.out.1.below hdr1) (Yz0 H11.out.2 hdr1.size))
  have HPT:=Y08 (show Calls Tryz.prog 87 #[.slice lA L.length lC,.agg #[.int .i64 ee.2.1,.slice pA m.2.length pC]] wA.drew fun e w'=>∃ v,e=.returned v∧J29 w0 wA.drew wA.drew v (putR (J86 m ee) false L) w' by
   have h:=Jmn w0 lA lC L (J86 m ee) pA pC wA.drew ((J6l (FzUp.below hdr1)).C (Kd.c00 HHD.out hdr1)) (by show FzAt w0 wA.drew (.slice pA (J48 m.2 ee.2.2).length pC) (J48 m.2 ee.2.2);rw [HPLN.out];exact H12.out.1.tm0) (by have:=HLO2.out.1;have:=HTL.out;omega) (fun x hx=>by show (J48 m.2 ee.2.2).length=_;rw [HPLN.out,HMW.out,HLO2.out.2 x hx])
   have e:rmV (J86 m ee) pA pC=.agg #[.int .i64 ee.2.1,.slice pA m.2.length pC]:=by show Value.agg #[_,.slice pA (J48 m.2 ee.2.2).length pC]=_;rw [HPLN.out];rfl
   rw [e] at h
   exact h)
  clear hdr1 s5 e5 n0 n1 HHD H11
  generalize wA.drew=wB at *
  refine pu 0 72 (bs 14 1) ?_
  refine pu 2 74 (bs 14 5) ?_
  refine pu 3 75 (bs 14 13) ?_
  refine pu 4 76 (bs 14 29) ?_
  refine pu 6 78 (bs 14 93) ?_
  refine pu 7 79 (bs 14 221) ?_
  refine tk4 1 73 (bs 14 223) hJ0 ?_
  refine tk4 5 77 (bs 14 255) hJ0 ?_
  refine pu 8 80 (bs 14 511) ?_
  refine tk4 9 81 (bs 14 1023) hJ0 ?_
  refine tk4 10 82 (bs 14 2047) hJ0 ?_
  refine on0 11 83 (bs 14 4095) fun K hK=>?_
  refine gs0 Tryz.func87 #[.slice lA L.length lC,.agg #[.int .i64 ee.2.1,.slice pA m.2.length pC]] ?_
  refine HPT.out.mono ?_
  rintro e w4 ⟨v,rfl,hN⟩
  obtain ⟨vA,vC,hve⟩:=Kd.c02 hN.1
  generalize hvn:(putR (J86 m ee) false L).length=vn at hve
  subst hve
  have HN:=Y00 hN
  clear hN hvn HPT
  refine ⟨_,rfl,hK.out _ _ (st4 HN.out.2 hJ0) (fun hJ0=>?_)⟩
  clear hK K
  refine nm0 _ ?_
  refine pu 12 84 (bs 14 8191) ?_
  have e5:=hJ0.2.1
  have zf:=(H12.out.1.below HN.out.2).run.held.frozen j
  refine la0 13 (bs 14 16383) (N:=none) fun K hK=>?_
  refine sk0 ?_
  refine hK.out _ _ ?_
  clear hK K hJ0 e5 zf
  refine dn0 ?_
  have H13:=Y00 (Y07 ((H12.out.1.below HN.out.2).held hjW (HN.out.hd (FzUp.below HN.out.2) H12.out.1.run.sz)) (show lim≤(w4.setCell ⟨V.G.hb,j,none⟩ (.slice vA vn vC)).heap.size from Yz0 H12.out.2 (Yz0 HN.out.2.size (J0n w4 V.G.hb j (.slice vA vn vC)).1)))
  clear H12 HN
  generalize w4.setCell ⟨V.G.hb,j,none⟩ (.slice vA vn vC)=wC at *
  obtain ⟨n0,n1⟩:=bq2 H13.out.1.at0 (.int .i64 ee.2.1) (.slice pA m.2.length pC)
  have HFS:=Y00 (show FzAt w0 wC (.slice pA m.2.length pC) (J86 m ee).2 from H13.out.1.tm0)
  go_upto_region 14 with (at_builtin;go_must (refine Kd.R_append (kCF w0 wC) (w0:=w0) w0.heap.size rfl (.tmp 85) (.tmp 88) _ 83 _ 40 rfl Tryz.underlying43 Tryz.infoCnt rfl (Y0v rfl) (Y0v rfl) u5 sk.note (J86 m ee,1) _ (fun k=>lim≤k) (fun _=>False) rfl rfl ⟨[_,_],[_],rfl,⟨_,rfl,HFS.out⟩,rfl⟩ (fun _ h=>h.elim) (fun k hk=>Yz0 H13.out.2 hk) H13.out.1.note H13.out.1.run.below H13.out.1.run.below.size (by have:=HRW.out.note.1;have:=HTL.out;omega) ?_);intro v6 w6 hR6 hb6 hg6 hat6)
  have H14:=Y00 (Y07 (H13.out.1.grow hg6 hR6) (Yz0 H13.out.2 hg6.size))
  clear hR6 hb6 hg6 hat6 n0 n1 HFS H13
  have c12:=(J13 H14.out.1.box).2.2.2.2.2
  have f12:=J07 H14.out.1.box 12
  go_wp2_with fail
  refine ⟨⟨k+1,tk'+1,by omega,by go_num,by omega,?_⟩,by simp [intOf];omega⟩
  rw [HST2.out]
  exact ⟨⟨H14.out.1.thaw.thaw.late.cell 12 (.int .i64 (wrap64 (sk.sent+1))) (r':=stR r { held:=sk.held.set j (putR (J86 m ee) false L),script:=sk.script.tail,sent:=w64 (sk.sent+1),note:=sk.note++[(J86 m ee,1)] }) (tk':=tk'+1) (by show _=stC V _ _ _ (w64 (sk.sent+1));rw [J2u];rfl) rfl rfl rfl H14.out.1.drop,Yz0 H14.out.2 (J0n _ _ _ _).1⟩⟩
 intro hcont
 simp only [J2x,Act.put,List.setIfInBounds_toArray,List.set_cons_zero,List.set_cons_succ] at hcont
 have HCT:=Y08 hcont
 clear hcont
 have HD:=Y00 (Y0f wd9.heap.size wd9)
 refine two_ (i:=7) (j:=9) (Ni:=some 70) (Nj:=some 9) (bs 11 255) (bs 11 639) rfl rfl rfl rfl (by kernel_rfl) (by decide) (by decide) (fun K hK=>?_) (fun K hK=>?_)
 ·refine gs0 Tryz.func72 #[.slice mA m.2.length mC,.slice sA ee.2.2.length sC] ?_
  refine (HPU.out _ HD.out).mono ?_
  rintro e w1 ⟨v,rfl,hR1,hb1⟩
  obtain ⟨pA,pC,hve⟩:=Kd.c02 hR1
  have HFZ:=Y00 (FzAt.of_R (w0:=w0) hR1)
  rw [hve,HPLN.out] at HFZ
  rw [HPLN.out] at hve
  subst hve
  clear hR1
  refine ⟨_,rfl,hK.out _ _ (HSH.out _ hb1) (fun hJ0=>?_)⟩
  clear hK K
  refine nm0 _ ?_
  refine pu 8 71 (bs 11 511) ?_
  refine one_ (i:=9) (N:=some 9) (bs 11 1023) rfl rfl (by kernel_rfl) (by decide) (fun K hK=>?_)
  refine va0 ?_
  have hB3:=J1e hb1 (.cells #[.int .i64 0,.slice none 0 0] 57)
  refine hK.out _ _ (HSH.out _ hB3) (fun hJ0=>?_)
  clear hK K
  refine nm0 _ ?_
  exact HCT.out (w1.heap.size,pA,pC) _ ⟨hB3,Y0c w1 _,hb1.size,HFZ.out.below (J02 w1 _)⟩
 skip
 refine va0 ?_
 have hB2:=J1e HD.out (.cells #[.int .i64 0,.slice none 0 0] 57)
 refine hK.out _ _ (HSH.out _ hB2) (fun hJ0=>?_)
 clear hK K
 refine nm0 _ ?_
 refine one_ (i:=7) (N:=some 70) (bs 11 767) rfl rfl (by kernel_rfl) (by decide) (fun K hK=>?_)
 refine gs0 Tryz.func72 #[.slice mA m.2.length mC,.slice sA ee.2.2.length sC] ?_
 refine (HPU.out _ hB2).mono ?_
 rintro e w1 ⟨v,rfl,hR1,hb1⟩
 obtain ⟨pA,pC,hve⟩:=Kd.c02 hR1
 have HFZ:=Y00 (FzAt.of_R (w0:=w0) hR1)
 rw [hve,HPLN.out] at HFZ
 rw [HPLN.out] at hve
 subst hve
 clear hR1
 have hB3:=J01 hB2 hB2.size hb1
 refine ⟨_,rfl,hK.out _ _ (HSH.out _ hB3) (fun hJ0=>?_)⟩
 clear hK K
 refine nm0 _ ?_
 refine pu 8 71 (bs 11 1023) ?_
 exact HCT.out (wd9.heap.size,pA,pC) _ ⟨hB3,J04 (Y0c wd9 _) hb1,Y0e _,HFZ.out⟩
namespace Mdl
theorem Jn7 {wd:Nat} : ∀ (ms:List Msg) (n:Nat) (hs:List (List RM)),(∀ m ∈ ms,m.1.2.length=wd)→(∀ i,MsOk wd n (hs.getD i []))→∀ i,MsOk wd (n+ms.length) ((ms.foldl J2n hs).getD i [])
 | [],_,_,_,h=>h
 | m::ms,n,hs,hm,h=>fun i=>by
  have h1:∀ i,MsOk wd (n+1) ((J2n hs m).getD i []):=fun i=>by
   unfold J2n
   rcases J68 hs m.2.toNat i (putR m.1 false (hs.getD m.2.toNat [])) [] with e | e
   ·rw [e];exact (h _).put (hm m Y03)
   rw [e];exact (h i).mono (by omega)
  have:=Jn7 ms (n+1) _ (fun x hx=>hm x (Y04 _ hx)) h1 i
  rw [List.foldl_cons,Y0z,show n+(ms.length+1)=n+1+ms.length by omega]
  exact this
theorem Jn2 {wd:Nat} : ∀ (ms:List Msg) (n:Nat) (l:List Msg),(∀ m ∈ ms,m.1.2.length=wd)→CsOk wd n l→CsOk wd (n+ms.length) (ms.foldl (fun l m=>J0z m.1 1 false l) l)
 | [],_,_,_,h=>h
 | m::ms,n,l,hm,h=>by
  have:=Jn2 ms (n+1) _ (fun x hx=>hm x (Y04 _ hx)) (h.enter (hm m Y03) 1)
  rw [List.foldl_cons,Y0z,show n+(ms.length+1)=n+1+ms.length by omega]
  exact this
end Mdl
theorem J9f (w:World) (a b:Array Value) (s t:TypeId):∃ w2,(w.alloc (.cells a s)).alloc (.cells b t)=w2∧Below w.heap.size w w2∧w2.heap[w.heap.size]?=some (.cells a s (0,0))∧w2.heap[w.heap.size+1]?=some (.cells b t (0,0)):=by
 have h1:=J02 w (.cells a s)
 have h2:=J02 (w.alloc (.cells a s)) (.cells b t)
 have hs:(w.alloc (.cells a s)).heap.size=w.heap.size+1:=by simp
 refine ⟨_,rfl,J01 h1 h1.size h2,J04 (Y0c w _) h2,?_⟩
 have:=Y0c (w.alloc (.cells a s)) (.cells b t)
 rwa [hs] at this
abbrev plC (N Wd:Int) (E:List Ed) (W:Nat) (ms:List Msg) (eA mA:Option Addr) (eC mC:Nat):Array Value:=#[.int .i64 N,.int .i64 Wd,.slice eA E.length eC,.int .i64 W,.slice mA ms.length mC]
abbrev bgS (N Wd:Int) (E:List Ed) (W:Nat) (ms:List Msg) (eA mA sA:Option Addr) (eC mC sl sC hb hc:Nat) (L Nn:Value):Array Value:=#[.int .i64 N,.int .i64 Wd,.slice eA E.length eC,.int .i64 W,.slice mA ms.length mC,.slice (some ⟨hb,0,none⟩) W hc,L,Nn,.slice sA sl sC,.int .i64 0,.int .i64 0,.int .i64 0,.int .i64 0]
abbrev bgZ (N Wd:Int) (E:List Ed) (W:Nat) (ms:List Msg) (eA mA:Option Addr) (eC mC pb rb:Nat) (Zx:List (Nat × Array Value × TypeId)):List (Nat × Array Value × TypeId):=(pb,plC N Wd E W ms eA mA eC mC,27)::(rb,stZ,112)::Zx
def OthB (Zx:List (Nat × Array Value × TypeId)) (w:World):Prop:=∀ x ∈ Zx,w.heap[x.1]?=some (.cells x.2.1 x.2.2 (0,0))∧(x.2.2 == 46)=false∧(x.2.2 == 43)=false∧(x.2.2 == 158)=false
theorem OthB.below {Zx:List (Nat × Array Value × TypeId)} {w w':World} (h:OthB Zx w) (hb:Below w.heap.size w w'):OthB Zx w':=fun x hx=>⟨J04 (h x hx).1 hb,(h x hx).2⟩
theorem Jjm {α:Type} (n i:Nat) (x:α):(List.replicate n x).getD i x=x:=by
 rw [Y01,List.getElem?_replicate]
 split<;>rfl
def Jnw (w0:World) (Zx:List (Nat × Array Value × TypeId)) (p:Plan) (eA mA sA:Option Addr) (eC mC sC:Nat) (script:List Int) (W:Nat) (e:Ending) (w':World):Prop:=∃ (G:RQ) (q:Nat→Nat→Value),e=.returned (stV ⟨p,eA,mA,sA,eC,mC,sC,script,G,W⟩ 0 0 0 0)∧RunR w0 G W w'.heap.size (Jha W p.start script) q w'∧OthB Zx w'
theorem Jkj (N Wd:Int) (E:List Ed) (W:Nat) (ms:List Msg) (eA mA sA:Option Addr) (eC mC sC:Nat) (script:List Int) (wd:Nat) (w0 w:World) (Zx:List (Nat × Array Value × TypeId)) (hb0:Below w0.heap.size w0 w) (hZx:OthB Zx w) (hp:J1v w0 ⟨N,Wd,E,(W:Int),ms⟩ eA mA) (hW:1≤W∧W≤4) (h8:ms.length≤8) (hms:∀ m ∈ ms,m.1.2.length=wd∧0≤m.2∧m.2<W) :
  Calls Tryz.prog 66 #[.agg #[.int .i64 N,.int .i64 Wd,.slice eA E.length eC,.int .i64 W,.slice mA ms.length mC],.slice sA script.length sC] w (Jnw w0 Zx ⟨N,Wd,E,(W:Int),ms⟩ eA mA sA eC mC sC script W):=by
 obtain ⟨w1,he1,hb1,k0,k1⟩:=J9f w (plC N Wd E W ms eA mA eC mC) stZ 27 112
 have HS:=Y00 hp.hS
 have HMS:=Y08 hms
 obtain ⟨p0,p1,p2,p3,p4⟩:=bc5 k0
 have HB:=Y00 (Y07 hb1 (Y07 k0 k1))
 have HB0:=Y00 hb0
 have HZN:=Y08 (show ∀ x ∈ Zx,x.1≠w.heap.size+1 from fun x hx=>by have:=J0q (hZx x hx).1;omega)
 have HZ:=Y00 (hZx.below hb1)
 have HPB:=Y08 (show w.heap.size<w1.heap.size∧w.heap.size+1<w1.heap.size∧w.heap.size≤w.heap.size+1 from ⟨J0q k0,J0q k1,by omega⟩)
 clear hp hb0 hZx hb1 k0 k1 hms
 go_enter Tryz.func66,Tryz.ntmps66
 go_upto_region 1 with fail
 clear he1
 have HZR:=Y08 (show ∀ x ∈ Zx,x.1≠w.heap.size+1 from HZN.out)
 generalize w.heap.size+1=rb at *
 refine sr1 8 (fun W'=>W'.cell? ⟨w.heap.size,0,none⟩=some (.int .i64 N)∧W'.cell? ⟨w.heap.size,1,none⟩=some (.int .i64 Wd)∧W'.cell? ⟨w.heap.size,2,none⟩=some (.slice eA E.length eC)∧W'.cell? ⟨w.heap.size,3,none⟩=some (.int .i64 W)∧W'.cell? ⟨w.heap.size,4,none⟩=some (.slice mA ms.length mC)) [7] ⟨p0,p1,p2,p3,p4⟩ fun hJ0=>?_
 have HB1:=Y00 (show Below w.heap.size w w1.drew∧w1.drew.heap[w.heap.size]?=some (.cells (plC N Wd E W ms eA mA eC mC) 27 (0,0))∧w1.drew.heap[rb]?=some (.cells stZ 112 (0,0)) from ⟨J01 HB.out.1 HB.out.1.size (J05 (Y0f w1.heap.size w1)),J04 HB.out.2.1 (J05 (Y0f w1.heap.size w1)),J04 HB.out.2.2 (J05 (Y0f w1.heap.size w1))⟩)
 have HZ1:=Y00 (HZ.out.below (J05 (Y0f w1.heap.size w1)))
 have HPB1:=Y08 (show w.heap.size<w1.drew.heap.size∧rb<w1.drew.heap.size∧w.heap.size≤rb from HPB.out)
 clear p0 p1 p2 p3 p4 HB HPB HZ
 generalize w1.drew=wd1 at *
 have HSH:=Y08 (fun W' (hb:Below wd1.heap.size wd1 W')=>Y07 (J00 hb hJ0.1) (Y07 (J00 hb hJ0.2.1) (Y07 (J00 hb hJ0.2.2.1) (Y07 (J00 hb hJ0.2.2.2.1) (J00 hb hJ0.2.2.2.2)))))
 have HD:=Y00 (Y0f wd1.heap.size wd1)
 refine pu 1 11 (bs 8 2) ?_
 refine pu 2 12 (bs 8 6) ?_
 refine tk5 0 10 (bs 8 7) hJ0 ?_
 refine tk5 3 13 (bs 8 15) hJ0 ?_
 refine Jl1 1 (bs 8 127) (fun g:Nat × Nat × Nat=>[(14,.slice (some ⟨g.1,0,none⟩) W g.2.1),(15,.agg #[.int .i64 N,.int .i64 Wd,.slice eA E.length eC,.int .i64 W,.slice mA ms.length mC,.slice (some ⟨g.1,0,none⟩) W g.2.1,.slice none 0 0,.slice none 0 0,.slice sA script.length sC,.int .i64 0,.int .i64 0,.int .i64 0,.int .i64 0]),(5,.pointer (some ⟨g.2.2,0,none⟩))]) (fun g w'=>Below wd1.heap.size wd1 w'∧w'.heap[g.2.2]?=some (.cells stZ 112 (0,0))∧wd1.heap.size≤g.2.2∧J4s w' g.1 46 W (fun _ v=>v=.slice none 0 0)∧wd1.heap.size≤g.1) ?_ ?_
 ·rintro ⟨hb,hc,sb⟩ w' ⟨hbw,hbk,hge,htab,hgh⟩
  simp only at hbk hge htab hgh
  obtain ⟨z0,z1,z2,z3,z4,z5,z6,z7,z8,z9,z10,z11,z12⟩:=bc13 hbk
  obtain ⟨y0,y1,y2,y3,y4,y5,y6,y7,y8,y9,y10,y11,y12⟩:=bf13 hbk
  have HT:=Y00 (Y07 hbw (Y07 hbk (Y07 hge (Y07 htab hgh))))
  clear hbw hbk hge htab hgh
  refine Jkr (a':=?_) ?_ ?_
  rotate_left
  ·show J2x _ _=_
   simp only [J2x,Act.put,List.setIfInBounds_toArray,List.set_cons_zero,List.set_cons_succ]
   rfl
  refine la0 7 (bs 8 255) (N:=none) fun K hK=>?_
  refine sk0 ?_
  refine hK.out _ _ ?_
  clear hK K z0 y0 z1 y1 z2 y2 z3 y3 z4 y4 z5 y5 z6 y6 z7 y7 z8 y8 z9 y9 z10 y10 z11 y11 z12 y12
  refine dn0 ?_
  obtain ⟨hfin,hg⟩:=J6t HT.out.2.1 (.int .i64 N) (.int .i64 Wd) (.slice eA E.length eC) (.int .i64 W) (.slice mA ms.length mC) (.slice (some ⟨hb,0,none⟩) W hc) (.slice none 0 0) (.slice none 0 0) (.slice sA script.length sC) (.int .i64 0) (.int .i64 0) (.int .i64 0) (.int .i64 0)
  generalize (((((((((((((w'.setCell ⟨sb,0,none⟩ (.int .i64 N)).setCell ⟨sb,1,none⟩ (.int .i64 Wd)).setCell ⟨sb,2,none⟩ (.slice eA E.length eC)).setCell ⟨sb,3,none⟩ (.int .i64 W)).setCell ⟨sb,4,none⟩ (.slice mA ms.length mC)).setCell ⟨sb,5,none⟩ (.slice (some ⟨hb,0,none⟩) W hc)).setCell ⟨sb,6,none⟩ (.slice none 0 0)).setCell ⟨sb,7,none⟩ (.slice none 0 0)).setCell ⟨sb,8,none⟩ (.slice sA script.length sC)).setCell ⟨sb,9,none⟩ (.int .i64 0)).setCell ⟨sb,10,none⟩ (.int .i64 0)).setCell ⟨sb,11,none⟩ (.int .i64 0)).setCell ⟨sb,12,none⟩ (.int .i64 0))=vF at *
  have B1:=Y00 (show BgAt w0 sb hb W (bgS N Wd E W ms eA mA sA eC mC script.length sC hb hc (.slice none 0 0) (.slice none 0 0)) (bgZ N Wd E W ms eA mA eC mC w.heap.size rb Zx) (List.replicate W []) (.slice none 0 0) [] vF from by
   have hbW:Below w0.heap.size w0 w':=J01 HB0.out HB0.out.size (J01 HB1.out.1 HB1.out.1.size HT.out.1)
   have hle:w0.heap.size≤wd1.heap.size:=Yz0 HB0.out.size HB1.out.1.size
   have hlow:w0.heap.size≤sb:=Yz0 hle HT.out.2.2.1
   refine ⟨J0k hbW hg hlow,hfin,HT.out.2.2.2.1.kept (J39 hg) (fun he=>J1t HT.out.2.2.2.1.typed ⟨_,HT.out.2.1⟩ rfl (by injection he with he;exact he.symm)) (fun i v hv=>?_),⟨hlow,Yz0 hle HT.out.2.2.2.2⟩,fun x hx=>?_,Kd.R_nil _ _ _ _ _,by simp⟩
   ·rw [show v=_ from hv,Jjm];exact Kd.R_nil _ _ _ _ _
   rcases Yz1.1 hx with hx | hx
   ·rw [hx];exact ⟨J0x (J04 HB1.out.2.1 HT.out.1) hg (fun he=>by have h1:=HPB1.out.1;have h2:=HT.out.2.2.1;injection he with he;omega),by have h1:=HPB1.out.1;have h2:=HT.out.2.2.1;simp only;omega,rfl,rfl,rfl⟩
   rcases Yz1.1 hx with hx | hx
   ·rw [hx];exact ⟨J0x (J04 HB1.out.2.2 HT.out.1) hg (fun he=>by have h1:=HPB1.out.2.1;have h2:=HT.out.2.2.1;injection he with he;omega),by have h1:=HPB1.out.2.1;have h2:=HT.out.2.2.1;simp only;omega,rfl,rfl,rfl⟩
   obtain ⟨z1,z2⟩:=HZ1.out x hx
   exact ⟨J0x (J04 z1 HT.out.1) hg (fun he=>by have h1:=J0q z1;have h2:=HT.out.2.2.1;injection he with he;omega),by have h1:=J0q z1;have h2:=HT.out.2.2.1;omega,z2⟩)
  have HZS:=Y08 (show ∀ x ∈ Zx,x.1<wd1.heap.size from fun x hx=>J0q (HZ1.out x hx).1)
  have HPS:=Y08 (show w0.heap.size≤rb∧rb<sb∧∀ x ∈ Zx,x.1≠rb from ⟨Yz0 HB0.out.size HPB1.out.2.2,Nat.lt_of_lt_of_le HPB1.out.2.1 HT.out.2.2.1,HZR.out⟩)
  clear hfin hg HT HB1 HPB1 hJ0 HSH HD HZ1 HZS
  go_upto_region 3 with fail
  have B2:=Y00 (B1.out.newLed (J3n.start w0 vF vF))
  clear B1
  generalize vF.alloc (.cells #[] 83)=vG at *
  go_wp2_with fail
  go_loopw [6,7] (fun lv ix wr=>∃ k:Nat,ix=.int .i64 k∧k≤ms.length∧J08 (BgAt w0 sb hb W (bgS N Wd E W ms eA mA sA eC mC script.length sC hb hc (.slice none 0 0) (.slice none 0 0)) (bgZ N Wd E W ms eA mA eC mC w.heap.size rb Zx) ((ms.take k).foldl J2n (List.replicate W [])) lv ((ms.take k).foldl (fun l m=>J0z m.1 1 false l) []) wr)) (fun _ ix _=>ms.length - (intOf ix).toNat)
  case atStart=>exact ⟨0,rfl,Yz3 _,B2⟩
  clear B2
  obtain ⟨k,rfl,hk,hX⟩:=hrel
  have p4:wr.cell? ⟨w.heap.size,4,none⟩=some (.slice mA ms.length mC):=(J03 hX.out.at0 4).trans rfl
  by_cases hlt:k<ms.length
  ·have hkE:(k:Int)<ms.length:=by omega
   have hk0:(0:Int)≤k:=by omega
   obtain ⟨ad,xA,xC,rfl,e0,e1,e2,hx,hxc⟩:=Jcp HS.out hlt
   have e0:=J00 hX.out.below e0
   have e1:=J00 hX.out.below e1
   have e2:=J00 hX.out.below e2
   have HFX:=Y00 (Jqg hx hxc)
   have HMX:=Y08 (HMS.out _ (Y0l hlt))
   have HFH:=Y08 (J1m J2n (List.replicate W []) ms hlt)
   have HFL:=Y08 (J1m (fun (l:List Msg) (m:Msg)=>J0z m.1 1 false l) [] ms hlt)
   have HOH:=Y08 (Jn7 (ms.take k) 0 (List.replicate W []) (fun m hm=>(HMS.out m (List.mem_of_mem_take hm)).1) (fun i=>by rw [Jjm];exact ⟨Y0e _,fun x hx=>by cases hx⟩))
   have HOL:=Y08 (Jn2 (ms.take k) 0 [] (fun m hm=>(HMS.out m (List.mem_of_mem_take hm)).1) ⟨Y0e _,fun x hx=>by cases hx⟩)
   have HTL:=Y08 (show (ms.take k).length≤8 by rw [Y0o];omega)
   clear hx hxc
   generalize (ms.take k).foldl J2n (List.replicate W [])=hs at *
   generalize (ms.take k).foldl (fun (l:List Msg) (m:Msg)=>J0z m.1 1 false l) []=ll at *
   generalize ms[k]=x at *
   obtain ⟨⟨nd,tl⟩,wk⟩:=x
   obtain ⟨i,rfl⟩:∃ i:Nat,wk=i:=⟨wk.toNat,(Y0k HMX.out.2.1).symm⟩
   have hi:i<W:=by have:=HMX.out.2.2;simpa using this
   have hiE:(i:Int)<W:=by omega
   have hi0:(0:Int)≤i:=by omega
   simp only at e0 e1 e2 HFX
   go_upto_region 7 with fail
   have HX:=Y00 ((hX.out.c08 (J02 wr (.cells #[.int .i64 nd,.slice xA tl.length xC,.int .i64 i] 77))).freeze (Y0c wr _) (fun he=>by have:=J0q hX.out.box;omega) rfl rfl rfl)
   clear e0 e1 e2 hX p4
   generalize wr.alloc (.cells #[.int .i64 nd,.slice xA tl.length xC,.int .i64 i] 77)=wq at *
   generalize wr.heap.size=mb at *
   obtain ⟨lv,e5,hHd⟩:=HX.out.held.get hi
   obtain ⟨lA,lC,rfl,-,hLC⟩:=Kd.c09 hHd
   have HLO:=Y08 (HOH.out i)
   obtain ⟨L,hL⟩:∃ L,L=hs.getD i []:=⟨_,rfl⟩
   rw [← hL] at e5 hLC HLO
   have HLL:=Y08 hL
   have s5:wq.cell? ⟨sb,5,none⟩=some (.slice (some ⟨hb,0,none⟩) W hc):=(J03 HX.out.box 5).trans rfl
   obtain ⟨m0,m1,m2⟩:=bc3 HX.out.at0
   have HHD:=Y00 hLC
   clear hHd hLC hL
   refine sr1 15 (fun W'=>W'.cell? ⟨sb,5,none⟩=some (.slice (some ⟨hb,0,none⟩) W hc)∧W'.cell? ⟨mb,0,none⟩=some (.int .i64 nd)∧W'.cell? ⟨mb,1,none⟩=some (.slice xA tl.length xC)∧W'.cell? ⟨mb,2,none⟩=some (.int .i64 i)∧W'.cell? ⟨hb,i,none⟩=some (.slice lA L.length lC)) [14] ⟨s5,m0,m1,m2,e5⟩ fun hJ0=>?_
   have hdr1:=J05 (Y0f wq.heap.size wq)
   have H1:=Y00 (HX.out.c08 hdr1)
   have HPT:=Y08 (Jmn w0 lA lC L (nd,tl) xA xC wq.drew ((J6l (FzUp.below hdr1)).C (Kd.c00 HHD.out hdr1)) (HFX.out.below H1.out.below) (by have:=HLO.out.1;have:=HTL.out;omega) (fun x hx=>by rw [show ((nd,tl):RM).2.length=wd from HMX.out.1,HLO.out.2 x hx]))
   clear hdr1 s5 m0 m1 m2 e5 HHD HX
   generalize wq.drew=we at *
   refine pu 0 29 (bs 15 1) ?_
   refine pu 2 31 (bs 15 5) ?_
   refine pu 4 33 (bs 15 21) ?_
   refine pu 6 35 (bs 15 85) ?_
   refine pu 10 39 (bs 15 1109) ?_
   refine tk5 1 30 (bs 15 1111) hJ0 ?_
   refine tk5 3 32 (bs 15 1119) hJ0 ?_
   refine tk5 5 34 (bs 15 1151) hJ0 ?_
   refine tk5 7 36 (bs 15 1279) hJ0 ?_
   refine pu 8 37 (bs 15 1535) ?_
   refine tk5 9 38 (bs 15 2047) hJ0 ?_
   refine tk5 11 40 (bs 15 4095) hJ0 ?_
   refine on0 12 41 (bs 15 8191) fun K hK=>?_
   refine gs0 Tryz.func87 #[.slice lA L.length lC,rmV (nd,tl) xA xC] ?_
   refine HPT.out.mono ?_
   rintro e w4 ⟨v,rfl,hN⟩
   obtain ⟨vA,vC,hve⟩:=Kd.c02 hN.1
   generalize hvn:(putR (nd,tl) false L).length=vn at hve
   subst hve
   have HN:=Y00 hN
   clear hN hvn HPT
   refine ⟨_,rfl,hK.out _ _ (st5 HN.out.2 hJ0) (fun hJ0=>?_)⟩
   clear hK K
   refine nm0 _ ?_
   refine pu 13 42 (bs 15 16383) ?_
   have e5:=hJ0.2.2.2.2
   have zf:=(H1.out.c08 HN.out.2).held.frozen i
   refine la0 14 (bs 15 32767) (N:=none) fun K hK=>?_
   refine sk0 ?_
   refine hK.out _ _ ?_
   clear hK K hJ0 e5 zf
   refine dn0 ?_
   have H2:=Y00 ((H1.out.c08 HN.out.2).put hi (HN.out.hd (FzUp.below HN.out.2) H1.out.below.size))
   clear H1 HN
   generalize w4.setCell ⟨hb,i,none⟩ (.slice vA vn vC)=w5 at *
   obtain ⟨m0,m1⟩:=bq2 H2.out.at0 (.int .i64 nd) (.slice xA tl.length xC)
   obtain ⟨dA,dC,hdv⟩:=Kd.c02 H2.out.led
   subst hdv
   have HEN:=Y08 (Jcd w0 dA dC ll (nd,tl) xA xC 1 w5 (Kd.c03 H2.out.led).2.2 (HFX.out.below H2.out.below) (by have:=HOL.out.1;have:=HTL.out;omega) (fun y hy=>by rw [show ((nd,tl):RM).2.length=wd from HMX.out.1,HOL.out.2 y hy]))
   go_wp2_with fail
   refine HEN.out.mono ?_
   rintro e w6 ⟨v6,rfl,hN6⟩
   have H3:=Y00 (H2.out.newLed hN6)
   clear hN6 H2 HEN m0 m1
   go_wp2_with fail
   exact ⟨⟨k+1,by go_num,by omega,⟨by rw [HFH.out,HFL.out];unfold J2n;rw [show ((((nd,tl),(i:Int)):Msg).2).toNat=i from Y06 i,← HLL.out];exact H3.out.thaw⟩⟩,by simp [intOf];omega⟩
  have hkE:¬ ((k:Int)<ms.length):=by omega
  have hX2:BgAt w0 sb hb W (bgS N Wd E W ms eA mA sA eC mC script.length sC hb hc (.slice none 0 0) (.slice none 0 0)) (bgZ N Wd E W ms eA mA eC mC w.heap.size rb Zx) (J7e W ms) u6 (J4h ms) wr:=by have h:=hX.out;rwa [Y0t (by omega)] at h
  have HOL:=Y08 (Jn2 ms 0 [] (fun m hm=>(HMS.out m hm).1) ⟨Y0e _,fun x hx=>by cases hx⟩)
  have HOL:Hid ((J4h ms).length≤8):=Y08 (by have h:=HOL.out.1;have h2:(J4h ms).length≤0+ms.length:=h;omega)
  obtain ⟨dA,dC,hdv⟩:=Kd.c02 hX2.led
  subst hdv
  have HBR:=Y08 (show Jha W ms script=⟨J7e W ms,List.replicate W (J4h ms),fun _ _=>[],script,0,0,0⟩ from rfl)
  generalize J7e W ms=hs at *
  generalize J4h ms=ll at *
  generalize hln:ll.length=ln at *
  have HLN:=Y08 hln
  clear hln
  have H3:=Y00 (Y07 hX2 (BgL.start w0 wr W ll))
  clear hX hX2
  go_wp2_with fail
  go_loopw [9] (fun ix wr=>∃ (j:Nat) (L Nn:Value) (gs:List (Nat × Nat)),ix=.int .i64 j∧j≤W∧J08 (BgAt w0 sb hb W (bgS N Wd E W ms eA mA sA eC mC script.length sC hb hc L Nn) (bgZ N Wd E W ms eA mA eC mC w.heap.size rb Zx) hs (.slice dA ln dC) ll wr∧BgL w0 W j j ll L Nn gs wr)) (fun ix _=>W - (intOf ix).toNat)
  case atStart=>exact ⟨0,_,_,_,rfl,Yz3 _,H3⟩
  clear H3
  obtain ⟨j,L,Nn,gs,rfl,hj,hX⟩:=hrel
  have p3:wr.cell? ⟨w.heap.size,3,none⟩=some (.int .i64 W):=(J03 hX.out.1.at0 3).trans rfl
  by_cases hlt:j<W
  rotate_left
  ·have hjE:¬ ((j:Int)<W):=by omega
   obtain rfl:j=W:=by omega
   obtain ⟨lb,lc,nb,nc,rfl,rfl,hrun⟩:=hX.out.2.run (script:=script) hX.out.1 hW.1 hc
   obtain ⟨c0,c1,c2,c3,c4,c5,c6,c7,c8,c9,c10,c11,c12⟩:=bq13 hX.out.1.box (.int .i64 N) (.int .i64 Wd) (.slice eA E.length eC) (.int .i64 j) (.slice mA ms.length mC) (.slice (some ⟨hb,0,none⟩) j hc) (.slice (some ⟨lb,0,none⟩) j lc) (.slice (some ⟨nb,0,none⟩) j nc) (.slice sA script.length sC) (.int .i64 0) (.int .i64 0) (.int .i64 0) (.int .i64 0)
   have hrb:wr.heap[rb]?=some (.cells stZ 112 (0,0)):=(hX.out.1.frz _ (Y04 _ Y03)).1
   obtain ⟨z0,z1,z2,z3,z4,z5,z6,z7,z8,z9,z10,z11,z12⟩:=bc13 hrb
   obtain ⟨y0,y1,y2,y3,y4,y5,y6,y7,y8,y9,y10,y11,y12⟩:=bf13 hrb
   have HRB:=Y08 hrb
   clear hrb
   have HR:=Y00 (Y07 hrun (show OthB Zx wr from fun x hx=>by
    obtain ⟨z1,-,z2⟩:=hX.out.1.frz x (Y04 _ (Y04 _ hx))
    exact ⟨z1,z2⟩))
   clear hrun hX
   go_wp2_with fail
   have hrb:=HRB.out
   obtain ⟨hfin,hg⟩:=J6t hrb (.int .i64 N) (.int .i64 Wd) (.slice eA E.length eC) (.int .i64 j) (.slice mA ms.length mC) (.slice (some ⟨hb,0,none⟩) j hc) (.slice (some ⟨lb,0,none⟩) j lc) (.slice (some ⟨nb,0,none⟩) j nc) (.slice sA script.length sC) (.int .i64 0) (.int .i64 0) (.int .i64 0) (.int .i64 0)
   generalize (((((((((((((wr.setCell ⟨rb,0,none⟩ (.int .i64 N)).setCell ⟨rb,1,none⟩ (.int .i64 Wd)).setCell ⟨rb,2,none⟩ (.slice eA E.length eC)).setCell ⟨rb,3,none⟩ (.int .i64 j)).setCell ⟨rb,4,none⟩ (.slice mA ms.length mC)).setCell ⟨rb,5,none⟩ (.slice (some ⟨hb,0,none⟩) j hc)).setCell ⟨rb,6,none⟩ (.slice (some ⟨lb,0,none⟩) j lc)).setCell ⟨rb,7,none⟩ (.slice (some ⟨nb,0,none⟩) j nc)).setCell ⟨rb,8,none⟩ (.slice sA script.length sC)).setCell ⟨rb,9,none⟩ (.int .i64 0)).setCell ⟨rb,10,none⟩ (.int .i64 0)).setCell ⟨rb,11,none⟩ (.int .i64 0)).setCell ⟨rb,12,none⟩ (.int .i64 0))=vF at *
   obtain ⟨q0,q1,q2,q3,q4,q5,q6,q7,q8,q9,q10,q11,q12⟩:=bc13 hfin
   refine bodyPost_ret (v:=.agg #[.int .i64 N,.int .i64 Wd,.slice eA E.length eC,.int .i64 j,.slice mA ms.length mC,.slice (some ⟨hb,0,none⟩) j hc,.slice (some ⟨lb,0,none⟩) j lc,.slice (some ⟨nb,0,none⟩) j nc,.slice sA script.length sC,.int .i64 0,.int .i64 0,.int .i64 0,.int .i64 0]) (by simp [results,Tryz.results66,go_sem,q0,q1,q2,q3,q4,q5,q6,q7,q8,q9,q10,q11,q12]) rfl (⟨⟨hb,hc,lb,lc,nb,nc,fun i=>(gs.getD i (0,0)).1,fun i=>(gs.getD i (0,0)).2⟩,fun _ _=>.slice none 0 0,rfl,?_,fun x hx=>⟨J0x (HR.out.2 x hx).1 hg (fun he=>by injection he with he;exact HPS.out.2.2 x hx he),(HR.out.2 x hx).2⟩⟩)
   have t:J0m wr rb 112:=⟨_,hrb⟩
   show RunR w0 _ j vF.heap.size (Jha j ms script) _ vF
   rw [HBR.out]
   exact (HR.out.1.set_new hg (fun k hk=>by injection hk with hk;subst hk;exact ⟨HPS.out.1,.of t rfl rfl rfl,Yz2 t rfl,Yz2 t rfl,Yz2 t rfl,Yz2 t rfl⟩)).relim (.inr (Y0e _))
  have hjE:(j:Int)<W:=by omega
  have hj0:(0:Int)≤j:=by omega
  have s6:wr.cell? ⟨sb,6,none⟩=some L:=(J03 hX.out.1.box 6).trans rfl
  go_upto_region 12 with fail
  refine sr1 9 (fun W'=>W'.cell? ⟨sb,6,none⟩=some L) [8] s6 fun hJ0=>?_
  have hdr1:=J05 (Y0f wr.heap.size wr)
  have H4:=Y00 (Y07 (hX.out.1.c08 hdr1) (hX.out.2.below hX.out.1.below.size hdr1))
  clear hdr1 s6 hX p3
  generalize wr.drew=wq at *
  refine pu 0 53 (bs 9 1) ?_
  refine pu 3 56 (bs 9 9) ?_
  refine tk1 1 54 (bs 9 11) hJ0 ?_
  refine on0 2 55 (bs 9 15) fun K hK=>?_
  refine va0 ?_
  have hHeld0:=Y00 hJ0
  have HN0:=Y00 (J3n.start w0 wq wq)
  refine hK.out _ _ (J00 (J02 wq _) hJ0) (fun hJ0=>?_)
  clear hK K
  refine nm0 _ ?_
  refine on0 4 57 (bs 9 31) fun K hK=>?_
  refine Kd.R_append_rows_step (kCF w0 wq) (w0:=wq) wq.heap.size (by rfl) (.tmp 55) (.tmp 56) _ 83 _ 40 rfl Tryz.underlying43 Tryz.infoCnt rfl (Y0v rfl) (Y0v rfl) _ [] ll dA ln dC (fun _=>True) (fun _=>False) rfl rfl HN0.out.1 (by have h:=(Kd.c03 H4.out.1.led).2.2;rw [HLN.out] at h;exact Kd.c00 h (J02 wq _)) (fun x cs h=>h) (fun _ h=>h.elim) (fun _ _=>trivial) HN0.out.2 HN0.out.2.size (by have:=HOL.out;simp only [List.length_nil];omega) ?_
  intro v6 w6 hR6 hb6 hg6 hat6
  rw [List.nil_append] at hR6
  obtain ⟨eA6,eC6,hv6⟩:=Kd.c02 hR6
  rw [HLN.out] at hv6
  subst hv6
  have HN6:=Y00 (show J3n w0 wq wq (.slice eA6 ln eC6) ll w6 from ⟨hR6,hb6⟩)
  clear hR6 hb6 hg6 hat6 HN0
  refine hK.out _ _ (J00 HN6.out.2 hHeld0.out) (fun hJ0=>?_)
  clear hK K
  refine nm0 _ ?_
  refine on0 5 58 (bs 9 63) fun K hK=>?_
  refine va0 ?_
  refine hK.out _ _ (J00 (J02 w6 _) hJ0) (fun hJ0=>?_)
  clear hK K
  refine nm0 _ ?_
  have H6:=Y00 (Y07 (H4.out.1.c08 HN6.out.2) (H4.out.2.below H4.out.1.below.size HN6.out.2))
  have HCT:=Y00 (show CtAt w0 w6.heap.size w6 (.slice eA6 ln eC6) ll from Kd.c06 (Kd.c05 (Kd.c04 ((J58 (FzUp.below HN6.out.2)).R HN6.out.1) H4.out.1.below.size)) (fun _ hk=>hk.2.2.1))
  have HH6:=Y00 (J00 HN6.out.2 hHeld0.out)
  clear H4 HN6 hHeld0
  refine on0 6 59 (bs 9 127) fun K hK=>?_
  refine Kd.R_append_step (kV (CtAt w0 w6.heap.size w6) (J9c w0 w6.heap.size w6)) (w0:=w0) w0.heap.size (by rfl) (.tmp 54) (.tmp 58) _ 43 _ 24 rfl Tryz.underlying109 Tryz.infoCs rfl (Y0v rfl) (Y0v rfl) L (List.replicate j ll) ll _ (fun _=>True) (fun _=>False) rfl rfl ⟨_,rfl,HCT.out⟩ (fun _ h=>h.elim) (fun _ _=>trivial) H6.out.2.leds H6.out.1.below H6.out.1.below.size (by rw [Y0j];omega) ?_
  intro v7 w7 hR7 hb7 hg7 hat7
  obtain ⟨lA7,lC7,hv7⟩:=Kd.c02 hR7
  generalize hl7:(List.replicate j ll++[ll]).length=l7 at hv7
  subst hv7
  have H7:=Y00 (Y07 (H6.out.1.grow hg7 (fun k hk=>⟨(H6.out.2.own.1 k hk).1,.inl (H6.out.2.own.1 k hk).2⟩)) (H6.out.2.led H6.out.1.below.size hg7 hR7))
  have hh7:=J09 hg7 HH6.out (fun he=>Yz2 (H6.out.2.own.1 _ he.symm).2 rfl ⟨_,H6.out.1.box⟩)
  clear hR7 hb7 hg7 hat7 hl7 H6 HCT HH6
  refine hK.out _ _ hh7 (fun hJ0=>?_)
  clear hK K
  refine nm0 _ ?_
  refine pu 7 60 (bs 9 255) ?_
  have zf:=J07 H7.out.1.box 6
  refine la0 8 (bs 9 511) (N:=none) fun K hK=>?_
  refine sk0 ?_
  refine hK.out _ _ ?_
  clear hK K hJ0 zf hh7
  refine dn0 ?_
  have H8:=Y00 (Y07 (H7.out.1.cell (bx':=(bgS N Wd E W ms eA mA sA eC mC script.length sC hb hc (.slice lA7 l7 lC7) Nn)) 6 (.slice lA7 l7 lC7) rfl) (H7.out.2.cell H7.out.1 6 (.slice lA7 l7 lC7)))
  clear H7
  generalize w7.setCell ⟨sb,6,none⟩ (.slice lA7 l7 lC7)=w8 at *
  have s7:w8.cell? ⟨sb,7,none⟩=some Nn:=(J03 H8.out.1.box 7).trans rfl
  have p3:w8.cell? ⟨w.heap.size,3,none⟩=some (.int .i64 W):=(J03 H8.out.1.at0 3).trans rfl
  go_upto_region 13 with fail
  refine sr1 9 (fun W'=>W'.cell? ⟨sb,7,none⟩=some Nn∧W'.cell? ⟨w.heap.size,3,none⟩=some (.int .i64 W)) [8] ⟨s7,p3⟩ fun hJ0=>?_
  have hdr1:=J05 (Y0f w8.heap.size w8)
  have H9:=Y00 (Y07 (H8.out.1.c08 hdr1) (H8.out.2.below H8.out.1.below.size hdr1))
  clear hdr1 s7 p3 H8
  generalize w8.drew=w9 at *
  have hHeld0:=Y00 hJ0
  refine pu 0 61 (bs 9 1) ?_
  refine pu 2 63 (bs 9 5) ?_
  refine tk2 1 62 (bs 9 7) hJ0 ?_
  refine tk2 3 64 (bs 9 15) hJ0 ?_
  refine on0 4 65 (bs 9 31) fun K hK=>?_
  refine Kd.R_make_step (kV nilQ Jom) (w0:=w9) w9.heap.size 109 (by rfl) (N:=65) rfl _ _ _ rfl (W:Int) rfl rfl Tryz.underlying158 _ 24 Tryz.infoL1c rfl (by decide) (by decide) () (ok:=fun _=>True) (okp:=fun _=>False) ⟨_,rfl,rfl⟩ (fun _ h=>h.elim) trivial (by omega) (by omega) (Y0f _ _) (Y0e _) ?_
  intro v10 w10 hR10 hb10 hg10 hown10
  rw [Y06] at hR10
  obtain ⟨rg,rc,hve,hge,htab⟩:=Jgd hR10 () (by rw [Y0j];omega)
  rw [Y0j] at hve htab
  subst hve
  have HT:=Y00 (Y07 (htab.kept (S:=fun _=>False) (P':=fun _ v=>v=.slice none 0 0) (Kept.of_below (Y0f _ _) _) (fun h=>h) (fun _ _ h=>h)) (Y07 (Yz0 H9.out.1.below.size hge) (show rg ∉ gs.map (·.1) from fun hm=>by
   obtain ⟨g,hg,he⟩:=Yz4.1 hm
   obtain ⟨cc,hcc⟩:=(H9.out.2.row g hg).1.typed
   have:=J0q hcc
   omega)))
  have H10:=Y00 (Y07 (H9.out.1.c08 hb10) (H9.out.2.below H9.out.1.below.size hb10))
  have HH10:=Y00 (Y07 (J00 hb10 hHeld0.out.1) (J00 hb10 hHeld0.out.2))
  clear hR10 hb10 hg10 hown10 htab hge hHeld0 H9
  refine hK.out _ _ HH10.out (fun hJ0=>?_)
  clear hK K
  refine nm0 _ ?_
  refine on0 5 66 (bs 9 63) fun K hK=>?_
  refine va0 ?_
  refine hK.out _ _ (st2 (J02 w10 _) hJ0) (fun hJ0=>?_)
  clear hK K
  refine nm0 _ ?_
  refine on0 6 67 (bs 9 127) fun K hK=>?_
  refine Kd.R_append_step (kV (rowQ W) (Jej W)) (w0:=w0) w0.heap.size (by rfl) (.tmp 62) (.tmp 66) _ 158 _ 24 rfl Tryz.underlying110 Tryz.infoL2c rfl (Y0v rfl) (Y0v rfl) Nn gs (rg,rc) _ (fun _=>True) (fun _=>False) rfl rfl ⟨_,rfl,rfl⟩ (fun _ h=>h.elim) (fun _ _=>trivial) H10.out.2.rows H10.out.1.below H10.out.1.below.size (by rw [H10.out.2.len];omega) ?_
  intro v11 w11 hR11 hb11 hg11 hat11
  obtain ⟨nA,nC,hv11⟩:=Kd.c02 hR11
  generalize hl11:(gs++[(rg,rc)]).length=l11 at hv11
  subst hv11
  have H11:=Y00 (Y07 (H10.out.1.grow hg11 (fun k hk=>⟨(H10.out.2.own.2 k hk).1,.inr (H10.out.2.own.2 k hk).2⟩)) (H10.out.2.more H10.out.1.below.size hg11 hR11 HT.out.2.2 HT.out.1 HT.out.2.1))
  have hh11:=Y07 (J09 hg11 HH10.out.1 (fun he=>Yz2 (H10.out.2.own.2 _ he.symm).2 rfl ⟨_,H10.out.1.box⟩)) (J09 hg11 HH10.out.2 (fun he=>Yz2 (H10.out.2.own.2 _ he.symm).2 rfl ⟨_,H10.out.1.at0⟩))
  clear hR11 hb11 hg11 hat11 hl11 H10 HT HH10
  refine hK.out _ _ hh11 (fun hJ0=>?_)
  clear hK K
  refine nm0 _ ?_
  refine pu 7 68 (bs 9 255) ?_
  have zf:=J07 H11.out.1.box 7
  refine la0 8 (bs 9 511) (N:=none) fun K hK=>?_
  refine sk0 ?_
  refine hK.out _ _ ?_
  clear hK K hJ0 zf hh11
  refine dn0 ?_
  have H12:=Y00 (Y07 (H11.out.1.cell (bx':=(bgS N Wd E W ms eA mA sA eC mC script.length sC hb hc (.slice lA7 l7 lC7) (.slice nA l11 nC))) 7 (.slice nA l11 nC) rfl) (H11.out.2.cell H11.out.1 7 (.slice nA l11 nC)))
  clear H11
  generalize w11.setCell ⟨sb,7,none⟩ (.slice nA l11 nC)=w12 at *
  go_wp2_with fail
  exact ⟨⟨j+1,_,_,_,by go_num,by omega,H12⟩,by simp [intOf];omega⟩
 intro hcont
 simp only [J2x,Act.put,List.setIfInBounds_toArray,List.set_cons_zero,List.set_cons_succ] at hcont
 have HCT:=Y08 hcont
 clear hcont
 refine two_ (i:=4) (j:=6) (Ni:=some 14) (Nj:=some 5) (bs 8 31) (bs 8 79) rfl rfl rfl rfl (by kernel_rfl) (by decide) (by decide) (fun K hK=>?_) (fun K hK=>?_)
 ·refine Kd.R_make_step (kV nilP Jjb) (w0:=wd1) wd1.heap.size 46 (by rfl) (N:=14) rfl _ _ _ rfl (W:Int) rfl rfl Tryz.underlying108 _ 24 Tryz.infoAms rfl (by decide) (by decide) ([]:List RM) (ok:=fun _=>True) (okp:=fun _=>False) ⟨_,rfl,rfl,rfl⟩ (fun _ h=>h.elim) trivial (by omega) (by omega) HD.out (Y0e _) ?_
  intro v1 w2 hR1 hb1 hg1 hown1
  rw [Y06] at hR1
  obtain ⟨hb,hc,hve,hge,htab⟩:=Jgd hR1 [] (by rw [Y0j];omega)
  rw [Y0j] at hve htab
  subst hve
  have HT:=Y00 (Y07 (htab.kept (S:=fun _=>False) (P':=fun _ v=>v=.slice none 0 0) (Kept.of_below (Y0f _ _) _) (fun h=>h) (fun _ _ h=>h.1)) hge)
  clear hR1 hg1 hown1 htab hge
  refine hK.out _ _ (HSH.out _ hb1) (fun hJ0=>?_)
  clear hK K
  refine nm0 _ ?_
  refine pu 5 15 (bs 8 63) ?_
  refine one_ (i:=6) (N:=some 5) (bs 8 127) rfl rfl (by kernel_rfl) (by decide) (fun K hK=>?_)
  refine va0 ?_
  have hB3:=J1e hb1 (.cells stZ 112)
  refine hK.out _ _ (HSH.out _ hB3) (fun hJ0=>?_)
  clear hK K
  refine nm0 _ ?_
  exact HCT.out (hb,hc,w2.heap.size) _ ⟨hB3,Y0c w2 _,hb1.size,HT.out.1.kept (S:=fun _=>False) (Kept.of_below (J02 w2 _) _) (fun h=>h) (fun _ _ h=>h),HT.out.2⟩
 skip
 refine va0 ?_
 have hB2:=J1e HD.out (.cells stZ 112)
 refine hK.out _ _ (HSH.out _ hB2) (fun hJ0=>?_)
 clear hK K
 refine nm0 _ ?_
 refine one_ (i:=4) (N:=some 14) (bs 8 95) rfl rfl (by kernel_rfl) (by decide) (fun K hK=>?_)
 refine Kd.R_make_step (kV nilP Jjb) (w0:=wd1.alloc (.cells stZ 112)) (wd1.alloc (.cells stZ 112)).heap.size 46 (by rfl) (N:=14) rfl _ _ _ rfl (W:Int) rfl rfl Tryz.underlying108 _ 24 Tryz.infoAms rfl (by decide) (by decide) ([]:List RM) (ok:=fun _=>True) (okp:=fun _=>False) ⟨_,rfl,rfl,rfl⟩ (fun _ h=>h.elim) trivial (by omega) (by omega) (Y0f _ _) (Y0e _) ?_
 intro v1 w2 hR1 hb1 hg1 hown1
 rw [Y06] at hR1
 obtain ⟨hb,hc,hve,hge,htab⟩:=Jgd hR1 [] (by rw [Y0j];omega)
 rw [Y0j] at hve htab
 subst hve
 have HT:=Y00 (Y07 (htab.kept (S:=fun _=>False) (P':=fun _ v=>v=.slice none 0 0) (Kept.of_below (Y0f _ _) _) (fun h=>h) (fun _ _ h=>h.1)) (Yz0 hB2.size hge))
 have hB3:=J01 hB2 hB2.size hb1
 have hbk:=J04 (Y0c wd1 (.cells stZ 112)) hb1
 clear hR1 hg1 hown1 htab hge
 refine hK.out _ _ (HSH.out _ hB3) (fun hJ0=>?_)
 clear hK K
 refine nm0 _ ?_
 refine pu 5 15 (bs 8 127) ?_
 exact HCT.out (hb,hc,wd1.heap.size) _ ⟨hB3,hbk,Y0e _,HT.out.1,HT.out.2⟩
def kMo (w0 wk:World):Kd MvT where
 sz:=5
 E:=[]
 K:=fun _ x cs=>∃ u,cs=[.int .i64 x.1.1,.bool x.1.2,.int .i64 x.2.1.1,u,.int .i64 x.2.2]∧FzAt w0 wk u x.2.1.2
 M:=fun _ _ _ x cs=>∃ u,cs=[.int .i64 x.1.1,.bool x.1.2,.int .i64 x.2.1.1,u,.int .i64 x.2.2]∧FzAt w0 wk u x.2.1.2
 K_len:=fun h=>by obtain ⟨u,rfl,_⟩:=h;rfl
 K_one:=fun h=>by
  obtain ⟨u,rfl,hf⟩:=h
  intro v hv
  simp only [Yz1,List.not_mem_nil,or_false] at hv
  rcases hv with hv | hv | hv | hv | hv<;>rw [hv]
  ·rfl
  ·rfl
  ·rfl
  ·exact hf.one
  rfl
 K_below:=fun _ h=>h
 K_of_M:=fun h=>h
 M_mono:=fun _ h=>h
 M_bound:=fun h=>h
 M_move:=fun _ h=>h
 M_lower:=fun _ h=>h
theorem Tryz.infoMo:(Tryz.prog.info? 163).map (fun i=>(i.zero,i.size,i.bytes))=some (some (.agg #[.int .i64 0,.bool false,.int .i64 0,.slice none 0 0,.int .i64 0]),5,56):=by kernel_rfl
def J4t (w0 wk w:World) (o:Value) (xs:List MvT) (wr:World):Prop:=(kMo w0 wk).R 163 wr w.heap.size (fun _=>True) o xs∧Below w.heap.size w wr
theorem J4t.up {w0 wk w wr w1:World} {o:Value} {xs:List MvT} (h:J4t w0 wk w o xs wr) (hb:Below wr.heap.size wr w1):J4t w0 wk w o xs w1:=⟨Kd.c01 h.1 hb,J01 h.2 h.2.size hb⟩
theorem J4t.down {w0 wk w w1 wr:World} {o:Value} {xs:List MvT} (h:J4t w0 wk w1 o xs wr) (hb:Below w.heap.size w w1):J4t w0 wk w o xs wr:=⟨Kd.c04 h.1 hb.size,J01 hb hb.size h.2⟩
theorem J4t.start (w0 wk w:World):J4t w0 wk w (.slice (some ⟨w.heap.size,0,none⟩) 0 0) [] (w.alloc (.cells #[] 163)):=⟨Jcu (kMo w0 wk) 163 w.heap.size w (Y0e _),J02 w _⟩
theorem FzAt.nil (w0 wk:World):FzAt w0 wk (.slice none 0 0) []:=⟨none,0,rfl,⟨rfl,by simp [maxLen],fun h=>absurd h (by simp)⟩,Y0e _,fun a ha=>by cases ha⟩
def J9j (a:Nat) (m:RM):MvT:=(((a:Int),true),(m,0))
theorem J8j {α:Type} [DecidableEq α]:∀ (l:List α) (p:Option α),(J35 p l).length≤l.length
 | [],_=>Y0e _
 | x::r,p=>by
  have h:=J8j r (some x)
  have h1:(if isB p x=true then [] else [x]).length≤1:=by split<;>simp
  simp only [J35,Y02,Y0z];omega
theorem J4n {β:Type} (f:Nat→List β) (K:Nat) (h:∀ a,(f a).length≤K):∀ n,((List.range n).flatMap f).length≤n*K
 | 0=>by simp
 | n+1=>by
  have h1:=J4n f K h n
  have h2:=h n
  rw [List.range_succ,List.flatMap_append,Y02,Nat.succ_mul]
  simp only [List.flatMap_cons,List.flatMap_nil,List.append_nil];omega
theorem flat_succ {β:Type} (f:Nat→List β) (n:Nat):(List.range (n+1)).flatMap f=(List.range n).flatMap f++f n:=by
 rw [List.range_succ,List.flatMap_append];simp
theorem Jkh (w0:World) (V:SV) (lim:Nat) (r:RS) (q:Nat→Nat→Value) (tk:Nat) (x y z:Int) (w:World) (hR:RunR w0 V.G V.W lim r q w) (wd:Nat) (hok:OkR wd V.W 2000 r) (hW:V.W≤4) :
  Calls Tryz.prog 90 #[stV V tk x y z] w fun e w'=>∃ v,e=.returned v∧J4t w0 w w v (J44 V.W r) w':=by
 have hb0:=J02 w (.cells (stC V tk x y z) 112)
 have hblk:=Y0c w (.cells (stC V tk x y z) 112)
 have c5:(w.alloc (.cells (stC V tk x y z) 112)).cell? ⟨w.heap.size,5,none⟩=some (.slice (some ⟨V.G.hb,0,none⟩) V.W V.G.hc):=(J03 hblk 5).trans rfl
 have c7:(w.alloc (.cells (stC V tk x y z) 112)).cell? ⟨w.heap.size,7,none⟩=some (.slice (some ⟨V.G.nb,0,none⟩) V.W V.G.nc):=(J03 hblk 7).trans rfl
 have HB:=Y00 hb0
 have HOK:=Y08 hok
 have HR:=Y00 hR
 have HL1:=Y08 (show ∀ a,((List.range a).flatMap (J36 r)).length≤a*2000 from J4n _ 2000 (fun a=>by unfold J36;rw [Y0g];exact Yz0 (J8j _ _) (hok.heldAt a).1))
 have HL2:=Y08 (show ∀ a n,((List.range n).flatMap (J21 r a)).length≤n*1 from fun a=>J4n _ 1 (fun b=>by unfold J21;split<;>simp))
 have HL3:=Y08 (show ∀ a,((List.range a).flatMap (fun w=>(List.range V.W).flatMap (J21 r w))).length≤a*(V.W*1) from J4n _ _ (fun a=>HL2.out a V.W))
 clear hb0 hblk hR hok
 go_enter Tryz.func90,Tryz.ntmps90
 go_upto_region 1 with fail
 generalize w.alloc (.cells _ 112)=w1 at *
 have HC:=Y00 (Y07 c5 c7)
 clear c5 c7
 go_wp2_with fail
 have HO:=Y00 (J4t.start w0 w w1)
 generalize w1.alloc (.cells #[] 163)=w2 at *
 go_loopw [3,4] (fun o i wr=>∃ a:Nat,i=.int .i64 a∧a≤V.W∧J08 (J4t w0 w w1 o ((List.range a).flatMap (J36 r)) wr)) (fun _ i _=>V.W - (intOf i).toNat)
 case atStart=>exact ⟨0,rfl,Yz3 _,HO⟩
 clear HO
 obtain ⟨a,rfl,ha,hX⟩:=hrel
 have c5:=J00 hX.out.2 HC.out.1
 by_cases hat:a<V.W
 rotate_left
 ·have haE:¬ ((a:Int)<V.W):=by omega
  have HS:=Y00 (show J4t w0 w w1 u3 ((List.range V.W).flatMap (J36 r)) wr by rw [show V.W=a by omega];exact hX.out)
  have HPL:=Y08 (show ((List.range V.W).flatMap (J36 r)).length≤8000 by have:=HL1.out V.W;omega)
  have HMV:=Y08 (show J44 V.W r=(List.range V.W).flatMap (J36 r)++(List.range V.W).flatMap (fun w=>(List.range V.W).flatMap (J21 r w)) from rfl)
  generalize (List.range V.W).flatMap (J36 r)=m1 at *
  clear hX ha HL1
  go_wp2_with fail
  clear haE hat
  generalize wr=wp at *
  go_loopw [3,6] (fun o i wr=>∃ a:Nat,i=.int .i64 a∧a≤V.W∧J08 (J4t w0 w w1 o (m1++(List.range a).flatMap (fun w=>(List.range V.W).flatMap (J21 r w))) wr)) (fun _ i _=>V.W - (intOf i).toNat)
  case atStart=>exact ⟨0,rfl,Yz3 _,⟨by simpa using HS.out⟩⟩
  clear HS c5
  obtain ⟨b,rfl,hb,hX⟩:=hrel
  have c5:=J00 hX.out.2 HC.out.1
  by_cases hbt:b<V.W
  rotate_left
  ·have hbE:¬ ((b:Int)<V.W):=by omega
   have HZ:=Y00 (show J4t w0 w w1 u3 (J44 V.W r) wr by rw [HMV.out,show V.W=b by omega];rw [show V.W=b by omega] at hX;exact hX.out)
   clear hX
   go_wp2_with fail
   go_ret
   exact ⟨_,rfl,HZ.out.down HB.out⟩
  have hbE:(b:Int)<V.W:=by omega
  have hb0:(0:Int)≤b:=by omega
  have HFS:=Y08 (flat_succ (fun w=>(List.range V.W).flatMap (J21 r w)) b)
  have HPL2:=Y08 (show (m1++(List.range b).flatMap (fun w=>(List.range V.W).flatMap (J21 r w))).length≤8016 by
   have h1:=HPL.out
   have h2:=HL3.out b
   have h3:b*(V.W*1)≤4*(4*1):=Nat.mul_le_mul (by omega) (Nat.mul_le_mul (by omega) (Y0e _))
   rw [Y02];omega)
  generalize (List.range b).flatMap (fun w=>(List.range V.W).flatMap (J21 r w))=pb at *
  go_wp2_with fail
  generalize wr=wo at *
  go_loopw [3,7] (fun o i wr=>∃ k:Nat,i=.int .i64 k∧k≤V.W∧J08 (J4t w0 w w1 o (m1++pb++(List.range k).flatMap (J21 r b)) wr)) (fun _ i _=>V.W - (intOf i).toNat)
  case atStart=>exact ⟨0,rfl,Yz3 _,⟨by simpa using hX.out⟩⟩
  clear hX c5
  obtain ⟨k,rfl,hk,hY⟩:=hrel
  have c5:=J00 hY.out.2 HC.out.1
  by_cases hkt:k<V.W
  rotate_left
  ·have hkE:¬ ((k:Int)<V.W):=by omega
   have HS:=Y00 (show J4t w0 w w1 u3 (m1++(List.range (b+1)).flatMap (fun w=>(List.range V.W).flatMap (J21 r w))) wr by
    rw [HFS.out,← Y0d]
    have h:=hY.out
    rw [show k=V.W by omega] at h
    exact h)
   clear hY
   go_wp2_with fail
   exact ⟨⟨b+1,by go_num,by omega,HS⟩,by simp [intOf];omega⟩
  have hkE:(k:Int)<V.W:=by omega
  have hk0:(0:Int)≤k:=by omega
  have c7:=J00 hY.out.2 HC.out.2
  obtain ⟨_,r0,rfl⟩:=HR.out.rows.get hkt
  obtain ⟨_,q0,rfl⟩:=(HR.out.row k hkt).get hbt
  obtain ⟨qA,qC,hq,-⟩:=HR.out.qs k b hkt hbt
  rw [hq] at q0
  have HQ:=Y08 hq
  clear hq
  have r0:=J00 (J01 HB.out HB.out.size hY.out.2) r0
  have q0:=J00 (J01 HB.out HB.out.size hY.out.2) q0
  have HFS2:=Y08 (flat_succ (J21 r b) k)
  have HM2:=Y08 (show J21 r b k=if r.nts k b=[] then [] else [(((b:Int),false),((0,[]),(k:Int)))] from rfl)
  have HPL3:=Y08 (show (m1++pb++(List.range k).flatMap (J21 r b)).length≤8020 by
   have h1:=HPL2.out
   have h2:=HL2.out b k
   rw [Y02];omega)
  generalize hpk:m1++pb++(List.range k).flatMap (J21 r b)=pk at *
  have HPK:=Y08 hpk
  clear hpk
  have hqn:(r.nts k b).length≤2000:=(HOK.out.nts k b hkt hbt).1
  by_cases hne:r.nts k b=[]
  ·have HNE:=Y08 hne
   have hlz:(r.nts k b).length=0:=by rw [hne];rfl
   rw [hlz] at q0
   clear hne hlz
   have HS:=Y00 (show J4t w0 w w1 u3 (m1++pb++(List.range (k+1)).flatMap (J21 r b)) wr by
    rw [HFS2.out,HM2.out,if_pos HNE.out,List.append_nil,HPK.out];exact hY.out)
   clear hY
   go_wp2_with fail
   exact ⟨⟨k+1,by go_num,by omega,HS⟩,by simp [intOf];omega⟩
  have HNE:=Y08 hne
  have hlz:(0:Int)<(r.nts k b).length:=by have:=List.length_pos_iff.2 hne;omega
  clear hne
  have HD:=hY
  clear hY
  go_wp2_with (at_builtin;go_must (refine Kd.R_append (kMo w0 w) (w0:=w1) w1.heap.size rfl (.tmp 86) (.tmp 90) _ 163 _ 56 rfl Tryz.underlying160 Tryz.infoMo rfl (Y0v rfl) (Y0v rfl) _ pk (((b:Int),false),((0,[]),(k:Int))) _ (fun _=>True) (fun _=>False) rfl rfl ⟨_,rfl,FzAt.nil _ _⟩ (fun _ h=>h.elim) (fun _ _=>trivial) HD.out.1 HD.out.2 HD.out.2.size (by have:=HPL3.out;omega) ?_);intro v6 w6 hR6 hb6 hg6 hat6)
  have HS:=Y00 (show J4t w0 w w1 v6 (m1++pb++(List.range (k+1)).flatMap (J21 r b)) w6 by rw [HFS2.out,HM2.out,if_neg HNE.out,← Y0d,HPK.out];exact ⟨hR6,hb6⟩)
  clear hR6 hb6 hg6 hat6
  exact ⟨⟨k+1,by go_num,by omega,HS⟩,by simp [intOf];omega⟩
 have haE:(a:Int)<V.W:=by omega
 have ha0:(0:Int)≤a:=by omega
 obtain ⟨hv,e5,hHd⟩:=HR.out.held.get hat
 obtain ⟨lA,lC,rfl,-,hLC⟩:=Kd.c09 hHd
 have HFS:=Y08 (flat_succ (J36 r) a)
 have HM1:=Y08 (show J36 r a=(J35 none (r.held.getD a [])).map (J9j a) from rfl)
 have HLN:=Y08 ((HOK.out.heldAt a).1)
 have HPL:=Y08 (HL1.out a)
 generalize (List.range a).flatMap (J36 r)=pre at *
 generalize r.held.getD a []=L at *
 have HLC:=Y00 (Y07 e5 hLC)
 clear hHd hLC e5
 go_wp2_with fail
 generalize wr=wo at *
 go_loopw [3,5] (fun o i wr=>∃ k:Nat,i=.int .i64 k∧k≤L.length∧J08 (J4t w0 w w1 o (pre++(J35 none (L.take k)).map (J9j a)) wr)) (fun _ i _=>L.length - (intOf i).toNat)
 case atStart=>exact ⟨0,rfl,Yz3 _,⟨by simpa [J35] using hX.out⟩⟩
 clear hX c5
 obtain ⟨k,rfl,hk,hY⟩:=hrel
 have c5:=J00 hY.out.2 HC.out.1
 have e5:=J00 (J01 HB.out HB.out.size hY.out.2) HLC.out.1
 have hLN:=HLN.out
 by_cases hkt:k<L.length
 rotate_left
 ·have hkE:¬ ((k:Int)<L.length):=by omega
  have HS:=Y00 (show J4t w0 w w1 u3 ((List.range (a+1)).flatMap (J36 r)) wr by
   have h:=hY.out
   rw [Y0t (by omega),← HM1.out,← HFS.out] at h
   exact h)
  clear hY
  go_wp2_with fail
  exact ⟨⟨a+1,by go_num,by omega,HS⟩,by simp [intOf];omega⟩
 have hkE:(k:Int)<L.length:=by omega
 have hk0:(0:Int)≤k:=by omega
 obtain ⟨ad,sA,sC,rfl,f0,f1,hf⟩:=Jmx HLC.out.2 hkt
 have HRT:=Y08 (Jkl hkt)
 have HPL2:=Y08 (show (pre++(J35 none (L.take k)).map (J9j a)).length≤100000 by have:=HPL.out;have:=J8j (L.take k) none;rw [Y02,Y0g];rw [Y0o] at this;omega)
 generalize hpk:pre++(J35 none (L.take k)).map (J9j a)=pk at *
 have HPK:=Y08 hpk
 clear hpk
 have HF:=Y00 (Y07 f0 (Y07 f1 hf))
 have f0:=J00 (J01 HB.out HB.out.size hY.out.2) f0
 have f1:=J00 (J01 HB.out HB.out.size hY.out.2) f1
 by_cases hkz:k=0
 ·have hz:((k:Int) == 0)=true:=by simp [hkz]
  have HKN:=Y08 (show pre++(J35 none (L.take (k+1))).map (J9j a)=pk++[J9j a L[k]] by rw [HRT.out,if_pos (Or.inl hkz),List.map_append,← Y0d,HPK.out];rfl)
  clear hkz
  generalize L[k]=x at *
  go_upto_region 8 with fail
  refine sr1 23 (fun W'=>W'.cell? ⟨w.heap.size,5,none⟩=some (.slice (some ⟨V.G.hb,0,none⟩) V.W V.G.hc)∧W'.cell? ⟨V.G.hb,a,none⟩=some (.slice (some ad) L.length lC)∧W'.cell? (ad.add (k*2))=some (.int .i64 x.1)∧W'.cell? ⟨(ad.add (k*2)).block,(ad.add (k*2)).off+1,none⟩=some (.slice sA x.2.length sC)) [] ⟨c5,e5,f0,f1⟩ fun hJ0=>?_
  have HD:=Y00 (hY.out.up (J05 (Y0f _ _)))
  generalize wr.drew=wd at *
  clear c5 e5 f0 f1 hY
  refine pv 0 ?_
  refine pv 1 ?_
  refine pv 2 ?_
  refine uv 3 ?_
  refine uv 4 ?_
  refine uv 5 ?_
  refine uv 6 ?_
  refine uv 7 ?_
  refine uv 8 ?_
  refine uv 9 ?_
  refine uv 10 ?_
  refine uv 11 ?_
  refine uv 12 ?_
  refine uv 13 ?_
  refine uv 14 ?_
  refine uv 15 ?_
  refine uv 16 ?_
  refine uv 17 ?_
  refine uv 18 ?_
  refine uv 19 ?_
  refine uv 20 ?_
  refine uv 21 ?_
  refine pv 22 ?_
  refine dn0 ?_
  obtain ⟨c5,e5,f0,f1⟩:=hJ0
  go_wp2_with (at_builtin;go_must (refine Kd.R_append (kMo w0 w) (w0:=w1) w1.heap.size rfl (.tmp 49) (.tmp 60) _ 163 _ 56 rfl Tryz.underlying160 Tryz.infoMo rfl (Y0v rfl) (Y0v rfl) _ pk (J9j a x) _ (fun _=>True) (fun _=>False) rfl rfl ⟨_,rfl,hf⟩ (fun _ h=>h.elim) (fun _ _=>trivial) HD.out.1 HD.out.2 HD.out.2.size (by have:=HPL2.out;omega) ?_);intro v6 w6 hR6 hb6 hg6 hat6)
  have HS:=Y00 (show J4t w0 w w1 v6 (pre++(J35 none (L.take (k+1))).map (J9j a)) w6 by rw [HKN.out];exact ⟨hR6,hb6⟩)
  clear hR6 hb6 hg6 hat6
  exact ⟨⟨k+1,by go_num,by omega,HS⟩,by simp [intOf];omega⟩
 obtain ⟨j,hj⟩:∃ j,k=j+1:=⟨k - 1,by omega⟩
 have hz:((k:Int) == 0)=false:=by simp;omega
 have hjt:j<L.length:=by omega
 have hjE:(j:Int)<L.length:=by omega
 have hj0:(0:Int)≤j:=by omega
 have hwj:IntKind.i64.wrap ((k:Int) - 1)=(j:Int):=by rw [Y0b,hj];omega
 obtain ⟨ad',tA,tC,he,g0,g1,hg⟩:=Jmx HLC.out.2 hjt
 injection he with he
 subst he
 have HKN:=Y08 (show pre++(J35 none (L.take (k+1))).map (J9j a)=pk++if L[k]=L[j] then [] else [J9j a L[k]] by
  rw [HRT.out,List.map_append,← Y0d,HPK.out]
  congr 1
  have e1:L.getD (k - 1) (0,[])=L[j]:=by rw [show k - 1=j by omega,Y01,Y05 hjt];rfl
  rw [e1]
  by_cases hs:L[k]=L[j]
  ·rw [if_pos hs,if_neg (by rintro (h | h);exact hkz h;exact h hs.symm)];rfl
  rw [if_neg hs,if_pos (Or.inr (fun h=>hs h.symm))];rfl)
 have HJ:=Y08 hj
 clear hj hkz
 have g0:=J00 (J01 HB.out HB.out.size hY.out.2) g0
 have g1:=J00 (J01 HB.out HB.out.size hY.out.2) g1
 generalize L[k]=x at *
 generalize L[j]=y at *
 have HSM:=Y08 (fun W (hb:Below w.heap.size w W)=>Jeh x y sA tA sC tC W (Kd.c00 hf.C hb) (Kd.c00 hg.C hb))
 go_upto_region 8 with fail
 refine sr1 23 (fun W'=>W'.cell? ⟨w.heap.size,5,none⟩=some (.slice (some ⟨V.G.hb,0,none⟩) V.W V.G.hc)∧W'.cell? ⟨V.G.hb,a,none⟩=some (.slice (some ad) L.length lC)∧W'.cell? (ad.add (k*2))=some (.int .i64 x.1)∧W'.cell? ⟨(ad.add (k*2)).block,(ad.add (k*2)).off+1,none⟩=some (.slice sA x.2.length sC)∧W'.cell? (ad.add (j*2))=some (.int .i64 y.1)∧W'.cell? ⟨(ad.add (j*2)).block,(ad.add (j*2)).off+1,none⟩=some (.slice tA y.2.length tC)) [] ⟨c5,e5,f0,f1,g0,g1⟩ fun hJ0=>?_
 have HD0:=Y00 (hY.out.up (J05 (Y0f _ _)))
 generalize wr.drew=wd at *
 clear c5 e5 f0 f1 g0 g1 hY
 refine pv 0 ?_
 refine pv 1 ?_
 refine pv 2 ?_
 refine pv 3 ?_
 refine pv 5 ?_
 refine pv 8 ?_
 refine pv 11 ?_
 refine pv 13 ?_
 refine pv 16 ?_
 refine pv 17 ?_
 refine tv6 4 ?_
 refine tv6 12 ?_
 refine pv 6 ?_
 refine pv 14 ?_
 refine tv6 7 ?_
 refine tv6 15 ?_
 refine pv 9 ?_
 refine pv 18 ?_
 refine tv6 10 ?_
 refine tv6 19 ?_
 refine oc 20 Tryz.func109 #[rmV x sA sC,rmV y tA tC] ?_
 refine (HSM.out _ (J01 HB.out HB.out.size HD0.out.2)).mono ?_
 rintro e w4 ⟨rfl,hb4⟩
 refine ⟨_,rfl,(st6 hb4 hJ0),fun hJ0=>?_⟩
 have HD:=Y00 (HD0.out.up hb4)
 clear hb4 HD0
 refine nm0 _ ?_
 by_cases hxy:x=y
 ·have hd:decide (x=y)=true:=Y0r hxy
  have HXM:=Y08 hxy
  rw [hd] at *
  clear hxy
  refine pv 21 ?_
  refine pv 22 ?_
  refine dn0 ?_
  go_wp2_with fail
  have HS:=Y00 (show J4t w0 w w1 u3 (pre++(J35 none (L.take (k+1))).map (J9j a)) w4 by rw [HKN.out,if_pos HXM.out,List.append_nil];exact HD.out)
  exact ⟨⟨k+1,by go_num,by omega,HS⟩,by simp [intOf];omega⟩
 skip
 have hd:decide (x=y)=false:=Y0s hxy
 have HXM:=Y08 hxy
 rw [hd] at *
 clear hxy
 refine pv 21 ?_
 refine pv 22 ?_
 refine dn0 ?_
 obtain ⟨c5,e5,f0,f1,g0,g1⟩:=hJ0
 clear g0 g1
 go_wp2_with (at_builtin;go_must (refine Kd.R_append (kMo w0 w) (w0:=w1) w1.heap.size rfl (.tmp 49) (.tmp 60) _ 163 _ 56 rfl Tryz.underlying160 Tryz.infoMo rfl (Y0v rfl) (Y0v rfl) _ pk (J9j a x) _ (fun _=>True) (fun _=>False) rfl rfl ⟨_,rfl,hf⟩ (fun _ h=>h.elim) (fun _ _=>trivial) HD.out.1 HD.out.2 HD.out.2.size (by have:=HPL2.out;omega) ?_);intro v6 w6 hR6 hb6 hg6 hat6)
 have HS:=Y00 (show J4t w0 w w1 v6 (pre++(J35 none (L.take (k+1))).map (J9j a)) w6 by rw [HKN.out,if_neg HXM.out];exact ⟨hR6,hb6⟩)
 clear hR6 hb6 hg6 hat6
 exact ⟨⟨k+1,by go_num,by omega,HS⟩,by simp [intOf];omega⟩
namespace Mdl
theorem Jft {α:Type} [DecidableEq α] {x:α} : ∀ {l:List α} {p:Option α},x ∈ J35 p l→x ∈ l
 | y::r,p,h=>by
  simp only [J35] at h
  rcases Y0m.1 h with h | h
  ·split at h
   ·cases h
   rw [Y11.1 h];exact Y03
  exact Y04 _ (Jft h)
theorem Jky {W:Nat} {r:RS} {mv:MvT} (h:mv ∈ J44 W r):(∃ i m,i<W∧mv=(((i:Int),true),(m,0))∧m ∈ r.held.getD i [])∨∃ i k,i<W∧k<W∧mv=(((i:Int),false),((0,[]),(k:Int)))∧r.nts k i≠[]:=by
 unfold J44 at h
 rcases Y0m.1 h with h | h
 ·obtain ⟨i,hi,hm⟩:=List.mem_flatMap.1 h
  unfold J36 at hm
  obtain ⟨m,hm2,rfl⟩:=Yz4.1 hm
  exact .inl ⟨i,m,Y12.1 hi,rfl,Jft hm2⟩
 obtain ⟨i,hi,hm⟩:=List.mem_flatMap.1 h
 obtain ⟨k,hk,hm⟩:=List.mem_flatMap.1 hm
 unfold J21 at hm
 split at hm
 ·cases hm
 next hne=>exact .inr ⟨i,k,Y12.1 hi,Y12.1 hk,Y11.1 hm,hne⟩
theorem Jkd {E:List Ed} {W:Nat} {r:RS} (h:J44 W r=[]):J60 E W r=none:=by unfold J60;rw [h]
theorem Jkc {E:List Ed} {W:Nat} {r:RS} {l:List MvT} (h:J44 W r=l) {j:Nat} (hj:j<l.length) (hn:numP r.script (l.length:Int)=(j:Int)):J60 E W r=some (Jg8 E W { r with script:=r.script.tail } l[j]):=by
 unfold J60
 rw [h]
 cases l with
 | nil=>simp at hj
 | cons a l=>?_
 have e:((l.length:Int)+1)=((a::l).length:Int):=by simp
 show some (Jg8 E W { r with script:=r.script.tail } ((a::l).getD (numP r.script ((l.length:Int)+1)).toNat a))=_
 rw [e,hn,Y06,Y01,Y05 hj];rfl
theorem Jkw (E:List Ed) (W:Nat) (s:RS) (i:Nat) (m:RM):Jg8 E W s (((i:Int),true),(m,0))=Jb1 E W s i m:=by
 unfold Jg8
 rw [if_pos rfl,Y06]
theorem Jkx (E:List Ed) (W:Nat) (s:RS) (i k:Nat):Jg8 E W s (((i:Int),false),((0,[]),(k:Int)))=Jo2 s i k:=by
 unfold Jg8
 rw [if_neg (by simp),Y06,Y06]
theorem Jkt {wd W:Nat} {r:RS} (h:OkR wd W 2000 r) (hW:W≤4):(J44 W r).length≤8016:=by
 unfold J44
 have h1:=J4n (J36 r) 2000 (fun a=>by unfold J36;rw [Y0g];exact Yz0 (J8j _ _) (h.heldAt a).1) W
 have h2:=J4n (fun w=>(List.range W).flatMap (J21 r w)) (W*1) (fun a=>J4n _ 1 (fun b=>by unfold J21;split<;>simp) W) W
 have h3:W*(W*1)≤4*(4*1):=Nat.mul_le_mul hW (Nat.mul_le_mul hW (Y0e _))
 rw [Y02];omega
end Mdl
theorem Js4 {w0 wk w:World} {A:Option Addr} {xs:List MvT} (h:(kMo w0 wk).C w A xs.length xs) {k:Nat} (hk:k<xs.length) :
  ∃ ad sA sC,A=some ad∧w.cell? (ad.add (k*5))=some (.int .i64 xs[k].1.1)∧w.cell? ⟨(ad.add (k*5)).block,(ad.add (k*5)).off+1,none⟩=some (.bool xs[k].1.2)∧w.cell? ⟨(ad.add (k*5)).block,(ad.add (k*5)).off+2,none⟩=some (.int .i64 xs[k].2.1.1) ∧
   w.cell? ⟨(ad.add (k*5)).block,(ad.add (k*5)).off+3,none⟩=some (.slice sA xs[k].2.1.2.length sC)∧w.cell? ⟨(ad.add (k*5)).block,(ad.add (k*5)).off+4,none⟩=some (.int .i64 xs[k].2.2)∧FzAt w0 wk (.slice sA xs[k].2.1.2.length sC) xs[k].2.1.2:=by
 obtain ⟨ad,c,rfl,hcl,⟨u,rfl,hf⟩,hcc⟩:=J19.get_ h ((0,false),((0,[]),0)) (k:Int) (by omega) (by omega)
 rw [Y06] at hf hcc
 have e:xs.getD k ((0,false),((0,[]),0))=xs[k]:=by rw [Y01,Y05 hk];rfl
 rw [e] at hf hcc
 obtain ⟨sA,sC,rfl,h1,h2,h3⟩:=hf
 have c1:=hcc 1 _ rfl
 have c2:=hcc 2 _ rfl
 have c3:=hcc 3 _ rfl
 have c4:=hcc 4 _ rfl
 rw [show (kMo w0 wk).sz=5 from rfl,J1i _ _ _ (by omega)] at c1 c2 c3 c4
 exact ⟨ad,sA,sC,rfl,hcc 0 _ rfl,c1,c2,c3,c4,⟨sA,sC,rfl,h1,h2,h3⟩⟩
theorem Mdl.OkR.tail {wd W n:Nat} {r:RS} (h:OkR wd W n r):OkR wd W n { r with script:=r.script.tail }:=⟨h.hlen,h.llen,h.held,h.led,h.nts⟩
end Go.Proofs.YtbkfnmgkcgnifaaGreat
