/- Part 2 of the proof of ProgressRuns and ProgressTells. -/
import Derived.Test.YtbkfnmgkcgnifaaGreatVr1
import Derived.RangeFuncNested
import Derived.RangeFuncBound
import Derived.RangeFuncCalls
import Derived.RangeFuncLeaves
import Derived.Shelf.RegionOpen
import Derived.OwnWalkIn
import Derived.TacticsInMore
import Derived.LoopNIn
import Derived.LoopIn
import Derived.Deep.DeepMust
set_option linter.all false
set_option maxRecDepth 8000
set_option maxHeartbeats 16000000
namespace Go.Proofs.YtbkfnmgkcgnifaaGreat
open Go.RowKit Go.Shelf W1 W2 Mdl
namespace Mdl
theorem J2s {x y:Tm} {r:List Tm} (h:x≠y):J1c (x::y::r)=x::J1c (y::r):=by simp [J1c,h]
theorem J2t {x:Tm} {r:List Tm} : J1c (x::x::r)=J1c (x::r):=by simp [J1c]
theorem J9v (x:Tm):∀ (l:List Tm) (y:Tm),J1c (l++[y,x])=if y=x then J1c (l++[y]) else J1c (l++[y])++[x]
 | [],y=>by
  by_cases h:y=x
  ·subst h;simp [J1c]
  simp [J1c,h]
 | [a],y=>by
  have ih:=J9v x [] y
  by_cases h:a=y
  ·subst h
   simp only [List.cons_append,List.nil_append] at ih ⊢
   rw [J2t,ih,J2t]
  simp only [List.cons_append,List.nil_append] at ih ⊢
  rw [J2s h,ih,J2s h]
  split<;>simp
 | a::b::l,y=>by
  have ih:=J9v x (b::l) y
  by_cases h:a=b
  ·subst h
   simp only [List.cons_append] at ih ⊢
   rw [J2t,ih,J2t]
  simp only [List.cons_append] at ih ⊢
  rw [J2s h,ih,J2s h]
  split<;>simp
theorem Jdx {l:List Tm} {k:Nat} (h1:1≤k) (hk:k<l.length):J1c (l.take (k+1))=if l.getD (k - 1) (0,0,0)=l.getD k (0,0,0) then J1c (l.take k) else J1c (l.take k)++[l.getD k (0,0,0)]:=by
 obtain ⟨j,rfl⟩:∃ j,k=j+1:=⟨k - 1,by omega⟩
 have e1:l.take (j+1+1)=l.take j++[l.getD j (0,0,0),l.getD (j+1) (0,0,0)]:=by
  rw [Y0u hk,Y0u (by omega),Y0d,Y01,Y05 (by omega),Y01,Y05 hk];rfl
 have e2:l.take (j+1)=l.take j++[l.getD j (0,0,0)]:=by
  rw [Y0u (by omega),Y01,Y05 (by omega)];rfl
 rw [e1,J9v,← e2];rfl
end Mdl
theorem Jk4 (z:Array Value) (n:Nat):∀ u ∈ (Builtin.zeroCells z n).toList,u ∈ z.toList:=by
 intro u hu
 unfold Builtin.zeroCells at hu
 rw [Array.toList_map,List.mem_map] at hu
 obtain ⟨i,hi,rfl⟩:=hu
 have hi:i<n*z.size:=by simpa using hi
 have hz:0<z.size:=by
  rcases Nat.eq_zero_or_pos z.size with h | h
  ·rw [h] at hi;omega
  exact h
 have hm:i % z.size<z.size:=Nat.mod_lt _ hz
 rw [getElem!_pos z _ hm]
 exact Array.getElem_mem_toList hm
theorem J0e (g:Nat):∀ (vs:List Value) (o:Nat) (W:World),W.grownBy (W.setCells g o vs) (some g)
 | [],_,W=>World.grownBy.refl W _
 | v::r,o,W=>World.grownBy.both (b:=W.setCell ⟨g,o,none⟩ v) ⟨rfl,rfl,rfl,by simp [World.setCell],fun k _ hn=>Below.heap_setCell W ⟨g,o,none⟩ v k (fun he=>hn (by rw [he]))⟩ (J0e g r (o+1) _)
theorem Jli {α:Type} {P:Program} (d:Kd α) {W:World} {base e:Nat} {ok:Nat→Prop} {g N cap c k:Nat} {xs:List α} (t ty:TypeId) (ht:P.underlying t=some (.slice e)) (z:Value) (hz:∀ w,(zeroValue e).run P w=.ok z w) (hzs:z.cells.size=d.sz) (hz1:∀ u ∈ z.cells.toList,u.oneCell'=true)
  (HO:d.R e W base ok (.slice (some ⟨g,0,none⟩) N cap) xs) (hk:k<N) :
  ∃ w1,(Builtin.clear_ #[t] ty #[.slice (some ⟨g,k*d.sz,none⟩) (N - k) c]).run P W=.ok (.tuple #[]) w1∧W.grownBy w1 (some g)∧∀ i,i<k*d.sz→w1.cell? ⟨g,i,none⟩=W.cell? ⟨g,i,none⟩:=by
 obtain rfl:=(Kd.c03 HO).1
 obtain ⟨hok,inner,⟨hil,hv | ⟨g',cap',cur,hv,hbg,hg,hNc,hcm,hcs,hct⟩⟩,_⟩:=HO
 ·cases hv.1
 cases hv
 have hl:(Builtin.zeroCells z.cells (xs.length - k)).toList.length=(xs.length - k)*d.sz:=by
  rw [Array.length_toList,size_zeroCells,hzs]
 have hfit:k*d.sz+(xs.length - k)*d.sz≤cur.size:=by
  rw [← Nat.add_mul,hcs];exact Nat.mul_le_mul_right _ (by omega)
 have hst:=run_storeCells_cells (P:=P) g (k*d.sz) (Builtin.zeroCells z.cells (xs.length - k)).toList 0 W
  (fun j hj=>by rw [hl] at hj;simp only [World.cell?,hg];simp;omega) (fun j hj=>J07 hg _)
  (fun u hu=>hz1 u (Jk4 _ _ u hu))
 simp only [Nat.add_zero] at hst
 obtain ⟨m,hm⟩:∃ m,xs.length - k=m+1:=⟨xs.length - k - 1,by omega⟩
 refine ⟨W.setCells g (k*d.sz) (Builtin.zeroCells z.cells (xs.length - k)).toList,?_,?_,fun i hi=>World.cell?_setCells_out _ _ _ _ _ (fun _ _=>.inl hi)⟩
 ·rw [hm] at hst ⊢
  simp [Builtin.clear_,run_underlying ht,hz,hst]
 exact J0e _ _ _ _
def Jk3 (l:List Tm) (v:Value) (w:World) (e:Ending) (w':World):Prop:=∃ A c,e=.returned (.slice A (J1c l).length c)∧(J1c l).length≤c∧kT.C w' A (J1c l).length (J1c l)∧w.grownBy w' v.ownBlock
theorem Jh3 {l:List Tm} {v:Value} {base e:Nat} {ok:Nat→Prop} {w w':World} (h:kT.R e w' base ok v l) (hd:J1c l=l) (hg:w.grownBy w' v.ownBlock):Jk3 l v w (.returned v) w':=by
 obtain ⟨A,c,rfl,hc,hC⟩:=Kd.c09 h
 refine ⟨A,c,by rw [hd],by rw [hd];exact hc,by rw [hd];exact hC,hg⟩
theorem Jqf {l:List Tm} {k:Nat} (hk:k<l.length):l.getD k tz=l[k]:=by
 rw [Y01,Y05 hk];rfl
theorem Jh2 (v:Value) (l:List Tm) (w:World) (base:Nat) (ok:Nat→Prop) (hl:kT.R 99 w base ok v l) (hn:l.length≤10000000000000) :
  Calls Tryz.prog 98 #[v] w (Jk3 l v w):=by
 by_cases h2:l.length<2
 ·have hd:J1c l=l:=by
   match l,h2 with
   | [],_=>rfl
   | [x],_=>rfl
  have HP:=Y08 (Jh3 hl hd (World.grownBy.refl w _))
  obtain ⟨A,c,rfl,_,_⟩:=Kd.c09 hl
  have h2I:(l.length:Int)<2:=by omega
  clear hl hd
  go_enter Tryz.func98,Tryz.ntmps98
  go_wp2_with fail
  go_ret
  exact HP.out
 obtain ⟨g,cap,rfl,_,_,_⟩:=Kd.R_form hl (by omega)
 have HR:=Y00 hl
 have hcap:=(Kd.c03 hl).2.1
 obtain ⟨N,hN⟩:∃ N,N=l.length:=⟨_,rfl⟩
 rw [← hN] at hl h2 HR hn hcap ⊢
 have HN:=Y08 hN
 have h2I:¬ ((N:Int)<2):=by omega
 have h2J:(2:Int)≤(N:Int):=by omega
 clear hl hN
 go_enter Tryz.func98,Tryz.ntmps98
 go_wp2_with fail
 go_loopw [3] (fun i wr=>∃ k:Nat,i=.int .i64 k∧1≤k∧k≤N∧J08 (kT.R 99 wr base ok (.slice (some ⟨g,0,none⟩) N cap) l∧w.grownBy wr (some g)∧J1c (l.take k)=l.take k)) (fun i _=>N - (intOf i).toNat)
 case atStart =>
  refine ⟨1,rfl,Y0e _,by omega,HR.out,World.grownBy.refl w _,?_⟩
  match l with
  | []=>rfl
  | x::r=>rfl
 obtain ⟨k,rfl,hk1,hkN,hI⟩:=hrel
 by_cases hlt:k<N
 rotate_left
 ·have hltI:¬ ((k:Int)<(N:Int)):=by omega
  have hltJ:(N:Int)≤(k:Int):=by omega
  go_wp2_with fail
  go_ret
  refine Jh3 hI.out.1 ?_ hI.out.2.1
  have h:=hI.out.2.2
  have hn:=HN.out
  rwa [Y0t (by omega)] at h
 have hltI:(k:Int)<(N:Int):=by omega
 obtain ⟨j,hj⟩:∃ j,j=k - 1:=⟨_,rfl⟩
 obtain ⟨⟨c0,c1,c2⟩,_,_⟩:=J10 hI.out.1 (i:=k) (by omega)
 obtain ⟨⟨d0,d1,d2⟩,_,_⟩:=J10 hI.out.1 (i:=j) (by omega)
 have hdt:=Jdx (l:=l) hk1 (by have:=HN.out;omega)
 rw [← hj,hI.out.2.2] at hdt
 have wj:IntKind.i64.wrap ((k:Int) - 1)=(j:Int):=by rw [Y0b];omega
 have hk0:(0:Int)≤(k:Int):=by omega
 have hj0:(0:Int)≤(j:Int):=by omega
 have hjN:(j:Int)<(N:Int):=by omega
 have HX:=Y08 (show l.getD k tz=l[k]'(by have:=HN.out;omega) from Jqf _)
 generalize hx:l.getD k tz=x at *
 generalize hy:l.getD j tz=y at *
 have hnew:(x == y)=false→J1c (l.take (k+1))=l.take (k+1):=fun h=>by
  have h:x≠y:=by simpa using h
  have hdt:J1c (l.take (k+1))=if y=x then l.take k else l.take k++[x]:=hdt
  rw [hdt,if_neg (Ne.symm h),Y0u (by have:=HN.out;omega),← HX.out]
 have hsame:(x == y)=true→J1c (l.take (k+1))=l.take k:=fun h=>by
  have h:x=y:=by simpa using h
  have hdt:J1c (l.take (k+1))=if y=x then l.take k else l.take k++[x]:=hdt
  rw [hdt,if_pos h.symm]
 have HNEW:=Y08 (Y07 hnew hsame)
 have HJ:=Y08 hj
 have heq:∀ w,(binOp .eql 99 (.agg #[.int .i64 x.1,.int .i64 x.2.1,.int .i64 x.2.2]) (.agg #[.int .i64 y.1,.int .i64 y.2.1,.int .i64 y.2.2])).run Tryz.prog w=.ok (.bool (x == y)) w:=fun w=>Jht x y w
 clear hdt hnew hsame hx hy hj HX
 go_upto_region 6 with fail
 refine sr1 10 (fun w'=>w'.cell? ⟨g,k*3,none⟩=some (.int .i64 x.1)∧w'.cell? ⟨g,k*3+1,none⟩=some (.int .i64 x.2.1)∧w'.cell? ⟨g,k*3+2,none⟩=some (.int .i64 x.2.2)∧w'.cell? ⟨g,j*3,none⟩=some (.int .i64 y.1)∧w'.cell? ⟨g,j*3+1,none⟩=some (.int .i64 y.2.1)∧w'.cell? ⟨g,j*3+2,none⟩=some (.int .i64 y.2.2)) [] ⟨c0,c1,c2,d0,d1,d2⟩ fun hJ0=>?_
 have HD:=Y00 (Y07 (Kd.c0b hI.out.1) (hI.out.2.1.both (J0b (J05 (Y0f wr.heap.size wr)))))
 clear c0 c1 c2 d0 d1 d2
 generalize wr.drew=wd at *
 refine pv 0 ?_
 refine pv 1 ?_
 refine pv 2 ?_
 refine tv6 3 ?_
 refine pv 4 ?_
 refine pv 5 ?_
 refine pv 6 ?_
 refine pv 7 ?_
 refine tv6 8 ?_
 refine pv 9 ?_
 refine dn0 ?_
 clear heq hJ0
 cases hxy:(x == y) with
 | false =>
  have HXY:=Y08 hxy
  go_wp2_with fail
  exact ⟨⟨k+1,by go_num,by omega,by omega,HD.out.1,HD.out.2,HNEW.out.1 HXY.out⟩,by simp [intOf];omega⟩
 | true=>?_
 have HXY:=Y08 hxy
 clear hxy
 have hcm:=(Kd.c03 HD.out.1).2.1
 have hkc:(cap == k)=false:=by simp;omega
 have hck:¬ cap=k:=by omega
 have HK:=Y08 (show J1c (l.take (k+1))=l.take k from HNEW.out.2 HXY.out)
 clear hcm
 go_wp2_with fail
 generalize hM:N - k=M
 generalize hCm:cap - k=Cm
 have HM:=Y08 (show M=N - k∧Cm=cap - k∧k<N∧N≤cap from ⟨hM.symm,hCm.symm,hlt,hcap⟩)
 have hMm:M≤10000000000000:=by omega
 clear hM hCm
 go_loopw [3,5] (fun q i wr=>∃ (p t:Nat) (D:List Tm),q=.int .i64 p∧i=.int .i64 t∧1≤t∧t≤M∧k≤p∧p+1≤k+t∧J08 (kT.R 99 wr base ok (.slice (some ⟨g,0,none⟩) N cap) D∧w.grownBy wr (some g)∧D.take p=J1c (l.take (k+t))∧∀ u,k+t≤u+1→D.getD u tz=l.getD u tz)) (fun _ i _=>M - (intOf i).toNat)
 case atStart=>exact ⟨k,1,l,rfl,rfl,Y0e _,by have:=HM.out;omega,Y0e _,Y0e _,HD.out.1,HD.out.2,HK.out.symm,fun _ _=>rfl⟩
 clear HD
 obtain ⟨p,t,D,rfl,rfl,ht1,htM,hkp,hpt,hJ⟩:=hrel
 have hDl:=(Kd.c03 hJ.out.1).1
 by_cases htlt:t<M
 rotate_left
 ·have htI:¬ ((t:Int)<(M:Int)):=by omega
  have htJ:(M:Int)≤(t:Int):=by omega
  have hpN:p<N:=by have:=HM.out;omega
  have hcl:∃ w1,(∀ ty,(Builtin.clear_ #[68] ty #[.slice (some ⟨g,p*3,none⟩) (N - p) (cap - p)]).run Tryz.prog wr=.ok (.tuple #[]) w1)∧wr.grownBy w1 (some g)∧∀ i,i<p*3→w1.cell? ⟨g,i,none⟩=wr.cell? ⟨g,i,none⟩:=by
   obtain ⟨w1,h1,h2⟩:=Jli (P:=Tryz.prog) kT (c:=cap - p) 68 0 rfl (.agg #[.int .i64 0,.int .i64 0,.int .i64 0]) (fun _=>by kernel_rfl) rfl (by intro u hu;simp [Value.cells] at hu;rcases hu with rfl | rfl | rfl<;>rfl) hJ.out.1 hpN
   exact ⟨w1,fun _=>h1,h2⟩
  obtain ⟨w1,hrun,hg1,hkeep⟩:=hcl
  have HG:=Y00 (Y07 hg1 hkeep)
  have hkc2:(cap == p)=false:=by simp;omega
  have hck2:¬ cap=p:=by omega
  have hp0:(0:Int)≤(p:Int):=by omega
  have hpNI:(p:Int)≤(N:Int):=by omega
  have hpc:(p:Int)≤(cap:Int):=by omega
  clear hg1 hkeep
  have HDL:=Y08 hDl
  clear hDl
  go_wp2_with fail
  go_ret
  have hDl:=HDL.out
  have hdl:J1c l=D.take p:=by
   have h:=hJ.out.2.2.1
   rw [Y0t (show l.length≤k+t by have:=HN.out;have:=HM.out;omega)] at h
   exact h.symm
  have hlp:(D.take p).length=p:=by rw [Y0o];omega
  refine ⟨some ⟨g,0,none⟩,cap,show Ending.returned (Value.slice (some ⟨g,0,none⟩) p cap)=_ by rw [hdl,hlp],by rw [hdl,hlp];omega,?_,hJ.out.2.1.both HG.out.1⟩
  have hC:=Kd.C_take (xs:=D) (m:=p) (by rw [hDl] at *;exact (Kd.c03 hJ.out.1).2.2) (by omega)
  rw [hdl]
  refine ⟨rfl,hC.2.1,fun hp=>?_⟩
  obtain ⟨ad,had,hcc⟩:=hC.2.2 hp
  refine ⟨ad,had,fun u q hu=>?_⟩
  obtain ⟨cs,hl,hK,hcell⟩:=hcc u q hu
  injection had with had
  subst had
  refine ⟨cs,hl,kT_K.2 (kT_K.1 hK),fun i v hv=>?_⟩
  have:=hcell i v hv
  rw [J5t] at this ⊢
  have hi:i<3:=by
   have h1:=(Y0h.1 hv).1
   rw [hl] at h1;exact h1
  have hu2:u<p:=by
   have h1:=(Y0h.1 hu).1
   omega
  rw [HG.out.2 _ (by show u*3+i<p*3;omega)]
  exact this
 have htI:(t:Int)<(M:Int):=by omega
 obtain ⟨j,hj⟩:∃ j,j=t - 1:=⟨_,rfl⟩
 obtain ⟨⟨c0,c1,c2⟩,_,_⟩:=J10 hJ.out.1 (i:=k+t) (by have:=HM.out;omega)
 obtain ⟨⟨d0,d1,d2⟩,_,_⟩:=J10 hJ.out.1 (i:=k+j) (by have:=HM.out;omega)
 rw [hJ.out.2.2.2 (k+t) (by omega),Nat.add_mul] at c0 c1 c2
 rw [hJ.out.2.2.2 (k+j) (by omega),Nat.add_mul] at d0 d1 d2
 have hdt:=Jdx (l:=l) (k:=k+t) (by omega) (by have:=HN.out;have:=HM.out;omega)
 rw [show k+t - 1=k+j by omega] at hdt
 have wj:IntKind.i64.wrap ((t:Int) - 1)=(j:Int):=by rw [Y0b];omega
 have ht0:(0:Int)≤(t:Int):=by omega
 have hj0:(0:Int)≤(j:Int):=by omega
 have hjM:(j:Int)<(M:Int):=by omega
 generalize hx:l.getD (k+t) tz=x at *
 generalize hy:l.getD (k+j) tz=y at *
 have hdt:J1c (l.take (k+t+1))=if y=x then J1c (l.take (k+t)) else J1c (l.take (k+t))++[x]:=hdt
 have HDT:=Y08 hdt
 have hne:∀ w,(binOp .neq 99 (.agg #[.int .i64 x.1,.int .i64 x.2.1,.int .i64 x.2.2]) (.agg #[.int .i64 y.1,.int .i64 y.2.1,.int .i64 y.2.2])).run Tryz.prog w=.ok (.bool (!(x == y))) w:=fun w=>Jbi x y w
 have HDL:=Y08 hDl
 clear hdt hx hy hj hDl
 go_upto_region 11 with fail
 refine sr1 10 (fun w'=>w'.cell? ⟨g,k*3+t*3,none⟩=some (.int .i64 x.1)∧w'.cell? ⟨g,k*3+t*3+1,none⟩=some (.int .i64 x.2.1)∧w'.cell? ⟨g,k*3+t*3+2,none⟩=some (.int .i64 x.2.2)∧w'.cell? ⟨g,k*3+j*3,none⟩=some (.int .i64 y.1)∧w'.cell? ⟨g,k*3+j*3+1,none⟩=some (.int .i64 y.2.1)∧w'.cell? ⟨g,k*3+j*3+2,none⟩=some (.int .i64 y.2.2)) [] ⟨c0,c1,c2,d0,d1,d2⟩ fun hJ0=>?_
 have HE:=Y00 (Y07 (Kd.c0b hJ.out.1) (hJ.out.2.1.both (J0b (J05 (Y0f wr.heap.size wr)))))
 clear c0 c1 c2 d0 d1 d2
 generalize wr.drew=wd at *
 refine pv 0 ?_
 refine pv 1 ?_
 refine pv 2 ?_
 refine tv6 3 ?_
 refine pv 4 ?_
 refine pv 5 ?_
 refine pv 6 ?_
 refine pv 7 ?_
 refine tv6 8 ?_
 cases hxy:(x == y) with
 | true =>
  have HXY:=Y08 (show x=y by simpa using hxy)
  rw [hxy] at hne
  clear hxy
  refine pv 9 ?_
  refine dn0 ?_
  clear hne hJ0
  go_wp2_with fail
  exact ⟨⟨p,t+1,D,rfl,by go_num,by omega,by omega,hkp,by omega,HE.out.1,HE.out.2,by rw [show k+(t+1)=k+t+1 by omega,HDT.out,if_pos HXY.out.symm];exact hJ.out.2.2.1,fun u hu=>hJ.out.2.2.2 u (by omega)⟩,by simp [intOf];omega⟩
 | false=>?_
 have HXY:=Y08 (show x≠y by simpa using hxy)
 rw [hxy] at hne
 clear hxy
 refine pv 9 ?_
 refine dn0 ?_
 clear hne
 obtain ⟨e0,e1,e2,_⟩:=hJ0
 obtain ⟨_,xf,hst⟩:=J10 HE.out.1 (i:=p) (by have:=HM.out;omega)
 have HST:=Y00 (hst x)
 have f0:wd.frozen? ⟨g,p*3,none⟩=false:=xf 0
 have f1:wd.frozen? ⟨g,p*3+1,none⟩=false:=xf 1
 have f2:wd.frozen? ⟨g,p*3+2,none⟩=false:=xf 2
 have hp0:(0:Int)≤(p:Int):=by omega
 have hpN:(p:Int)<(N:Int):=by have:=HM.out;omega
 clear hst xf
 go_wp2_with fail
 refine ⟨⟨p+1,t+1,D.set p x,by go_num,by go_num,by omega,by omega,by omega,by omega,HST.out.1,HE.out.2.both HST.out.2,?_,fun u hu=>?_⟩,by simp [intOf];omega⟩
 ·rw [show k+(t+1)=k+t+1 by omega,HDT.out,if_neg (Ne.symm HXY.out),← hJ.out.2.2.1]
  have hpl:p<(D.set p x).length:=by rw [Y0q];have:=HM.out;have:=HDL.out;omega
  rw [Y0u hpl,List.take_set_of_le (Y0e _),List.getElem_set_self]
 rw [Y01,List.getElem?_set_ne (by omega),← Y01]
 exact hJ.out.2.2.2 u (by omega)
end Go.Proofs.YtbkfnmgkcgnifaaGreat
namespace Go.Proofs.YtbkfnmgkcgnifaaGreat
open Go.RowKit Go.Shelf W1 Mdl
theorem Jdt (A:Option Addr) (c:Nat) (l:List Tm) (w:World) (hl:kT.C w A l.length l) (hn:l.length*24≤140737488355328) :
  Calls Tryz.prog 76 #[.slice A l.length c] w fun e w'=>∃ v,e=.returned v∧kT.R 99 w' w.heap.size (fun _=>True) v (J0p l)∧Below w.heap.size w w':=by
 have HL:=Y00 hl
 have hmf:=hmf0
 have HS:=fun w' hb=>Y08 (sortedT_any A c l w' (Kd.c00 HL.out hb) hn)
 have LE:=Y08 (show (J1c (J2w l)).length≤l.length by have:=J6z (J2w l);rw [J6y] at this;exact this)
 clear hl
 go_enter Tryz.func76,Tryz.ntmps76
 go_wp2_with fail
 refine (Je1 _).mono ?_
 rintro e w1 ⟨rfl,hb1⟩
 go_wp2_with fail
 refine (HS _ hb1).out.mono ?_
 rintro e w2 ⟨v2,rfl,hR2,hb2⟩
 go_wp2_with fail
 refine (Jh2 v2 _ w2 _ _ hR2 (by rw [J6y];omega)).mono ?_
 rintro e w3 ⟨A3,c3,rfl,hc3,hC3,hg3⟩
 have HB3:Hid (Below w.heap.size w w3):=Y08 ((J01 hb1 hb1.size hb2).grown hg3 (J01 hb1 hb1.size hb2).size (fun k hk=>by have:=Kd.R_base hR2 k hk;have:=hb1.size;omega))
 clear hb1 hb2 hR2 hg3
 generalize hL:J1c (J2w l)=L at *
 have HL:=Y08 hL
 clear hL
 have HC3:=Y00 hC3
 clear hC3
 have hm:=LE.out
 go_wp2
 go_loopw [2,11] (fun o i wr=>∃ k:Nat,k≤L.length∧i=.int .i64 k∧kT.R 99 wr w3.heap.size (fun _=>True) o ((L.take k).foldl J3f [])∧Below w3.heap.size w3 wr) (fun _ i _=>L.length - (intOf i).toNat)
 case atStart=>exact ⟨0,Nat.zero_le _,rfl,Kd.R_nil _ _ _ _ _,Y0f _ _⟩
 obtain ⟨k,hk,rfl,hR,hb⟩:=hrel
 by_cases hlt:k<L.length
 rotate_left
 ·have HR:=Y00 hR
  clear hR
  go_wp2
  go_ret
  refine ⟨_,rfl,?_,J01 HB3.out HB3.out.size hb⟩
  have hkl:k=L.length:=by omega
  subst hkl
  have:=HR.out
  rw [List.take_length,← HL.out] at this
  exact Kd.c04 this HB3.out.size
 obtain ⟨ad,rfl,hc0,hc1,hc2⟩:=Jfa (Kd.c00 HC3.out hb) hlt
 have hs:=J1m J3f [] L hlt
 have hlen:=J3j (L.take k) []
 rw [List.length_nil,Y0o,Nat.min_eq_left hk,Nat.zero_add] at hlen
 generalize hX:(L.take k).foldl J3f []=X at *
 obtain ⟨AX,cX,rfl,hcX,hCX⟩:=Kd.c09 hR
 have hbo:=J02 wr (.cells #[.int .i64 L[k].1,.int .i64 L[k].2.1,.int .i64 L[k].2.2] 99)
 have HP:Hid (Jcv 101 #[.pointer (some ⟨wr.heap.size,0,none⟩)] tmV (fun o=>leT o L[k]) (wr.alloc (.cells #[.int .i64 L[k].1,.int .i64 L[k].2.1,.int .i64 L[k].2.2] 99))):=Y08 (fun x w' hb' =>
  Ji7 x L[k] _ w' (J00 hb' (J0a wr _ _ 0)) (J00 hb' (J0a wr _ _ 1)) (J00 hb' (J0a wr _ _ 2)))
 have HCA:=J96 AX cX X 101 #[.pointer (some ⟨wr.heap.size,0,none⟩)] (fun o=>leT o L[k]) _ (Kd.c00 hCX hbo) HP.out (enters_of Tryz.func101 (by kernel_rfl) rfl)
 have HX:=Y08 hX
 have HRX:=Y00 hR
 clear hX hCX hR
 cases hany:X.any (fun o=>leT o L[k])
 ·rw [hany] at HCA
  have HCB:=Y08 HCA
  have HN:=Y08 (hs.trans (Jo7 hany))
  clear HCA hany hs
  go_wp2_with fail
  refine HCB.out.mono ?_
  rintro e w4 ⟨rfl,hb4⟩
  have d0:=J00 hb4 (J0a wr #[.int .i64 L[k].1,.int .i64 L[k].2.1,.int .i64 L[k].2.2] 99 0)
  have d1:=J00 hb4 (J0a wr #[.int .i64 L[k].1,.int .i64 L[k].2.1,.int .i64 L[k].2.2] 99 1)
  have d2:=J00 hb4 (J0a wr #[.int .i64 L[k].1,.int .i64 L[k].2.1,.int .i64 L[k].2.2] 99 2)
  have hR4:=Kd.c01 (Kd.c01 HRX.out hbo) hb4
  have hb5:=J01 (J01 hb hb.size hbo) (J01 hb hb.size hbo).size hb4
  have HR4:=Y00 hR4
  clear hR4
  go_wp2_with (at_builtin;refine Kd.R_append kT (w0:=w3) w3.heap.size rfl (.tmp 19) (.tmp 21) _ 99 _ 24 rfl Tryz.underlying68 Tryz.infoTime rfl (by decide) (by decide) _ X L[k] _ (fun _=>True) (fun _=>False) rfl rfl (kT_M _) (fun _ h=>h.elim) (fun _ _=>trivial) HR4.out hb5 hb5.size (by omega) ?_;intro v6 w6 hR6 hb6 hg6 hat6)
  refine ⟨⟨k+1,by omega,by go_num,?_,hb6⟩,by simp [intOf];omega⟩
  rw [HN.out]
  exact hR6
 rw [hany] at HCA
 have HCB:=Y08 HCA
 have HN:=Y08 (hs.trans (Jma hany))
 clear HCA hany hs
 go_wp2_with fail
 refine HCB.out.mono ?_
 rintro e w4 ⟨rfl,hb4⟩
 have hR4:=Y00 (Kd.c01 (Kd.c01 HRX.out hbo) hb4)
 have hb5:=J01 (J01 hb hb.size hbo) (J01 hb hb.size hbo).size hb4
 go_wp2_with fail
 go_roundw
 case rel =>
  refine ⟨k+1,by omega,by go_num,?_,hb5⟩
  rw [HN.out]
  exact hR4.out
 simp [intOf];omega
end Go.Proofs.YtbkfnmgkcgnifaaGreat
namespace Go.Proofs.YtbkfnmgkcgnifaaGreat
open Go.RowKit Go.Shelf W1 W2 Mdl Go.ChangeMaps
namespace Mdl
abbrev Note:=List (Mk × Int)
def J2h (L:Led) (note:Note):Led:=note.foldl (fun L x=>J0j L x.1 x.2) L
theorem Jkm (L:Led) {note:Note} {k:Nat} (h:k<note.length):J2h L (note.take (k+1))=J0j (J2h L (note.take k)) note[k].1 note[k].2:=by
 unfold J2h
 rw [Y0u h,List.foldl_append,List.foldl_cons,List.foldl_nil]
end Mdl
def kEn:Kd (Mk × Int):=Kd.pair kM kI
theorem Js8 {w:World} {t:Mk × Int} {cs:List Value} : kEn.K w t cs↔cs=[.int .i64 t.1.1,.int .i64 t.1.2.1,.int .i64 t.1.2.2.1,.int .i64 t.1.2.2.2,.int .i64 t.2]:=by
 constructor
 ·rintro ⟨c0,c1,rfl,h0,h1⟩
  rw [kM_K.1 h0];cases h1;rfl
 rintro rfl
 exact ⟨[_,_,_,_],[_],rfl,kM_K.2 rfl,rfl⟩
theorem Jre {w:World} {base:Nat} {ok:Nat→Prop} (t:Mk × Int):kEn.M w base ok t [.int .i64 t.1.1,.int .i64 t.1.2.1,.int .i64 t.1.2.2.1,.int .i64 t.1.2.2.2,.int .i64 t.2]:=⟨[_,_,_,_],[_],rfl,⟨[_],[_,_,_],rfl,rfl,[_],[_,_],rfl,rfl,[_],[_],rfl,rfl,rfl⟩,rfl⟩
theorem Jro {w:World} {A:Option Addr} {l:List (Mk × Int)} (h:kEn.C w A l.length l) {k:Nat} (hk:k<l.length) :
  ∃ ad,A=some ad∧w.cell? (ad.add (k*5))=some (.int .i64 l[k].1.1)∧w.cell? ⟨(ad.add (k*5)).block,(ad.add (k*5)).off+1,none⟩=some (.int .i64 l[k].1.2.1)∧w.cell? ⟨(ad.add (k*5)).block,(ad.add (k*5)).off+2,none⟩=some (.int .i64 l[k].1.2.2.1) ∧
   w.cell? ⟨(ad.add (k*5)).block,(ad.add (k*5)).off+3,none⟩=some (.int .i64 l[k].1.2.2.2)∧w.cell? ⟨(ad.add (k*5)).block,(ad.add (k*5)).off+4,none⟩=some (.int .i64 l[k].2):=by
 obtain ⟨ad,c,e,hl,hK,hc⟩:=Kd.C_get h ((0,0,0,0),0) (k:Int) (by omega) (by omega)
 rw [Y06,Y01,Y05 hk] at hK
 rw [Y06] at hc
 rw [Js8.1 hK] at hc
 refine ⟨ad,e,?_,?_,?_,?_,?_⟩
 ·have:=hc 0 _ rfl
  rwa [show kEn.sz=5 from rfl,Nat.add_zero] at this
 ·have:=hc 1 _ rfl
  rwa [show kEn.sz=5 from rfl,J1i _ _ _ (by omega)] at this
 ·have:=hc 2 _ rfl
  rwa [show kEn.sz=5 from rfl,J1i _ _ _ (by omega)] at this
 ·have:=hc 3 _ rfl
  rwa [show kEn.sz=5 from rfl,J1i _ _ _ (by omega)] at this
 have:=hc 4 _ rfl
 rwa [show kEn.sz=5 from rfl,J1i _ _ _ (by omega)] at this
theorem J1a.ne_cell {w:World} {b:Nat} {L:Led} (h:J1a w b L) {a:Addr} {v:Value} (hc:w.cell? a=some v):some a.block≠some b:=by
 obtain ⟨es,clock,hb,_⟩:=h
 intro he
 injection he with he
 subst he
 simp [World.cell?,hb] at hc
theorem Jiv (wb lb:Nat) (L:Led) (A:Option Addr) (c:Nat) (note:Note) (w:World) (hw:w.cell? ⟨wb,0,none⟩=some (.map (some lb))) (hL:J1a w lb L) (hC:kEn.C w A note.length note) :
  Calls Tryz.prog 145 #[.pointer (some ⟨wb,0,none⟩),.slice A note.length c] w fun e w'=>e=.returned (.tuple #[])∧w.grownBy w' (some lb)∧J1a w' lb (J2h L note):=by
 have HL:=Y00 hL
 have HC:=Y00 hC
 have hm:=Kd.C_max hC
 clear hL hC
 go_enter Tryz.func145,Tryz.ntmps145
 go_wp2
 go_loopw [8] (fun i wr=>∃ k:Nat,k≤note.length∧i=.int .i64 k∧J08 (w.grownBy wr (some lb)∧J1a wr lb (J2h L (note.take k)))) (fun i _=>note.length - (intOf i).toNat)
 case atStart=>exact ⟨0,Nat.zero_le _,rfl,⟨⟨rfl,rfl,rfl,Y0e _,fun _ _ _=>rfl⟩,HL.out⟩⟩
 obtain ⟨k,hk,rfl,hX⟩:=hrel
 by_cases hlt:k<note.length
 rotate_left
 ·go_wp2_with fail
  go_end0
  have hkn:k=note.length:=by omega
  subst hkn
  have h:=hX.out.2
  rw [List.take_length] at h
  exact ⟨rfl,hX.out.1,h⟩
 obtain ⟨ad,rfl,h0,h1,h2,h3,h4⟩:=Jro HC.out hlt
 have r0:=J09 hX.out.1 h0 (HL.out.ne_cell h0)
 have r1:=J09 hX.out.1 h1 (HL.out.ne_cell h1)
 have r2:=J09 hX.out.1 h2 (HL.out.ne_cell h2)
 have r3:=J09 hX.out.1 h3 (HL.out.ne_cell h3)
 have r4:=J09 hX.out.1 h4 (HL.out.ne_cell h4)
 have rw0:=J09 hX.out.1 hw (HL.out.ne_cell hw)
 have hk0:(0:Int)≤k:=by omega
 have hkn:(k:Int)<note.length:=by omega
 have HTK:=Y08 (Jkm L hlt)
 generalize note[k]=en at *
 clear h0 h1 h2 h3 h4
 go_upto_region 3 with fail
 have b4:=J02 wr (.cells #[.int .i64 en.1.1,.int .i64 en.1.2.1,.int .i64 en.1.2.2.1,.int .i64 en.1.2.2.2,.int .i64 en.2] 213)
 have s0:(wr.alloc (.cells #[.int .i64 en.1.1,.int .i64 en.1.2.1,.int .i64 en.1.2.2.1,.int .i64 en.1.2.2.2,.int .i64 en.2] 213)).cell? ⟨wr.heap.size,0,none⟩=some (.int .i64 en.1.1):=J0a wr _ _ 0
 have s1:(wr.alloc (.cells #[.int .i64 en.1.1,.int .i64 en.1.2.1,.int .i64 en.1.2.2.1,.int .i64 en.1.2.2.2,.int .i64 en.2] 213)).cell? ⟨wr.heap.size,1,none⟩=some (.int .i64 en.1.2.1):=J0a wr _ _ 1
 have s2:(wr.alloc (.cells #[.int .i64 en.1.1,.int .i64 en.1.2.1,.int .i64 en.1.2.2.1,.int .i64 en.1.2.2.2,.int .i64 en.2] 213)).cell? ⟨wr.heap.size,2,none⟩=some (.int .i64 en.1.2.2.1):=J0a wr _ _ 2
 have s3:(wr.alloc (.cells #[.int .i64 en.1.1,.int .i64 en.1.2.1,.int .i64 en.1.2.2.1,.int .i64 en.1.2.2.2,.int .i64 en.2] 213)).cell? ⟨wr.heap.size,3,none⟩=some (.int .i64 en.1.2.2.2):=J0a wr _ _ 3
 have s4:(wr.alloc (.cells #[.int .i64 en.1.1,.int .i64 en.1.2.1,.int .i64 en.1.2.2.1,.int .i64 en.1.2.2.2,.int .i64 en.2] 213)).cell? ⟨wr.heap.size,4,none⟩=some (.int .i64 en.2):=J0a wr _ _ 4
 have sw:=J00 b4 rw0
 have H4:=Y00 (Y07 (hX.out.1.both (J0b b4)) (hX.out.2.below b4))
 refine sr1 9 (fun w'=>w'.cell? ⟨wb,0,none⟩=some (.map (some lb))∧w'.cell? ⟨wr.heap.size,0,none⟩=some (.int .i64 en.1.1)∧w'.cell? ⟨wr.heap.size,1,none⟩=some (.int .i64 en.1.2.1)∧w'.cell? ⟨wr.heap.size,2,none⟩=some (.int .i64 en.1.2.2.1)∧w'.cell? ⟨wr.heap.size,3,none⟩=some (.int .i64 en.1.2.2.2)∧w'.cell? ⟨wr.heap.size,4,none⟩=some (.int .i64 en.2)) [8] ⟨sw,s0,s1,s2,s3,s4⟩ fun hJ0=>?_
 have HD:=Y00 (Y07 (H4.out.1.both (J0b (J05 (Y0f _ _)))) (H4.out.2.below (J05 (Y0f _ _))))
 clear s0 s1 s2 s3 s4 sw b4 r0 r1 r2 r3 r4 rw0 H4
 generalize (wr.alloc (.cells #[.int .i64 en.1.1,.int .i64 en.1.2.1,.int .i64 en.1.2.2.1,.int .i64 en.1.2.2.2,.int .i64 en.2] 213)).drew=wd at *
 refine pv 0 ?_
 refine pv 1 ?_
 refine pv 2 ?_
 refine tv6 3 ?_
 refine pv 4 ?_
 refine tv6 5 ?_
 refine pv 6 ?_
 refine tv6 7 ?_
 refine la0 8 (bs 9 511) (N:=(some 20)) fun K hK=>?_
 refine gs0 Tryz.func46 #[.agg #[.map (some lb)],.agg #[.int .i64 en.1.1,.int .i64 en.1.2.1,.int .i64 en.1.2.2.1,.int .i64 en.1.2.2.2],.int .i64 en.2] ?_
 have EN:=J5o lb (J2h L (note.take k)) en.1 en.2 wd HD.out.2
 simp only [mkV] at EN
 refine EN.mono ?_
 clear EN
 rintro e w7 ⟨rfl,hg7,hL7⟩
 refine ⟨_,rfl,hK.out _ _ ?_⟩
 clear hK K
 refine dn0 ?_
 have HX7:=Y00 (show w.grownBy w7 (some lb)∧J1a w7 lb (J2h L (note.take (k+1))) from ⟨HD.out.1.both hg7,by rw [HTK.out];exact hL7⟩)
 clear hg7 hL7
 go_wp2_with fail
 exact ⟨⟨k+1,by omega,by go_num,HX7⟩,by simp [intOf];omega⟩
def Mdl.numP (script:List Int) (many:Int):Int:=match script with
 | []=>0
 | s::_=>if s.tmod many<0 then s.tmod many+many else s.tmod many
theorem Jk1 (ad:Addr):ad.add 0=ad:=by
 unfold Addr.add
 cases ad
 split<;>simp_all
def J31 (x y z:Int) (gb:Nat) (wsl scr:Value):Array Value:=#[.int .i64 x,.int .i64 y,.int .i64 z,.pointer (some ⟨gb,0,none⟩),wsl,scr]
theorem Jdi (rb:Nat) (x y z:Int) (gb:Nat) (wsl:Value) (A:Option Addr) (c:Nat) (script:List Int) (many:Int) (w0 w:World) (hbw:Below w0.heap.size w0 w) (h1:1≤many) (h2:many≤1000000)
  (hw:w.heap[rb]?=some (.cells (J31 x y z gb wsl (.slice A script.length c)) 92 (0,0))) (hC:kI.C w0 A script.length script) (hc:script.length≤c) :
  Calls Tryz.prog 81 #[.pointer (some ⟨rb,0,none⟩),.int .i64 many] w fun e w'=>e=.returned (.int .i64 (numP script many)) ∧
   ∃ A' c',w'.heap[rb]?=some (.cells (J31 x y z gb wsl (.slice A' script.tail.length c')) 92 (0,0))∧w.grownBy w' (some rb)∧w'.heap.size=w.heap.size∧kI.C w0 A' script.tail.length script.tail∧script.tail.length≤c':=by
 have HC:=Y00 hC
 have hm:=Kd.C_max hC
 have k5:w.cell? ⟨rb,5,none⟩=some (.slice A script.length c):=(J03 hw 5).trans rfl
 have f5:=J07 hw 5
 have HW:=Y08 hw
 clear hC hw
 cases script with
 | nil =>
  simp only [List.length_nil] at k5 HC hm
  go_enter Tryz.func81,Tryz.ntmps81
  go_wp2
  go_ret
  exact ⟨rfl,A,c,HW.out,⟨rfl,rfl,rfl,Y0e _,fun _ _ _=>rfl⟩,rfl,HC.out,hc⟩
 | cons s r=>?_
 simp only [Y0z] at k5 HC hm hc
 obtain ⟨ad,rfl,hs⟩:=Jjx (Kd.c00 (show kI.C w0 A (s::r).length (s::r) from HC.out) hbw) (k:=0) (by simp)
 rw [show ad.add 0=ad from Jk1 ad] at hs
 have hs:w.cell? ad=some (.int .i64 s):=hs
 have hmod:=Int.tmod_lt_of_pos s (show 0<many by omega)
 have hdr:=Kd.C_drop (k:=kI) (m:=1) (c:=c) (xs:=s::r) HC.out (by simp) hc
 simp only [List.drop_succ_cons,List.drop_zero,Option.map_some] at hdr
 have hadd:ad.add (1*kI.sz)=⟨ad.block,ad.off+1,none⟩:=by
  have:=J1i ad 0 1 (by omega)
  rw [Jk1] at this
  exact this
 rw [hadd] at hdr
 have HDR:=Y08 hdr
 have hlow:-many<s.tmod many:=by
  have:=Int.lt_tmod_of_pos s (show 0<many by omega)
  omega
 have HLOW:=Y08 hlow
 have HMOD:=Y08 hmod
 clear hdr hadd hlow hmod
 have fin:∀ (b:Bool) (v:Value),(w.setCell ⟨rb,5,none⟩ v).heap[rb]?=some (.cells (J31 x y z gb wsl v) 92 (0,0))∧w.grownBy (w.setCell ⟨rb,5,none⟩ v) (some rb)∧(w.setCell ⟨rb,5,none⟩ v).heap.size=w.heap.size:=fun _ v =>
  ⟨J0d HW.out 5 v rfl,⟨rfl,rfl,rfl,by simp [World.setCell],fun k _ hn=>Below.heap_setCell w ⟨rb,5,none⟩ v k (fun he=>hn (by rw [he]))⟩,by simp [World.setCell]⟩
 have FIN:=Y08 fin
 clear fin
 go_enter Tryz.func81,Tryz.ntmps81
 go_wp2
 all_goals go_ret
 ·refine ⟨J2k ?_,_,_,(FIN.out true _).1,(FIN.out true _).2.1,(FIN.out true _).2.2,by have hc1:c=1:=(by assumption);have h:=HDR.out;rw [if_pos hc1] at h;exact h,by omega⟩
  rw [J2u,J25 (by have:=HLOW.out;omega) (by have:=HMOD.out;omega)]
  simp only [numP]
  rw [if_pos (show s.tmod many<0 by assumption)]
 ·refine ⟨J2k ?_,_,_,(FIN.out true _).1,(FIN.out true _).2.1,(FIN.out true _).2.2,by have hc1:¬ c=1:=(by assumption);have h:=HDR.out;rw [if_neg hc1] at h;exact h,by omega⟩
  rw [J2u,J25 (by have:=HLOW.out;omega) (by have:=HMOD.out;omega)]
  simp only [numP]
  rw [if_pos (show s.tmod many<0 by assumption)]
 ·refine ⟨J2k ?_,_,_,(FIN.out true _).1,(FIN.out true _).2.1,(FIN.out true _).2.2,by have hc1:c=1:=(by assumption);have h:=HDR.out;rw [if_pos hc1] at h;exact h,by omega⟩
  simp only [numP]
  rw [if_neg (by omega)]
 refine ⟨J2k ?_,_,_,(FIN.out true _).1,(FIN.out true _).2.1,(FIN.out true _).2.2,by have hc1:¬ c=1:=(by assumption);have h:=HDR.out;rw [if_neg hc1] at h;exact h,by omega⟩
 simp only [numP]
 rw [if_neg (by omega)]
end Go.Proofs.YtbkfnmgkcgnifaaGreat
namespace Go.Proofs.YtbkfnmgkcgnifaaGreat
open Go.RowKit Go.Shelf W1 W2 Mdl
namespace Mdl
def okM (m:Mk):Prop:=0≤m.1∧m.1≤1000
theorem Jqo {a b:Mk} (ha:okM a) (hb:okM b):cmpM a b=cmpN a b:=by
 unfold cmpM cmpN
 unfold okM at ha hb
 rw [J25 (by omega) (by omega)]
theorem J3v (a b:Mk):cmpN b a=- cmpN a b:=by
 unfold cmpN
 by_cases h:a.1=b.1
 ·rw [if_neg (by simpa using h.symm),if_neg (by simpa using h),J32]
 rw [if_pos (Ne.symm h),if_pos h];omega
theorem J1x {a b:Mk} : cmpN a b=0↔a=b:=by
 unfold cmpN
 obtain ⟨n,t⟩:=a
 obtain ⟨m,u⟩:=b
 by_cases h:n=m
 ·subst h
  simp [J2o]
 simp only [ne_eq,h,not_false_eq_true,if_true,Prod.mk.injEq,false_and,iff_false]
 omega
theorem J7m {a b c:Mk} (h:cmpN a b≤0) (k:cmpN b c≤0):cmpN a c≤0:=by
 unfold cmpN at *
 by_cases h1:a.1=b.1<;>by_cases h2:b.1=c.1
 ·rw [if_neg (by simpa using h1)] at h
  rw [if_neg (by simpa using h2)] at k
  rw [if_neg (by simpa using h1.trans h2)]
  exact J7k h k
 ·rw [if_pos h2] at k
  rw [if_pos (by rw [h1];exact h2)];omega
 ·rw [if_pos h1] at h
  rw [if_pos (by rw [← h2];exact h1)];omega
 rw [if_pos h1] at h
 rw [if_pos h2] at k
 rw [if_pos (by omega)];omega
theorem ordN:Ord cmpN (fun _=>True) where
 neg:=fun a b _ _=>by rw [J3v a b];omega
 trans:=fun _ _ _ _ _ _=>J7m
 zero:=fun a b _ _ h1 h2=>J1x.1 (by rw [J3v a b] at h2;omega)
end Mdl
def Kd.sub {α:Type} (d:Kd α) (p:α→Prop):Kd α where
 sz:=d.sz
 E:=d.E
 K:=fun w x cs=>d.K w x cs∧p x
 M:=fun w base ok x cs=>d.M w base ok x cs∧p x
 K_len:=fun h=>d.K_len h.1
 K_one:=fun h=>d.K_one h.1
 K_below:=fun hb h=>⟨d.K_below hb h.1,h.2⟩
 K_of_M:=fun h=>⟨d.K_of_M h.1,h.2⟩
 M_mono:=fun hk h=>⟨d.M_mono hk h.1,h.2⟩
 M_bound:=fun h=>⟨d.M_bound h.1,h.2⟩
 M_move:=fun hm h=>⟨d.M_move hm h.1,h.2⟩
 M_lower:=fun hb h=>⟨d.M_lower hb h.1,h.2⟩
def kN:Kd Mk:=Kd.sub kM okM
theorem kM_M {w:World} {base:Nat} {ok:Nat→Prop} (t:Mk):kM.M w base ok t [.int .i64 t.1,.int .i64 t.2.1,.int .i64 t.2.2.1,.int .i64 t.2.2.2]:=⟨[_],[_,_,_],rfl,rfl,[_],[_,_],rfl,rfl,[_],[_],rfl,rfl,rfl⟩
theorem kN_K {w:World} {t:Mk} {cs:List Value} : kN.K w t cs↔cs=[.int .i64 t.1,.int .i64 t.2.1,.int .i64 t.2.2.1,.int .i64 t.2.2.2]∧okM t:=and_congr_left' kM_K
theorem kN_M {w:World} {base:Nat} {ok:Nat→Prop} (t:Mk) (h:okM t):kN.M w base ok t [.int .i64 t.1,.int .i64 t.2.1,.int .i64 t.2.2.1,.int .i64 t.2.2.2]:=⟨kM_M t,h⟩
theorem Js7 (base:Nat) (w w':World) (x:Mk) (cs:List Value) (h:kN.K w x cs):kN.M w' base (fun _=>False) x cs:=by
 obtain ⟨h1,h2⟩:=kN_K.1 h
 rw [h1];exact kN_M x h2
theorem Tryz.infoMark:(Tryz.prog.info? 101).map (fun i=>(i.zero,i.size,i.bytes))=some (some (.agg #[.int .i64 0,.int .i64 0,.int .i64 0,.int .i64 0]),4,32):=by kernel_rfl
theorem kN_R {w:World} {e base:Nat} {ok:Nat→Prop} {v:Value} {l:List Mk} (h:kN.R e w base ok v l):kM.R e w base ok v l:=by
 obtain ⟨h0,inner,ho,hr⟩:=h
 exact ⟨h0,inner,ho,hr.imp_ (fun _ _ hp=>hp.1)⟩
theorem kN_C {w:World} {A:Option Addr} {n:Nat} {l:List Mk} (h:kM.C w A n l) (hl:∀ m ∈ l,okM m):kN.C w A n l:=by
 refine ⟨h.1,h.2.1,fun hn=>?_⟩
 obtain ⟨ad,e,hc⟩:=h.2.2 hn
 refine ⟨ad,e,fun j p hj=>?_⟩
 obtain ⟨cs,h1,h2,h3⟩:=hc j p hj
 exact ⟨cs,h1,⟨h2,hl p (List.mem_of_getElem? hj)⟩,h3⟩
theorem J6c (m n:Mk) (hm:okM m) (hn:okM n) (w:World):Calls Tryz.prog 103 #[mkV m,mkV n] w fun e w'=>e=.returned (.int .i64 (cmpN m n))∧Below w.heap.size w w':=by
 rw [← Jqo hm hn];exact Jig m n w
namespace Tw
abbrev mz:Mk:=(0,0,0,0)
theorem J18 {w:World} {base g n cap:Nat} {ok:Nat→Prop} {l:List Mk} (h:kN.R 101 w base ok (.slice (some ⟨g,0,none⟩) n cap) l) {i:Nat} (hi:i<n) :
  (w.cell? ⟨g,i*4,none⟩=some (.int .i64 (l.getD i mz).1)∧w.cell? ⟨g,i*4+1,none⟩=some (.int .i64 (l.getD i mz).2.1)∧w.cell? ⟨g,i*4+2,none⟩=some (.int .i64 (l.getD i mz).2.2.1)∧w.cell? ⟨g,i*4+3,none⟩=some (.int .i64 (l.getD i mz).2.2.2)∧okM (l.getD i mz))∧(∀ j,w.frozen? ⟨g,i*4+j,none⟩=false) ∧
   ∀ t:Mk,okM t→kN.R 101 (w.setCells g (i*4) [.int .i64 t.1,.int .i64 t.2.1,.int .i64 t.2.2.1,.int .i64 t.2.2.2]) base ok (.slice (some ⟨g,0,none⟩) n cap) (l.set i t)∧w.grownBy (w.setCells g (i*4) [.int .i64 t.1,.int .i64 t.2.1,.int .i64 t.2.2.1,.int .i64 t.2.2.2]) (some g):=by
 obtain ⟨c,hcl,hM,hcc,hfr⟩:=Kd.R_elem h mz (i:Int) (by omega) (by omega)
 obtain ⟨hK,hO⟩:=kN_K.1 (kN.K_of_M hM)
 subst hK
 have e0:=hcc 0 _ rfl
 have e1:=hcc 1 _ rfl
 have e2:=hcc 2 _ rfl
 have e3:=hcc 3 _ rfl
 rw [Y06] at e0 e1 e2 e3 hO
 refine ⟨⟨e0,e1,e2,e3,hO⟩,fun j=>by have:=hfr j;rwa [Y06] at this,fun t ht=>?_⟩
 have:=Kd.R_seg h (i:Int) (by omega) (by omega) hcl hcc (seg:=[.int .i64 t.1,.int .i64 t.2.1,.int .i64 t.2.2.1,.int .i64 t.2.2.2]) (j:=0) (x':=t) (okp:=fun _=>False) (Y0e 4) (kN_M t ht) (fun _ h=>h.elim)
 rwa [Y06] at this
end Tw
end Go.Proofs.YtbkfnmgkcgnifaaGreat
namespace Go.Proofs.YtbkfnmgkcgnifaaGreat.Tw
open Go.RowKit Go.Shelf W1 W2 Mdl
theorem swapT_any (g N cap a b n base:Nat) (ok:Nat→Prop) (l:List Mk) (cmp:Value) (w:World) (hR:kN.R 101 w base ok (.slice (some ⟨g,0,none⟩) N cap) l) (ha:a+n≤N) (hb:b+n≤N) (hN:N≤10000000000000) :
  Calls Tryz.prog 127 #[.slice (some ⟨g,0,none⟩) N cap,.int .i64 a,.int .i64 b,.int .i64 n,cmp] w fun e w'=>e=.returned (.tuple #[])∧kN.R 101 w' base ok (.slice (some ⟨g,0,none⟩) N cap) (J2v mz a b n l)∧w.grownBy w' (some g):=by
 have HR:=Y00 hR
 clear hR
 go_enter Tryz.func127,Tryz.ntmps127
 go_wp2
 go_loopw [10] (fun i wr=>∃ k:Nat,k≤n∧i=.int .i64 k∧J08 (kN.R 101 wr base ok (.slice (some ⟨g,0,none⟩) N cap) (J2v mz a b k l)∧w.grownBy wr (some g))) (fun i _=>n - (intOf i).toNat)
 case atStart=>exact ⟨0,Nat.zero_le _,rfl,⟨HR.out,⟨rfl,rfl,rfl,Y0e _,fun _ _ _=>rfl⟩⟩⟩
 obtain ⟨k,hk,rfl,hX⟩:=hrel
 by_cases hlt:k<n
 rotate_left
 ·go_wp2_with fail
  go_end0
  have hkn:k=n:=by omega
  subst hkn
  exact ⟨rfl,hX.out⟩
 obtain ⟨⟨x0,x1,x2,x3,xok⟩,xf,hxs⟩:=J18 hX.out.1 (i:=a+k) (by omega)
 obtain ⟨⟨y0,y1,y2,y3,yok⟩,yf,_⟩:=J18 hX.out.1 (i:=b+k) (by omega)
 have hl:=hX.out.1
 have hsw:J2v mz a b (k+1) l=((J2v mz a b k l).set (a+k) ((J2v mz a b k l).getD (b+k) mz)).set (b+k) ((J2v mz a b k l).getD (a+k) mz):=rfl
 have HSW:=Y08 hsw
 generalize hp:(J2v mz a b k l).getD (a+k) mz=p at *
 generalize hq:(J2v mz a b k l).getD (b+k) mz=q at *
 have HXS:=Y00 (hxs q (by assumption))
 have HXD:=Y00 (show kN.R 101 (wr.drew.setCells g ((a+k)*4) [.int .i64 q.1,.int .i64 q.2.1,.int .i64 q.2.2.1,.int .i64 q.2.2.2]) base ok (.slice (some ⟨g,0,none⟩) N cap) ((J2v mz a b k l).set (a+k) q)∧wr.grownBy (wr.drew.setCells g ((a+k)*4) [.int .i64 q.1,.int .i64 q.2.1,.int .i64 q.2.2.1,.int .i64 q.2.2.2]) (some g) from by
  obtain ⟨_,_,hd⟩:=J18 (Kd.c0b hX.out.1) (i:=a+k) (by omega)
  exact ⟨(hd q (by assumption)).1,(J0b (J05 (Y0f _ _))).both (hd q (by assumption)).2⟩)
 have wa:IntKind.i64.wrap ((a:Int)+k)=((a+k:Nat):Int):=by rw [Y0b];omega
 have wb:IntKind.i64.wrap ((b:Int)+k)=((b+k:Nat):Int):=by rw [Y0b];omega
 have ha0:(0:Int)≤((a+k:Nat):Int):=by omega
 have ha1:((a+k:Nat):Int)<N:=by omega
 have hb0:(0:Int)≤((b+k:Nat):Int):=by omega
 have hb1:((b+k:Nat):Int)<N:=by omega
 have f0:wr.drew.frozen? ⟨g,(a+k)*4,none⟩=false:=xf 0
 have f1:wr.drew.frozen? ⟨g,(a+k)*4+1,none⟩=false:=xf 1
 have f2:wr.drew.frozen? ⟨g,(a+k)*4+2,none⟩=false:=xf 2
 have f3:wr.drew.frozen? ⟨g,(a+k)*4+3,none⟩=false:=xf 3
 clear hxs hsw hp hq hl
 generalize hak:a+k=ak at *
 generalize hbk:b+k=bk at *
 go_upto_region 3 with fail
 refine sr1 24 (fun w'=>w'.cell? ⟨g,ak*4,none⟩=some (.int .i64 p.1)∧w'.cell? ⟨g,ak*4+1,none⟩=some (.int .i64 p.2.1)∧w'.cell? ⟨g,ak*4+2,none⟩=some (.int .i64 p.2.2.1)∧w'.cell? ⟨g,ak*4+3,none⟩=some (.int .i64 p.2.2.2)∧w'.cell? ⟨g,bk*4,none⟩=some (.int .i64 q.1)∧w'.cell? ⟨g,bk*4+1,none⟩=some (.int .i64 q.2.1)∧w'.cell? ⟨g,bk*4+2,none⟩=some (.int .i64 q.2.2.1)∧w'.cell? ⟨g,bk*4+3,none⟩=some (.int .i64 q.2.2.2)) [21,23] ⟨x0,x1,x2,x3,y0,y1,y2,y3⟩ fun hJ0=>?_
 clear x0 x1 x2 x3 y0 y1 y2 y3 xf yf
 generalize wr.drew=wd at *
 refine pv 0 ?_
 refine pv 1 ?_
 refine pv 2 ?_
 refine pv 3 ?_
 refine pv 4 ?_
 refine pv 5 ?_
 refine pv 6 ?_
 refine pv 7 ?_
 refine pv 8 ?_
 refine pv 9 ?_
 refine pv 10 ?_
 refine pv 11 ?_
 refine pv 12 ?_
 refine tv8 13 ?_
 refine pv 14 ?_
 refine pv 15 ?_
 refine pv 16 ?_
 refine pv 17 ?_
 refine pv 18 ?_
 refine tv8 19 ?_
 refine pv 20 ?_
 refine la0 21 (bs 24 4194303) (N:=none) fun K hK=>?_
 refine sk0 ?_
 refine hK.out _ _ ?_
 clear hK K
 have h6:kN.R 101 ((((wd.setCell ⟨g,ak*4,none⟩ (.int .i64 q.1)).setCell ⟨g,ak*4+1,none⟩ (.int .i64 q.2.1)).setCell ⟨g,ak*4+2,none⟩ (.int .i64 q.2.2.1)).setCell ⟨g,ak*4+3,none⟩ (.int .i64 q.2.2.2)) base ok (.slice (some ⟨g,0,none⟩) N cap) ((J2v mz a b k l).set ak q)∧w.grownBy ((((wd.setCell ⟨g,ak*4,none⟩ (.int .i64 q.1)).setCell ⟨g,ak*4+1,none⟩ (.int .i64 q.2.1)).setCell ⟨g,ak*4+2,none⟩ (.int .i64 q.2.2.1)).setCell ⟨g,ak*4+3,none⟩ (.int .i64 q.2.2.2)) (some g):=⟨HXD.out.1,hX.out.2.both HXD.out.2⟩
 have H6:=Y00 h6
 clear h6 hJ0 f0 f1 f2 f3
 generalize ((((wd.setCell ⟨g,ak*4,none⟩ (.int .i64 q.1)).setCell ⟨g,ak*4+1,none⟩ (.int .i64 q.2.1)).setCell ⟨g,ak*4+2,none⟩ (.int .i64 q.2.2.1)).setCell ⟨g,ak*4+3,none⟩ (.int .i64 q.2.2.2))=w6 at *
 have hbN:bk<N:=by omega
 obtain ⟨⟨z0,z1,z2,z3,zok⟩,zf,hz⟩:=J18 H6.out.1 (i:=bk) hbN
 have g0:w6.frozen? ⟨g,bk*4,none⟩=false:=zf 0
 have g1:w6.frozen? ⟨g,bk*4+1,none⟩=false:=zf 1
 have g2:w6.frozen? ⟨g,bk*4+2,none⟩=false:=zf 2
 have g3:w6.frozen? ⟨g,bk*4+3,none⟩=false:=zf 3
 have HZ:=Y00 (hz p (by assumption))
 clear hz zf
 generalize ((J2v mz a b k l).set ak q).getD bk mz=pq at *
 refine pv 22 ?_
 refine la0 23 (bs 24 16777215) (N:=none) fun K hK=>?_
 refine sk0 ?_
 refine hK.out _ _ ?_
 clear hK K
 refine dn0 ?_
 have h7:kN.R 101 ((((w6.setCell ⟨g,bk*4,none⟩ (.int .i64 p.1)).setCell ⟨g,bk*4+1,none⟩ (.int .i64 p.2.1)).setCell ⟨g,bk*4+2,none⟩ (.int .i64 p.2.2.1)).setCell ⟨g,bk*4+3,none⟩ (.int .i64 p.2.2.2)) base ok (.slice (some ⟨g,0,none⟩) N cap) (J2v mz a b (k+1) l)∧w.grownBy ((((w6.setCell ⟨g,bk*4,none⟩ (.int .i64 p.1)).setCell ⟨g,bk*4+1,none⟩ (.int .i64 p.2.1)).setCell ⟨g,bk*4+2,none⟩ (.int .i64 p.2.2.1)).setCell ⟨g,bk*4+3,none⟩ (.int .i64 p.2.2.2)) (some g):=⟨by rw [HSW.out];exact HZ.out.1,H6.out.2.both HZ.out.2⟩
 have H7:=Y00 h7
 clear h7
 go_wp2_with fail
 exact ⟨⟨k+1,by omega,by go_num,H7⟩,by simp [intOf];omega⟩
theorem swapT_split (g N cap base:Nat) (ok:Nat→Prop) (P X Q Y S:List Mk) (cmp:Value) (w:World) (h:X.length=Y.length) (hR:kN.R 101 w base ok (.slice (some ⟨g,0,none⟩) N cap) (P++X++Q++Y++S)) (hN:N≤10000000000000) (a b n:Nat) (ha:a=P.length) (hb:b=P.length+X.length+Q.length) (hn:n=X.length) :
  Calls Tryz.prog 127 #[.slice (some ⟨g,0,none⟩) N cap,.int .i64 a,.int .i64 b,.int .i64 n,cmp] w fun e w'=>e=.returned (.tuple #[])∧kN.R 101 w' base ok (.slice (some ⟨g,0,none⟩) N cap) (P++Y++Q++X++S)∧w.grownBy w' (some g):=by
 subst ha hb hn
 have hl:=(Kd.c03 hR).1
 simp only [Y02] at hl
 have:=swapT_any g N cap P.length (P.length+X.length+Q.length) X.length base ok _ cmp w hR (by omega) (by omega) hN
 rw [Jb8 mz P X Q Y S h] at this
 exact this
theorem rotT_any (g N cap base:Nat) (ok:Nat→Prop) (P X Y S:List Mk) (cmp:Value) (w:World) (hR:kN.R 101 w base ok (.slice (some ⟨g,0,none⟩) N cap) (P++X++Y++S)) (hX:0<X.length) (hY:0<Y.length) (hN:N≤10000000000000) (a m b:Nat) (ha:a=P.length) (hm:m=P.length+X.length) (hb:b=P.length+X.length+Y.length) :
  Calls Tryz.prog 125 #[.slice (some ⟨g,0,none⟩) N cap,.int .i64 a,.int .i64 m,.int .i64 b,cmp] w fun e w'=>e=.returned (.tuple #[])∧kN.R 101 w' base ok (.slice (some ⟨g,0,none⟩) N cap) (P++Y++X++S)∧w.grownBy w' (some g):=by
 have HR:=Y00 hR
 have hl:=(Kd.c03 hR).1
 simp only [Y02] at hl
 have wi:IntKind.i64.wrap ((m:Int) - a)=(X.length:Int):=by rw [Y0b];omega
 have wj:IntKind.i64.wrap ((b:Int) - m)=(Y.length:Int):=by rw [Y0b];omega
 have HM:=Y08 (Y07 ha (Y07 hm hb))
 have HL:=Y08 hl
 have hmN:m≤N:=by omega
 clear hR ha hm hb hl
 go_enter Tryz.func125,Tryz.ntmps125
 go_wp2
 go_loopw [10,11] (fun i j wr=>∃ A U V B:List Mk,i=.int .i64 U.length∧j=.int .i64 V.length∧J08 (0<U.length∧0<V.length∧A.length+U.length=m∧m+V.length≤N∧A++V++U++B=P++Y++X++S∧kN.R 101 wr base ok (.slice (some ⟨g,0,none⟩) N cap) (A++U++V++B)∧w.grownBy wr (some g))) (fun i j _=>(intOf i).toNat+(intOf j).toNat)
 case atStart=>exact ⟨P,X,Y,S,rfl,rfl,⟨hX,hY,HM.out.2.1.symm,by have:=HM.out;have:=HL.out;omega,rfl,HR.out,⟨rfl,rfl,rfl,Y0e _,fun _ _ _=>rfl⟩⟩⟩
 obtain ⟨A,U,V,B,rfl,rfl,hI⟩:=hrel
 obtain ⟨hU,hV,hAU,hVN,heq,hRr,hgr⟩:=hI.out
 have HI:=Y00 (Y07 heq (Y07 hRr hgr))
 generalize hi:U.length=i at *
 generalize hj:V.length=j at *
 generalize hp:A.length=p at *
 have HH:=Y08 (Y07 hi (Y07 hj (Y07 hp (Y07 hAU hVN))))
 have w1:IntKind.i64.wrap ((m:Int) - (i:Int))=(p:Int):=by rw [Y0b];omega
 clear hI heq hRr hgr hi hj hp hAU hVN
 by_cases hij:i=j
 ·subst hij
  have hb:((i:Int) != (i:Int))=false:=by simp
  have HC:=Y08 (fun w' h=>swapT_split g N cap base ok A U [] V B cmp w' (by have:=HH.out;omega) h hN p m i (by have:=HH.out;omega) (by have:=HH.out;simp;omega) (by have:=HH.out;omega))
  go_wp2_with fail
  refine (HC.out wr (by simpa using HI.out.2.1)).mono ?_
  rintro e w5 ⟨rfl,hR5,hg5⟩
  go_wp2_with fail
  go_end0
  refine ⟨rfl,?_,HI.out.2.2.both hg5⟩
  rw [← HI.out.1]
  simpa using hR5
 have hb:((i:Int) != (j:Int))=true:=by simp;omega
 by_cases hgt:j<i
 ·have hgtI:(j:Int)<(i:Int):=by omega
  obtain ⟨dd,hdd⟩:∃ dd,dd=i - j:=⟨_,rfl⟩
  have w2:IntKind.i64.wrap ((i:Int) - (j:Int))=(dd:Int):=by rw [Y0b];have:=HH.out;omega
  have HDD:=Y08 hdd
  clear hdd
  have hX1:A++U++V++B=A++U.take j++U.drop j++V++B:=by simp
  have HC:=Y08 (fun w' h=>swapT_split g N cap base ok A (U.take j) (U.drop j) V B cmp w' (by have:=HH.out;simp;omega) h hN p m j (by have:=HH.out;omega) (by have:=HH.out;simp;omega) (by have:=HH.out;simp;omega))
  have HX1:=Y08 hX1
  clear hX1 hij
  go_wp2_with fail
  refine (HC.out wr (by rw [← HX1.out];exact HI.out.2.1)).mono ?_
  rintro e w5 ⟨rfl,hR5,hg5⟩
  have HR5:=Y00 (Y07 hR5 hg5)
  clear hR5 hg5
  go_wp2_with fail
  refine ⟨⟨A++V,U.drop j,U.take j,B,?_,?_,⟨?_,?_,?_,?_,?_,HR5.out.1,HI.out.2.2.both HR5.out.2⟩⟩,?_⟩
  ·have:=HH.out;have:=HDD.out;rw [Y0p];congr 1;omega
  ·have:=HH.out;rw [Y0o];congr 1;omega
  ·have:=HH.out;rw [Y0p];omega
  ·have:=HH.out;rw [Y0o];omega
  ·have:=HH.out;rw [Y02,Y0p];omega
  ·have:=HH.out;rw [Y0o];omega
  ·rw [← HI.out.1];simp
  have:=HH.out;have:=HDD.out;simp [intOf];omega
 have hlt:i<j:=by omega
 have hltI:¬ ((j:Int)<(i:Int)):=by omega
 have hltI2:(i:Int)≤(j:Int):=by omega
 obtain ⟨dd,hdd⟩:∃ dd,dd=j - i:=⟨_,rfl⟩
 obtain ⟨q,hq⟩:∃ q,q=m+j - i:=⟨_,rfl⟩
 have w2:IntKind.i64.wrap ((j:Int) - (i:Int))=(dd:Int):=by rw [Y0b];have:=HH.out;omega
 have w3:IntKind.i64.wrap ((m:Int)+(j:Int))=(m:Int)+(j:Int):=by rw [Y0b];have:=HH.out;omega
 have w4:IntKind.i64.wrap ((m:Int)+(j:Int) - (i:Int))=(q:Int):=by rw [Y0b];have:=HH.out;omega
 have HDD:=Y08 (Y07 hdd hq)
 have hX1:A++U++V++B=A++U++V.take (j - i)++V.drop (j - i)++B:=by simp
 have HC:=Y08 (fun w' h=>swapT_split g N cap base ok A U (V.take (j - i)) (V.drop (j - i)) B cmp w' (by have:=HH.out;simp;omega) h hN p q i (by have:=HH.out;omega) (by have:=HH.out;simp;omega) (by have:=HH.out;omega))
 have HX1:=Y08 hX1
 clear hX1 hij hgt hdd hq
 go_wp2_with fail
 refine (HC.out wr (by rw [← HX1.out];exact HI.out.2.1)).mono ?_
 rintro e w5 ⟨rfl,hR5,hg5⟩
 have HR5:=Y00 (Y07 hR5 hg5)
 clear hR5 hg5
 go_wp2_with fail
 refine ⟨⟨A,V.drop (j - i),V.take (j - i),U++B,?_,?_,⟨?_,?_,?_,?_,?_,?_,HI.out.2.2.both HR5.out.2⟩⟩,?_⟩
 ·have:=HH.out;rw [Y0p];congr 1;omega
 ·have:=HH.out;have:=HDD.out;rw [Y0o];congr 1;omega
 ·have:=HH.out;rw [Y0p];omega
 ·have:=HH.out;rw [Y0o];omega
 ·have:=HH.out;rw [Y0p];omega
 ·have:=HH.out;rw [Y0o];omega
 ·rw [← HI.out.1];simp
 ·simpa using HR5.out.1
 have:=HH.out;have:=HDD.out;simp [intOf];omega
theorem insT_any (g N cap base:Nat) (ok:Nat→Prop) (P X S:List Mk) (w:World) (hR:kN.R 101 w base ok (.slice (some ⟨g,0,none⟩) N cap) (P++X++S)) (hok:ok g) (hN:N≤10000000000000) (a b:Nat) (ha:a=P.length) (hb:b=P.length+X.length) :
  Calls Tryz.prog 120 #[.slice (some ⟨g,0,none⟩) N cap,.int .i64 a,.int .i64 b,.func (.func 103) #[] #[]] w fun e w'=>e=.returned (.tuple #[])∧∃ X',X'.Perm X∧J0c cmpN X'∧kN.R 101 w' base ok (.slice (some ⟨g,0,none⟩) N cap) (P++X'++S)∧w.grownBy w' (some g):=by
 have HR:=Y00 hR
 have hl:=(Kd.c03 hR).1
 simp only [Y02] at hl
 have wa:IntKind.i64.wrap ((a:Int)+1)=((a+1:Nat):Int):=by rw [Y0b];omega
 have HM:=Y08 (Y07 ha (Y07 hb hl))
 clear hR ha hb hl
 cases X with
 | nil =>
  go_enter Tryz.func120,Tryz.ntmps120
  go_wp2
  go_loopw [8] (fun i wr=>i=.int .i64 ((a+1:Nat):Int)∧wr=w) (fun i _=>0)
  case atStart=>exact ⟨rfl,rfl⟩
  obtain ⟨rfl,rfl⟩:=hrel
  have hnl:¬ (((a+1:Nat):Int)<(b:Int)):=by have:=HM.out;simp at this;omega
  have hnl2:(b:Int)≤((a+1:Nat):Int):=by omega
  go_wp2_with fail
  go_end0
  exact ⟨rfl,List.Pairwise.nil,by simpa using HR.out,⟨rfl,rfl,rfl,Y0e _,fun _ _ _=>rfl⟩⟩
 | cons x0 X0=>?_
 go_enter Tryz.func120,Tryz.ntmps120
 go_wp2
 go_loopw [8] (fun i wr=>∃ (k:Nat) (Z R:List Mk),i=.int .i64 k∧J08 (k=a+Z.length∧0<Z.length∧(Z++R).Perm (x0::X0)∧J0c cmpN Z∧kN.R 101 wr base ok (.slice (some ⟨g,0,none⟩) N cap) (P++Z++R++S)∧w.grownBy wr (some g))) (fun i _=>b - (intOf i).toNat)
 case atStart=>exact ⟨a+1,[x0],X0,by go_num,⟨rfl,by simp,List.Perm.refl _,List.pairwise_singleton _ _,by simpa using HR.out,⟨rfl,rfl,rfl,Y0e _,fun _ _ _=>rfl⟩⟩⟩
 obtain ⟨k,Z,R,rfl,hI⟩:=hrel
 by_cases hlt:k<b
 rotate_left
 ·have hlt':¬ ((k:Int)<(b:Int)):=by omega
  have hle':(b:Int)≤(k:Int):=by omega
  go_wp2_with fail
  go_end0
  obtain ⟨h1,h2,h3,h4,h5,h6⟩:=hI.out
  have hR0:R=[]:=by
   have h:=h3.length_eq
   have:=HM.out
   simp only [Y02,Y0z] at h this
   exact List.eq_nil_of_length_eq_zero (by omega)
  subst hR0
  exact ⟨rfl,Z,by simpa using h3,h4,by simpa using h5,h6⟩
 have hlt':(k:Int)<(b:Int):=by omega
 cases R with
 | nil =>
  exfalso
  have h:=hI.out.2.2.1.length_eq
  have:=HM.out
  have:=hI.out.1
  simp at h
  simp only [Y0z] at *
  omega
 | cons x R=>?_
 have wk:IntKind.i64.wrap ((k:Int)+1)=(k:Int)+1:=by rw [Y0b];have:=HM.out;simp only [Y0z] at this;omega
 have FIN:=Y08 (fun (Z1 Z2:List Mk) (V:World) (hz:Z=Z1++Z2) (h2:∀ z ∈ Z2,cmpN x z≤0) (h1:∀ y,Z1.getLast?=some y→cmpN y x≤0) (hr:kN.R 101 V base ok (.slice (some ⟨g,0,none⟩) N cap) (P++Z1++x::Z2++R++S)) (hg:w.grownBy V (some g)) =>
  show ∃ (k1:Nat) (Z' R':List Mk),Value.int .i64 ((k:Int)+1)=.int .i64 (k1:Int)∧J08 (k1=a+Z'.length∧0<Z'.length∧(Z'++R').Perm (x0::X0)∧J0c cmpN Z'∧kN.R 101 V base ok (.slice (some ⟨g,0,none⟩) N cap) (P++Z'++R'++S)∧w.grownBy V (some g)) from
  ⟨k+1,Z1++x::Z2,R,by go_num,⟨by have:=hI.out.1;rw [hz] at this;simp at this ⊢;omega,by simp;omega,by
   have hp:=hI.out.2.2.1
   rw [hz] at hp
   refine List.Perm.trans ?_ hp
   simp only [Y0d,List.cons_append]
   exact List.Perm.append_left _ (List.perm_middle (l₁:=Z2) (l₂:=R) (a:=x)).symm,J4c ordN trivial (fun _ _=>trivial) (by rw [← hz];exact hI.out.2.2.2.1) h2 h1,by simpa using hr,hg⟩⟩)
 go_wp2_with fail
 go_loopw [9] (fun j wr=>∃ (q:Nat) (Z1 Z2:List Mk),j=.int .i64 q∧J08 (q=a+Z1.length∧Z=Z1++Z2∧(∀ z ∈ Z2,cmpN x z≤0)∧kN.R 101 wr base ok (.slice (some ⟨g,0,none⟩) N cap) (P++Z1++x::Z2++R++S)∧w.grownBy wr (some g))) (fun j _=>(intOf j).toNat)
 case atStart=>exact ⟨k,Z,[],rfl,⟨hI.out.1,by simp,by simp,by simpa using hI.out.2.2.2.2.1,hI.out.2.2.2.2.2⟩⟩
 obtain ⟨q,Z1,Z2,rfl,hJ⟩:=hrel
 rcases List.eq_nil_or_concat Z1 with rfl | ⟨Z0,y,rfl⟩
 ·have hqa:¬ ((a:Int)<(q:Int)):=by have:=hJ.out.1;simp at this;omega
  have hqa2:(q:Int)≤(a:Int):=by omega
  go_upto_region 4 with fail
  refine sr1 17 (fun _=>True) [] trivial fun hJ0=>?_
  refine pv 0 ?_
  refine pv 1 ?_
  refine pv 2 ?_
  refine pv 3 ?_
  refine uv 4 ?_
  refine uv 5 ?_
  refine uv 6 ?_
  refine uv 7 ?_
  refine uv 8 ?_
  refine uv 9 ?_
  refine uv 10 ?_
  refine uv 11 ?_
  refine uv 12 ?_
  refine uv 13 ?_
  refine uv 14 ?_
  refine uv 15 ?_
  refine pv 16 ?_
  refine dn0 ?_
  go_wp2_with fail
  refine ⟨FIN.out [] Z2 _ hJ.out.2.1 hJ.out.2.2.1 (by simp) (Kd.c0b hJ.out.2.2.2.1) (hJ.out.2.2.2.2.both (J0b (J05 (Y0f _ _)))),by simp [intOf];omega⟩
 obtain ⟨hq,hz,h2,hRr,hgr⟩:=hJ.out
 obtain ⟨r,hr⟩:∃ r,r=a+Z0.length:=⟨_,rfl⟩
 have hqr:q=r+1:=by simp at hq;omega
 have hrow:P++Z0.concat y++x::Z2++R++S=(P++Z0)++y::x::(Z2++R++S):=by simp
 rw [hrow] at hRr
 have hlen:=(Kd.c03 hRr).1
 simp only [Y02,Y0z] at hlen
 have hPa:=HM.out.1
 have gx:((P++Z0)++y::x::(Z2++R++S)).getD q mz=x:=by
  rw [Y01,Y09 (by simp;omega),Y02,show q - (P.length+Z0.length)=1 by omega];rfl
 have gy:((P++Z0)++y::x::(Z2++R++S)).getD r mz=y:=by
  rw [Y01,Y09 (by simp;omega),Y02,show r - (P.length+Z0.length)=0 by omega];rfl
 obtain ⟨⟨c0,c1,c2,c3,cok⟩,_,_⟩:=J18 hRr (i:=q) (by omega)
 obtain ⟨⟨d0,d1,d2,d3,dok⟩,_,_⟩:=J18 hRr (i:=r) (by omega)
 rw [gx] at c0 c1 c2 c3 cok
 rw [gy] at d0 d1 d2 d3 dok
 have HJ:=Y00 (Y07 hz (Y07 h2 (Y07 hRr hgr)))
 have HQ:=Y08 (Y07 hr (Y07 hqr hlen))
 have haq:(a:Int)<(q:Int):=by omega
 have hq0:(0:Int)≤(q:Int):=by omega
 have hqN:(q:Int)<(N:Int):=by omega
 have wq:IntKind.i64.wrap ((q:Int) - 1)=(r:Int):=by rw [Y0b];omega
 have hr0:(0:Int)≤(r:Int):=by omega
 have hrN:(r:Int)<(N:Int):=by omega
 clear hq hz h2 hRr hgr hr hqr hrow hlen hPa gx gy hJ
 go_upto_region 4 with fail
 refine sr1 17 (fun w'=>w'.cell? ⟨g,q*4,none⟩=some (.int .i64 x.1)∧w'.cell? ⟨g,q*4+1,none⟩=some (.int .i64 x.2.1)∧w'.cell? ⟨g,q*4+2,none⟩=some (.int .i64 x.2.2.1)∧w'.cell? ⟨g,q*4+3,none⟩=some (.int .i64 x.2.2.2)∧w'.cell? ⟨g,r*4,none⟩=some (.int .i64 y.1)∧w'.cell? ⟨g,r*4+1,none⟩=some (.int .i64 y.2.1)∧w'.cell? ⟨g,r*4+2,none⟩=some (.int .i64 y.2.2.1)∧w'.cell? ⟨g,r*4+3,none⟩=some (.int .i64 y.2.2.2)) [] ⟨c0,c1,c2,c3,d0,d1,d2,d3⟩ fun hJ0=>?_
 have HD:=Y00 (Y07 (Kd.c0b HJ.out.2.2.1) (HJ.out.2.2.2.both (J0b (J05 (Y0f wr.heap.size wr)))))
 clear c0 c1 c2 c3 d0 d1 d2 d3
 generalize wr.drew=wd at *
 refine pv 0 ?_
 refine pv 1 ?_
 refine pv 2 ?_
 refine pv 3 ?_
 refine pv 4 ?_
 refine pv 5 ?_
 refine pv 6 ?_
 refine pv 7 ?_
 refine tv8 8 ?_
 refine pv 9 ?_
 refine pv 10 ?_
 refine pv 11 ?_
 refine pv 12 ?_
 refine tv8 13 ?_
 refine ov 14 fun K hK=>?_
 have CM:=J6c x y (by assumption) (by assumption) wd
 simp only [mkV] at CM
 refine gv0 Tryz.func103 #[.agg #[.int .i64 x.1,.int .i64 x.2.1,.int .i64 x.2.2.1,.int .i64 x.2.2.2],.agg #[.int .i64 y.1,.int .i64 y.2.1,.int .i64 y.2.2.1,.int .i64 y.2.2.2]] ?_
 refine CM.mono ?_
 clear CM
 rintro e w5 ⟨rfl,hb5⟩
 have HS5:=Y00 (Y07 (Kd.c01 HD.out.1 hb5) (HD.out.2.both (J0b hb5)))
 refine ⟨_,rfl,hK.out _ _ (st8 hb5 hJ0) (fun hJ0=>?_)⟩
 clear hb5 HD
 by_cases hcx:cmpN x y<0
 rotate_left
 ·skip
  have hcd:decide (cmpN x y<0)=false:=Y0s hcx
  have hcg:0≤cmpN x y:=by omega
  clear hK K
  refine nm0 _ ?_
  refine pv 15 ?_
  refine pv 16 ?_
  refine dn0 ?_
  have HCX:=Y08 hcx
  go_wp2_with fail
  refine ⟨FIN.out (Z0.concat y) Z2 _ HJ.out.1 HJ.out.2.1 (fun y' hy'=>?_) (by have h:=HS5.out.1;simpa using h) HS5.out.2,by simp [intOf];omega⟩
  simp at hy'
  subst hy'
  exact ordN.le_of_not trivial trivial HCX.out
 have hcd:decide (cmpN x y<0)=true:=Y0r hcx
 clear hK K
 refine nm0 _ ?_
 refine pv 15 ?_
 refine pv 16 ?_
 refine dn0 ?_
 have HCX:=Y08 hcx
 clear hJ0
 obtain ⟨⟨c0,c1,c2,c3,cok⟩,cf,_⟩:=J18 (Kd.c0b HS5.out.1) (i:=q) (by have:=HQ.out;omega)
 obtain ⟨⟨d0,d1,d2,d3,dok⟩,_,_⟩:=J18 (Kd.c0b HS5.out.1) (i:=r) (by have:=HQ.out;omega)
 have hPa:=HM.out.1
 have gx:((P++Z0)++y::x::(Z2++R++S)).getD q mz=x:=by
  have:=HQ.out
  rw [Y01,Y09 (by simp;omega),Y02,show q - (P.length+Z0.length)=1 by omega];rfl
 have gy:((P++Z0)++y::x::(Z2++R++S)).getD r mz=y:=by
  have:=HQ.out
  rw [Y01,Y09 (by simp;omega),Y02,show r - (P.length+Z0.length)=0 by omega];rfl
 rw [gx] at c0 c1 c2 c3 cok
 rw [gy] at d0 d1 d2 d3 dok
 have f0:w5.drew.frozen? ⟨g,q*4,none⟩=false:=cf 0
 have f1:w5.drew.frozen? ⟨g,q*4+1,none⟩=false:=cf 1
 have f2:w5.drew.frozen? ⟨g,q*4+2,none⟩=false:=cf 2
 have f3:w5.drew.frozen? ⟨g,q*4+3,none⟩=false:=cf 3
 clear gx gy hPa cf
 go_upto_region 6 with fail
 refine sr1 18 (fun w'=>w'.cell? ⟨g,q*4,none⟩=some (.int .i64 x.1)∧w'.cell? ⟨g,q*4+1,none⟩=some (.int .i64 x.2.1)∧w'.cell? ⟨g,q*4+2,none⟩=some (.int .i64 x.2.2.1)∧w'.cell? ⟨g,q*4+3,none⟩=some (.int .i64 x.2.2.2)∧w'.cell? ⟨g,r*4,none⟩=some (.int .i64 y.1)∧w'.cell? ⟨g,r*4+1,none⟩=some (.int .i64 y.2.1)∧w'.cell? ⟨g,r*4+2,none⟩=some (.int .i64 y.2.2.1)∧w'.cell? ⟨g,r*4+3,none⟩=some (.int .i64 y.2.2.2)) [15,17] ⟨c0,c1,c2,c3,d0,d1,d2,d3⟩ fun hJ0=>?_
 have HD:=Y00 (Y07 (Kd.c0b HS5.out.1) (HS5.out.2.both (J0b (J05 (Y0f w5.heap.size w5)))))
 clear c0 c1 c2 c3 d0 d1 d2 d3
 generalize w5.drew=wd5 at *
 refine pv 0 ?_
 refine pv 1 ?_
 refine pv 2 ?_
 refine pv 3 ?_
 refine pv 4 ?_
 refine pv 5 ?_
 refine pv 6 ?_
 refine pv 7 ?_
 refine pv 8 ?_
 refine tv8 9 ?_
 refine pv 10 ?_
 refine pv 11 ?_
 refine pv 12 ?_
 refine tv8 13 ?_
 refine pv 14 ?_
 obtain ⟨_,_,hst⟩:=J18 HD.out.1 (i:=q) (by have:=HQ.out;omega)
 have HST:=Y00 (hst y (by assumption))
 clear hst
 refine la0 15 (bs 18 65535) (N:=none) fun K hK=>?_
 refine sk0 ?_
 refine hK.out _ _ ?_
 clear hK K
 have h6:kN.R 101 ((((wd5.setCell ⟨g,q*4,none⟩ (.int .i64 y.1)).setCell ⟨g,q*4+1,none⟩ (.int .i64 y.2.1)).setCell ⟨g,q*4+2,none⟩ (.int .i64 y.2.2.1)).setCell ⟨g,q*4+3,none⟩ (.int .i64 y.2.2.2)) base ok (.slice (some ⟨g,0,none⟩) N cap) (((P++Z0)++y::x::(Z2++R++S)).set q y)∧w.grownBy ((((wd5.setCell ⟨g,q*4,none⟩ (.int .i64 y.1)).setCell ⟨g,q*4+1,none⟩ (.int .i64 y.2.1)).setCell ⟨g,q*4+2,none⟩ (.int .i64 y.2.2.1)).setCell ⟨g,q*4+3,none⟩ (.int .i64 y.2.2.2)) (some g):=⟨HST.out.1,HD.out.2.both HST.out.2⟩
 have H6:=Y00 h6
 clear h6 hJ0 f0 f1 f2 f3
 generalize ((((wd5.setCell ⟨g,q*4,none⟩ (.int .i64 y.1)).setCell ⟨g,q*4+1,none⟩ (.int .i64 y.2.1)).setCell ⟨g,q*4+2,none⟩ (.int .i64 y.2.2.1)).setCell ⟨g,q*4+3,none⟩ (.int .i64 y.2.2.2))=w6 at *
 obtain ⟨⟨z0,z1,z2,z3,zok⟩,zf,hz⟩:=J18 H6.out.1 (i:=r) (by have:=HQ.out;omega)
 have g0:w6.frozen? ⟨g,r*4,none⟩=false:=zf 0
 have g1:w6.frozen? ⟨g,r*4+1,none⟩=false:=zf 1
 have g2:w6.frozen? ⟨g,r*4+2,none⟩=false:=zf 2
 have g3:w6.frozen? ⟨g,r*4+3,none⟩=false:=zf 3
 have HZ:=Y00 (hz x (by assumption))
 clear hz zf
 generalize (((P++Z0)++y::x::(Z2++R++S)).set q y).getD r mz=pq at *
 refine pv 16 ?_
 refine la0 17 (bs 18 262143) (N:=none) fun K hK=>?_
 refine sk0 ?_
 refine hK.out _ _ ?_
 clear hK K
 refine dn0 ?_
 have hset:(((P++Z0)++y::x::(Z2++R++S)).set q y).set r x=P++Z0++x::(y::Z2)++R++S:=by
  have h1:=HQ.out
  have h2:=HM.out.1
  rw [List.set_append_right _ _ (by simp;omega),Y02,show q - (P.length+Z0.length)=1 by omega]
  rw [List.set_append_right _ _ (by simp;omega),Y02,show r - (P.length+Z0.length)=0 by omega]
  simp
 have H7:=Y00 (show kN.R 101 ((((w6.setCell ⟨g,r*4,none⟩ (.int .i64 x.1)).setCell ⟨g,r*4+1,none⟩ (.int .i64 x.2.1)).setCell ⟨g,r*4+2,none⟩ (.int .i64 x.2.2.1)).setCell ⟨g,r*4+3,none⟩ (.int .i64 x.2.2.2)) base ok (.slice (some ⟨g,0,none⟩) N cap) (P++Z0++x::(y::Z2)++R++S)∧w.grownBy ((((w6.setCell ⟨g,r*4,none⟩ (.int .i64 x.1)).setCell ⟨g,r*4+1,none⟩ (.int .i64 x.2.1)).setCell ⟨g,r*4+2,none⟩ (.int .i64 x.2.2.1)).setCell ⟨g,r*4+3,none⟩ (.int .i64 x.2.2.2)) (some g) from ⟨by rw [← hset];exact HZ.out.1,H6.out.2.both HZ.out.2⟩)
 clear hset
 go_wp2_with fail
 refine ⟨⟨r,Z0,y::Z2,by first | rfl | (rw [wq]),⟨HQ.out.1,by rw [HJ.out.1];simp,fun z hz=>?_,H7.out.1,H7.out.2⟩⟩,by have:=HQ.out;simp [intOf];omega⟩
 rcases List.mem_cons.1 hz with rfl | hz
 ·exact Int.le_of_lt HCX.out
 exact HJ.out.2.1 z hz
theorem J7o {a b c:Mk} (h:cmpN a b≤0) (k:cmpN b c<0):cmpN a c<0:=by
 have h1:=J7m h (Int.le_of_lt k)
 by_cases h2:cmpN a c=0
 ·have:=J1x.1 h2
  subst this
  have h3:=J3v a b
  omega
 omega
theorem sorted_getD {l:List Mk} (hs:J0c cmpN l) {i j:Nat} (h:i≤j) (hj:j<l.length):cmpN (l.getD i mz) (l.getD j mz)≤0:=by
 rw [Y01,Y01,Y05 (by omega),Y05 hj]
 rcases Nat.lt_or_eq_of_le h with h | h
 ·exact List.pairwise_iff_getElem.1 hs i j (by omega) hj h
 subst h;exact Int.le_of_eq (J1x.2 rfl)
def MergePost (g N cap base:Nat) (ok:Nat→Prop) (P X Y S:List Mk) (w:World) (e:Ending) (w':World):Prop :=
 e=.returned (.tuple #[])∧∃ Z,Z.Perm (X++Y)∧J0c cmpN Z∧kN.R 101 w' base ok (.slice (some ⟨g,0,none⟩) N cap) (P++Z++S)∧w.grownBy w' (some g)
theorem sym_one (g N cap base:Nat) (ok:Nat→Prop) (P Y S:List Mk) (x:Mk) (w:World) (hR:kN.R 101 w base ok (.slice (some ⟨g,0,none⟩) N cap) (P++x::Y++S)) (hY:0<Y.length) (hs:J0c cmpN Y) (hN:N≤10000000000000) (a m b:Nat) (ha:a=P.length) (hm:m=P.length+1) (hb:b=P.length+1+Y.length) :
  Calls Tryz.prog 121 #[.slice (some ⟨g,0,none⟩) N cap,.int .i64 a,.int .i64 m,.int .i64 b,.func (.func 103) #[] #[]] w (MergePost g N cap base ok P [x] Y S w):=by
 have HR:=Y00 hR
 have hl:=(Kd.c03 hR).1
 simp only [Y02,Y0z] at hl
 have wi:IntKind.i64.wrap ((m:Int) - a)=1:=by rw [Y0b];omega
 have HM:=Y08 (Y07 ha (Y07 hm (Y07 hb hl)))
 clear hR ha hm hb hl
 go_enter Tryz.func121,Tryz.ntmps121
 go_wp2
 go_loopw [10,11] (fun i j wr=>∃ p q:Nat,i=.int .i64 p∧j=.int .i64 q∧m≤p∧p≤q∧q≤b∧J08 (kN.R 101 wr base ok (.slice (some ⟨g,0,none⟩) N cap) (P++x::Y++S)∧w.grownBy wr (some g)∧(∀ k,m≤k→k<p→cmpN (Y.getD (k - m) mz) x<0)∧(∀ k,q≤k→k<b→¬ cmpN (Y.getD (k - m) mz) x<0))) (fun i j _=>(intOf j).toNat - (intOf i).toNat)
 case atStart=>exact ⟨m,b,rfl,rfl,Y0e _,by have:=HM.out;omega,Y0e _,HR.out,⟨rfl,rfl,rfl,Y0e _,fun _ _ _=>rfl⟩,fun k h1 h2=>by omega,fun k h1 h2=>by omega⟩
 obtain ⟨p,q,rfl,rfl,hmp,hpq,hqb,hI⟩:=hrel
 by_cases hlt:p<q
 ·have hltI:(p:Int)<(q:Int):=by omega
  have hM:=HM.out
  obtain ⟨h,hh⟩:∃ h,h=(p+q) / 2:=⟨_,rfl⟩
  have w1:IntKind.i64.wrap ((p:Int)+(q:Int))=(p:Int)+(q:Int):=by rw [Y0b];omega
  have w2:IntKind.u64.wrap ((p:Int)+(q:Int))=(p:Int)+(q:Int):=by simp only [IntKind.wrap];simp [IntKind.bits,IntKind.signed];omega
  have w3:IntKind.i64.wrap (((p:Int)+(q:Int)) / 2)=(h:Int):=by rw [Y0b];omega
  have w4:IntKind.i64.wrap ((h:Int)+1)=(h:Int)+1:=by rw [Y0b];omega
  have gy:(P++x::Y++S).getD h mz=Y.getD (h - m) mz:=by
   rw [Y01,Y0d,Y09 (by omega),List.cons_append,show h - P.length=(h - m)+1 by omega,List.getElem?_cons_succ,Y0a (by omega),Y01]
  have gx:(P++x::Y++S).getD a mz=x:=by
   rw [Y01,Y0d,Y09 (by omega),show a - P.length=0 by omega];rfl
  obtain ⟨⟨c0,c1,c2,c3,cok⟩,_,_⟩:=J18 hI.out.1 (i:=h) (by omega)
  obtain ⟨⟨d0,d1,d2,d3,dok⟩,_,_⟩:=J18 hI.out.1 (i:=a) (by omega)
  rw [gy] at c0 c1 c2 c3 cok
  rw [gx] at d0 d1 d2 d3 dok
  have hh0:(0:Int)≤(h:Int):=by omega
  have hhN:(h:Int)<(N:Int):=by omega
  have ha0:(0:Int)≤(a:Int):=by omega
  have haN:(a:Int)<(N:Int):=by omega
  generalize hy:Y.getD (h - m) mz=y at *
  have HY:=Y08 (Y07 hh hy)
  clear gy gx hM hh hy
  go_upto_region 5 with fail
  refine sr1 11 (fun w'=>w'.cell? ⟨g,h*4,none⟩=some (.int .i64 y.1)∧w'.cell? ⟨g,h*4+1,none⟩=some (.int .i64 y.2.1)∧w'.cell? ⟨g,h*4+2,none⟩=some (.int .i64 y.2.2.1)∧w'.cell? ⟨g,h*4+3,none⟩=some (.int .i64 y.2.2.2)∧w'.cell? ⟨g,a*4,none⟩=some (.int .i64 x.1)∧w'.cell? ⟨g,a*4+1,none⟩=some (.int .i64 x.2.1)∧w'.cell? ⟨g,a*4+2,none⟩=some (.int .i64 x.2.2.1)∧w'.cell? ⟨g,a*4+3,none⟩=some (.int .i64 x.2.2.2)) [] ⟨c0,c1,c2,c3,d0,d1,d2,d3⟩ fun hJ0=>?_
  have HD:=Y00 (Y07 (Kd.c0b hI.out.1) (hI.out.2.1.both (J0b (J05 (Y0f wr.heap.size wr)))))
  clear c0 c1 c2 c3 d0 d1 d2 d3
  generalize wr.drew=wd at *
  refine pv 0 ?_
  refine pv 1 ?_
  refine pv 2 ?_
  refine pv 3 ?_
  refine tv8 4 ?_
  refine pv 5 ?_
  refine pv 6 ?_
  refine pv 7 ?_
  refine tv8 8 ?_
  refine ov 9 fun K hK=>?_
  have CM:=J6c y x (by assumption) (by assumption) wd
  simp only [mkV] at CM
  refine gv0 Tryz.func103 #[.agg #[.int .i64 y.1,.int .i64 y.2.1,.int .i64 y.2.2.1,.int .i64 y.2.2.2],.agg #[.int .i64 x.1,.int .i64 x.2.1,.int .i64 x.2.2.1,.int .i64 x.2.2.2]] ?_
  refine CM.mono ?_
  clear CM
  rintro e w5 ⟨rfl,hb5⟩
  have HS5:=Y00 (Y07 (Kd.c01 HD.out.1 hb5) (HD.out.2.both (J0b hb5)))
  refine ⟨_,rfl,hK.out _ _ (st8 hb5 hJ0) (fun hJ0=>?_)⟩
  clear hb5 HD
  clear hK K
  refine nm0 _ ?_
  refine pv 10 ?_
  refine dn0 ?_
  clear hJ0
  have HCX:=Y08 (Int.lt_or_le (cmpN y x) 0)
  by_cases hcx:cmpN y x<0
  ·have hcd:decide (cmpN y x<0)=true:=Y0r hcx
   have HX:=Y08 hcx
   go_wp2_with fail
   have hY2:=HY.out
   have hM:=HM.out
   refine ⟨⟨h+1,q,by go_num,rfl,by omega,by omega,hqb,HS5.out.1,HS5.out.2,fun k hk1 hk2=>?_,hI.out.2.2.2⟩,by simp [intOf];omega⟩
   refine J7o (sorted_getD hs (show k - m≤h - m by omega) (by omega)) ?_
   rw [hY2.2];exact HX.out
  have hcd:decide (cmpN y x<0)=false:=Y0s hcx
  have hcg:0≤cmpN y x:=by omega
  have HX:=Y08 hcx
  go_wp2_with fail
  have hY2:=HY.out
  have hM:=HM.out
  refine ⟨⟨p,h,rfl,rfl,hmp,by omega,by omega,HS5.out.1,HS5.out.2,hI.out.2.2.1,fun k hk1 hk2 hk3=>?_⟩,by simp [intOf];omega⟩
  refine HX.out ?_
  rw [← hY2.2]
  exact J7o (sorted_getD hs (show h - m≤k - m by omega) (by omega)) hk3
 have hltI:¬ (p:Int)<(q:Int):=by omega
 have hltI2:(q:Int)≤(p:Int):=by omega
 obtain rfl:p=q:=by omega
 obtain ⟨t,ht⟩:∃ t,p=t+1:=⟨p - 1,by have:=HM.out;omega⟩
 have wp1:IntKind.i64.wrap ((p:Int) - 1)=(t:Int):=by rw [Y0b];have:=HM.out;omega
 have HT:=Y08 (Y07 ht (Y07 hmp hqb))
 clear ht
 go_wp2_with fail
 go_loopw [13] (fun i wr=>∃ (k:Nat) (A B:List Mk),i=.int .i64 k∧J08 (k=a+A.length∧k≤t∧Y=A++B∧kN.R 101 wr base ok (.slice (some ⟨g,0,none⟩) N cap) (P++A++x::B++S)∧w.grownBy wr (some g))) (fun i _=>t - (intOf i).toNat)
 case atStart=>exact ⟨a,[],Y,rfl,⟨rfl,by have:=HM.out;have:=HT.out;omega,rfl,by simpa using hI.out.1,hI.out.2.1⟩⟩
 obtain ⟨k,A,B,rfl,hJ⟩:=hrel
 by_cases hkt:k<t
 rotate_left
 ·have hktI:¬ (k:Int)<(t:Int):=by omega
  have hktI2:(t:Int)≤(k:Int):=by omega
  go_wp2_with fail
  refine bodyPost_ret (results_none rfl _ _ _) rfl ⟨rfl,A++x::B,?_,?_,by rw [← Y0d];exact hJ.out.2.2.2.1,hJ.out.2.2.2.2⟩
  ·rw [hJ.out.2.2.1]
   exact List.perm_middle
  have h1:=hJ.out
  have h2:=HM.out
  have h3:=HT.out
  have hYe:=h1.2.2.1
  refine J4c ordN trivial (fun _ _=>trivial) (by rw [← hYe];exact hs) (fun z hz=>?_) (fun y hy=>?_)
  ·obtain ⟨i,hi,rfl⟩:=List.getElem_of_mem hz
   have hlen:Y.length=A.length+B.length:=by rw [hYe];simp
   have:=hI.out.2.2.2 (p+i) (by omega) (by omega)
   have e:Y.getD (p+i - m) mz=B[i]:=by
    rw [hYe,Y01,Y09 (by omega),show p+i - m - A.length=i by omega,Y05 hi];rfl
   rw [e] at this
   exact ordN.le_of_not trivial trivial (Int.not_lt.2 this)
  have hne:A≠[]:=by rintro rfl;simp at hy
  have hlen:Y.length=A.length+B.length:=by rw [hYe];simp
  have hpos:0<A.length:=List.length_pos_iff.2 hne
  have:=hI.out.2.2.1 (p - 1) (by omega) (by omega)
  have e:Y.getD (p - 1 - m) mz=y:=by
   rw [hYe,Y01,Y0a (by omega),show p - 1 - m=A.length - 1 by omega,← List.getLast?_eq_getElem?,hy];rfl
  rw [e] at this
  exact Int.le_of_lt this
 have hktI:(k:Int)<(t:Int):=by omega
 cases B with
 | nil =>
  exfalso
  have h1:=hJ.out
  have h2:=HM.out
  have h3:=HT.out
  have h4:Y.length=A.length:=by rw [h1.2.2.1];simp
  omega
 | cons y B=>?_
 obtain ⟨hk,hkt2,hYe,hRr,hgr⟩:=hJ.out
 obtain ⟨r,hr⟩:∃ r,r=k+1:=⟨_,rfl⟩
 have hPa:=HM.out.1
 have hrow:P++A++x::(y::B)++S=(P++A)++x::y::(B++S):=by simp
 rw [hrow] at hRr
 have hlen:=(Kd.c03 hRr).1
 simp only [Y02,Y0z] at hlen
 have gx:((P++A)++x::y::(B++S)).getD k mz=x:=by
  rw [Y01,Y09 (by simp;omega),Y02,show k - (P.length+A.length)=0 by omega];rfl
 have gy:((P++A)++x::y::(B++S)).getD r mz=y:=by
  rw [Y01,Y09 (by simp;omega),Y02,show r - (P.length+A.length)=1 by omega];rfl
 obtain ⟨⟨c0,c1,c2,c3,cok⟩,cf,_⟩:=J18 hRr (i:=k) (by omega)
 obtain ⟨⟨d0,d1,d2,d3,dok⟩,_,_⟩:=J18 hRr (i:=r) (by omega)
 rw [gx] at c0 c1 c2 c3 cok
 rw [gy] at d0 d1 d2 d3 dok
 have HQ:=Y08 (Y07 hk (Y07 hr (Y07 hlen (Y07 hPa hYe))))
 have HJ:=Y00 (Y07 hRr hgr)
 have f0:wr.drew.frozen? ⟨g,k*4,none⟩=false:=cf 0
 have f1:wr.drew.frozen? ⟨g,k*4+1,none⟩=false:=cf 1
 have f2:wr.drew.frozen? ⟨g,k*4+2,none⟩=false:=cf 2
 have f3:wr.drew.frozen? ⟨g,k*4+3,none⟩=false:=cf 3
 have wk:IntKind.i64.wrap ((k:Int)+1)=(r:Int):=by rw [Y0b];omega
 have hk0:(0:Int)≤(k:Int):=by omega
 have hkN:(k:Int)<(N:Int):=by omega
 have hr0:(0:Int)≤(r:Int):=by omega
 have hrN:(r:Int)<(N:Int):=by omega
 clear hk hkt2 hYe hRr hgr hr hPa hrow hlen gx gy cf hJ
 go_upto_region 11 with fail
 refine sr1 18 (fun w'=>w'.cell? ⟨g,r*4,none⟩=some (.int .i64 y.1)∧w'.cell? ⟨g,r*4+1,none⟩=some (.int .i64 y.2.1)∧w'.cell? ⟨g,r*4+2,none⟩=some (.int .i64 y.2.2.1)∧w'.cell? ⟨g,r*4+3,none⟩=some (.int .i64 y.2.2.2)∧w'.cell? ⟨g,k*4,none⟩=some (.int .i64 x.1)∧w'.cell? ⟨g,k*4+1,none⟩=some (.int .i64 x.2.1)∧w'.cell? ⟨g,k*4+2,none⟩=some (.int .i64 x.2.2.1)∧w'.cell? ⟨g,k*4+3,none⟩=some (.int .i64 x.2.2.2)) [15,17] ⟨d0,d1,d2,d3,c0,c1,c2,c3⟩ fun hJ0=>?_
 have HD:=Y00 (Y07 (Kd.c0b HJ.out.1) (HJ.out.2.both (J0b (J05 (Y0f wr.heap.size wr)))))
 clear c0 c1 c2 c3 d0 d1 d2 d3
 generalize wr.drew=wd5 at *
 refine pv 0 ?_
 refine pv 1 ?_
 refine pv 2 ?_
 refine pv 3 ?_
 refine pv 4 ?_
 refine pv 5 ?_
 refine pv 6 ?_
 refine pv 7 ?_
 refine pv 8 ?_
 refine tv8 9 ?_
 refine pv 10 ?_
 refine pv 11 ?_
 refine pv 12 ?_
 refine tv8 13 ?_
 refine pv 14 ?_
 obtain ⟨_,_,hst⟩:=J18 HD.out.1 (i:=k) (by have:=HQ.out;omega)
 have HST:=Y00 (hst y (by assumption))
 clear hst
 refine la0 15 (bs 18 65535) (N:=none) fun K hK=>?_
 refine sk0 ?_
 refine hK.out _ _ ?_
 clear hK K
 have h6:kN.R 101 ((((wd5.setCell ⟨g,k*4,none⟩ (.int .i64 y.1)).setCell ⟨g,k*4+1,none⟩ (.int .i64 y.2.1)).setCell ⟨g,k*4+2,none⟩ (.int .i64 y.2.2.1)).setCell ⟨g,k*4+3,none⟩ (.int .i64 y.2.2.2)) base ok (.slice (some ⟨g,0,none⟩) N cap) (((P++A)++x::y::(B++S)).set k y)∧w.grownBy ((((wd5.setCell ⟨g,k*4,none⟩ (.int .i64 y.1)).setCell ⟨g,k*4+1,none⟩ (.int .i64 y.2.1)).setCell ⟨g,k*4+2,none⟩ (.int .i64 y.2.2.1)).setCell ⟨g,k*4+3,none⟩ (.int .i64 y.2.2.2)) (some g):=⟨HST.out.1,HD.out.2.both HST.out.2⟩
 have H6:=Y00 h6
 clear h6 hJ0 f0 f1 f2 f3
 generalize ((((wd5.setCell ⟨g,k*4,none⟩ (.int .i64 y.1)).setCell ⟨g,k*4+1,none⟩ (.int .i64 y.2.1)).setCell ⟨g,k*4+2,none⟩ (.int .i64 y.2.2.1)).setCell ⟨g,k*4+3,none⟩ (.int .i64 y.2.2.2))=w6 at *
 obtain ⟨⟨z0,z1,z2,z3,zok⟩,zf,hz⟩:=J18 H6.out.1 (i:=r) (by have:=HQ.out;omega)
 have g0:w6.frozen? ⟨g,r*4,none⟩=false:=zf 0
 have g1:w6.frozen? ⟨g,r*4+1,none⟩=false:=zf 1
 have g2:w6.frozen? ⟨g,r*4+2,none⟩=false:=zf 2
 have g3:w6.frozen? ⟨g,r*4+3,none⟩=false:=zf 3
 have HZ:=Y00 (hz x (by assumption))
 clear hz zf
 generalize (((P++A)++x::y::(B++S)).set k y).getD r mz=pq at *
 refine pv 16 ?_
 refine la0 17 (bs 18 262143) (N:=none) fun K hK=>?_
 refine sk0 ?_
 refine hK.out _ _ ?_
 clear hK K
 refine dn0 ?_
 have hset:(((P++A)++x::y::(B++S)).set k y).set r x=P++(A++[y])++x::B++S:=by
  have h1:=HQ.out
  rw [List.set_append_right _ _ (by simp;omega),Y02,show k - (P.length+A.length)=0 by omega]
  rw [List.set_append_right _ _ (by simp;omega),Y02,show r - (P.length+A.length)=1 by omega]
  simp
 have H7:=Y00 (show kN.R 101 ((((w6.setCell ⟨g,r*4,none⟩ (.int .i64 x.1)).setCell ⟨g,r*4+1,none⟩ (.int .i64 x.2.1)).setCell ⟨g,r*4+2,none⟩ (.int .i64 x.2.2.1)).setCell ⟨g,r*4+3,none⟩ (.int .i64 x.2.2.2)) base ok (.slice (some ⟨g,0,none⟩) N cap) (P++(A++[y])++x::B++S)∧w.grownBy ((((w6.setCell ⟨g,r*4,none⟩ (.int .i64 x.1)).setCell ⟨g,r*4+1,none⟩ (.int .i64 x.2.1)).setCell ⟨g,r*4+2,none⟩ (.int .i64 x.2.2.1)).setCell ⟨g,r*4+3,none⟩ (.int .i64 x.2.2.2)) (some g) from ⟨by rw [← hset];exact HZ.out.1,H6.out.2.both HZ.out.2⟩)
 clear hset
 go_wp2_with fail
 have h1:=HQ.out
 refine ⟨⟨r,A++[y],B,rfl,⟨by rw [Y02,Y10];omega,by omega,by rw [h1.2.2.2.2];simp,H7.out.1,H7.out.2⟩⟩,by simp [intOf];omega⟩
theorem J7n {a b c:Mk} (h:cmpN a b<0) (k:cmpN b c≤0):cmpN a c<0:=by
 have h1:=J7m (Int.le_of_lt h) k
 by_cases h2:cmpN a c=0
 ·have:=J1x.1 h2
  subst this
  have h3:=J3v a b
  omega
 omega
theorem sym_last (g N cap base:Nat) (ok:Nat→Prop) (P X S:List Mk) (y:Mk) (w:World) (hR:kN.R 101 w base ok (.slice (some ⟨g,0,none⟩) N cap) (P++X++y::S)) (hX:1<X.length) (hs:J0c cmpN X) (hN:N≤10000000000000) (a m b:Nat) (ha:a=P.length) (hm:m=P.length+X.length) (hb:b=P.length+X.length+1) :
  Calls Tryz.prog 121 #[.slice (some ⟨g,0,none⟩) N cap,.int .i64 a,.int .i64 m,.int .i64 b,.func (.func 103) #[] #[]] w (MergePost g N cap base ok P X [y] S w):=by
 have HR:=Y00 hR
 have hl:=(Kd.c03 hR).1
 simp only [Y02,Y0z] at hl
 obtain ⟨n1,hn1⟩:∃ n1,n1=X.length:=⟨_,rfl⟩
 have wi:IntKind.i64.wrap ((m:Int) - a)=(n1:Int):=by rw [Y0b];omega
 have wj:IntKind.i64.wrap ((b:Int) - m)=1:=by rw [Y0b];omega
 have hn2:((n1:Int) == 1)=false:=by simp;omega
 have HM:=Y08 (Y07 ha (Y07 hm (Y07 hb (Y07 hl hX))))
 clear hR ha hm hb hl hX hn1
 go_enter Tryz.func121,Tryz.ntmps121
 go_wp2
 go_loopw [14,15] (fun i j wr=>∃ p q:Nat,i=.int .i64 p∧j=.int .i64 q∧a≤p∧p≤q∧q≤m∧J08 (kN.R 101 wr base ok (.slice (some ⟨g,0,none⟩) N cap) (P++X++y::S)∧w.grownBy wr (some g)∧(∀ k,a≤k→k<p→¬ cmpN y (X.getD (k - a) mz)<0)∧(∀ k,q≤k→k<m→cmpN y (X.getD (k - a) mz)<0))) (fun i j _=>(intOf j).toNat - (intOf i).toNat)
 case atStart=>exact ⟨a,m,rfl,rfl,Y0e _,by have:=HM.out;omega,Y0e _,HR.out,⟨rfl,rfl,rfl,Y0e _,fun _ _ _=>rfl⟩,fun k h1 h2=>by omega,fun k h1 h2=>by omega⟩
 obtain ⟨p,q,rfl,rfl,hap,hpq,hqm,hI⟩:=hrel
 by_cases hlt:p<q
 ·have hltI:(p:Int)<(q:Int):=by omega
  have hM:=HM.out
  obtain ⟨h,hh⟩:∃ h,h=(p+q) / 2:=⟨_,rfl⟩
  have w1:IntKind.i64.wrap ((p:Int)+(q:Int))=(p:Int)+(q:Int):=by rw [Y0b];omega
  have w2:IntKind.u64.wrap ((p:Int)+(q:Int))=(p:Int)+(q:Int):=by simp only [IntKind.wrap];simp [IntKind.bits,IntKind.signed];omega
  have w3:IntKind.i64.wrap (((p:Int)+(q:Int)) / 2)=(h:Int):=by rw [Y0b];omega
  have w4:IntKind.i64.wrap ((h:Int)+1)=(h:Int)+1:=by rw [Y0b];omega
  have gx:(P++X++y::S).getD h mz=X.getD (h - a) mz:=by
   rw [Y01,Y0d,Y09 (by omega),show h - P.length=h - a by omega,Y0a (by omega),Y01]
  have gy:(P++X++y::S).getD m mz=y:=by
   rw [Y01,Y09 (by simp;omega),Y02,show m - (P.length+X.length)=0 by omega];rfl
  obtain ⟨⟨c0,c1,c2,c3,cok⟩,_,_⟩:=J18 hI.out.1 (i:=h) (by omega)
  obtain ⟨⟨d0,d1,d2,d3,dok⟩,_,_⟩:=J18 hI.out.1 (i:=m) (by omega)
  rw [gx] at c0 c1 c2 c3 cok
  rw [gy] at d0 d1 d2 d3 dok
  have hh0:(0:Int)≤(h:Int):=by omega
  have hhN:(h:Int)<(N:Int):=by omega
  have hm0:(0:Int)≤(m:Int):=by omega
  have hmN:(m:Int)<(N:Int):=by omega
  generalize hy:X.getD (h - a) mz=x at *
  have HY:=Y08 (Y07 hh hy)
  clear gy gx hM hh hy
  go_upto_region 17 with fail
  refine sr1 12 (fun w'=>w'.cell? ⟨g,m*4,none⟩=some (.int .i64 y.1)∧w'.cell? ⟨g,m*4+1,none⟩=some (.int .i64 y.2.1)∧w'.cell? ⟨g,m*4+2,none⟩=some (.int .i64 y.2.2.1)∧w'.cell? ⟨g,m*4+3,none⟩=some (.int .i64 y.2.2.2)∧w'.cell? ⟨g,h*4,none⟩=some (.int .i64 x.1)∧w'.cell? ⟨g,h*4+1,none⟩=some (.int .i64 x.2.1)∧w'.cell? ⟨g,h*4+2,none⟩=some (.int .i64 x.2.2.1)∧w'.cell? ⟨g,h*4+3,none⟩=some (.int .i64 x.2.2.2)) [] ⟨d0,d1,d2,d3,c0,c1,c2,c3⟩ fun hJ0=>?_
  have HD:=Y00 (Y07 (Kd.c0b hI.out.1) (hI.out.2.1.both (J0b (J05 (Y0f wr.heap.size wr)))))
  clear c0 c1 c2 c3 d0 d1 d2 d3
  generalize wr.drew=wd at *
  refine pv 0 ?_
  refine pv 1 ?_
  refine pv 2 ?_
  refine pv 3 ?_
  refine tv8 4 ?_
  refine pv 5 ?_
  refine pv 6 ?_
  refine pv 7 ?_
  refine tv8 8 ?_
  refine ov 9 fun K hK=>?_
  have CM:=J6c y x (by assumption) (by assumption) wd
  simp only [mkV] at CM
  refine gv0 Tryz.func103 #[.agg #[.int .i64 y.1,.int .i64 y.2.1,.int .i64 y.2.2.1,.int .i64 y.2.2.2],.agg #[.int .i64 x.1,.int .i64 x.2.1,.int .i64 x.2.2.1,.int .i64 x.2.2.2]] ?_
  refine CM.mono ?_
  clear CM
  rintro e w5 ⟨rfl,hb5⟩
  have HS5:=Y00 (Y07 (Kd.c01 HD.out.1 hb5) (HD.out.2.both (J0b hb5)))
  refine ⟨_,rfl,hK.out _ _ (st8 hb5 hJ0) (fun hJ0=>?_)⟩
  clear hb5 HD
  by_cases hcx:cmpN y x<0
  ·have hcd:decide (cmpN y x<0)=true:=Y0r hcx
   clear hK K
   refine nm0 _ ?_
   refine pv 10 ?_
   refine pv 11 ?_
   refine dn0 ?_
   clear hJ0
   have HX:=Y08 hcx
   go_wp2_with fail
   have hY2:=HY.out
   have hM:=HM.out
   refine ⟨⟨p,h,rfl,rfl,hap,by omega,by omega,HS5.out.1,HS5.out.2,hI.out.2.2.1,fun k hk1 hk2=>?_⟩,by simp [intOf];omega⟩
   refine J7n (b:=x) HX.out ?_
   rw [← hY2.2]
   exact sorted_getD hs (show h - a≤k - a by omega) (by omega)
  skip
  have hcd:decide (cmpN y x<0)=false:=Y0s hcx
  have hcg:0≤cmpN y x:=by omega
  clear hK K
  refine nm0 _ ?_
  refine pv 10 ?_
  refine pv 11 ?_
  refine dn0 ?_
  clear hJ0
  have HX:=Y08 hcx
  go_wp2_with fail
  have hY2:=HY.out
  have hM:=HM.out
  refine ⟨⟨h+1,q,by go_num,rfl,by omega,by omega,hqm,HS5.out.1,HS5.out.2,fun k hk1 hk2 hk3=>?_,hI.out.2.2.2⟩,by simp [intOf];omega⟩
  refine HX.out (J7n hk3 ?_)
  rw [← hY2.2]
  exact sorted_getD hs (show k - a≤h - a by omega) (by omega)
 have hltI:¬ (p:Int)<(q:Int):=by omega
 have hltI2:(q:Int)≤(p:Int):=by omega
 obtain rfl:p=q:=by omega
 have HT:=Y08 (Y07 hap hqm)
 go_wp2_with fail
 go_loopw [17] (fun i wr=>∃ (k:Nat) (A B:List Mk),i=.int .i64 k∧J08 (k=a+A.length∧p≤k∧X=A++B∧kN.R 101 wr base ok (.slice (some ⟨g,0,none⟩) N cap) (P++A++y::B++S)∧w.grownBy wr (some g))) (fun i _=>(intOf i).toNat)
 case atStart=>exact ⟨m,X,[],rfl,⟨by have:=HM.out;omega,hqm,by simp,by simpa using hI.out.1,hI.out.2.1⟩⟩
 obtain ⟨k,A,B,rfl,hJ⟩:=hrel
 by_cases hkt:p<k
 rotate_left
 ·have hktI:¬ (p:Int)<(k:Int):=by omega
  have hktI2:(k:Int)≤(p:Int):=by omega
  go_wp2_with fail
  refine bodyPost_ret (results_none rfl _ _ _) rfl ⟨rfl,A++y::B,?_,?_,by rw [← Y0d];exact hJ.out.2.2.2.1,hJ.out.2.2.2.2⟩
  ·rw [hJ.out.2.2.1]
   exact List.perm_middle.trans (List.perm_append_singleton _ _).symm
  have h1:=hJ.out
  have h2:=HM.out
  have hXe:=h1.2.2.1
  refine J4c ordN trivial (fun _ _=>trivial) (by rw [← hXe];exact hs) (fun z hz=>?_) (fun x hx=>?_)
  ·obtain ⟨i,hi,rfl⟩:=List.getElem_of_mem hz
   have hlen:X.length=A.length+B.length:=by rw [hXe];simp
   have:=hI.out.2.2.2 (p+i) (by omega) (by omega)
   have e:X.getD (p+i - a) mz=B[i]:=by
    rw [hXe,Y01,Y09 (by omega),show p+i - a - A.length=i by omega,Y05 hi];rfl
   rw [e] at this
   exact Int.le_of_lt this
  have hne:A≠[]:=by rintro rfl;simp at hx
  have hlen:X.length=A.length+B.length:=by rw [hXe];simp
  have hpos:0<A.length:=List.length_pos_iff.2 hne
  have:=hI.out.2.2.1 (p - 1) (by omega) (by omega)
  have e:X.getD (p - 1 - a) mz=x:=by
   rw [hXe,Y01,Y0a (by omega),show p - 1 - a=A.length - 1 by omega,← List.getLast?_eq_getElem?,hx];rfl
  rw [e] at this
  exact ordN.le_of_not trivial trivial (by simpa using this)
 have hktI:(p:Int)<(k:Int):=by omega
 rcases List.eq_nil_or_concat A with rfl | ⟨A,x,rfl⟩
 ·exfalso
  have h1:=hJ.out.1
  simp at h1
  omega
 obtain ⟨hk,hkt2,hXe,hRr,hgr⟩:=hJ.out
 obtain ⟨r,hr⟩:∃ r,r=a+A.length:=⟨_,rfl⟩
 have hkr:k=r+1:=by simp at hk;omega
 have hPa:=HM.out.1
 have hrow:P++A.concat x++y::B++S=(P++A)++x::y::(B++S):=by simp
 rw [hrow] at hRr
 have hlen:=(Kd.c03 hRr).1
 simp only [Y02,Y0z] at hlen
 have gx:((P++A)++x::y::(B++S)).getD r mz=x:=by
  rw [Y01,Y09 (by simp;omega),Y02,show r - (P.length+A.length)=0 by omega];rfl
 have gy:((P++A)++x::y::(B++S)).getD k mz=y:=by
  rw [Y01,Y09 (by simp;omega),Y02,show k - (P.length+A.length)=1 by omega];rfl
 obtain ⟨⟨c0,c1,c2,c3,cok⟩,cf,_⟩:=J18 hRr (i:=k) (by omega)
 obtain ⟨⟨d0,d1,d2,d3,dok⟩,_,_⟩:=J18 hRr (i:=r) (by omega)
 rw [gy] at c0 c1 c2 c3 cok
 rw [gx] at d0 d1 d2 d3 dok
 have HQ:=Y08 (Y07 hkr (Y07 hr (Y07 hlen (Y07 hPa hXe))))
 have HJ:=Y00 (Y07 hRr hgr)
 have f0:wr.drew.frozen? ⟨g,k*4,none⟩=false:=cf 0
 have f1:wr.drew.frozen? ⟨g,k*4+1,none⟩=false:=cf 1
 have f2:wr.drew.frozen? ⟨g,k*4+2,none⟩=false:=cf 2
 have f3:wr.drew.frozen? ⟨g,k*4+3,none⟩=false:=cf 3
 have wk:IntKind.i64.wrap ((k:Int) - 1)=(r:Int):=by rw [Y0b];omega
 have hk0:(0:Int)≤(k:Int):=by omega
 have hkN:(k:Int)<(N:Int):=by omega
 have hr0:(0:Int)≤(r:Int):=by omega
 have hrN:(r:Int)<(N:Int):=by omega
 clear hk hkt2 hXe hRr hgr hr hkr hPa hrow hlen gx gy cf hJ
 go_upto_region 23 with fail
 refine sr1 18 (fun w'=>w'.cell? ⟨g,r*4,none⟩=some (.int .i64 x.1)∧w'.cell? ⟨g,r*4+1,none⟩=some (.int .i64 x.2.1)∧w'.cell? ⟨g,r*4+2,none⟩=some (.int .i64 x.2.2.1)∧w'.cell? ⟨g,r*4+3,none⟩=some (.int .i64 x.2.2.2)∧w'.cell? ⟨g,k*4,none⟩=some (.int .i64 y.1)∧w'.cell? ⟨g,k*4+1,none⟩=some (.int .i64 y.2.1)∧w'.cell? ⟨g,k*4+2,none⟩=some (.int .i64 y.2.2.1)∧w'.cell? ⟨g,k*4+3,none⟩=some (.int .i64 y.2.2.2)) [15,17] ⟨d0,d1,d2,d3,c0,c1,c2,c3⟩ fun hJ0=>?_
 have HD:=Y00 (Y07 (Kd.c0b HJ.out.1) (HJ.out.2.both (J0b (J05 (Y0f wr.heap.size wr)))))
 clear c0 c1 c2 c3 d0 d1 d2 d3
 generalize wr.drew=wd5 at *
 refine pv 0 ?_
 refine pv 1 ?_
 refine pv 2 ?_
 refine pv 3 ?_
 refine pv 4 ?_
 refine pv 5 ?_
 refine pv 6 ?_
 refine pv 7 ?_
 refine pv 8 ?_
 refine tv8 9 ?_
 refine pv 10 ?_
 refine pv 11 ?_
 refine pv 12 ?_
 refine tv8 13 ?_
 refine pv 14 ?_
 obtain ⟨_,_,hst⟩:=J18 HD.out.1 (i:=k) (by have:=HQ.out;omega)
 have HST:=Y00 (hst x (by assumption))
 clear hst
 refine la0 15 (bs 18 65535) (N:=none) fun K hK=>?_
 refine sk0 ?_
 refine hK.out _ _ ?_
 clear hK K
 have h6:kN.R 101 ((((wd5.setCell ⟨g,k*4,none⟩ (.int .i64 x.1)).setCell ⟨g,k*4+1,none⟩ (.int .i64 x.2.1)).setCell ⟨g,k*4+2,none⟩ (.int .i64 x.2.2.1)).setCell ⟨g,k*4+3,none⟩ (.int .i64 x.2.2.2)) base ok (.slice (some ⟨g,0,none⟩) N cap) (((P++A)++x::y::(B++S)).set k x)∧w.grownBy ((((wd5.setCell ⟨g,k*4,none⟩ (.int .i64 x.1)).setCell ⟨g,k*4+1,none⟩ (.int .i64 x.2.1)).setCell ⟨g,k*4+2,none⟩ (.int .i64 x.2.2.1)).setCell ⟨g,k*4+3,none⟩ (.int .i64 x.2.2.2)) (some g):=⟨HST.out.1,HD.out.2.both HST.out.2⟩
 have H6:=Y00 h6
 clear h6 hJ0 f0 f1 f2 f3
 generalize ((((wd5.setCell ⟨g,k*4,none⟩ (.int .i64 x.1)).setCell ⟨g,k*4+1,none⟩ (.int .i64 x.2.1)).setCell ⟨g,k*4+2,none⟩ (.int .i64 x.2.2.1)).setCell ⟨g,k*4+3,none⟩ (.int .i64 x.2.2.2))=w6 at *
 obtain ⟨⟨z0,z1,z2,z3,zok⟩,zf,hz⟩:=J18 H6.out.1 (i:=r) (by have:=HQ.out;omega)
 have g0:w6.frozen? ⟨g,r*4,none⟩=false:=zf 0
 have g1:w6.frozen? ⟨g,r*4+1,none⟩=false:=zf 1
 have g2:w6.frozen? ⟨g,r*4+2,none⟩=false:=zf 2
 have g3:w6.frozen? ⟨g,r*4+3,none⟩=false:=zf 3
 have HZ:=Y00 (hz y (by assumption))
 clear hz zf
 generalize (((P++A)++x::y::(B++S)).set k x).getD r mz=pq at *
 refine pv 16 ?_
 refine la0 17 (bs 18 262143) (N:=none) fun K hK=>?_
 refine sk0 ?_
 refine hK.out _ _ ?_
 clear hK K
 refine dn0 ?_
 have hset:(((P++A)++x::y::(B++S)).set k x).set r y=P++A++y::(x::B)++S:=by
  have h1:=HQ.out
  rw [List.set_append_right _ _ (by simp;omega),Y02,show k - (P.length+A.length)=1 by omega]
  rw [List.set_append_right _ _ (by simp;omega),Y02,show r - (P.length+A.length)=0 by omega]
  simp
 have H7:=Y00 (show kN.R 101 ((((w6.setCell ⟨g,r*4,none⟩ (.int .i64 y.1)).setCell ⟨g,r*4+1,none⟩ (.int .i64 y.2.1)).setCell ⟨g,r*4+2,none⟩ (.int .i64 y.2.2.1)).setCell ⟨g,r*4+3,none⟩ (.int .i64 y.2.2.2)) base ok (.slice (some ⟨g,0,none⟩) N cap) (P++A++y::(x::B)++S)∧w.grownBy ((((w6.setCell ⟨g,r*4,none⟩ (.int .i64 y.1)).setCell ⟨g,r*4+1,none⟩ (.int .i64 y.2.1)).setCell ⟨g,r*4+2,none⟩ (.int .i64 y.2.2.1)).setCell ⟨g,r*4+3,none⟩ (.int .i64 y.2.2.2)) (some g) from ⟨by rw [← hset];exact HZ.out.1,H6.out.2.both HZ.out.2⟩)
 clear hset
 go_wp2_with fail
 have h1:=HQ.out
 refine ⟨⟨r,A,x::B,rfl,⟨h1.2.1,by omega,by rw [h1.2.2.2.2];simp,H7.out.1,H7.out.2⟩⟩,by simp [intOf];omega⟩
theorem symT_any (g N cap base:Nat) (ok:Nat→Prop) (hN:N≤10000000000000):∀ (f:Nat) (P X Y S:List Mk) (w:World) (a m b:Nat),X.length+Y.length≤f→0<X.length→0<Y.length→J08 (J0c cmpN X∧J0c cmpN Y∧kN.R 101 w base ok (.slice (some ⟨g,0,none⟩) N cap) (P++X++Y++S))→a=P.length→m=P.length+X.length→b=P.length+X.length+Y.length →
  Calls Tryz.prog 121 #[.slice (some ⟨g,0,none⟩) N cap,.int .i64 a,.int .i64 m,.int .i64 b,.func (.func 103) #[] #[]] w (MergePost g N cap base ok P X Y S w):=by
 intro f
 induction f with
 | zero=>intro P X Y S w a m b hf hX;omega
 | succ f ih =>
  intro P X Y S w a m b hf hX hY hR ha hm hb
  by_cases hX1:X.length=1
  ·obtain ⟨x,rfl⟩:=List.length_eq_one_iff.1 hX1
   exact sym_one g N cap base ok P Y S x w (by simpa using hR.out.2.2) hY hR.out.2.1 hN a m b ha (by simpa using hm) (by simpa using hb)
  by_cases hY1:Y.length=1
  ·obtain ⟨y,rfl⟩:=List.length_eq_one_iff.1 hY1
   exact sym_last g N cap base ok P X S y w (by simpa using hR.out.2.2) (by omega) hR.out.1 hN a m b ha hm (by simpa using hb)
  have HR:=hR
  have hl:=(Kd.c03 hR.out.2.2).1
  simp only [Y02] at hl
  obtain ⟨n1,hn1⟩:∃ n1,n1=X.length:=⟨_,rfl⟩
  obtain ⟨n2,hn2⟩:∃ n2,n2=Y.length:=⟨_,rfl⟩
  obtain ⟨d,hd⟩:∃ d,d=(a+b) / 2:=⟨_,rfl⟩
  have wi:IntKind.i64.wrap ((m:Int) - a)=(n1:Int):=by rw [Y0b];omega
  have wj:IntKind.i64.wrap ((b:Int) - m)=(n2:Int):=by rw [Y0b];omega
  have e1:((n1:Int) == 1)=false:=by simp;omega
  have e2:((n2:Int) == 1)=false:=by simp;omega
  have w1:IntKind.i64.wrap ((a:Int)+(b:Int))=(a:Int)+(b:Int):=by rw [Y0b];omega
  have w2:IntKind.u64.wrap ((a:Int)+(b:Int))=(a:Int)+(b:Int):=by simp only [IntKind.wrap];simp [IntKind.bits,IntKind.signed];omega
  have w3:IntKind.i64.wrap (((a:Int)+(b:Int)) / 2)=(d:Int):=by rw [Y0b];omega
  obtain ⟨nn,hnn⟩:∃ nn,nn=d+m:=⟨_,rfl⟩
  have w4:IntKind.i64.wrap ((d:Int)+(m:Int))=(nn:Int):=by rw [Y0b];omega
  obtain ⟨pp,hpp⟩:∃ pp,nn=pp+1:=⟨nn - 1,by omega⟩
  have w5:IntKind.i64.wrap ((nn:Int) - 1)=(pp:Int):=by rw [Y0b];omega
  have HM:=Y08 (Y07 ha (Y07 hm (Y07 hb (Y07 hl (Y07 hn1 (Y07 hn2 (Y07 hd (Y07 hnn hpp))))))))
  have HS:=Y08 (Y07 hf (Y07 hX (Y07 hY (Y07 hX1 hY1))))
  have IH:=Y08 ih
  obtain ⟨s0,hs0⟩:∃ s0,s0=if d<m then nn - b else a:=⟨_,rfl⟩
  obtain ⟨r0,hr0⟩:∃ r0,r0=if d<m then d else m:=⟨_,rfl⟩
  have HT:=Y08 (show s0≤r0∧a≤s0∧r0≤m∧r0≤d∧nn - b≤s0∧(s0=a∨s0=nn - b)∧(r0=d∨r0=m) from by
   by_cases hmd:d<m
   ·rw [if_pos hmd] at hs0 hr0;omega
   rw [if_neg hmd] at hs0 hr0;omega)
  have HSR:=Y08 (Y07 hs0 hr0)
  have w6:d<m→IntKind.i64.wrap ((nn:Int) - (b:Int))=((nn - b:Nat):Int):=fun h=>by rw [Y0b];omega
  have W6:=Y08 w6
  clear ha hm hb hl hn1 hn2 hd hnn hpp hf hX hY hX1 hY1 ih hs0 hr0 hR w6
  go_enter Tryz.func121,Tryz.ntmps121
  go_upto_if 140 with fail
  go_cut [20,21] from 138 to 146 (fun s20 s21 wx=>s20=.int .i64 s0∧s21=.int .i64 r0∧w=wx)
  case first =>
   by_cases hmd:d<m
   ·have hmdI:(d:Int)<(m:Int):=by omega
    have w6:=W6.out hmd
    go_wp2_with fail
    go_meet
    have h:=HSR.out
    rw [if_pos hmd,if_pos hmd] at h
    exact ⟨by rw [h.1],by rw [h.2],rfl⟩
   have hmdI:¬ ((d:Int)<(m:Int)):=by omega
   have hmdI2:(m:Int)≤(d:Int):=by omega
   go_wp2_with fail
   go_meet
   have h:=HSR.out
   rw [if_neg hmd,if_neg hmd] at h
   exact ⟨by rw [h.1],by rw [h.2],rfl⟩
  obtain ⟨rfl,rfl,rfl⟩:=hcut
  go_wp2_with fail
  go_loopw [20,21] (fun i j wr=>∃ p q:Nat,i=.int .i64 p∧j=.int .i64 q∧s0≤p∧p≤q∧q≤r0∧J08 (kN.R 101 wr base ok (.slice (some ⟨g,0,none⟩) N cap) (P++X++Y++S)∧w.grownBy wr (some g)∧(∀ c,s0≤c→c<p→¬ cmpN (Y.getD (pp - c - m) mz) (X.getD (c - a) mz)<0)∧(∀ c,q≤c→c<r0→cmpN (Y.getD (pp - c - m) mz) (X.getD (c - a) mz)<0))) (fun i j _=>(intOf j).toNat - (intOf i).toNat)
  case atStart=>exact ⟨s0,r0,rfl,rfl,Y0e _,by have:=HM.out;have:=HT.out;omega,Y0e _,HR.out.2.2,⟨rfl,rfl,rfl,Y0e _,fun _ _ _=>rfl⟩,fun k h1 h2=>by omega,fun k h1 h2=>by omega⟩
  obtain ⟨p,q,rfl,rfl,hap,hpq,hqm,hI⟩:=hrel
  by_cases hlt:p<q
  ·have hltI:(p:Int)<(q:Int):=by omega
   have hM:=HM.out
   have hT:=HT.out
   have hSS:=HS.out
   obtain ⟨h,hh⟩:∃ h,h=(p+q) / 2:=⟨_,rfl⟩
   obtain ⟨u,hu⟩:∃ u,u=pp - h:=⟨_,rfl⟩
   have w7:IntKind.i64.wrap ((p:Int)+(q:Int))=(p:Int)+(q:Int):=by rw [Y0b];omega
   have w8:IntKind.u64.wrap ((p:Int)+(q:Int))=(p:Int)+(q:Int):=by simp only [IntKind.wrap];simp [IntKind.bits,IntKind.signed];omega
   have w9:IntKind.i64.wrap (((p:Int)+(q:Int)) / 2)=(h:Int):=by rw [Y0b];omega
   have w10:IntKind.i64.wrap ((h:Int)+1)=(h:Int)+1:=by rw [Y0b];omega
   have w11:IntKind.i64.wrap ((pp:Int) - (h:Int))=(u:Int):=by rw [Y0b];omega
   have gx:(P++X++Y++S).getD h mz=X.getD (h - a) mz:=by
    rw [Y01,Y0d,Y0d,Y09 (by omega),show h - P.length=h - a by omega,Y0a (by omega),Y01]
   have gy:(P++X++Y++S).getD u mz=Y.getD (u - m) mz:=by
    rw [Y01,Y0d,Y09 (by simp;omega),Y02,show u - (P.length+X.length)=u - m by omega,Y0a (by omega),Y01]
   obtain ⟨⟨c0,c1,c2,c3,cok⟩,_,_⟩:=J18 hI.out.1 (i:=h) (by omega)
   obtain ⟨⟨d0,d1,d2,d3,dok⟩,_,_⟩:=J18 hI.out.1 (i:=u) (by omega)
   rw [gx] at c0 c1 c2 c3 cok
   rw [gy] at d0 d1 d2 d3 dok
   have hh0:(0:Int)≤(h:Int):=by omega
   have hhN:(h:Int)<(N:Int):=by omega
   have hu0:(0:Int)≤(u:Int):=by omega
   have huN:(u:Int)<(N:Int):=by omega
   have hyu:Y.getD (pp - h - m) mz=Y.getD (u - m) mz:=by rw [hu]
   generalize hy:Y.getD (u - m) mz=y at *
   generalize hx:X.getD (h - a) mz=x at *
   have HY:=Y08 (Y07 hh (Y07 hu (Y07 hy (Y07 hx hyu))))
   clear gy gx hM hT hSS hh hu hy hx hyu
   go_upto_region 35 with fail
   refine sr1 14 (fun w'=>w'.cell? ⟨g,h*4,none⟩=some (.int .i64 x.1)∧w'.cell? ⟨g,h*4+1,none⟩=some (.int .i64 x.2.1)∧w'.cell? ⟨g,h*4+2,none⟩=some (.int .i64 x.2.2.1)∧w'.cell? ⟨g,h*4+3,none⟩=some (.int .i64 x.2.2.2)∧w'.cell? ⟨g,u*4,none⟩=some (.int .i64 y.1)∧w'.cell? ⟨g,u*4+1,none⟩=some (.int .i64 y.2.1)∧w'.cell? ⟨g,u*4+2,none⟩=some (.int .i64 y.2.2.1)∧w'.cell? ⟨g,u*4+3,none⟩=some (.int .i64 y.2.2.2)) [] ⟨c0,c1,c2,c3,d0,d1,d2,d3⟩ fun hJ0=>?_
   have HD:=Y00 (Y07 (Kd.c0b hI.out.1) (hI.out.2.1.both (J0b (J05 (Y0f wr.heap.size wr)))))
   clear c0 c1 c2 c3 d0 d1 d2 d3
   generalize wr.drew=wd at *
   refine pv 0 ?_
   refine pv 1 ?_
   refine pv 2 ?_
   refine pv 3 ?_
   refine pv 4 ?_
   refine pv 5 ?_
   refine tv8 6 ?_
   refine pv 7 ?_
   refine pv 8 ?_
   refine pv 9 ?_
   refine tv8 10 ?_
   refine ov 11 fun K hK=>?_
   have CM:=J6c y x (by assumption) (by assumption) wd
   simp only [mkV] at CM
   refine gv0 Tryz.func103 #[.agg #[.int .i64 y.1,.int .i64 y.2.1,.int .i64 y.2.2.1,.int .i64 y.2.2.2],.agg #[.int .i64 x.1,.int .i64 x.2.1,.int .i64 x.2.2.1,.int .i64 x.2.2.2]] ?_
   refine CM.mono ?_
   clear CM
   rintro e w5 ⟨rfl,hb5⟩
   have HS5:=Y00 (Y07 (Kd.c01 HD.out.1 hb5) (HD.out.2.both (J0b hb5)))
   refine ⟨_,rfl,hK.out _ _ (st8 hb5 hJ0) (fun hJ0=>?_)⟩
   clear hb5 HD
   by_cases hcx:cmpN y x<0
   ·have hcd:decide (cmpN y x<0)=true:=Y0r hcx
    clear hK K
    refine nm0 _ ?_
    refine pv 12 ?_
    refine pv 13 ?_
    refine dn0 ?_
    clear hJ0
    have HX:=Y08 hcx
    go_wp2_with fail
    have hY2:=HY.out
    have hM:=HM.out
    have hT:=HT.out
    refine ⟨⟨p,h,rfl,rfl,hap,by omega,by omega,HS5.out.1,HS5.out.2,hI.out.2.2.1,fun k hk1 hk2=>?_⟩,by simp [intOf];omega⟩
    refine J7o (b:=y) ?_ (J7n (b:=x) HX.out ?_)
    ·rw [← hY2.2.2.2.2]
     exact sorted_getD HR.out.2.1 (show pp - k - m≤pp - h - m by omega) (by omega)
    rw [← hY2.2.2.2.1]
    exact sorted_getD HR.out.1 (show h - a≤k - a by omega) (by omega)
   skip
   have hcd:decide (cmpN y x<0)=false:=Y0s hcx
   clear hK K
   refine nm0 _ ?_
   refine pv 12 ?_
   refine pv 13 ?_
   refine dn0 ?_
   clear hJ0
   have HX:=Y08 hcx
   go_wp2_with fail
   have hY2:=HY.out
   have hM:=HM.out
   have hT:=HT.out
   refine ⟨⟨h+1,q,by go_num,rfl,by omega,by omega,hqm,HS5.out.1,HS5.out.2,fun k hk1 hk2 hk3=>?_,hI.out.2.2.2⟩,by simp [intOf];omega⟩
   refine HX.out (J7o (b:=Y.getD (pp - k - m) mz) ?_ (J7n (b:=X.getD (k - a) mz) hk3 ?_))
   ·rw [← hY2.2.2.2.2]
    exact sorted_getD HR.out.2.1 (show pp - h - m≤pp - k - m by omega) (by omega)
   rw [← hY2.2.2.2.1]
   exact sorted_getD HR.out.1 (show k - a≤h - a by omega) (by omega)
  have hpe:p=q:=by omega
  subst hpe
  have hltI:¬ (p:Int)<(p:Int):=by omega
  obtain ⟨e,he⟩:∃ e,e=nn - p:=⟨_,rfl⟩
  have w7:IntKind.i64.wrap ((nn:Int) - (p:Int))=(e:Int):=by
   have hM:=HM.out
   have hT:=HT.out
   rw [Y0b];omega
  have hM:=HM.out
  have hT:=HT.out
  obtain ⟨X1,X2,Y1,Y2,eX,eY,l1,l2,sX1,sX2,sY1,sY2,hle⟩:=Jfm ordN (fun _ _=>trivial) HR.out.1 HR.out.2.1 (p - a) (e - m) (by omega) (by omega) mz
   (fun h1 h2=>by
    have:=hI.out.2.2.1 (p - 1) (by omega) (by omega)
    rwa [show pp - (p - 1) - m=e - m by omega,show p - 1 - a=p - a - 1 by omega] at this)
   (fun h1 h2=>by
    have:=hI.out.2.2.2 p (by omega) (by omega)
    rwa [show pp - p - m=e - m - 1 by omega] at this)
  have hlX:X.length=X1.length+X2.length:=by rw [eX];simp
  have hlY:Y.length=Y1.length+Y2.length:=by rw [eY];simp
  have hRp:kN.R 101 wr base ok (.slice (some ⟨g,0,none⟩) N cap) (P++X1++X2++(Y1++Y2)++S):=by
   have:=hI.out.1
   rw [eX,eY] at this
   simpa only [Y0d] using this
  have HP:=Y00 (Y07 hRp hI.out.2.1)
  have HN:=Y08 (show a=P.length∧p=P.length+X1.length∧m=P.length+X1.length+X2.length∧e=m+Y1.length∧b=m+Y1.length+Y2.length∧d=P.length+X1.length+Y1.length∧m≤N∧b≤N∧X1.length+Y1.length≤f∧X2.length+Y2.length≤f from by
   have:=HS.out
   omega)
  have HQ:=Y00 (Y07 sX1 (Y07 sX2 (Y07 sY1 (Y07 sY2 (Y07 hle (Y07 eX eY))))))
  clear hM hT l1 l2 sX1 sX2 sY1 sY2 hle hlX hlY hRp he hI eX eY
  obtain ⟨c1,hc1⟩:∃ c1,c1=decide (p<m∧m<e):=⟨_,rfl⟩
  obtain ⟨c2,hc2⟩:∃ c2,c2=decide (a<p∧p<d):=⟨_,rfl⟩
  obtain ⟨c3,hc3⟩:∃ c3,c3=decide (d<e∧e<b):=⟨_,rfl⟩
  have HC1:=Y08 hc1
  have HC2:=Y08 hc2
  have HC3:=Y08 hc3
  clear hc1 hc2 hc3
  go_upto_region 39 with fail
  go_cut [185] from 178 to 184 (fun s wx=>s=.bool c1∧wr=wx)
  case first =>
   by_cases h1:p<m
   ·have h1I:(p:Int)<(m:Int):=by omega
    by_cases h2:m<e
    ·have h2I:(m:Int)<(e:Int):=by omega
     go_wp2_with fail
     go_meet
     exact ⟨by rw [HC1.out,Y0r ⟨h1,h2⟩],rfl⟩
    have h2I:¬ ((m:Int)<(e:Int)):=by omega
    have h2J:(e:Int)≤(m:Int):=by omega
    go_wp2_with fail
    go_meet
    exact ⟨by rw [HC1.out,Y0s (fun h=>h2 h.2)],rfl⟩
   have h1I:¬ ((p:Int)<(m:Int)):=by omega
   have h1J:(m:Int)≤(p:Int):=by omega
   go_wp2_with fail
   go_meet
   exact ⟨by rw [HC1.out,Y0s (fun h=>h1 h.1)],rfl⟩
  obtain ⟨rfl,rfl⟩:=hcut
  go_upto_if 185 with fail
  go_cut [] from 186 to 191 (fun wx=>J08 (kN.R 101 wx base ok (.slice (some ⟨g,0,none⟩) N cap) (P++(X1++Y1)++(X2++Y2)++S)∧w.grownBy wx (some g)))
  case first =>
   cases c1 with
   | true =>
    have HD:=Y00 (show Calls Tryz.prog 125 #[.slice (some ⟨g,0,none⟩) N cap,.int .i64 p,.int .i64 m,.int .i64 e,.func (.func 103) #[] #[]] wr _ from by
     have hn:=HN.out
     have hc:p<m∧m<e:=of_decide_eq_true HC1.out.symm
     exact rotT_any g N cap base ok (P++X1) X2 Y1 (Y2++S) (.func (.func 103) #[] #[]) wr (by have:=HP.out.1;simpa only [Y0d] using this) (by omega) (by omega) hN p m e (by simp;omega) (by simp;omega) (by simp;omega))
    go_wp2_with fail
    refine HD.out.mono ?_
    rintro e w5 ⟨rfl,hR5,hg5⟩
    have H5:=Y00 (Y07 hR5 hg5)
    clear hR5 hg5
    go_wp2_with fail
    go_meet
    exact ⟨by have:=H5.out.1;simpa only [Y0d] using this,HP.out.2.both H5.out.2⟩
   | false=>?_
   have hz:X2=[]∨Y1=[]:=by
    have hn:=HN.out
    have hc:¬ (p<m∧m<e):=of_decide_eq_false HC1.out.symm
    rcases Nat.eq_zero_or_pos X2.length with h | h
    ·exact .inl (List.eq_nil_of_length_eq_zero h)
    exact .inr (List.eq_nil_of_length_eq_zero (by omega))
   have HZ:=Y08 hz
   clear hz
   go_wp2_with fail
   go_meet
   refine ⟨?_,HP.out.2⟩
   have:=HP.out.1
   rcases HZ.out with h | h<;>(rw [h] at this ⊢;simpa only [Y0d,List.append_nil,List.nil_append] using this)
  have HA:=hcut
  clear hcut
  go_upto_region 41 with fail
  go_cut [199] from 192 to 198 (fun s w'=>s=.bool c2∧wc=w')
  case first =>
   by_cases h1:a<p
   ·have h1I:(a:Int)<(p:Int):=by omega
    by_cases h2:p<d
    ·have h2I:(p:Int)<(d:Int):=by omega
     go_wp2_with fail
     go_meet
     exact ⟨by rw [HC2.out,Y0r ⟨h1,h2⟩],rfl⟩
    have h2I:¬ ((p:Int)<(d:Int)):=by omega
    have h2J:(d:Int)≤(p:Int):=by omega
    go_wp2_with fail
    go_meet
    exact ⟨by rw [HC2.out,Y0s (fun h=>h2 h.2)],rfl⟩
   have h1I:¬ ((a:Int)<(p:Int)):=by omega
   have h1J:(p:Int)≤(a:Int):=by omega
   go_wp2_with fail
   go_meet
   exact ⟨by rw [HC2.out,Y0s (fun h=>h1 h.1)],rfl⟩
  obtain ⟨rfl,rfl⟩:=hcut
  go_upto_if 199 with fail
  go_cut [] from 200 to 205 (fun wx=>∃ Z1:List Mk,J08 (Z1.Perm (X1++Y1)∧J0c cmpN Z1∧kN.R 101 wx base ok (.slice (some ⟨g,0,none⟩) N cap) (P++Z1++(X2++Y2)++S)∧w.grownBy wx (some g)))
  case first =>
   cases c2 with
   | true =>
    have HD:=Y00 (show Calls Tryz.prog 121 #[.slice (some ⟨g,0,none⟩) N cap,.int .i64 a,.int .i64 p,.int .i64 d,.func (.func 103) #[] #[]] wc _ from by
     have hn:=HN.out
     have hc:a<p∧p<d:=of_decide_eq_true HC2.out.symm
     exact IH.out P X1 Y1 (X2++Y2++S) wc a p d (by omega) (by omega) (by omega) ⟨HQ.out.1,HQ.out.2.2.1,by have:=HA.out.1;simpa only [Y0d] using this⟩ hn.1 hn.2.1 (by omega))
    go_wp2_with fail
    refine HD.out.mono ?_
    rintro e w5 ⟨rfl,Z1,hz1,hz2,hR5,hg5⟩
    have H5:=Y00 (Y07 hz1 (Y07 hz2 (Y07 hR5 hg5)))
    clear hz1 hz2 hR5 hg5
    go_wp2_with fail
    go_meet
    exact ⟨Z1,H5.out.1,H5.out.2.1,by have:=H5.out.2.2.1;simpa only [Y0d] using this,HA.out.2.both H5.out.2.2.2⟩
   | false=>?_
   have hz:X1=[]∨Y1=[]:=by
    have hn:=HN.out
    have hc:¬ (a<p∧p<d):=of_decide_eq_false HC2.out.symm
    rcases Nat.eq_zero_or_pos X1.length with h | h
    ·exact .inl (List.eq_nil_of_length_eq_zero h)
    exact .inr (List.eq_nil_of_length_eq_zero (by omega))
   have HZ:=Y08 hz
   clear hz
   go_wp2_with fail
   go_meet
   refine ⟨X1++Y1,List.Perm.refl _,?_,HA.out.1,HA.out.2⟩
   rcases HZ.out with h | h
   ·rw [h,List.nil_append];exact HQ.out.2.2.1
   rw [h,List.append_nil];exact HQ.out.1
  obtain ⟨Z1,HB⟩:=hcut
  clear HA HC1 HC2
  go_upto_region 43 with fail
  go_cut [213] from 206 to 212 (fun s w'=>s=.bool c3∧wc=w')
  case first =>
   by_cases h1:d<e
   ·have h1I:(d:Int)<(e:Int):=by omega
    by_cases h2:e<b
    ·have h2I:(e:Int)<(b:Int):=by omega
     go_wp2_with fail
     go_meet
     exact ⟨by rw [HC3.out,Y0r ⟨h1,h2⟩],rfl⟩
    have h2I:¬ ((e:Int)<(b:Int)):=by omega
    have h2J:(b:Int)≤(e:Int):=by omega
    go_wp2_with fail
    go_meet
    exact ⟨by rw [HC3.out,Y0s (fun h=>h2 h.2)],rfl⟩
   have h1I:¬ ((d:Int)<(e:Int)):=by omega
   have h1J:(e:Int)≤(d:Int):=by omega
   go_wp2_with fail
   go_meet
   exact ⟨by rw [HC3.out,Y0s (fun h=>h1 h.1)],rfl⟩
  obtain ⟨rfl,rfl⟩:=hcut
  have FIN:=Y08 (fun (Z2:List Mk) (V:World) (hp:Z2.Perm (X2++Y2)) (hs:J0c cmpN Z2) (hr:kN.R 101 V base ok (.slice (some ⟨g,0,none⟩) N cap) (P++Z1++Z2++S)) (hg:w.grownBy V (some g)) =>
   show MergePost g N cap base ok P X Y S w (.returned (.tuple #[])) V from by
    have hq:=HQ.out
    refine ⟨rfl,Z1++Z2,?_,Jbf HB.out.2.1 hs (fun u hu v hv=>hq.2.2.2.2.1 u (HB.out.1.mem_iff.1 hu) v (hp.mem_iff.1 hv)),by simpa only [Y0d] using hr,hg⟩
    rw [hq.2.2.2.2.2.1,hq.2.2.2.2.2.2]
    refine (HB.out.1.append hp).trans ?_
    simp only [Y0d]
    refine List.Perm.append_left _ ?_
    simp only [← Y0d]
    exact List.Perm.append_right _ List.perm_append_comm)
  cases c3 with
  | false =>
   have hz:X2=[]∨Y2=[]:=by
    have hn:=HN.out
    have hc:¬ (d<e∧e<b):=of_decide_eq_false HC3.out.symm
    rcases Nat.eq_zero_or_pos X2.length with h | h
    ·exact .inl (List.eq_nil_of_length_eq_zero h)
    exact .inr (List.eq_nil_of_length_eq_zero (by omega))
   have HZ:=Y08 hz
   clear hz
   go_wp2_with fail
   refine bodyPost_ret (results_none rfl _ _ _) rfl (FIN.out (X2++Y2) wc (List.Perm.refl _) ?_ HB.out.2.2.1 HB.out.2.2.2)
   rcases HZ.out with h | h
   ·rw [h,List.nil_append];exact HQ.out.2.2.2.1
   rw [h,List.append_nil];exact HQ.out.2.1
  | true=>?_
  have HD:=Y00 (show Calls Tryz.prog 121 #[.slice (some ⟨g,0,none⟩) N cap,.int .i64 d,.int .i64 e,.int .i64 b,.func (.func 103) #[] #[]] wc _ from by
   have hn:=HN.out
   have hl:=HB.out.1.length_eq
   rw [Y02] at hl
   have hc:d<e∧e<b:=of_decide_eq_true HC3.out.symm
   exact IH.out (P++Z1) X2 Y2 S wc d e b (by omega) (by omega) (by omega) ⟨HQ.out.2.1,HQ.out.2.2.2.1,by have:=HB.out.2.2.1;simpa only [Y0d] using this⟩ (by simp;omega) (by simp;omega) (by simp;omega))
  go_wp2_with fail
  refine HD.out.mono ?_
  rintro e w5 ⟨rfl,Z2,hz1,hz2,hR5,hg5⟩
  have H5:=Y00 (Y07 hz1 (Y07 hz2 (Y07 hR5 hg5)))
  clear hz1 hz2 hR5 hg5
  go_wp2_with fail
  exact bodyPost_ret (results_none rfl _ _ _) rfl (FIN.out Z2 w5 H5.out.1 H5.out.2.1 (by simpa only [Y0d] using H5.out.2.2.1) (HB.out.2.2.2.both H5.out.2.2.2))
def BlkT (s:Nat) (Ls:List (List Mk)):Prop:=∀ L ∈ Ls,L.length=s∧J0c cmpN L
theorem stableT_any (g N cap base:Nat) (ok:Nat→Prop) (l:List Mk) (w:World) (hR:kN.R 101 w base ok (.slice (some ⟨g,0,none⟩) N cap) l) (hok:ok g) (hN:N≤10000000000000) :
  Calls Tryz.prog 117 #[.slice (some ⟨g,0,none⟩) N cap,.int .i64 N,.func (.func 103) #[] #[]] w fun e w'=>e=.returned (.tuple #[])∧kN.R 101 w' base ok (.slice (some ⟨g,0,none⟩) N cap) (J61 l)∧w.grownBy w' (some g):=by
 have HR:=Y00 hR
 have hl:=(Kd.c03 hR).1
 have HL:=Y08 hl
 clear hR hl
 go_enter Tryz.func117,Tryz.ntmps117
 go_wp2
 go_loopw [7,8] (fun i j wr=>∃ (p q:Nat) (Ls:List (List Mk)) (T:List Mk),i=.int .i64 p∧j=.int .i64 q∧q=p+20∧p≤N∧J08 (p=Ls.flatten.length∧BlkT 20 Ls∧(Ls.flatten++T).Perm l∧kN.R 101 wr base ok (.slice (some ⟨g,0,none⟩) N cap) (Ls.flatten++T)∧w.grownBy wr (some g))) (fun _ j _=>N+1 - (intOf j).toNat)
 case atStart=>exact ⟨0,20,[],l,rfl,rfl,rfl,Nat.zero_le _,rfl,by intro L hL;simp at hL,List.Perm.refl _,HR.out,⟨rfl,rfl,rfl,Y0e _,fun _ _ _=>rfl⟩⟩
 obtain ⟨p,q,Ls,T,rfl,rfl,hq,hpN,hI⟩:=hrel
 have hlen:p+T.length=N:=by
  have h1:=hI.out.1
  have h2:=(Kd.c03 hI.out.2.2.2.1).1
  rw [Y02] at h2
  omega
 by_cases hqn:q≤N
 ·have hqnI:(q:Int)≤(N:Int):=by omega
  have wq:IntKind.i64.wrap ((q:Int)+20)=(q:Int)+20:=by rw [Y0b];omega
  have hRT:kN.R 101 wr base ok (.slice (some ⟨g,0,none⟩) N cap) (Ls.flatten++T.take 20++T.drop 20):=by
   rw [Y0d,List.take_append_drop];exact hI.out.2.2.2.1
  have hlT:(T.take 20).length=20:=by rw [Y0o];omega
  have HC:=Y00 (insT_any g N cap base ok Ls.flatten (T.take 20) (T.drop 20) wr hRT hok hN p q hI.out.1 (by rw [hlT];have:=hI.out.1;omega))
  have HH:=Y08 (Y07 hlen (Y07 hlT hq))
  clear hRT hlT hlen hq
  go_wp2_with fail
  refine HC.out.mono ?_
  rintro e w5 ⟨rfl,X',hp,hs,hR5,hg5⟩
  have H5:=Y00 (Y07 hp (Y07 hs (Y07 hR5 hg5)))
  clear hp hs hR5 hg5 HC
  go_wp2_with fail
  have hh:=HH.out
  have hx:=H5.out.1.length_eq
  refine ⟨⟨q,q+20,Ls++[X'],T.drop 20,rfl,by go_num,rfl,hqn,?_,?_,?_,?_,hI.out.2.2.2.2.both H5.out.2.2.2⟩,by simp [intOf];omega⟩
  ·have:=hI.out.1
   simp only [List.flatten_append,List.flatten_cons,List.flatten_nil,List.append_nil,Y02];omega
  ·intro L hL
   rcases Y0m.1 hL with hL | hL
   ·exact hI.out.2.1 L hL
   rw [Y11.1 hL];exact ⟨by omega,H5.out.2.1⟩
  ·refine List.Perm.trans ?_ hI.out.2.2.1
   simp only [List.flatten_append,List.flatten_cons,List.flatten_nil,List.append_nil,Y0d]
   refine List.Perm.append_left _ ?_
   have:=H5.out.1.append_right (T.drop 20)
   rwa [List.take_append_drop] at this
  have:=H5.out.2.2.1
  simpa only [List.flatten_append,List.flatten_cons,List.flatten_nil,List.append_nil,Y0d] using this
 have hqnI:¬ ((q:Int)≤(N:Int)):=by omega
 have hqnJ:(N:Int)<(q:Int):=by omega
 have hRT:kN.R 101 wr base ok (.slice (some ⟨g,0,none⟩) N cap) (Ls.flatten++T++[]):=by
  rw [List.append_nil];exact hI.out.2.2.2.1
 have HC:=Y00 (insT_any g N cap base ok Ls.flatten T [] wr hRT hok hN p N hI.out.1 (by have:=hI.out.1;omega))
 have HH:=Y08 (show T.length<20 from by omega)
 clear hRT hlen hq
 go_wp2_with fail
 refine HC.out.mono ?_
 rintro e w5 ⟨rfl,X',hp,hs,hR5,hg5⟩
 have H5:=Y00 (show (Ls.flatten++X').Perm l∧BlkT 20 Ls∧J0c cmpN X'∧X'.length<20∧kN.R 101 w5 base ok (.slice (some ⟨g,0,none⟩) N cap) (Ls.flatten++X')∧w.grownBy w5 (some g) from
  ⟨(hp.append_left _).trans hI.out.2.2.1,hI.out.2.1,hs,by have:=hp.length_eq;have:=HH.out;omega,by rwa [List.append_nil] at hR5,hI.out.2.2.2.2.both hg5⟩)
 clear hp hs hR5 hg5 HC HH hI
 go_wp2_with fail
 go_loopw [6] (fun i wr=>∃ (s:Nat) (Ls:List (List Mk)) (T:List Mk),i=.int .i64 s∧20≤s∧s≤20000000000000∧J08 (BlkT s Ls∧J0c cmpN T∧T.length<s∧(Ls.flatten++T).Perm l∧kN.R 101 wr base ok (.slice (some ⟨g,0,none⟩) N cap) (Ls.flatten++T)∧w.grownBy wr (some g))) (fun i _=>N - (intOf i).toNat)
 case atStart=>exact ⟨20,Ls,X',rfl,Y0e _,by omega,H5.out.2.1,H5.out.2.2.1,H5.out.2.2.2.1,H5.out.1,H5.out.2.2.2.2.1,H5.out.2.2.2.2.2⟩
 clear H5
 obtain ⟨s,Ls,T,rfl,hs20,hsm,hI⟩:=hrel
 have hlen:Ls.flatten.length+T.length=N:=by
  have h2:=(Kd.c03 hI.out.2.2.2.2.1).1
  rw [Y02] at h2
  omega
 by_cases hsn:s<N
 rotate_left
 ·have hsnI:¬ ((s:Int)<(N:Int)):=by omega
  have hsnJ:(N:Int)≤(s:Int):=by omega
  go_wp2_with fail
  go_end0
  refine ⟨rfl,?_,hI.out.2.2.2.2.2⟩
  have he:Ls.flatten++T=J61 l:=Jan ordN (fun _ _=>trivial) hI.out.2.2.2.1 (by
   cases Ls with
   | nil=>simpa using hI.out.2.1
   | cons L Ls=>?_
   have h1:=hI.out.1 L Y03
   simp only [List.flatten_cons,Y02] at hlen
   have h2:Ls.flatten=[]:=List.eq_nil_of_length_eq_zero (by omega)
   have h3:T=[]:=List.eq_nil_of_length_eq_zero (by omega)
   rw [List.flatten_cons,h2,h3]
   simpa using h1.2)
  rw [← he]
  exact hI.out.2.2.2.2.1
 have hsnI:(s:Int)<(N:Int):=by omega
 have ws:IntKind.i64.wrap (2*(s:Int))=((2*s:Nat):Int):=by rw [Y0b];omega
 have ws2:IntKind.i64.wrap ((s:Int)*2)=((2*s:Nat):Int):=by rw [Y0b];omega
 have HS:=Y08 ws2
 clear ws2
 go_wp2_with fail
 go_loopw [7,8] (fun i j wr=>∃ (p q:Nat) (Ms Ks:List (List Mk)),i=.int .i64 p∧j=.int .i64 q∧q=p+2*s∧p≤N∧J08 (p=Ms.flatten.length∧BlkT (2*s) Ms∧BlkT s Ks∧(Ms.flatten++Ks.flatten++T).Perm l∧kN.R 101 wr base ok (.slice (some ⟨g,0,none⟩) N cap) (Ms.flatten++Ks.flatten++T)∧w.grownBy wr (some g))) (fun _ j _=>N+1 - (intOf j).toNat)
 case atStart=>exact ⟨0,2*s,[],Ls,rfl,rfl,by omega,Nat.zero_le _,rfl,by intro L hL;simp at hL,hI.out.1,by simpa using hI.out.2.2.2.1,by simpa using hI.out.2.2.2.2.1,hI.out.2.2.2.2.2⟩
 obtain ⟨p,q,Ms,Ks,rfl,rfl,hq,hpN,hJ⟩:=hrel
 have hlen2:p+Ks.flatten.length+T.length=N:=by
  have h1:=hJ.out.1
  have h2:=(Kd.c03 hJ.out.2.2.2.2.1).1
  rw [Y02,Y02] at h2
  omega
 have HTS:=Y08 (Y07 hI.out.2.1 hI.out.2.2.1)
 by_cases hqn:q≤N
 ·have hqnI:(q:Int)≤(N:Int):=by omega
  match Ks,hJ,hlen2 with
  | [],hJ,hlen2=>exact absurd hlen2 (by have:=HTS.out.2;simp;omega)
  | [K1],hJ,hlen2=>exact absurd hlen2 (by have:=HTS.out.2;have:=(hJ.out.2.2.1 K1 Y03).1;simp;omega)
  | K1::K2::Ks,hJ,hlen2 =>
   have h1:=hJ.out.2.2.1 K1 Y03
   have h2:=hJ.out.2.2.1 K2 (Y04 _ Y03)
   have h3:BlkT s Ks:=fun L hL=>hJ.out.2.2.1 L (Y04 _ (Y04 _ hL))
   have hrow:Ms.flatten++(K1::K2::Ks).flatten++T=Ms.flatten++K1++K2++(Ks.flatten++T):=by simp
   have hrw:=hJ.out.2.2.2.2.1
   have hpm:=hJ.out.2.2.2.1
   rw [hrow] at hrw hpm
   have wps:IntKind.i64.wrap ((p:Int)+(s:Int))=((p+s:Nat):Int):=by rw [Y0b];omega
   have wqs:IntKind.i64.wrap ((q:Int)+((2*s:Nat):Int))=((q+2*s:Nat):Int):=by rw [Y0b];omega
   have HC:=Y00 (symT_any g N cap base ok hN (K1.length+K2.length) Ms.flatten K1 K2 (Ks.flatten++T) wr p (p+s) q (Y0e _) (by omega) (by omega) ⟨h1.2,h2.2,hrw⟩ hJ.out.1 (by have:=hJ.out.1;omega) (by have:=hJ.out.1;omega))
   have HH:=Y00 (Y07 hq (Y07 hJ.out (Y07 h1 (Y07 h2 (Y07 h3 (Y07 hpm hlen2))))))
   clear h1 h2 h3 hrow hrw hpm hq hlen2 hJ
   go_wp2_with fail
   refine HC.out.mono ?_
   rintro e w5 ⟨rfl,Z,hz1,hz2,hR5,hg5⟩
   have H5:=Y00 (Y07 hz1 (Y07 hz2 (Y07 hR5 hg5)))
   clear hz1 hz2 hR5 hg5 HC
   go_wp2_with fail
   have hh:=HH.out
   have hzl:=H5.out.1.length_eq
   rw [Y02] at hzl
   refine ⟨⟨q,q+2*s,Ms++[Z],Ks,rfl,by go_num,rfl,hqn,?_,?_,hh.2.2.2.2.1,?_,?_,hh.2.1.2.2.2.2.2.both H5.out.2.2.2⟩,by simp [intOf];omega⟩
   ·have h1:=hh.1
    have h2:=hh.2.1.1
    have h3:=hh.2.2.1.1
    have h4:=hh.2.2.2.1.1
    simp only [List.flatten_append,List.flatten_cons,List.flatten_nil,List.append_nil,Y02];omega
   ·intro L hL
    rcases Y0m.1 hL with hL | hL
    ·exact hh.2.1.2.1 L hL
    rw [Y11.1 hL]
    exact ⟨by have h3:=hh.2.2.1.1;have h4:=hh.2.2.2.1.1;omega,H5.out.2.1⟩
   ·refine List.Perm.trans ?_ hh.2.2.2.2.2.1
    simp only [List.flatten_append,List.flatten_cons,List.flatten_nil,List.append_nil,Y0d]
    refine List.Perm.append_left _ ?_
    simp only [← Y0d]
    exact (H5.out.1.append_right _).append_right _
   have:=H5.out.2.2.1
   simpa only [List.flatten_append,List.flatten_cons,List.flatten_nil,List.append_nil,Y0d] using this
 have hqnI:¬ ((q:Int)≤(N:Int)):=by omega
 have hqnJ:(N:Int)<(q:Int):=by omega
 have wps:IntKind.i64.wrap ((p:Int)+(s:Int))=((p+s:Nat):Int):=by rw [Y0b];omega
 have wsx:=HS.out
 have FIN:=Y08 (fun (Z:List Mk) (V:World) (h1:J0c cmpN Z) (h2:Z.length<2*s) (h3:(Ms.flatten++Z).Perm l) (h4:kN.R 101 V base ok (.slice (some ⟨g,0,none⟩) N cap) (Ms.flatten++Z)) (h5:w.grownBy V (some g)) =>
  show ∃ (s1:Nat) (Ls:List (List Mk)) (T:List Mk),Value.int .i64 ((2*s:Nat):Int)=.int .i64 s1∧20≤s1∧s1≤20000000000000∧J08 (BlkT s1 Ls∧J0c cmpN T∧T.length<s1∧(Ls.flatten++T).Perm l∧kN.R 101 V base ok (.slice (some ⟨g,0,none⟩) N cap) (Ls.flatten++T)∧w.grownBy V (some g)) from
  ⟨2*s,Ms,Z,rfl,by omega,by omega,hJ.out.2.1,h1,h2,h3,h4,h5⟩)
 by_cases hm:p+s<N
 ·have hmI:((p+s:Nat):Int)<(N:Int):=by omega
  match Ks,hJ,hlen2 with
  | [],hJ,hlen2=>exact absurd hlen2 (by have:=HTS.out.2;simp;omega)
  | K1::K2::Ks,hJ,hlen2=>exact absurd hlen2 (by have:=(hJ.out.2.2.1 K1 Y03).1;have:=(hJ.out.2.2.1 K2 (Y04 _ Y03)).1;simp only [List.flatten_cons,Y02];omega)
  | [K1],hJ,hlen2 =>
   have h1:=hJ.out.2.2.1 K1 Y03
   have hrow:Ms.flatten++[K1].flatten++T=Ms.flatten++K1++T++[]:=by simp
   have hrw:=hJ.out.2.2.2.2.1
   have hpm:=hJ.out.2.2.2.1
   rw [hrow] at hrw hpm
   have hl1:p+K1.length+T.length=N:=by simpa using hlen2
   have HC:=Y00 (symT_any g N cap base ok hN (K1.length+T.length) Ms.flatten K1 T [] wr p (p+s) N (Y0e _) (by omega) (by omega) ⟨h1.2,HTS.out.1,hrw⟩ hJ.out.1 (by have:=hJ.out.1;omega) (by have:=hJ.out.1;omega))
   have HH:=Y00 (Y07 hJ.out (Y07 h1 (Y07 hpm hl1)))
   clear h1 hrow hrw hpm hq hlen2 hJ hl1
   go_wp2_with fail
   refine HC.out.mono ?_
   rintro e w5 ⟨rfl,Z,hz1,hz2,hR5,hg5⟩
   have H5:=Y00 (Y07 hz1 (Y07 hz2 (Y07 hR5 hg5)))
   clear hz1 hz2 hR5 hg5 HC
   go_wp2_with fail
   have hzl:=H5.out.1.length_eq
   rw [Y02] at hzl
   have h3:=HH.out.2.1.1
   refine ⟨FIN.out Z w5 H5.out.2.1 (by have:=HTS.out.2;omega) ?_ (by simpa only [List.append_nil,Y0d] using H5.out.2.2.1) (HH.out.1.2.2.2.2.2.both H5.out.2.2.2),by simp [intOf];omega⟩
   refine List.Perm.trans (List.Perm.append_left _ H5.out.1) ?_
   have:=HH.out.2.2.1
   simpa only [List.append_nil,Y0d] using this
 have hmI:¬ (((p+s:Nat):Int)<(N:Int)):=by omega
 have hmJ:(N:Int)≤((p+s:Nat):Int):=by omega
 have hz:∃ Z,J0c cmpN Z∧Z.length<2*s∧Ms.flatten++Ks.flatten++T=Ms.flatten++Z:=by
  match Ks,hJ,hlen2 with
  | [],hJ,hlen2=>exact ⟨T,HTS.out.1,by have:=HTS.out.2;omega,by simp⟩
  | K1::K2::Ks,hJ,hlen2=>exact absurd hlen2 (by have:=(hJ.out.2.2.1 K1 Y03).1;have:=(hJ.out.2.2.1 K2 (Y04 _ Y03)).1;simp only [List.flatten_cons,Y02];omega)
  | [K1],hJ,hlen2 =>
   have h1:=hJ.out.2.2.1 K1 Y03
   have hl1:p+K1.length+T.length=N:=by simpa using hlen2
   have h3:T=[]:=List.eq_nil_of_length_eq_zero (by omega)
   exact ⟨K1,h1.2,by omega,by rw [h3];simp⟩
 have HZ:=Y00 hz
 clear hz hlen2 hq
 go_wp2_with fail
 obtain ⟨Z,hz1,hz2,hz3⟩:=HZ.out
 have h3:=hJ.out.2.2.2
 rw [hz3] at h3
 exact ⟨FIN.out Z wr hz1 hz2 h3.1 h3.2.1 h3.2.2,by simp [intOf];omega⟩
theorem sortT_any (g N cap base:Nat) (ok:Nat→Prop) (l:List Mk) (w:World) (hR:kN.R 101 w base ok (.slice (some ⟨g,0,none⟩) N cap) l) (hok:ok g) (hN:N≤10000000000000) :
  Calls Tryz.prog 102 #[.slice (some ⟨g,0,none⟩) N cap,.func (.func 103) #[] #[]] w fun e w'=>e=.returned (.tuple #[])∧kN.R 101 w' base ok (.slice (some ⟨g,0,none⟩) N cap) (J61 l)∧w.grownBy w' (some g):=by
 have HC:=Y00 (stableT_any g N cap base ok l w hR hok hN)
 clear hR
 go_enter Tryz.func102,Tryz.ntmps102
 go_wp2_with fail
 refine HC.out.mono ?_
 rintro e w5 ⟨rfl,hR5,hg5⟩
 go_wp2_with fail
 go_end0
 exact ⟨rfl,hR5,hg5⟩
theorem sortedT_any (A:Option Addr) (c:Nat) (l:List Mk) (w:World) (hl:kN.C w A l.length l) (hn:l.length*32≤140737488355328) :
  Calls Tryz.prog 77 #[.slice A l.length c,.agg #[.func (.func 103) #[] #[]]] w fun e w' =>
   ∃ v,e=.returned v∧kN.R 101 w' w.heap.size (fun _=>True) v (J61 l)∧Below w.heap.size w w':=by
 have HL:=Y00 hl
 have HLL:=Y00 (rfl:l.length=l.length)
 have hmf:∀ (w:World) ,(Instr.field 142 (.agg #[.func (.func 103) #[] #[]]) 0).run Tryz.prog w=.ok (.func (.func 103) #[] #[]) w:=fun _=>by kernel_rfl
 have HB1:=Y00 (J02 w (.cells #[.func (.func 103) #[] #[]] 142))
 clear hl
 go_enter Tryz.func77,Tryz.ntmps77
 go_upto_region 2 with (at_make;go_must (refine Kd.R_make kN (w0:=w) w.heap.size 101 rfl (N:=8) rfl _ _ _ rfl l.length rfl rfl Tryz.underlying115 _ 32 Tryz.infoMark rfl (by decide) (by decide) ((0,0,0,0):Mk) (ok:=fun _=>True) (okp:=fun _=>False) (kN_M _ ⟨by decide,by decide⟩) (fun _ h=>h.elim) trivial (by omega) (by omega) HB1.out HB1.out.size ?_);intro v1 w3 hR3 hb3 hg3 hown3)
 obtain ⟨b,hvb,hbw⟩:=hown3
 obtain ⟨_,hown⟩:=Kd.R_own hR3
 obtain ⟨g,cap,rfl⟩:∃ g cap,v1=.slice (some ⟨g,0,none⟩) l.length cap:=by
  rcases hown.2 with ⟨rfl,_⟩ | ⟨g,cap,cur,hv,_⟩
  ·cases hvb
  exact ⟨g,cap,by simpa using hv⟩
 have hcp:∃ w4,(Builtin.copy_ #[115,115] 3 #[.slice (some ⟨g,0,none⟩) l.length cap,.slice A l.length c]).run Tryz.prog w3=.ok (.int .i64 (l.length:Int)) w4∧kN.R 101 w4 w.heap.size (fun _=>True) (.slice (some ⟨g,0,none⟩) l.length cap) l∧w3.grownBy w4 (some g) :=
  Jju (P:=Tryz.prog) kN 115 115 3 rfl (by kernel_rfl) hR3 (Kd.c00 HL.out hb3) (Js7 _) (by decide)
 obtain ⟨w4,hrun,hR4,hg4⟩:=hcp
 have hz:(w.alloc (.cells #[.func (.func 103) #[] #[]] 142)).heap.size=w.heap.size+1:=by simp
 have hgb:g=b:=by injection hvb
 have hc0:w4.cell? ⟨w.heap.size,0,none⟩=some (.func (.func 103) #[] #[]):=by
  refine J09 hg4 (J09 hg3 (J0a w _ _ 0) (by simp)) (fun he=>?_)
  injection he with he
  have:w.heap.size=g:=he
  omega
 have HB4:=Y00 (Y07 hR4 (hb3.grown hg4 hb3.size (fun k hk=>by injection hk with hk;omega)))
 have HRUN:=Y08 hrun
 clear hb3 hg3 hbw hR4 hg4 hz hgb hrun hvb hR3 hown
 go_wp2_with (with_reducible refine Jdy rfl (.tmp 9) (.tmp 10) _ _ rfl (.slice (some ⟨g,0,none⟩) l.length cap) (.slice A l.length c) _ rfl rfl HRUN.out ?_)
 refine (sortT_any g l.length cap w.heap.size (fun _=>True) l w4 HB4.out.1 trivial (by omega)).mono ?_
 rintro e w5 ⟨rfl,hR5,hg5⟩
 have H5:=Y00 (Y07 hR5 (HB4.out.2.grown hg5 HB4.out.2.size (fun k hk=>by injection hk with hk;subst hk;exact Kd.R_base HB4.out.1 g rfl)))
 clear hR5 hg5
 go_wp2_with fail
 go_ret
 exact ⟨_,rfl,H5.out.1,H5.out.2⟩
end Go.Proofs.YtbkfnmgkcgnifaaGreat.Tw
namespace Go.Proofs.YtbkfnmgkcgnifaaGreat
open Go.RowKit Go.Shelf W1 W2 Mdl Go.ChangeMaps
theorem Jkg {l m:List Mk} (h:l.Perm m):J61 l=J61 m:=by
 obtain ⟨h1,h2⟩:=J2a ordN (l:=l) (fun _ _=>trivial)
 exact Jan ordN (fun _ _=>trivial) (h2.trans h) h1
theorem J38 {α β:Type} (f:α→β):∀ {l:List α},(l.map f).Nodup→l.Nodup
 | [],_=>List.nodup_nil
 | a::l,h=>by
  rw [List.map_cons,List.nodup_cons] at h
  exact List.nodup_cons.2 ⟨fun hm=>h.1 (List.mem_map.2 ⟨a,hm,rfl⟩),J38 f h.2⟩
theorem J9s {α β:Type} (f:α→β):∀ {l:List α},(l.map f).Nodup→∀ {x y},x ∈ l→y ∈ l→f x=f y→x=y
 | a::l,h,x,y,hx,hy,he=>by
  rw [List.map_cons,List.nodup_cons] at h
  rcases List.mem_cons.1 hx with rfl | hx1<;>rcases List.mem_cons.1 hy with rfl | hy1
  ·rfl
  ·exact absurd (List.mem_map.2 ⟨y,hy1,he.symm⟩) h.1
  ·exact absurd (List.mem_map.2 ⟨x,hx1,he⟩) h.1
  exact J9s f h.2 hx1 hy1 he
theorem Jm6 {α:Type} [DecidableEq α]:∀ {T es:List α},T.Nodup→(∀ e ∈ T,e ∈ es)→T.length≤es.length
 | [],_,_,_=>Nat.zero_le _
 | a::T,es,hn,hs=>by
  rw [List.nodup_cons] at hn
  have h:=Jm6 (T:=T) (es:=es.erase a) hn.2 (fun e he=>(List.mem_erase_of_ne (fun h:e=a=>hn.1 (h ▸ he))).2 (hs e (Y04 _ he)))
  have ha:=hs a Y03
  rw [List.length_erase_of_mem ha] at h
  have:=List.length_pos_of_mem ha
  rw [Y0z];omega
theorem J89 {α:Type} [DecidableEq α]:∀ {T es:List α},T.Nodup→es.Nodup→(∀ e,e ∈ T↔e ∈ es)→T.Perm es
 | [],es,_,_,h=>by
  cases es with
  | cons a l=>exact absurd ((h a).2 Y03) (by simp)
  | nil=>exact List.Perm.refl _
 | a::T,es,hn,hm,h=>by
  rw [List.nodup_cons] at hn
  have ha:=(h a).1 Y03
  refine List.Perm.trans (List.Perm.cons a (J89 (es:=es.erase a) hn.2 (hm.erase a) (fun e=>?_))) (List.perm_cons_erase ha).symm
  rw [hm.mem_erase_iff]
  constructor
  ·intro he
   exact ⟨fun h2=>hn.1 (h2 ▸ he),(h e).1 (Y04 _ he)⟩
  intro he
  rcases List.mem_cons.1 ((h e).2 he.2) with h2 | h2
  ·exact absurd h2 he.1
  exact h2
structure J3o (w:World) (b r:Nat) (es:List Ent) (clock:Nat) (T:List Ent):Prop where
 hb:w.heap[b]?=some (.map (es.map entV).toArray clock)
 hr:w.heap[r]?=some (.mapIter (some b) clock (T.map (·.2.2)).toArray clock)
 sub:∀ e ∈ T,e ∈ es
 nd:(T.map (·.2.2)).Nodup
theorem J3o.len {w:World} {b r:Nat} {es:List Ent} {clock:Nat} {T:List Ent} (h:J3o w b r es clock T):T.length≤es.length:=by
 exact Jm6 (J38 _ h.nd) h.sub
theorem J3o.move {w w':World} {b r:Nat} {es:List Ent} {clock:Nat} {T:List Ent} (h:J3o w b r es clock T) (h1:w'.heap[b]?=w.heap[b]?) (h2:w'.heap[r]?=w.heap[r]?):J3o w' b r es clock T:=⟨h1.trans h.hb,h2.trans h.hr,h.sub,h.nd⟩
theorem J3o.next {w:World} {b r:Nat} {es:List Ent} {clock:Nat} {T:List Ent} (h:J3o w b r es clock T) (hc:∀ e ∈ es,e.2.2<clock) (hn:(es.map (·.2.2)).Nodup) (hbr:b≠r) (ty:TypeId) :
  (T.Perm es∧(Instr.next (.pointer (some ⟨r,0,none⟩)) false ty).run Tryz.prog w=.ok (.tuple #[.bool false]) w) ∨
  ∃ e w1,e ∈ es∧(Instr.next (.pointer (some ⟨r,0,none⟩)) false ty).run Tryz.prog w=.ok (.tuple #[.bool true,mkV e.1,.int .i64 e.2.1]) w1∧w.grownBy w1 (some r)∧w1.heap.size=w.heap.size∧J3o w1 b r es clock (T++[e]) ∧
   (Instr.entry (.pointer (some ⟨r,0,none⟩))).run Tryz.prog w1=.ok (.tuple #[mkV e.1,.int .i64 e.2.1]) w1:=by
 have hseen:∀ e ∈ es,((T.map (·.2.2)).toArray.contains e.2.2=true↔e ∈ T):=by
  intro e he
  rw [List.contains_toArray,List.contains_iff_mem]
  constructor
  ·intro hm
   obtain ⟨x,hx,hxe⟩:=List.mem_map.1 hm
   have:x=e:=J9s _ hn (h.sub x hx) he hxe
   exact this ▸ hx
  intro hm;exact List.mem_map.2 ⟨e,hm,rfl⟩
 rcases run_next_at (P:=Tryz.prog) w ty r b clock clock (T.map (·.2.2)).toArray (es.map entV).toArray clock h.hr h.hb (by
   intro x hx
   rw [List.toList_toArray] at hx
   obtain ⟨e,he,rfl⟩:=List.mem_map.1 hx
   exact hc e he) (Y0e _) with ⟨h0,hrun⟩ | ⟨x,hx,w1,hw1,hrun⟩
 ·refine .inl ⟨?_,hrun⟩
  have hall:∀ e ∈ es,e ∈ T:=by
   intro e he
   refine (hseen e he).1 ?_
   refine Decidable.byContradiction fun hcn=>?_
   have:entV e ∈ leftOf (es.map entV).toArray (T.map (·.2.2)).toArray:=by
    unfold leftOf
    rw [Array.mem_filter]
    refine ⟨by rw [List.mem_toArray];exact List.mem_map.2 ⟨e,he,rfl⟩,?_⟩
    show (!(T.map (·.2.2)).toArray.contains e.2.2)=true
    rw [Bool.not_eq_true',← Bool.not_eq_true];exact hcn
   have:=Array.size_pos_of_mem this
   omega
  exact J89 (J38 _ h.nd) (J38 _ hn) (fun e=>⟨h.sub e,hall e⟩)
 have hx:=Array.mem_toList_iff.1 hx
 unfold leftOf at hx
 rw [Array.mem_filter,List.mem_toArray] at hx
 obtain ⟨hx1,hx2⟩:=hx
 obtain ⟨e,he,rfl⟩:=List.mem_map.1 hx1
 have hx2:(!(T.map (·.2.2)).toArray.contains e.2.2)=true:=hx2
 have hnt:e ∉ T:=fun ht=>by
  rw [(hseen e he).2 ht] at hx2
  cases hx2
 have hw1h:w1.heap=w.heap:=by rcases hw1 with rfl | rfl<;>rfl
 have hw1g:w.grownBy w1 (some r):=by rcases hw1 with rfl | rfl<;>exact ⟨rfl,rfl,rfl,Y0e _,fun _ _ _=>rfl⟩
 have e1:(T.map (·.2.2)).toArray.push e.2.2=((T++[e]).map (·.2.2)).toArray:=by simp
 have hr1:w1.heap[r]?=some (.mapIter (some b) clock (T.map (·.2.2)).toArray clock):=by rw [hw1h];exact h.hr
 have hrr:(setBlock w1 r (.mapIter (some b) clock ((T.map (·.2.2)).toArray.push e.2.2) clock)).heap[r]?=some (.mapIter (some b) clock ((T.map (·.2.2)).toArray.push e.2.2) clock):=J34 hr1
 have hbb:(setBlock w1 r (.mapIter (some b) clock ((T.map (·.2.2)).toArray.push e.2.2) clock)).heap[b]?=some (.map (es.map entV).toArray clock):=by
  have:=(J1y w1 r (.mapIter (some b) clock ((T.map (·.2.2)).toArray.push e.2.2) clock)).block b (by rw [hw1h];exact J0q h.hb) (fun he=>hbr (by injection he))
  rw [this,hw1h];exact h.hb
 refine .inr ⟨e,_,he,hrun,hw1g.both (J1y _ _ _),by simp [setBlock,hw1h],⟨hbb,by rw [← e1];exact hrr,fun x hx=>?_,?_⟩,?_⟩
 ·rcases Y0m.1 hx with hx | hx
  ·exact h.sub x hx
  rw [Y11.1 hx];exact he
 ·rw [List.map_append,List.nodup_append]
  refine ⟨h.nd,by simp,fun x hx y hy=>?_⟩
  obtain ⟨z,hz,rfl⟩:=List.mem_map.1 hx
  have hy:y=e.2.2:=by simpa using hy
  subst hy
  intro hze
  exact hnt (J9s _ hn (h.sub z hz) he hze ▸ hz)
 exact run_entry_at (P:=Tryz.prog) _ r b clock (T.map (fun x:Ent=>x.2.2)).toArray (es.map entV).toArray clock (entV e) hrr hbb (by rw [List.toList_toArray];exact hx1) (by
  rw [List.toList_toArray,List.map_map];exact hn)
def Jir:Value→Nat
 | .slice _ n _=>n
 | _=>0
theorem J8k {w:World} {b:Nat} {es:List Ent} {clock:Nat} (hb:w.heap[b]?=some (.map (es.map entV).toArray clock)) :
  (Instr.range 86 (.map (some b))).run Tryz.prog w=.ok (.pointer (some ⟨w.heap.size,0,none⟩)) (w.alloc (.mapIter (some b) clock #[] clock)):=by
 have hu:(underlying 86).run Tryz.prog w=.ok (.map 101 3) w:=by kernel_rfl
 simp only [Instr.range,Sem.run_bind,hu,Result.andThen_ok,MapKept.run_getObj_map hb]
 rfl
theorem Jbv (b:Nat) (L:Led) (w:World) (hL:J1a w b L) (hok:∀ e ∈ L,okM e.1) (hn:L.length*32≤140737488355328) :
  Calls Tryz.prog 56 #[.agg #[.map (some b)]] w fun e w'=>∃ v,e=.returned v∧kM.R 101 w' w.heap.size (fun _=>True) v (J61 (L.map (·.1)))∧Below w.heap.size w w':=by
 obtain ⟨es,clock,hb,hnd,hck,hpm,hnL⟩:=hL
 have HL:=Y00 (Y07 hnd (Y07 hck (Y07 hpm hnL)))
 have hbw:=J0q hb
 have hlen:es.length=L.length:=by have:=hpm.length_eq;simpa [prs] using this
 have HLN:=Y08 (Y07 hlen hn)
 clear hnd hck hpm hnL hlen hn
 have b1:=J02 w (.cells #[.map (some b)] 88)
 have hb1:=J04 hb b1
 have hrg:=J8k hb1
 have hz1:(w.alloc (.cells #[.map (some b)] 88)).heap.size=w.heap.size+1:=by simp
 rw [hz1] at hrg
 have HW:=Y08 (show w.heap.size<w.heap.size+1 from Nat.lt_succ_self _)
 have hi:J3o ((w.alloc (.cells #[.map (some b)] 88)).alloc (.mapIter (some b) clock #[] clock)) b (w.heap.size+1) es clock [] :=
  ⟨J04 hb1 (J02 _ _),by have:=Y0c (w.alloc (.cells #[.map (some b)] 88)) (.mapIter (some b) clock #[] clock);simpa using this,by simp,List.nodup_nil⟩
 have HI:=Y00 hi
 clear hi hb1 b1
 go_enter Tryz.func56,Tryz.ntmps56
 go_wp2_with fail
 have HB:=Y00 (J15 (w:=w) (o:=.cells #[.map (some b)] 88) (o':=.mapIter (some b) clock #[] clock))
 clear hrg hz1
 generalize (w.alloc (.cells #[.map (some b)] 88)).alloc (.mapIter (some b) clock #[] clock)=w2 at *
 go_loopw [3] (fun o wr=>∃ (T:List Ent) (A:Option Addr) (c:Nat),J08 (J3o wr b (w.heap.size+1) es clock T∧kM.R 101 wr w.heap.size (fun k=>k≠w.heap.size+1) o (T.map (·.1))∧Below w.heap.size w wr)∧o=.slice A T.length c) (fun o _=>es.length - Jir o)
 case atStart=>exact ⟨[],none,0,⟨HI.out,Kd.R_nil _ _ _ _ _,HB.out⟩,rfl⟩
 obtain ⟨T,A,c,hX,rfl⟩:=hrel
 have hTl:=hX.out.1.len
 rcases hX.out.1.next (ty:=0) HL.out.2.1 HL.out.1 (by omega) with ⟨hperm,hrun⟩ | ⟨e,w3,he,hrun,hg3,hs3,hI3,hen⟩
 ·have HP:=Y08 hperm
  have HTL:=Y08 hTl
  clear hperm hTl
  obtain ⟨A',c',he1,hc',hC'⟩:=Kd.c09 hX.out.2.1
  have hokT:∀ m ∈ T.map (·.1),okM m:=fun m hm=>by
   obtain ⟨e,he,rfl⟩:=List.mem_map.1 hm
   have h1:=HL.out.2.2.1.mem_iff.1 (List.mem_map.2 ⟨e,hX.out.1.sub e he,rfl⟩)
   exact hok _ h1
  have HS:=Y08 (fun w' hb=>Tw.sortedT_any A c (T.map (·.1)) w' (show kN.C w' A (T.map (·.1)).length (T.map (·.1)) from by
   refine kN_C ?_ hokT
   have h:=(Kd.c03 hX.out.2.1).2.2
   exact Kd.c00 h hb) (by have:=HLN.out;have:=HTL.out;rw [Y0g];omega))
  rw [Y0g] at HS
  clear he1 hc' hC' hokT
  go_wp2_with fail
  refine (Jln _).mono ?_
  rintro e w3 ⟨rfl,hb3⟩
  go_wp2_with fail
  refine (HS.out _ hb3).mono ?_
  rintro e w4 ⟨v4,rfl,hR4,hb4⟩
  go_wp2_with fail
  go_ret
  have hb:=J01 hX.out.2.2 hX.out.2.2.size hb3
  refine ⟨v4,rfl,?_,J01 hb hb.size hb4⟩
  rw [← Jkg (l:=T.map (·.1)) ?_]
  ·exact kN_R (Kd.c04 hR4 hb.size)
  have h1:=HP.out.map (·.1)
  refine h1.trans ?_
  have h2:=HL.out.2.2.1.map (·.1)
  rw [prs,List.map_map] at h2
  exact h2
 have HI3:=Y00 hI3
 have hR3:=Kd.R_grown hX.out.2.1 hg3 (fun k hk he=>hk (by injection he))
 have hB3:=hX.out.2.2.grown hg3 hX.out.2.2.size (fun k hk=>by injection hk with hk;omega)
 have HX3:=Y00 (Y07 hR3 hB3)
 simp only [mkV] at hrun hen
 clear hR3 hB3 hg3 hI3
 have HT3:=Y08 (show T.length+1≤es.length by have:=HI3.out.len;rwa [Y02,Y10] at this)
 have HOB:=Y08 (show ∀ k,(Value.slice A T.length c).ownBlock=some k→k≠w.heap.size+1∧w.heap.size≤k from fun k hk=>⟨HX3.out.1.1 k hk,Kd.R_base HX3.out.1 k hk⟩)
 have HS3:=Y08 (Y07 hs3 (show w.heap.size+1<w3.heap.size from J0q HI3.out.hr))
 clear hs3
 go_upto_region 5 with fail
 have b4:=J02 w3 (.cells #[.int .i64 e.1.1,.int .i64 e.1.2.1,.int .i64 e.1.2.2.1,.int .i64 e.1.2.2.2] 101)
 have t0:(w3.alloc (.cells #[.int .i64 e.1.1,.int .i64 e.1.2.1,.int .i64 e.1.2.2.1,.int .i64 e.1.2.2.2] 101)).cell? ⟨w3.heap.size,0,none⟩=some (.int .i64 e.1.1):=J0a w3 _ _ 0
 have t1:(w3.alloc (.cells #[.int .i64 e.1.1,.int .i64 e.1.2.1,.int .i64 e.1.2.2.1,.int .i64 e.1.2.2.2] 101)).cell? ⟨w3.heap.size,1,none⟩=some (.int .i64 e.1.2.1):=J0a w3 _ _ 1
 have t2:(w3.alloc (.cells #[.int .i64 e.1.1,.int .i64 e.1.2.1,.int .i64 e.1.2.2.1,.int .i64 e.1.2.2.2] 101)).cell? ⟨w3.heap.size,2,none⟩=some (.int .i64 e.1.2.2.1):=J0a w3 _ _ 2
 have t3:(w3.alloc (.cells #[.int .i64 e.1.1,.int .i64 e.1.2.1,.int .i64 e.1.2.2.1,.int .i64 e.1.2.2.2] 101)).cell? ⟨w3.heap.size,3,none⟩=some (.int .i64 e.1.2.2.2):=J0a w3 _ _ 3
 have HX4:=Y00 (Y07 (Kd.c01 HX3.out.1 b4) (Y07 (J01 HX3.out.2 HX3.out.2.size b4) (Y07 (HI3.out.move (b4.block b (J0q HI3.out.hb)) (b4.block _ (J0q HI3.out.hr))) b4.size)))
 clear b4
 generalize w3.alloc (.cells #[.int .i64 e.1.1,.int .i64 e.1.2.1,.int .i64 e.1.2.2.1,.int .i64 e.1.2.2.2] 101)=w4 at *
 go_wp2_with (at_builtin;go_must (refine Kd.R_append kM (w0:=w) w.heap.size rfl (.tmp 12) (.tmp 14) _ 101 _ 32 rfl Tryz.underlying115 Tryz.infoMark rfl (by decide) (by decide) (.slice A T.length c) (T.map (·.1)) e.1 _ (fun k=>k≠w.heap.size+1) (fun _=>False) rfl rfl (kM_M _) (fun _ h=>h.elim) (fun k hk=>by have:=HS3.out.2;have:=HX4.out.2.2.2;omega) HX4.out.1 HX4.out.2.1 HX4.out.2.1.size (by rw [Y0g];have:=HLN.out;have:=HT3.out;omega) ?_);intro v6 w6 hR6 hb6 hg6 hat6)
 have hR6':kM.R 101 w6 w.heap.size (fun k=>k≠w.heap.size+1) v6 ((T++[e]).map (·.1)):=by rw [List.map_append];exact hR6
 obtain ⟨A6,c6,hv6⟩:=Kd.c02 hR6'
 rw [Y0g] at hv6
 subst hv6
 have hI6:J3o w6 b (w.heap.size+1) es clock (T++[e]):=by
  refine HX4.out.2.2.1.move ?_ ?_
  ·exact hg6.block b (by have:=HS3.out.2;have:=HX4.out.2.2.2;omega) (fun he=>by have:=(HOB.out b he.symm).2;omega)
  exact hg6.block _ (by have:=HS3.out.2;have:=HX4.out.2.2.2;omega) (fun he=>(HOB.out _ he.symm).1 rfl)
 have hl6:=hI6.len
 rw [Y02,Y10] at hl6
 exact ⟨⟨T++[e],A6,c6,⟨hI6,hR6',hb6⟩,rfl⟩,by simp only [Jir,Y02,Y10];omega⟩
end Go.Proofs.YtbkfnmgkcgnifaaGreat
namespace Go.Proofs.YtbkfnmgkcgnifaaGreat
open Go.RowKit Go.Shelf W1 W2 Mdl
section
variable {P:Program} {Q:Exit→Act→World→Prop} {l n:Nat}
abbrev RF (l:Nat):Fence:=Fence.wide.inRound l
theorem Jlm {f:FuncId} {args:Array Value} {w:World} {R:Ending→World→Prop} (h:Calls P f args w R):CallsIn (RF l) n P f args w R:=CallsIn.inRound l (callsIn_wide.2 h)
theorem Jml {row:String} {args:Array Value} {w:World} {R:Value→World→Prop} (h:Rows P row args w R):RowsIn (RF l) n P row args w R:=fun c cs _=>by
 obtain ⟨v,w',r,s⟩:=h c cs
 exact ⟨v,w',r,(stepsIn_wide (P:=P)).2 s⟩
def J6u (o:Oper):Bool:=match o.op with
 | .defer _=>false
 | _=>true
theorem Jg6 {o:Oper} (h:J6u o=true):∀ c,o.op≠.defer c:=fun c hc=>by simp [J6u,hc] at h
theorem Jg5 {o:Oper} {a:Act} {w:World} {K:Act→World→Prop} (hd:J6u o=true) (h:o.wp P a w K Q):o.wpIn (RF l) n P a w K Q:=by
 refine ⟨fun _ _=>trivial,?_⟩
 unfold Oper.wp at h
 rw [show (RF l).round=some l from rfl,Oper.semAt_some l _ _ (Jg6 hd)]
 generalize (execOp a.eval o).run P w=r at h
 cases r with
 | halt x w' =>
  cases x with
  | panic v=>exact h
  | _=>exact h.elim
 | ok v w'=>?_
 cases v with
 | value v=>exact h
 | skip=>exact h
 | «defer» d=>exact h
 | enter f args=>exact ⟨fun hc=>(by cases hc),Jlm h⟩
 | row r args=>exact ⟨fun hc=>(by cases hc),Jml h⟩
 | round=>exact h.elim
 | _=>exact h.elim
theorem Jq6 {ops:Array Oper} {i:Nat} {a:Act} {w:World} {K:Act→World→Prop} (hd:∀ o ∈ ops,J6u o=true) (hQ:¬ LetsOut Q) (h:wpOp P ops Q i K a w):wpOpIn (RF l) n P ops Q i K a w:=by
 unfold wpOp at h
 unfold wpOpIn
 cases ho:ops[i]? with
 | none=>rw [ho] at h;exact h
 | some o=>?_
 rw [ho] at h
 dsimp only at h ⊢
 split
 ·rename_i hw
  rw [if_pos hw] at h
  exact Jg5 (hd o (Array.mem_of_getElem? ho)) (h.resolve_right (fun h2=>hQ h2.2))
 rename_i hw
 rw [if_neg hw] at h
 exact ⟨fun _ _=>trivial,h⟩
theorem Jjz {md:Region.Mode} {ops:Array Oper} (hd:∀ o ∈ ops,J6u o=true) (hQ:¬ LetsOut Q):∀ (fuel:Nat) (listed:Array Bool) (a:Act) (w:World),wpAny P md ops Q fuel listed a w→wpAnyIn (RF l) n P md ops Q fuel listed a w
 | 0,_,_,_,h=>h
 | fuel+1,listed,a,w,h=>⟨h.1,fun i hi=>Jq6 hd hQ (wpOp_mono (fun a w hk=>Jjz hd hQ fuel _ a w hk) (h.2 i hi))⟩
theorem Jhu {id:Nat} {ops:Array Oper} {a:Act} {w:World} (hm:P.follows .mixedOrders=true) (hd:ops.all J6u=true) (hQ:¬ LetsOut Q) (h:wpAny P .any ops Q ops.size (Array.replicate ops.size false) a w.drew):(Code.region id ops true).wpIn (RF l) n P Q a w :=
 wpIn_region_any hm (Jjz (fun o ho=>Array.all_eq_true'.1 hd o ho) hQ _ _ _ _ h)
theorem Jio {ops:Array Oper} {S:World→Prop} {ds:List Nat} {id k:Nat} {a:Act} {w:World} (lst:Array Bool) (hd:ops.all J6u=true) (hQ:¬ LetsOut Q) (hm:P.follows .mixedOrders=true) (hn:ops.size=k) (hl:Array.replicate k false=lst) (hS:S w.drew)
  (h:S w.drew→J06 P .any ops Q S ds k lst a w.drew):(Code.region id ops true).wpIn (RF l) n P Q a w:=by
 subst hn
 subst hl
 exact Jhu hm hd hQ (J5w _ _ _ _ (h hS))
structure J3m (B:Nat) (W W':World):Prop where
 os:W'.os=W.os
 tape:W'.tape=W.tape
 output:W'.output=W.output
 size:W.heap.size≤W'.heap.size
 same:∀ k o,W.heap[k]?=some o→(k<B∨o.isCells=true)→W'.heap[k]?=some o
theorem J3m.refl (B:Nat) (W:World):J3m B W W:=⟨rfl,rfl,rfl,Y0e _,fun _ _ h _=>h⟩
theorem J3m.trans {B:Nat} {W W1 W2:World} (h:J3m B W W1) (k:J3m B W1 W2):J3m B W W2 :=
 ⟨k.os.trans h.os,k.tape.trans h.tape,k.output.trans h.output,Nat.le_trans h.size k.size,fun i o hi ho=>k.same i o (h.same i o hi ho) ho⟩
theorem J3m.mono {B B':Nat} {W W':World} (h:J3m B W W') (hb:B'≤B):J3m B' W W' :=
 ⟨h.os,h.tape,h.output,h.size,fun k o hk ho=>h.same k o hk (ho.imp (fun h=>Nat.lt_of_lt_of_le h hb) id)⟩
theorem J3m.below {B:Nat} {W W':World} (h:Below W.heap.size W W'):J3m B W W':=⟨h.os,h.tape,h.output,h.size,fun _ _ hk _=>J04 hk h⟩
theorem J3m.alloc {B:Nat} {W:World} (o:Obj):J3m B W (W.alloc o):=.below (J02 W o)
theorem J3m.putObj {B:Nat} {W:World} {i:Nat} {o o':Obj} (hi:W.heap[i]?=some o) (ho:o.isCells=false) (hB:B≤i):J3m B W (W.putObj i o') :=
 ⟨rfl,rfl,rfl,by simp [World.putObj],fun k x hk hx=>by
  have:i≠k:=fun h=>by
   subst h
   rw [hi] at hk
   cases hk
   rcases hx with hx | hx
   ·omega
   rw [ho] at hx;cases hx
  rw [World.putObj_heap_other (by omega)];exact hk⟩
theorem J3m.toBelow {B:Nat} {W W':World} (h:J3m B W W') (hB:B≤W.heap.size):Below B W W' :=
 ⟨h.os,h.tape,h.output,h.size,fun k hk=>by
  have hlt:k<W.heap.size:=by omega
  rw [Array.getElem?_eq_getElem hlt]
  exact h.same k _ (Array.getElem?_eq_getElem hlt) (.inl hk)⟩
def Stab {β:Type} (B:Nat) (I:β→World→Prop):Prop:=∀ s W W',B≤W.heap.size→I s W→J3m B W W'→I s W'
def NC (x:Nat→Prop) (W W':World):Prop:=W.heap.size≤W'.heap.size∧∀ k o,W.heap[k]?=some o→o.isCells=false→¬ x k→W'.heap[k]?=some o
theorem NC.refl (x:Nat→Prop) (W:World):NC x W W:=⟨Y0e _,fun _ _ h _ _=>h⟩
theorem NC.trans {x:Nat→Prop} {W W1 W2:World} (h:NC x W W1) (k:NC x W1 W2):NC x W W2:=⟨Nat.le_trans h.1 k.1,fun i o hi ho hx=>k.2 i o (h.2 i o hi ho hx) ho hx⟩
theorem NC.below {x:Nat→Prop} {W W':World} (h:Below W.heap.size W W'):NC x W W':=⟨h.size,fun _ _ hk _ _=>J04 hk h⟩
def Jpu {α:Type} (P:Program) (gf:Nat) (first cap:Array Value) (enc:α→Array Value) (S:List α→Prop) (x:Nat→Prop) (w:World):Prop :=
 ∀ (l:Nat) (J:List α→World→Prop) (W:World),Below w.heap.size w W→Stab W.heap.size J →
  (∀ pre m W1,J pre W1→(∃ xs,S xs∧(pre++[m]) <+: xs)→YieldAt Fence.wide 5 P l (enc m) W1 fun e W'=>e=.returned (.bool true)∧J (pre++[m]) W'∧NC x W1 W')→J [] W →
  CallsIn Fence.wide 5 P gf (first++#[.func (.yield l) #[] #[]]++cap) W fun e W'=>(∃ v,e=.returned v)∧∃ xs,S xs∧J xs W'
def Jsk (x:Nat→Prop) (I:World→Prop) (W:World):Exit→Act→World→Prop
 | .normal,_,W'=>NC x W W'∧I W'
 | _,_,_=>False
theorem Jfy {α:Type} {g:Operand} {ps:Array Tmp} {assign body:Code} {a:Act} {w:World} {gf:Nat} {first cap:Array Value} (hg:a.eval g=.func (.func gf) first cap) (eg:∀ args w,(callFunc gf args).run P w=.ok (.enter gf args) w)
  {enc:α→Array Value} (hps:∀ m,(enc m).size=ps.size) {S:List α→Prop} {x:Nat→Prop} (hx:∀ k,x k→k<w.heap.size) (hseq:Jpu P gf first cap enc S x w) (I:List α→World→Prop) (hI:Stab w.heap.size I) (h0:I [] w)
  (A:List α→α→Act→World→Prop) (hA:∀ pre m a1,Stab w.heap.size (fun (_:Unit) W=>A pre m a1 W))
  (hassign:∀ l pre m W (K:Act→World→Prop),w.heap.size≤W.heap.size→(∃ xs,S xs∧(pre++[m]) <+: xs)→I pre W→(∀ a1 W1,NC x W W1→A pre m a1 W1→K a1 W1)→assign.wpIn (RF l) 5 P (Exit.then K (fun _ _ _=>False)) { tmps:=(ps.zip (enc m)).foldl (fun t (p,v)=>t.setIfInBounds p v) a.tmps,defers:=[] } W)
  (hbody:∀ l pre m a1 W,w.heap.size≤W.heap.size→(∃ xs,S xs∧(pre++[m]) <+: xs)→A pre m a1 W→body.wpIn (RF l) 5 P (Jsk x (I (pre++[m])) W) a1 W)
  (hdone:∀ D xs W,w.heap.size≤D→S xs→I xs W→W.heap[D]?=some (.deferred (some []))→Q .normal { a with defers:={ target:=.collected D,args:=#[] }::a.defers } W) :
  (Code.rangeFunc g ps assign body).wpIn Fence.wide 6 P Q a w:=by
 refine wpIn_rangeFunc ?_
 intro fn hfn
 obtain ⟨rec,hrec⟩:∃ rec:LoopState→Loop,rec=fun st=>{ state:=st,pending:=none,fn,tmps:=a.tmps,params:=ps,assign,body,defers:=w.heap.size }:=⟨_,rfl⟩
 obtain ⟨W1,hW1⟩:∃ W1,(w.alloc (.deferred (some []))).alloc (.loop (rec .ready))=W1:=⟨_,rfl⟩
 have hL1:W1.heap[w.heap.size+1]?=some (.loop (rec .ready)):=by
  rw [← hW1];have:=Y0c (w.alloc (.deferred (some []))) (.loop (rec .ready));simpa using this
 have hK1:W1.heap[w.heap.size]?=some (.deferred (some [])):=by
  rw [← hW1];exact Jh7 (Y0c w _) _
 have hB1:Below w.heap.size w W1:=by rw [← hW1];exact J15
 have hsz1:W1.heap.size=w.heap.size+2:=by rw [← hW1];simp
 have hI1:I [] W1:=hI _ _ _ (Y0e _) h0 (.below hB1)
 refine ⟨w.heap.size+1,[{ target:=.collected w.heap.size,args:=#[] }],W1,{ target:=.fn (.func gf) cap,args:=first++#[.func (.yield (w.heap.size+1)) #[] #[]] },W1,gf,first++#[.func (.yield (w.heap.size+1)) #[] #[]]++cap,W1,?_,?_,fun _ _=>trivial,?_,fun _=>by omega,?_⟩
 ·rw [← hW1,hrec];exact run_enterLoop_outer _ _ _ _ _
 ·simp only [resolve,hg]
  simp [go_sem]
 ·simp [invoke,go_sem,eg]
 refine (hseq (w.heap.size+1) (fun pre W=>w.heap.size+2≤W.heap.size∧I pre W∧W.heap[w.heap.size+1]?=some (.loop (rec .ready))∧W.heap[w.heap.size]?=some (.deferred (some []))) W1 hB1 ?_ ?_ ⟨by omega,hI1,hL1,hK1⟩).mono ?_
 ·intro s V V' hV h hq
  exact ⟨Nat.le_trans h.1 hq.size,hI _ _ _ (by omega) h.2.1 (hq.mono (by omega)),hq.same _ _ h.2.2.1 (.inl (by omega)),hq.same _ _ h.2.2.2 (.inl (by omega))⟩
 ·rintro pre m W ⟨hsz,hi,hl,hk⟩ hpx
  have hy:=run_yield (P:=P) (args:=enc m) hl (by rw [hrec];exact hps m)
  rw [hrec] at hy
  refine ⟨fn,_,assign,body,hy,roundIn_of_wpIn trivial (wpIn_mono (hassign (w.heap.size+1) pre m W (fun a1 W1=>NC x W W1∧A pre m a1 W1) (by omega) hpx hi (fun a1 W1 h1 h2=>⟨h1,h2⟩)) ?_)⟩
  rintro e a1 V1 he
  cases e with
  | normal =>
   obtain ⟨hnc,ha⟩:=he
   have hl1:=hnc.2 _ _ hl rfl (fun h=>by have:=hx _ h;omega)
   have hk1:=hnc.2 _ _ hk rfl (fun h=>by have:=hx _ h;omega)
   refine ⟨_,run_beginRound hl1 (by rw [hrec]),wpIn_mono (hbody (w.heap.size+1) pre m a1 _ (by have:=hnc.1;rw [World.putObj_size];omega) hpx (hA pre m a1 () _ _ (by have:=hnc.1;omega) ha (.putObj hl1 rfl (by omega)))) ?_⟩
   rintro e a2 V2 he
   cases e with
   | normal =>
    obtain ⟨hnc2,hi2⟩:=he
    have hl2:=hnc2.2 _ _ (World.putObj_heap_same (J0q hl1)) rfl (fun h=>by have:=hx _ h;omega)
    have hk2:=hnc2.2 _ _ ((World.putObj_heap_other (by omega)).trans hk1) rfl (fun h=>by have:=hx _ h;omega)
    have hr:=run_endRound (P:=P) none hl2
    have hfin:(V2.putObj (w.heap.size+1) (.loop { { rec .ready with state:=.busy } with state:=.ready,pending:=none })).heap[w.heap.size+1]?=some (.loop (rec .ready)):=by
     refine (World.putObj_heap_same (J0q hl2)).trans ?_
     rw [hrec]
    refine ⟨_,_,hr,rfl,⟨?_,hI _ _ _ (by have:=hnc.1;have:=hnc2.1;rw [World.putObj_size] at this;omega) hi2 (.putObj hl2 rfl (by omega)),?_,?_⟩,?_⟩
    ·have:=hnc.1;have:=hnc2.1
     rw [World.putObj_size] at this ⊢;omega
    ·exact hfin
    ·exact (World.putObj_heap_other (by omega)).trans hk2
    refine ⟨by have:=hnc.1;have:=hnc2.1;rw [World.putObj_size] at this ⊢;omega,fun k o hko ho hxk=>?_⟩
    by_cases hkl:k=w.heap.size+1
    ·subst hkl
     rw [hl] at hko
     cases hko
     exact hfin
    have h1:=hnc.2 k o hko ho hxk
    have h2:=hnc2.2 k o ((World.putObj_heap_other hkl).trans h1) ho hxk
    exact (World.putObj_heap_other hkl).trans h2
   | _=>exact he.elim
  | _=>exact he.elim
 rintro e W2 ⟨⟨v,rfl⟩,xs,hS,hsz,hi,hl,hk⟩
 have he:(Instr.endLoop (w.heap.size+1)).run P W2=.ok none (W2.putObj (w.heap.size+1) (.loop { rec .ready with state:=.exhausted })):=by
  have:=run_endLoop (P:=P) hl (by rw [hrec];simp)
  rw [hrec] at this ⊢
  exact this
 exact ⟨none,_,he,hdone _ xs _ (Y0e _) hS (hI _ _ _ (by omega) hi (.putObj hl rfl (by omega))) ((World.putObj_heap_other (by omega)).trans hk)⟩
end
end Go.Proofs.YtbkfnmgkcgnifaaGreat
namespace Go.Proofs.YtbkfnmgkcgnifaaGreat
open Go.RowKit Go.Shelf W1 W2 Mdl Go.ChangeMaps
def Mdl.posL (L:Led):List Mk:=(L.filter (fun e=>decide (0<e.2))).map (·.1)
def J87 (w:World) (r:Nat):Nat:=match w.heap[r]? with
 | some (.mapIter _ _ seen _)=>seen.size
 | _=>0
def posE (T:List Ent):List Mk:=(T.filter (fun e=>decide (0<e.2.1))).map (·.1)
theorem Jg2 {T es:List Ent} {L:Led} (h:T.Perm es) (hp:(prs es).Perm L):(posE T).Perm (posL L):=by
 have h1:=(h.filter (fun e=>decide (0<e.2.1))).map (fun e:Ent=>e.1)
 refine h1.trans ?_
 have h2:=(hp.filter (fun e=>decide (0<e.2))).map (fun e=>e.1)
 refine List.Perm.trans ?_ h2
 rw [prs,List.filter_map,List.map_map]
 exact List.Perm.refl _
theorem J9i {w:World} {b r:Nat} {es:List Ent} {clock:Nat} {T:List Ent} (h:J3o w b r es clock T):J87 w r=T.length:=by
 unfold J87
 rw [h.hr];simp
theorem J6s {n m:Nat} {P:Program} {l:Nat} {f:FuncId} {tmps:Array Value} {assign body:Code} {w:World} {R:Ending→World→Prop} (h:RoundIn Fence.wide n P l f tmps assign body w R):RoundIn Fence.wide m P l f tmps assign body w R :=
 ⟨h.1,fun c cs _=>h.2 c cs (room_wide _)⟩
theorem Jhw {B r:Nat} {W W1:World} {o:Obj} (h:W.grownBy W1 (some r)) (hr:W.heap[r]?=some o) (ho:o.isCells=false) (hB:B≤r):J3m B W W1 :=
 ⟨h.os,h.tape,h.output,h.size,fun k o' hk hx=>by
  have hne:k≠r:=fun he=>by
   subst he
   rw [hr] at hk
   cases hk
   rcases hx with hx | hx
   ·omega
   rw [ho] at hx;cases hx
  exact (h.block k (J0q hk) (fun he=>hne (by injection he))).trans hk⟩
theorem Jbq (T:List Ent) (e:Ent):posE (T++[e])=if 0<e.2.1 then posE T++[e.1] else posE T:=by
 unfold posE
 rw [List.filter_append]
 by_cases h:0<e.2.1
 ·simp [h]
 simp [h]
theorem Jhx (A B:List Ent):posE (A++B)=posE A++posE B:=by simp [posE]
theorem Jq0 {T es:List Ent} (hT:T.Nodup) (hes:es.Nodup) (hs:∀ e ∈ T,e ∈ es):∃ rest,(T++rest).Perm es:=by
 refine ⟨es.filter (fun e=>!T.contains e),J89 ?_ hes (fun e=>?_)⟩
 ·rw [List.nodup_append]
  refine ⟨hT,List.filter_sublist.nodup hes,fun a ha b hb he=>?_⟩
  subst he
  have:=(List.mem_filter.1 hb).2
  simp [ha] at this
 rw [Y0m,List.mem_filter]
 constructor
 ·rintro (h | h)
  ·exact hs e h
  exact h.1
 intro h
 by_cases ht:e ∈ T
 ·exact .inl ht
 exact .inr ⟨h,by simp [ht]⟩
theorem Jip (b:Nat) (L:Led) (w:World) (x:Nat→Prop) (hL:J1a w b L) (hx:∀ k,x k→k<w.heap.size∧k≠b) :
  Jpu Tryz.prog 45 #[.agg #[.map (some b)]] #[] (fun m=>#[mkV m]) (fun xs=>xs.Perm (posL L)) x w:=by
 intro l J W hW hJ hY h0
 obtain ⟨es,clock,hb,hnd,hck,hpm,hnL⟩:=hL.below hW
 have HL:=Y00 (Y07 hnd (Y07 hck (Y07 hpm hnL)))
 have HY:=Y08 hY
 have hbw:=J0q hb
 have hww:=hW.size
 have hb1:=J04 hb (J02 W (.cells #[.map (some b)] 88))
 have hrg:=J8k hb1
 have hz1:(W.alloc (.cells #[.map (some b)] 88)).heap.size=W.heap.size+1:=by simp
 rw [hz1] at hrg
 have hi:J3o ((W.alloc (.cells #[.map (some b)] 88)).alloc (.mapIter (some b) clock #[] clock)) b (W.heap.size+1) es clock [] :=
  ⟨J04 hb1 (J02 _ _),by have:=Y0c (W.alloc (.cells #[.map (some b)] 88)) (.mapIter (some b) clock #[] clock);simpa using this,by simp,List.nodup_nil⟩
 have HI:=Y00 hi
 have HJ0:=Y08 (show J [] ((W.alloc (.cells #[.map (some b)] 88)).alloc (.mapIter (some b) clock #[] clock)) from hJ _ _ _ (Y0e _) h0 (.below J15))
 clear hi hb1 hY hnd hck hpm hnL hb h0
 refine callsIn_of_wp Tryz.func45 rfl trivial ?_ rfl
 simp only [Tryz.ntmps45,List.size_toArray,Y0z,List.length_nil,Nat.reduceAdd,Nat.reduceSub,Array.replicate_succ,Array.replicate_zero,List.push_toArray,List.append_toArray,List.nil_append,List.cons_append,List.append_nil]
 gi_wp2
 have HB:=Y00 (J15 (w:=W) (o:=.cells #[.map (some b)] 88) (o':=.mapIter (some b) clock #[] clock))
 clear hrg hz1
 generalize (W.alloc (.cells #[.map (some b)] 88)).alloc (.mapIter (some b) clock #[] clock)=w2 at *
 gi_loopw [5] (fun o wr=>∃ (T:List Ent),J08 (J3o wr b (W.heap.size+1) es clock T∧J (posE T) wr∧W.heap.size≤wr.heap.size)∧o=o) (fun _ wr=>es.length - J87 wr (W.heap.size+1))
 case atStart=>exact ⟨[],⟨HI.out,HJ0.out,HB.out.size⟩,rfl⟩
 obtain ⟨T,hX,-⟩:=hrel
 have HTL:=Y08 hX.out.1.len
 have HSL:=Y08 (J9i hX.out.1)
 rcases hX.out.1.next (ty:=0) HL.out.2.1 HL.out.1 (by omega) with ⟨hperm,hrun⟩ | ⟨e,w3,he,hrun,hg3,hs3,hI3,hen⟩
 ·have HP:=Y08 hperm
  clear hperm
  gi_wp2
  go_end0
  exact ⟨⟨_,rfl⟩,_,Jg2 HP.out HL.out.2.2.1,hX.out.2.1⟩
 have HI3:=Y00 hI3
 have hJ3:=hJ _ _ _ hX.out.2.2 hX.out.2.1 (Jhw hg3 hX.out.1.hr rfl (Nat.le_succ _))
 have hj4:J (posE T) (w3.alloc (.cells #[.int .i64 e.1.1,.int .i64 e.1.2.1,.int .i64 e.1.2.2.1,.int .i64 e.1.2.2.2] 101)):=hJ _ _ _ (by have:=hX.out.2.2;omega) hJ3 (.alloc _)
 have hi4:J3o (w3.alloc (.cells #[.int .i64 e.1.1,.int .i64 e.1.2.1,.int .i64 e.1.2.2.1,.int .i64 e.1.2.2.2] 101)) b (W.heap.size+1) es clock (T++[e]):=hI3.move (Below.heap_alloc _ _ b (J0q hI3.hb)) (Below.heap_alloc _ _ _ (J0q hI3.hr))
 have HS4:=Y08 (show W.heap.size≤w3.heap.size by have:=hX.out.2.2;omega)
 have HI4:=Y00 hi4
 simp only [mkV] at hrun hen
 by_cases hp:0<e.2.1
 ·obtain ⟨fn,tmps,assign,body,hy,hR⟩:=HY.out _ e.1 _ hj4 (by
   obtain ⟨rest,hrest⟩:=Jq0 (J38 _ hI3.nd) (J38 _ HL.out.1) hI3.sub
   refine ⟨posE (T++[e]++rest),Jg2 hrest HL.out.2.2.1,posE rest,?_⟩
   rw [Jhx,Jbq,if_pos hp])
  have HR:=Y08 hR
  simp only [mkV] at hy
  clear hI3 hJ3 hj4 hi4 hg3 hs3 hR
  gi_wp2
  refine (J6s HR.out).mono ?_
  rintro e' W' ⟨rfl,hJ',hnc⟩
  have hi5:J3o W' b (W.heap.size+1) es clock (T++[e]):=HI4.out.move ((hnc.2 _ _ HI4.out.hb rfl (fun h=>(hx _ h).2 rfl)).trans HI4.out.hb.symm) ((hnc.2 _ _ HI4.out.hr rfl (fun h=>by have:=(hx _ h).1;omega)).trans HI4.out.hr.symm)
  have hsz5:=hnc.1
  rw [World.size_alloc] at hsz5
  have HX5:=Y00 (show J3o W' b (W.heap.size+1) es clock (T++[e])∧J (posE (T++[e])) W'∧W.heap.size≤W'.heap.size from ⟨hi5,by rw [Jbq,if_pos hp];exact hJ',by have:=HS4.out;omega⟩)
  have HM:=Y08 (show es.length - J87 W' (W.heap.size+1)<es.length - J87 wr (W.heap.size+1) by
   rw [J9i hi5,HSL.out]
   have:=hi5.len
   rw [Y02,Y10] at this ⊢
   omega)
  clear hi5 hsz5 hnc hJ' hy
  gi_wp2
  exact ⟨⟨T++[e],HX5,trivial⟩,HM.out⟩
 have hp':e.2.1≤0:=by omega
 have hpf:decide (0<e.2.1)=false:=by simpa using hp
 have HJ4:=Y08 hj4
 have HPN:=Y08 hp
 clear hI3 hJ3 hj4 hi4 hg3 hs3 hp
 have HX5:=Y00 (show J3o (w3.alloc (.cells #[.int .i64 e.1.1,.int .i64 e.1.2.1,.int .i64 e.1.2.2.1,.int .i64 e.1.2.2.2] 101)) b (W.heap.size+1) es clock (T++[e])∧J (posE (T++[e])) (w3.alloc (.cells #[.int .i64 e.1.1,.int .i64 e.1.2.1,.int .i64 e.1.2.2.1,.int .i64 e.1.2.2.2] 101))∧W.heap.size≤(w3.alloc (.cells #[.int .i64 e.1.1,.int .i64 e.1.2.1,.int .i64 e.1.2.2.1,.int .i64 e.1.2.2.2] 101)).heap.size from ⟨HI4.out,by rw [Jbq,if_neg HPN.out];exact HJ4.out,by have:=HS4.out;simp;omega⟩)
 have HM:=Y08 (show es.length - J87 (w3.alloc (.cells #[.int .i64 e.1.1,.int .i64 e.1.2.1,.int .i64 e.1.2.2.1,.int .i64 e.1.2.2.2] 101)) (W.heap.size+1)<es.length - J87 wr (W.heap.size+1) by
  rw [J9i HI4.out,HSL.out]
  have:=HI4.out.len
  rw [Y02,Y10] at this ⊢
  omega)
 gi_wp2
 refine ⟨fun _ h=>(by cases h),?_⟩
 gi_wp2
 exact ⟨⟨T++[e],HX5,trivial⟩,HM.out⟩
end Go.Proofs.YtbkfnmgkcgnifaaGreat
namespace Go.Proofs.YtbkfnmgkcgnifaaGreat
open Go.RowKit Go.Shelf W1 Mdl
theorem Tryz.infoInt:(Tryz.prog.info? 3).map (fun i=>(i.zero,i.size,i.bytes))=some (some (.int .i64 0),1,8):=by kernel_rfl
theorem Tryz.infoInts:(Tryz.prog.info? 36).map (fun i=>(i.zero,i.size,i.bytes))=some (some (.slice none 0 0),1,24):=by kernel_rfl
set_option maxRecDepth 100000 in
theorem Jh4 (ad:Addr) (c:Nat) (l:List Int) (w:World) (hl:kI.C w (some ad) l.length l) (hn:l.length*8≤140737488355328) :
  Calls Tryz.prog 70 #[.slice (some ad) l.length c] w fun e w'=>∃ v,e=.returned v∧kI.R 3 w' w.heap.size (fun _=>True) v l∧Below w.heap.size w w':=by
 have HL:=Y00 hl
 have hnil:∀ w,(binOp .eql 36 (.slice (some ad) l.length c) (.slice none 0 0)).run Tryz.prog w=.ok (.bool false) w:=fun w=>Lib.run_eql_slice_nil (P:=Tryz.prog) w 36 3 (some ad) l.length c 0 0 Tryz.underlying36
 clear hl
 go_enter Tryz.func70,Tryz.ntmps70
 go_wp2_with (at_builtin;go_must (refine Kd.R_append_rows kI (Rr:=kI.K (w.alloc (.cells #[] 3))) (w0:=w) w.heap.size rfl (.tmp 5) (.tmp 6) _ 3 (.int .i64 0) 8 rfl Tryz.underlying36 Tryz.infoInt rfl (by decide) (by decide) _ [] l _ _ _ (fun _=>True) (fun _=>False) rfl rfl ⟨fun _ _=>trivial,[],World.ownsRow_made w #[] 0 (Y0e _) (Nat.zero_le _) rfl,Reps.none _ _⟩ (Kd.c00 HL.out (J02 w _)) (fun _ _ h=>h) (fun _ h=>h.elim) (fun _ _=>trivial) (J02 w _) (J02 w _).size (by simpa using hn) ?_);intro v6 w6 hR6 hb6 hg6 hat6)
 go_ret
 exact ⟨_,rfl,hR6,hb6⟩
abbrev kLI:Kd (List Int):=Kd.slice 3 kI
theorem Jsj {w:World} {g:Nat} {t:Tm} (h0:w.cell? ⟨g,0,none⟩=some (.int .i64 t.1)) (h1:w.cell? ⟨g,1,none⟩=some (.int .i64 t.2.1)) (h2:w.cell? ⟨g,2,none⟩=some (.int .i64 t.2.2)) {wide:Nat} (hw:wide≤3) :
  kI.C w (some ⟨g,0,none⟩) (J0g wide t).length (J0g wide t):=by
 refine ⟨rfl,by rw [J0u t hw];omega,fun _=>⟨_,rfl,fun j p hj=>⟨[.int .i64 p],rfl,rfl,fun i u hu=>?_⟩⟩⟩
 cases i with
 | succ i=>simp at hu
 | zero=>?_
 have hu:Value.int .i64 p=u:=by simpa using hu
 subst hu
 rw [J5t]
 have hj3:j<3:=by
  have:=(Y0h.1 hj).1
  rw [J0u t hw] at this;omega
 simp only [J0g,List.getElem?_take] at hj
 split at hj
 ·match j,hj3 with
  | 0,_=>simp at hj;subst hj;exact h0
  | 1,_=>simp at hj;subst hj;exact h1
  | 2,_=>simp at hj;subst hj;exact h2
 cases hj
theorem Jbt (gb wide:Nat) (A:Option Addr) (c:Nat) (l:List Tm) (w:World) (hg:w.cell? ⟨gb,1,none⟩=some (.int .i64 wide)) (h1:1≤wide) (h3:wide≤3) (hl:kT.C w A l.length l) (hn:l.length*24≤140737488355328) :
  Calls Tryz.prog 33 #[.pointer (some ⟨gb,0,none⟩),.slice A l.length c] w fun e w'=>∃ v,e=.returned v∧kLI.R 36 w' w.heap.size (fun _=>True) v (l.map (J0g wide))∧Below w.heap.size w w':=by
 have HL:=Y00 hl
 have hm:=Kd.C_max hl
 have hsl:∀ a w,(Instr.sliceAt 99 (.pointer (some a)) none (some (.int .i64 wide)) none).run Tryz.prog w=.ok (.slice (some a) wide 3) w:=by
  obtain rfl | rfl | rfl:wide=1∨wide=2∨wide=3:=by omega
  ·exact fun _ _=>by kernel_rfl
  ·exact fun _ _=>by kernel_rfl
  exact fun _ _=>by kernel_rfl
 clear hl
 go_enter Tryz.func33,Tryz.ntmps33
 go_wp2
 go_loopw [4,9] (fun o i wr=>∃ k:Nat,k≤l.length∧i=.int .i64 k∧kLI.R 36 wr w.heap.size (fun _=>True) o ((l.take k).map (J0g wide))∧Below w.heap.size w wr) (fun _ i _=>l.length - (intOf i).toNat)
 case atStart=>exact ⟨0,Nat.zero_le _,rfl,Kd.R_nil _ _ _ _ _,Y0f _ _⟩
 obtain ⟨k,hk,rfl,hR,hb⟩:=hrel
 by_cases hlt:k<l.length
 rotate_left
 ·have HR:=Y00 hR
  clear hR
  go_wp2
  go_ret
  have hkl:k=l.length:=by omega
  subst hkl
  have h:=HR.out
  rw [List.take_length] at h
  exact ⟨_,rfl,h,hb⟩
 obtain ⟨ad,rfl,hc0,hc1,hc2⟩:=Jfa (Kd.c00 HL.out hb) hlt
 have HR:=Y00 hR
 clear hR
 have hwc:=J00 (J02 wr (.cells #[.int .i64 l[k].1,.int .i64 l[k].2.1,.int .i64 l[k].2.2] 99)) (J00 hb hg)
 have hbo:=J02 wr (.cells #[.int .i64 l[k].1,.int .i64 l[k].2.1,.int .i64 l[k].2.2] 99)
 have hbx:=Jsj (w:=wr.alloc (.cells #[.int .i64 l[k].1,.int .i64 l[k].2.1,.int .i64 l[k].2.2] 99)) (g:=wr.heap.size) (t:=l[k]) (J0a wr _ _ 0) (J0a wr _ _ 1) (J0a wr _ _ 2) h3
 have hln:=J0u l[k] h3
 have HCL:=Jh4 ⟨wr.heap.size,0,none⟩ 3 (J0g wide l[k]) _ hbx (by rw [hln];omega)
 rw [hln] at HCL
 have HC:=Y08 HCL
 have HLN:=Y08 hln
 clear HCL hbx hln
 have hlm:((l.take k).map (J0g wide)).length=k:=by simp;omega
 have HLM:=Y08 hlm
 have HX:=Y08 (show (l.take (k+1)).map (J0g wide)=(l.take k).map (J0g wide)++[J0g wide l[k]] by rw [Y0u hlt,List.map_append];rfl)
 clear hlm
 go_wp2_with fail
 refine HC.out.mono ?_
 rintro e w4 ⟨v4,rfl,hR4,hb4⟩
 obtain ⟨A4,c4,rfl⟩:=Kd.c02 hR4
 have hRX:=Kd.c01 (Kd.c01 HR.out hbo) hb4
 have hb5:=J01 (J01 hb hb.size hbo) (J01 hb hb.size hbo).size hb4
 have HRX:=Y00 hRX
 have HMn:=Y00 (Kd.c04 (Kd.c06 (Kd.R_newR hR4 (Kd.c01 HR.out hbo)) (fun _ h=>h.2)) (base':=w.heap.size) (J01 hb hb.size hbo).size)
 clear hRX hR4
 go_wp2_with (at_builtin;go_must (refine Kd.R_append kLI (w0:=w) w.heap.size rfl (.tmp 13) (.tmp 21) _ 36 _ 24 rfl Tryz.underlying28 Tryz.infoInts rfl (by decide) (by decide) _ ((l.take k).map (J0g wide)) (J0g wide l[k]) _ (fun _=>True) (fun k=>some k≠u4.ownBlock) rfl rfl ⟨_,rfl,HMn.out⟩ (fun _ h=>⟨trivial,h⟩) (fun _ _=>trivial) HRX.out hb5 hb5.size (by rw [HLM.out];omega) ?_);intro v6 w6 hR6 hb6 hg6 hat6)
 refine ⟨⟨k+1,by omega,by go_num,?_,hb6⟩,by simp [intOf];omega⟩
 rw [HX.out]
 exact hR6
end Go.Proofs.YtbkfnmgkcgnifaaGreat
namespace Go.Proofs.YtbkfnmgkcgnifaaGreat
open Go.RowKit Go.Shelf W1 W2 Mdl
namespace Mdl
abbrev Ed:=Int × Int × List Int
def J3l (start:Int) (n:Nat) (sum:Tm) (on1:List Bool) (rec:Nat→Tm→List (List Tm)→List Bool→Option (List (List Tm))) (acc:Option (List (List Tm))) (e:Ed):Option (List (List Tm)) :=
 acc.bind fun rows =>
  if e.1≠(n:Int)∨on1.getD e.2.1.toNat false=true then
   if e.1=(n:Int)∧e.2.1=start∧J0l sum (tmOf e.2.2)=(0,0,0) then none else some rows
  else rec e.2.1.toNat (J0l sum (tmOf e.2.2)) rows on1
def J4e (E:List Ed) (start:Int):Nat→Nat→Tm→List (List Tm)→List Bool→Option (List (List Tm))
 | 0,_,_,rows,_=>some rows
 | f+1,n,sum,rows,on=>E.foldl (J3l start n sum (on.set n true) (J4e E start f)) (some (rows.set n (rows.getD n []++[sum])))
def Len (L:Nat) (rows:List (List Tm)):Prop:=∀ r ∈ rows,r.length≤L
def wT:Nat→Nat
 | 0=>0
 | f+1=>1+16*wT f
theorem J5l (start:Int) (n:Nat) (sum:Tm) (on1:List Bool) (rec):∀ E:List Ed,E.foldl (J3l start n sum on1 rec) none=none
 | []=>rfl
 | e::E=>by rw [List.foldl_cons];exact J5l start n sum on1 rec E
theorem J72 {start:Int} {n:Nat} {sum:Tm} {on1:List Bool} {rec} {a} (E:List Ed) (k:Nat) (h:(E.take k).foldl (J3l start n sum on1 rec) a=none):E.foldl (J3l start n sum on1 rec) a=none:=by
 conv=>lhs;rw [← List.take_append_drop k E]
 rw [List.foldl_append,h,J5l]
theorem Jaz {L L':Nat} {rows:List (List Tm)} (h:Len L rows) (hl:L≤L'):Len L' rows:=fun r hr=>Nat.le_trans (h r hr) hl
theorem Jnu {L n:Nat} {rows:List (List Tm)} {sum:Tm} (h:Len L rows) (hn:n<rows.length):Len (L+1) (rows.set n (rows.getD n []++[sum])):=by
 intro r hr
 rcases List.mem_or_eq_of_mem_set hr with hr | rfl
 ·exact Nat.le_succ_of_le (h r hr)
 rw [Y02,Y01,Y05 hn]
 exact Nat.succ_le_succ (h _ (Y0l hn))
theorem Jjp {start:Int} {n:Nat} {sum:Tm} {on1:List Bool} {rec} {K W:Nat} (hrec:∀ m s r x L,m<K→r.length=K→Len L r→rec m s r on1=some x→x.length=K∧Len (L+W) x) :
  ∀ (F:List Ed) (r r':List (List Tm)) (M:Nat),(∀ e ∈ F,e.2.1.toNat<K)→r.length=K→Len M r→F.foldl (J3l start n sum on1 rec) (some r)=some r'→r'.length=K∧Len (M+F.length*W) r':=by
 intro F
 induction F with
 | nil=>intro r r' M _ hr hM he;cases he;exact ⟨hr,by simpa using hM⟩
 | cons e F ih =>
  intro r r' M hF hr hM he
  rw [List.foldl_cons] at he
  have hgo:∀ x,J3l start n sum on1 rec (some r) e=some x→x.length=K∧Len (M+W) x:=by
   intro x hx
   simp only [J3l,Option.bind_some] at hx
   split at hx
   ·split at hx
    ·cases hx
    cases hx;exact ⟨hr,Jaz hM (by omega)⟩
   exact hrec _ _ r x M (hF e Y03) hr hM hx
  cases hx:J3l start n sum on1 rec (some r) e with
  | none=>rw [hx,J5l] at he;cases he
  | some x=>?_
  rw [hx] at he
  obtain ⟨h1,h2⟩:=hgo x hx
  obtain ⟨h3,h4⟩:=ih x r' (M+W) (fun e he=>hF e (Y04 _ he)) h1 h2 he
  refine ⟨h3,Jaz h4 ?_⟩
  rw [Y0z,Nat.succ_mul];omega
theorem J8g (E:List Ed) (start:Int) (hE:E.length≤16):∀ f n sum rows on rows' L,(∀ e ∈ E,e.2.1.toNat<rows.length)→n<rows.length→Len L rows→J4e E start f n sum rows on=some rows'→rows'.length=rows.length∧Len (L+wT f) rows'
 | 0,n,sum,rows,on,rows',L,_,_,h,he=>by
  simp only [J4e] at he;cases he;exact ⟨rfl,h⟩
 | f+1,n,sum,rows,on,rows',L,hto,hn,h,he=>by
  simp only [J4e] at he
  obtain ⟨h1,h2⟩:=Jjp (K:=rows.length) (W:=wT f) (fun m s r x L hm hr hL hx=>by
   have:=J8g E start hE f m s r _ x L (fun e he=>by rw [hr];exact hto e he) (by rw [hr];exact hm) hL hx
   exact ⟨this.1.trans hr,this.2⟩) E _ rows' (L+1) hto (by rw [Y0q]) (Jnu h hn) he
  refine ⟨h1,Jaz h2 ?_⟩
  have:E.length*wT f≤16*wT f:=Nat.mul_le_mul_right _ hE
  simp only [wT];omega
theorem count_set {on:List Bool} {n:Nat} (hn:n<on.length) (h:on.getD n true=false):(on.set n true).count false+1=on.count false:=by
 rw [Y01,Y05 hn] at h
 have h:on[n]=false:=h
 have h2:0<on.count false:=List.count_pos_iff.2 (h ▸ Y0l hn)
 rw [List.count_set hn,h];simp;omega
end Mdl
structure WB where
 (ba bo bg bs bw gb ga go ac oc:Nat)
def kE:Kd Ed:=Kd.pair kI (Kd.pair kI kLI)
def WB.caps (B:WB):Array Value:=#[.pointer (some ⟨B.ba,0,none⟩),.pointer (some ⟨B.bo,0,none⟩),.pointer (some ⟨B.bg,0,none⟩),.pointer (some ⟨B.bs,0,none⟩),.pointer (some ⟨B.bw,0,none⟩)]
def WB.okW (B:WB) (base k:Nat):Prop:=base≤k∧k≠B.ba∧k≠B.bo∧k≠B.bg∧k≠B.bs∧k≠B.bw∧k≠B.go
structure WI (B:WB) (w0:World) (E:List Ed) (eA:Option Addr) (eC:Nat) (N:Nat) (start:Int) (w:World):Prop where
 below:Below w0.heap.size w0 w
 ca:w.cell? ⟨B.ba,0,none⟩=some (.slice (some ⟨B.ga,0,none⟩) N B.ac)
 co:w.cell? ⟨B.bo,0,none⟩=some (.slice (some ⟨B.go,0,none⟩) N B.oc)
 cg:w.cell? ⟨B.bg,0,none⟩=some (.pointer (some ⟨B.gb,0,none⟩))
 cs:w.cell? ⟨B.bs,0,none⟩=some (.int .i64 start)
 cw:w.cell? ⟨B.bw,0,none⟩=some (.func (.func 94) #[] B.caps)
 ge:w.cell? ⟨B.gb,2,none⟩=some (.slice eA E.length eC)
structure WF (B:WB) (w0:World) (E:List Ed) (eA:Option Addr) (N:Nat):Prop where
 hE:kE.C w0 eA E.length E
 e16:E.length≤16
 edges:∀ e ∈ E,0≤e.1∧e.1<N∧0≤e.2.1∧e.2.1<N
 dif:B.go≠B.ba∧B.go≠B.bo∧B.go≠B.bg∧B.go≠B.bs∧B.go≠B.bw
 gnew:w0.heap.size≤B.go
 gold:B.gb<w0.heap.size
theorem WI.kept {B w0 E eA eC N start w w'} {S:Nat→Prop} (h:WI B w0 E eA eC N start w) (hf:WF B w0 E eA N) (hk:Kept w w' S) (hb:Below w0.heap.size w0 w') (hS:∀ k,S k→B.okW w0.heap.size k∨k=B.go):WI B w0 E eA eC N start w':=by
 obtain ⟨d1,d2,d3,d4,d5⟩:=hf.dif
 have hn:∀ b,(b=B.ba∨b=B.bo∨b=B.bg∨b=B.bs∨b=B.bw∨b<w0.heap.size)→¬ S b:=by
  intro b hb hs
  have g1:=hf.gnew
  rcases hS b hs with ⟨h0,h1,h2,h3,h4,h5,h6⟩ | h0
  ·rcases hb with h | h | h | h | h | h<;>first | contradiction | omega
  subst h0
  rcases hb with h | h | h | h | h | h<;>first | contradiction | omega
 exact ⟨hb,cellKept h.ca hk (hn _ (by simp)),cellKept h.co hk (hn _ (by simp)),cellKept h.cg hk (hn _ (by simp)),cellKept h.cs hk (hn _ (by simp)),cellKept h.cw hk (hn _ (by simp)),cellKept h.ge hk (hn _ (by simp [hf.gold]))⟩
abbrev J23:Kd (List Tm):=Kd.slice 99 kT
def Jpd (B:WB) (w0:World) (N:Nat) (ok:Nat→Prop) (w:World) (on:List Bool) (r:Option (List (List Tm))) (e:Ending) (w':World):Prop :=
 Below w0.heap.size w0 w'∧Kept w w' (fun k=>ok k∨k=B.go) ∧
 match r with
 | some rows'=>e=.returned (.tuple #[])∧Kd.S J23 68 w' w0.heap.size ok (.slice (some ⟨B.ga,0,none⟩) N B.ac) rows'∧Kd.bool.R 4 w' w0.heap.size (fun k=>k=B.go) (.slice (some ⟨B.go,0,none⟩) N B.oc) on
 | none=>e=.panicked (J4g 1)
theorem Jp1 {start:Int} {n:Nat} {sum:Tm} {on1:List Bool} {rec} {rk:List (List Tm)} {e:Ed} (h:(e.1 != (n:Int))=true):J3l start n sum on1 rec (some rk) e=some rk:=by
 have h:e.1≠(n:Int):=by simpa using h
 simp [J3l,h]
theorem Jqk {start:Int} {n:Nat} {sum:Tm} {on1:List Bool} {rec} {rk:List (List Tm)} {e:Ed} (ho:on1.getD e.2.1.toNat false=true) (h:(e.2.1 != start)=true):J3l start n sum on1 rec (some rk) e=some rk:=by
 have h:e.2.1≠start:=by simpa using h
 simp only [J3l,Option.bind_some,ho,or_true,if_true,h,false_and,and_false,if_false]
theorem Jnc {start:Int} {n:Nat} {sum:Tm} {on1:List Bool} {rec} {rk:List (List Tm)} {e:Ed} (ho:on1.getD e.2.1.toNat false=true) (h:(J0l sum (tmOf e.2.2) == (0,0,0))=false):J3l start n sum on1 rec (some rk) e=some rk:=by
 have h:J0l sum (tmOf e.2.2)≠(0,0,0):=by simpa using h
 simp only [J3l,Option.bind_some,ho,or_true,if_true,h,and_false,if_false]
theorem Jp2 {start:Int} {n:Nat} {sum:Tm} {on1:List Bool} {rec} {rk:List (List Tm)} {e:Ed} (h0:e.1=(n:Int)) (ho:on1.getD e.2.1.toNat false=true) (h:(e.2.1 != start)=false) (hz:(J0l sum (tmOf e.2.2) == (0,0,0))=true):J3l start n sum on1 rec (some rk) e=none:=by
 have h:e.2.1=start:=by simpa using h
 have hz:J0l sum (tmOf e.2.2)=(0,0,0):=by simpa using hz
 simp only [J3l,Option.bind_some]
 rw [if_pos (Or.inr ho),if_pos ⟨h0,h,hz⟩]
theorem Jne {start:Int} {n:Nat} {sum:Tm} {on1:List Bool} {rec} {rk:List (List Tm)} {e:Ed} (h0:e.1=(n:Int)) (ho:on1.getD e.2.1.toNat false=false):J3l start n sum on1 rec (some rk) e=rec e.2.1.toNat (J0l sum (tmOf e.2.2)) rk on1:=by
 simp only [J3l,Option.bind_some,ho,h0,ne_eq,not_true_eq_false,false_or,Bool.false_eq_true,if_false]
theorem J8e {w:World} {A:Option Addr} {l:List Ed} (h:kE.C w A l.length l) {k:Nat} (hk:k<l.length) :
  ∃ ad sA sC,A=some ad∧w.cell? (ad.add (k*3))=some (.int .i64 l[k].1)∧w.cell? ⟨(ad.add (k*3)).block,(ad.add (k*3)).off+1,none⟩=some (.int .i64 l[k].2.1)∧w.cell? ⟨(ad.add (k*3)).block,(ad.add (k*3)).off+2,none⟩=some (.slice sA l[k].2.2.length sC)∧kI.C w sA l[k].2.2.length l[k].2.2∧l[k].2.2.length≤sC:=by
 obtain ⟨ad,c,e,hl,hK,hc⟩:=Kd.C_get h (0,0,[]) (k:Int) (by omega) (by omega)
 rw [Y06,Y01,Y05 hk] at hK
 rw [Y06] at hc
 obtain ⟨c0,c1,rfl,h0,c2,c3,rfl,h2,h3⟩:=hK
 cases h0;cases h2
 obtain ⟨sA,sC,rfl,hle,hC⟩:=h3
 refine ⟨ad,sA,sC,e,?_,?_,?_,hC,hle⟩
 ·have:=hc 0 _ rfl
  rwa [show kE.sz=3 from rfl,Nat.add_zero] at this
 ·have:=hc 1 _ rfl
  rwa [show kE.sz=3 from rfl,J1i _ _ _ (by omega)] at this
 have:=hc 2 _ rfl
 rwa [show kE.sz=3 from rfl,J1i _ _ _ (by omega)] at this
theorem Jny (B:WB) (w0:World) (E:List Ed) (eA:Option Addr) (eC N:Nat) (start:Int) (hf:WF B w0 E eA N) (M:Nat) (hM:M*24≤140737488355328) :
  ∀ (f n:Nat) (sum:Tm) (rows:List (List Tm)) (on:List Bool) (ok:Nat→Prop) (w:World),n<N→on.length=N→rows.length=N→on.getD n true=false→on.count false≤f →
   (∀ k,ok k→B.okW w0.heap.size k)→(∀ k,w.heap.size≤k→ok k)→J08 (∃ L,Len L rows∧L+wT f≤M)→J08 (WI B w0 E eA eC N start w) →
   J08 (Kd.S J23 68 w w0.heap.size ok (.slice (some ⟨B.ga,0,none⟩) N B.ac) rows)→J08 (Kd.bool.R 4 w w0.heap.size (fun k=>k=B.go) (.slice (some ⟨B.go,0,none⟩) N B.oc) on) →
   Calls Tryz.prog 94 (#[.int .i64 n,tmV sum]++B.caps) w (Jpd B w0 N ok w on (J4e E start f n sum rows on)):=by
 intro f
 induction f with
 | zero =>
  intro n sum rows on ok w hn hon hrows hon0 hcount
  exfalso
  have:0<on.count false:=by
   rw [List.count_pos_iff]
   rw [Y01,Y05 (by omega)] at hon0
   exact hon0 ▸ Y0l _
  omega
 | succ f ih =>
  intro n sum rows on ok w hn hon hrows hon0 hcount hok hfresh HL HI HS HO
  have IH:=Y08 ih
  clear ih
  simp only [tmV,WB.caps]
  have hn0:(0:Int)≤n:=by omega
  have hnN:(n:Int)<N:=by omega
  have HC:=Y00 (show on.length=N∧rows.length=N∧on.getD n true=false∧on.count false≤f+1 from ⟨hon,hrows,hon0,hcount⟩)
  have HOK:=Y00 hok
  have HFR:=Y00 hfresh
  clear hon hrows hon0 hcount hok hfresh
  go_enter Tryz.func94,Tryz.ntmps94
  go_wp2
  have hb1:=J02 w (.cells #[.int .i64 sum.1,.int .i64 sum.2.1,.int .i64 sum.2.2] 99)
  have hs1:(w.alloc (.cells #[.int .i64 sum.1,.int .i64 sum.2.1,.int .i64 sum.2.2] 99)).heap.size=w.heap.size+1:=by simp
  have c0:(w.alloc (.cells #[.int .i64 sum.1,.int .i64 sum.2.1,.int .i64 sum.2.2] 99)).cell? ⟨w.heap.size,0,none⟩=some (.int .i64 sum.1):=J0a w #[.int .i64 sum.1,.int .i64 sum.2.1,.int .i64 sum.2.2] 99 0
  have c1:(w.alloc (.cells #[.int .i64 sum.1,.int .i64 sum.2.1,.int .i64 sum.2.2] 99)).cell? ⟨w.heap.size,1,none⟩=some (.int .i64 sum.2.1):=J0a w #[.int .i64 sum.1,.int .i64 sum.2.1,.int .i64 sum.2.2] 99 1
  have c2:(w.alloc (.cells #[.int .i64 sum.1,.int .i64 sum.2.1,.int .i64 sum.2.2] 99)).cell? ⟨w.heap.size,2,none⟩=some (.int .i64 sum.2.2):=J0a w #[.int .i64 sum.1,.int .i64 sum.2.1,.int .i64 sum.2.2] 99 2
  generalize w.alloc (.cells #[.int .i64 sum.1,.int .i64 sum.2.1,.int .i64 sum.2.2] 99)=w1 at *
  have HS1:J08 (Kd.S J23 68 w1 w0.heap.size (fun k=>ok k∧k≠w.heap.size) (.slice (some ⟨B.ga,0,none⟩) N B.ac) rows):=⟨Kd.S_below (Kd.S_elderB HS.out _ (Y0e _)) hb1⟩
  have HO1:=Y00 (Kd.c01 HO.out hb1)
  have HI1:=Y00 (HI.out.kept hf (Kept.of_below hb1 (fun _=>False)) (J01 HI.out.below HI.out.below.size hb1) (fun _ h=>h.elim))
  have HK1:=Y00 (Kept.of_below hb1 (fun k=>ok k∨k=B.go))
  clear HS HO hb1
  obtain ⟨oki,c,hcl,hM1,hcc,hfr,hoki,hH⟩:=Kd.S_elem HS1.out [] n hn0 hnN
  obtain ⟨rv,rfl,hRv⟩:=hM1
  have hrow:=hcc 0 rv rfl
  rw [Y06,show J23.sz=1 from rfl,Nat.mul_one,Nat.add_zero] at hrow
  rw [Y06] at hRv
  have ca:=HI1.out.ca
  have HRV:=Y00 (Kd.c0b hRv)
  have HH:=Y00 (Kd.H_drew hH)
  have HOI:=Y00 hoki
  have HO:=Y00 (Kd.c0b HO1.out)
  have HK:=Y00 HK1.out.drew
  have HI:=Y00 (HI1.out.kept hf (Kept.refl w1 (fun _=>False)).drew (J05 HI1.out.below) (fun _ h=>h.elim))
  clear HO1 HK1 HS1
  clear hRv hH hoki hcc hfr HI1 hcl
  refine sr1 11 (fun w'=>w'.cell? ⟨B.ba,0,none⟩=some (.slice (some ⟨B.ga,0,none⟩) N B.ac)∧w'.cell? ⟨B.ga,n,none⟩=some rv∧w'.cell? ⟨w.heap.size,0,none⟩=some (.int .i64 sum.1)∧w'.cell? ⟨w.heap.size,1,none⟩=some (.int .i64 sum.2.1)∧w'.cell? ⟨w.heap.size,2,none⟩=some (.int .i64 sum.2.2)) [10] ⟨ca,hrow,c0,c1,c2⟩ fun hJ0=>?_
  have HS2:=Y08 (show w1.drew.heap.size=w.heap.size+1 from hs1)
  clear c0 c1 c2 ca hrow hs1
  generalize w1.drew=w2 at *
  refine pu 1 13 (bs 11 2) ?_
  refine pu 3 15 (bs 11 10) ?_
  refine tk5 0 12 (bs 11 11) hJ0 ?_
  refine tk5 2 14 (bs 11 15) hJ0 ?_
  refine pu 4 16 (bs 11 31) ?_
  refine tk5 5 17 (bs 11 63) hJ0 ?_
  refine tk5 6 18 (bs 11 127) hJ0 ?_
  refine on0 7 19 (bs 11 255) fun K hK=>?_
  refine va0 ?_
  have b0:=J02 w2 (.cells #[.int .i64 sum.1,.int .i64 sum.2.1,.int .i64 sum.2.2] 99)
  have HD:=Y00 hJ0
  refine hK.out _ _ (st5 b0 hJ0) (fun hJ0=>?_)
  clear hK K
  refine nm0 _ ?_
  clear hJ0 b0
  refine on0 8 20 (bs 11 511) fun K hK=>?_
  obtain ⟨L,hL1,hL2⟩:=HL.out
  have hlen:(rows.getD n []).length≤L:=by
   have:=HC.out.2.1
   rw [Y01,Y05 (by omega)]
   exact hL1 _ (Y0l _)
  refine Kd.R_append_step kT (w0:=w0) w0.heap.size (by rfl) (.tmp 17) (.tmp 19) 68 99 _ 24 rfl Tryz.underlying68 Tryz.infoTime rfl (by decide) (by decide) rv (rows.getD n []) sum [.int .i64 sum.1,.int .i64 sum.2.1,.int .i64 sum.2.2] (fun k=>oki k∨(ok k∧k≠w.heap.size)∧w2.heap.size≤k) (fun _=>False) rfl rfl (kT_M _) (fun _ hk=>hk.elim) ?aF ?aO ?aB ?aS ?aL ?_
  case aF=>exact fun k hk=>.inr ⟨⟨HFR.out k (by have:=HS2.out;omega),by have:=HS2.out;omega⟩,hk⟩
  case aO=>exact Kd.c06 HRV.out (fun _ hk=>.inl hk)
  case aB=>exact HI.out.below
  case aS=>exact HI.out.below.size
  case aL=>simp only [wT] at hL2;omega
  intro v1 w3 hR2 hb2 hg2 hat2
  obtain ⟨A1,c1,hv1⟩:=Kd.c02 hR2
  generalize (rows.getD n []++[sum]).length=ln at hv1
  subst hv1
  have hrow2:∀ k,rv.ownBlock=some k→oki k:=fun k hk=>HRV.out.1 k hk
  have hH3:=Kd.H_grown (Kd.H_widen HH.out) hg2 (fun k hk=>.inl (hrow2 k hk))
  have nk:∀ b,¬ (ok b∧b≠w.heap.size)∨b=B.ga→some b≠rv.ownBlock:=fun b hb he=>by
   have:=HOI.out b (hrow2 b he.symm)
   rcases hb with hb | hb
   ·exact hb this.1
   exact this.2 hb
  have nba:¬ ok B.ba:=fun h=>(HOK.out _ h).2.1 rfl
  obtain ⟨hcc3,hfr3⟩:=Kd.H_at hH3 hn0 hnN
  have hc3:=hcc3 0 rv rfl
  have hf3:=hfr3 0
  rw [Y06,show J23.sz=1 from rfl,Nat.mul_one,Nat.add_zero] at hc3 hf3
  have HH3:=Y00 hH3
  have HR3:=Y00 hR2
  have HB3:=Y08 hb2
  have HK3:=Y08 (HK.out.of_grown hg2 (fun k hk=>.inl (.inl (HOI.out k (hrow2 k hk)).1.1)))
  have HI3:=Y00 (HI.out.kept hf (S:=oki) (Kept.of_grown hg2 (Kept.refl w2 _) (fun k hk=>.inl (hrow2 k hk))) hb2 (fun k hk=>.inl (HOK.out k (HOI.out k hk).1.1)))
  have HO3:=Y00 (Kd.R_grown HO.out hg2 (fun k hk he=>by subst hk;exact nk B.go (.inl (fun h=>(HOK.out _ h.1).2.2.2.2.2.2 rfl)) he))
  have HS3:=Y08 (show w2.heap.size≤w3.heap.size from hg2.size)
  refine hK.out _ _ ⟨J09 hg2 HD.out.1 (nk _ (.inl (fun h=>nba h.1))),hc3,J09 hg2 HD.out.2.2.1 (nk _ (.inl (fun h=>h.2 rfl))),J09 hg2 HD.out.2.2.2.1 (nk _ (.inl (fun h=>h.2 rfl))),J09 hg2 HD.out.2.2.2.2 (nk _ (.inl (fun h=>h.2 rfl)))⟩ (fun hJ0=>?_)
  clear hK K
  refine nm0 _ ?_
  clear hH3 hcc3 hfr3 hR2 hb2 hg2 hat2 HH HRV HO HK HI HD nk
  refine pu 9 21 (bs 11 1023) ?_
  refine la0 10 (bs 11 2047) (N:=none) fun K hK=>?_
  refine sk0 ?_
  have h4:=Kd.S_seg0 HH3.out hn0 hnN (seg:=[.slice A1 ln c1]) (j:=0) (x':=rows.getD n []++[sum]) (Y0e 1) ⟨_,rfl,HR3.out⟩ (fun k hk=>hk.elim .inl .inr)
  rw [Y06,show J23.sz=1 from rfl,Nat.mul_one,Nat.add_zero] at h4
  refine hK.out _ _ ?_
  clear hK K
  refine dn0 ?_
  have e4:w3.setCells B.ga n [.slice A1 ln c1]=w3.setCell ⟨B.ga,n,none⟩ (.slice A1 ln c1):=rfl
  rw [e4] at h4
  obtain ⟨hs4,hg4⟩:=h4
  have oga:ok B.ga∧B.ga≠w.heap.size:=(Kd.S_R hs4).1 B.ga rfl
  have nga:∀ b,b=B.ba∨b=B.go∨b=w.heap.size→some b≠some B.ga:=fun b hb he=>by
   injection he with he
   subst he
   rcases hb with hb | hb | hb
   ·exact nba (hb ▸ oga.1)
   ·exact (HOK.out _ oga.1).2.2.2.2.2.2 hb
   exact oga.2 hb
  have HS:=Y00 hs4
  have c0:=J09 hg4 hJ0.2.2.1 (nga _ (.inr (.inr rfl)))
  have c1':=J09 hg4 hJ0.2.2.2.1 (nga _ (.inr (.inr rfl)))
  have c2:=J09 hg4 hJ0.2.2.2.2 (nga _ (.inr (.inr rfl)))
  have HB4:=HI3.out.below.grown hg4 HI3.out.below.size (fun k hk=>by injection hk with hk;subst hk;exact (HOK.out _ oga.1).1)
  have HI:=Y00 (HI3.out.kept hf (S:=fun k=>k=B.ga) (Kept.of_grown hg4 (Kept.refl w3 _) (fun k hk=>.inl (by injection hk with hk;exact hk.symm))) HB4 (fun k hk=>.inl (by subst hk;exact HOK.out _ oga.1)))
  have HO:=Y00 (Kd.R_grown HO3.out hg4 (fun k hk=>nga k (.inr (.inl hk))))
  have HK:=Y08 (HK3.out.of_grown hg4 (fun k hk=>.inl (.inl (by injection hk with hk;subst hk;exact oga.1))))
  have HS4:=Y08 (show w.heap.size<(w3.setCell ⟨B.ga,n,none⟩ (.slice A1 ln c1)).heap.size by have:=hg4.size;have:=HS3.out;have:=HS2.out;omega)
  have HLE:=Y00 (show ∃ L,Len L (rows.set n (rows.getD n []++[sum]))∧L+16*wT f≤M from ⟨L+1,Jnu hL1 (by have:=HC.out.2.1;omega),by simp only [wT] at hL2;omega⟩)
  clear hs4 hg4 HB4 HH3 HR3 HB3 HK3 HI3 HO3 HS3 HS2 hc3 hf3 hrow2 oga nga HOI e4 hlen hL1 hL2 nba HL
  generalize w3.setCell ⟨B.ga,n,none⟩ (.slice A1 ln c1)=w4 at *
  clear hJ0
  obtain ⟨co,hcol,hcoM,hcoc,hcof⟩:=Kd.R_elem HO.out true n hn0 hnN
  have ho:=hcoc 0 _ (by rw [hcoM];rfl)
  have hof:=hcof 0
  have hseg:=Kd.R_seg HO.out n hn0 hnN (c:=co) (seg:=[.bool true]) (j:=0) (x':=true) (okp:=fun _=>False) hcol hcoc (Y0e 1) (by rw [hcoM];rfl) (fun _ h=>h.elim)
  rw [Y06,show Kd.bool.sz=1 from rfl,Nat.mul_one,Nat.add_zero] at ho hof
  rw [Y06,show Kd.bool.sz=1 from rfl,Nat.mul_one,Nat.add_zero] at hseg
  rw [HC.out.2.2.1] at ho
  have cco:=HI.out.co
  have HSEG:=Y00 hseg
  clear hseg hcoM hcoc hcol hcof
  go_upto_region 3 with fail
  have e5:w4.setCells B.go n [.bool true]=w4.setCell ⟨B.go,n,none⟩ (.bool true):=rfl
  rw [e5] at HSEG
  have hg5:=HSEG.out.2
  have d0:=J09 hg5 c0 (fun he=>by injection he with he;have:=(HOK.out _ (HFR.out w.heap.size (Y0e _))).2.2.2.2.2.2;exact this he)
  have d1:=J09 hg5 c1' (fun he=>by injection he with he;have:=(HOK.out _ (HFR.out w.heap.size (Y0e _))).2.2.2.2.2.2;exact this he)
  have d2:=J09 hg5 c2 (fun he=>by injection he with he;have:=(HOK.out _ (HFR.out w.heap.size (Y0e _))).2.2.2.2.2.2;exact this he)
  have HK5:=Y08 (HK.out.of_grown hg5 (fun k hk=>.inl (.inr (by injection hk with hk;exact hk.symm))))
  have HB5:=HI.out.below.grown hg5 HI.out.below.size (fun k hk=>by injection hk with hk;subst hk;exact hf.gnew)
  have HI5:=Y00 (HI.out.kept hf (S:=fun k=>k=B.go) (Kept.of_grown hg5 (Kept.refl w4 _) (fun k hk=>.inl (by injection hk with hk;exact hk.symm))) HB5 (fun k hk=>.inr hk))
  have HO5:=Y00 HSEG.out.1
  have HS5:=Y00 (Kd.S_grown HS.out hg5 (fun k hk he=>by injection he with he;subst he;exact (HOK.out _ hk.1).2.2.2.2.2.2 rfl))
  have HZ5:=Y08 (Nat.lt_of_lt_of_le HS4.out hg5.size)
  clear hg5 HSEG HB5 e5 HS HK HI HO HS4 c0 c1' c2 co ho hof cco hJ0
  generalize w4.setCell ⟨B.go,n,none⟩ (.bool true)=w5 at *
  generalize hR1:rows.set n (rows.getD n []++[sum])=rows1 at *
  generalize hO1:on.set n true=on1 at *
  have cg:=HI5.out.cg
  have ge:=HI5.out.ge
  have HE:=Y00 (Kd.c00 hf.hE HI5.out.below)
  have hEm:=Kd.C_max HE.out
  have HR1:=Y08 hR1
  have HO1:=Y08 hO1
  clear hR1 hO1
  go_wp2
  go_loopw [31] (fun i wr=>∃ k:Nat,k≤E.length∧i=.int .i64 k∧∃ rk,J08 ((E.take k).foldl (J3l start n sum on1 (J4e E start f)) (some rows1)=some rk∧WI B w0 E eA eC N start wr ∧
    Kd.S J23 68 wr w0.heap.size (fun k=>ok k∧k≠w.heap.size) (.slice (some ⟨B.ga,0,none⟩) N B.ac) rk∧Kd.bool.R 4 wr w0.heap.size (fun k=>k=B.go) (.slice (some ⟨B.go,0,none⟩) N B.oc) on1∧Kept w wr (fun k=>ok k∨k=B.go)) ∧
    wr.cell? ⟨w.heap.size,0,none⟩=some (.int .i64 sum.1)∧wr.cell? ⟨w.heap.size,1,none⟩=some (.int .i64 sum.2.1)∧wr.cell? ⟨w.heap.size,2,none⟩=some (.int .i64 sum.2.2)) (fun i _=>E.length - (intOf i).toNat)
  case atStart=>exact ⟨0,Nat.zero_le _,rfl,rows1,⟨rfl,HI5.out,HS5.out,HO5.out,HK5.out⟩,d0,d1,d2⟩
  obtain ⟨k,hk,rfl,rk,hX,hc0,hc1,hc2⟩:=hrel
  by_cases hlt:k<E.length
  rotate_left
  ·have hwn:=hX.out.2.1.co
   obtain ⟨co,hcol,hcoM,hcoc,hcof⟩:=Kd.R_elem hX.out.2.2.2.1 true n hn0 hnN
   have ho:=hcoc 0 _ (by rw [hcoM];rfl)
   have hof:=hcof 0
   have hseg:=Kd.R_seg hX.out.2.2.2.1 n hn0 hnN (c:=co) (seg:=[.bool false]) (j:=0) (x':=false) (okp:=fun _=>False) hcol hcoc (Y0e 1) (by rw [hcoM];rfl) (fun _ h=>h.elim)
   rw [Y06,show Kd.bool.sz=1 from rfl,Nat.mul_one,Nat.add_zero] at ho hof
   rw [Y06,show Kd.bool.sz=1 from rfl,Nat.mul_one,Nat.add_zero] at hseg
   have HSEG:=Y00 hseg
   clear hseg hcoM hcoc hcol hcof
   go_wp2_with fail
   go_end0
   have e5:wr.setCells B.go n [.bool false]=wr.setCell ⟨B.go,n,none⟩ (.bool false):=rfl
   rw [e5] at HSEG
   obtain ⟨hr5,hg5⟩:=HSEG.out
   have hkE:k=E.length:=by omega
   have hL:=hX.out.1
   rw [hkE,List.take_length] at hL
   have hw:J4e E start (f+1) n sum rows on=some rk:=by
    simp only [J4e]
    rw [HO1.out,HR1.out]
    exact hL
   refine ⟨hX.out.2.1.below.grown hg5 hX.out.2.1.below.size (fun k hk=>by injection hk with hk;subst hk;exact hf.gnew),hX.out.2.2.2.2.of_grown hg5 (fun k hk=>.inl (.inr (by injection hk with hk;exact hk.symm))),?_⟩
   rw [hw]
   refine ⟨rfl,Kd.S_mono (Kd.S_grown hX.out.2.2.1 hg5 (fun k hk he=>by injection he with he;subst he;exact (HOK.out _ hk.1).2.2.2.2.2.2 rfl)) (fun k hk=>hk.1),?_⟩
   have:on1.set n false=on:=by
    rw [← HO1.out,List.set_set]
    have:=HC.out.2.2.1
    rw [Y01,Y05 (by have:=HC.out.1;omega)] at this
    have h2:on[n]'(by have:=HC.out.1;omega)=false:=this
    rw [← h2]
    exact List.set_getElem_self _
   rw [this] at hr5
   exact hr5
  obtain ⟨ad,sA,sC,rfl,he0,he1,he2,heL,heC⟩:=J8e (Kd.c00 hf.hE hX.out.2.1.below) hlt
  have HEK:=Y00 (show E.take (k+1)=E.take k++[E[k]]∧E[k] ∈ E from ⟨Y0u hlt,Y0l _⟩)
  generalize E[k]=ee at *
  have WRL:=Y08 (World.block_lt_of_cell? wr _ hc0)
  have hkE:(k:Int)<E.length:=by omega
  have hk0:(0:Int)≤k:=by omega
  go_upto_region 6 with fail
  have bE:=J02 wr (.cells #[.int .i64 ee.1,.int .i64 ee.2.1,.slice sA ee.2.2.length sC] 129)
  have hsz:(wr.alloc (.cells #[.int .i64 ee.1,.int .i64 ee.2.1,.slice sA ee.2.2.length sC] 129)).heap.size=wr.heap.size+1:=by simp
  have e0:(wr.alloc (.cells #[.int .i64 ee.1,.int .i64 ee.2.1,.slice sA ee.2.2.length sC] 129)).cell? ⟨wr.heap.size,0,none⟩=some (.int .i64 ee.1):=J0a wr _ _ 0
  have e1:(wr.alloc (.cells #[.int .i64 ee.1,.int .i64 ee.2.1,.slice sA ee.2.2.length sC] 129)).cell? ⟨wr.heap.size,1,none⟩=some (.int .i64 ee.2.1):=J0a wr _ _ 1
  have e2:(wr.alloc (.cells #[.int .i64 ee.1,.int .i64 ee.2.1,.slice sA ee.2.2.length sC] 129)).cell? ⟨wr.heap.size,2,none⟩=some (.slice sA ee.2.2.length sC):=J0a wr _ _ 2
  have f0:=J00 bE hc0
  have f1:=J00 bE hc1
  have f2:=J00 bE hc2
  have HEL:=Y00 (Kd.c00 heL bE)
  have BE:=Y08 bE
  have HSZ:=Y08 hsz
  clear heL bE hsz he0 he1 he2 hc0 hc1 hc2
  generalize wr.alloc (.cells #[.int .i64 ee.1,.int .i64 ee.2.1,.slice sA ee.2.2.length sC] 129)=wq at *
  go_cut [11,31] from 31 to 72 (fun s11 s31 wx=>s31=.int .i64 k∧∃ g,s11=.pointer (some ⟨g,0,none⟩)∧wx.cell? ⟨g,0,none⟩=some (.int .i64 (J0l sum (tmOf ee.2.2)).1)∧wx.cell? ⟨g,1,none⟩=some (.int .i64 (J0l sum (tmOf ee.2.2)).2.1)∧wx.cell? ⟨g,2,none⟩=some (.int .i64 (J0l sum (tmOf ee.2.2)).2.2)∧Hid (Below wq.heap.size wq wx∧wq.heap.size≤g))
  case first =>
   have PL:=fun w=>Y08 (Jen sum (tmOf ee.2.2) w)
   have TI:=fun w h=>Y08 (J6m sA sC ee.2.2 w h)
   simp only [tmV] at PL TI
   have HD:=Y00 (J05 (Y0f wq.heap.size wq))
   refine sr1 7 (fun w'=>w'.cell? ⟨w.heap.size,0,none⟩=some (.int .i64 sum.1)∧w'.cell? ⟨w.heap.size,1,none⟩=some (.int .i64 sum.2.1)∧w'.cell? ⟨w.heap.size,2,none⟩=some (.int .i64 sum.2.2)∧w'.cell? ⟨wr.heap.size,2,none⟩=some (.slice sA ee.2.2.length sC)) [6] ⟨f0,f1,f2,e2⟩ fun hJ0=>?_
   have HW:=Y08 (show wq.drew.heap.size=wq.heap.size from rfl)
   generalize wq.drew=wd at *
   refine tk4 0 35 (bs 7 1) hJ0 ?_
   refine pu 1 36 (bs 7 3) ?_
   refine tk4 2 37 (bs 7 7) hJ0 ?_
   refine Jl1 1 #[true,true,true,true,true,true,false] (fun g:Nat=>[(38,.agg #[.int .i64 (tmOf ee.2.2).1,.int .i64 (tmOf ee.2.2).2.1,.int .i64 (tmOf ee.2.2).2.2]),(39,.agg #[.int .i64 (J0l sum (tmOf ee.2.2)).1,.int .i64 (J0l sum (tmOf ee.2.2)).2.1,.int .i64 (J0l sum (tmOf ee.2.2)).2.2]),(11,.pointer (some ⟨g,0,none⟩))]) (fun g w'=>Below wq.heap.size wq w'∧w'.heap[g]?=some (.cells #[.int .i64 0,.int .i64 0,.int .i64 0] 99)∧wq.heap.size≤g) ?_ ?_
   ·rintro g w' ⟨hbw,hbk,hge⟩
    obtain ⟨z0,z1,z2⟩:=bc3 hbk
    obtain ⟨y0,y1,y2⟩:=bf3 hbk
    refine Jkr (a':=?_) ?_ ?_
    rotate_left
    ·show J2x _ _=_
     simp only [J2x,Act.put,List.setIfInBounds_toArray,List.set_cons_zero,List.set_cons_succ]
     rfl
    refine Jqe (i:=6) (N:=none) #[true,true,true,true,true,true,true] rfl rfl (by kernel_rfl) (by decide) (fun K hK=>?_)
    refine sk0 ?_
    refine hK.out _ _ ?_
    clear hK K
    refine dn0 ?_
    go_wp2_with fail
    go_meet
    refine ⟨rfl,g,rfl,?_,?_,?_,Y08 ⟨((hbw.setCell hge _).setCell hge _).setCell hge _,hge⟩⟩<;>go_simp
   intro hcont
   simp only [J2x,Act.put,List.setIfInBounds_toArray,List.set_cons_zero,List.set_cons_succ] at hcont
   have HCT:=Y08 hcont
   have HS:∀ W,Below wq.heap.size wq W→W.cell? ⟨w.heap.size,0,none⟩=some (.int .i64 sum.1)∧W.cell? ⟨w.heap.size,1,none⟩=some (.int .i64 sum.2.1)∧W.cell? ⟨w.heap.size,2,none⟩=some (.int .i64 sum.2.2)∧W.cell? ⟨wr.heap.size,2,none⟩=some (.slice sA ee.2.2.length sC):=fun W hb=>⟨J00 hb f0,J00 hb f1,J00 hb f2,J00 hb e2⟩
   have HSH:=Y08 HS
   clear hcont HS
   refine two_ (i:=3) (j:=5) (Ni:=some 38) (Nj:=some 11) #[true,true,true,true,false,false,false] #[true,true,true,false,false,true,false] rfl rfl rfl rfl (by kernel_rfl) (by decide) (by decide) (fun K hK=>?_) (fun K hK=>?_)
   ·refine gs0 Tryz.func64 #[.slice sA ee.2.2.length sC] ?_
    refine (TI _ (Kd.c00 HEL.out HD.out)).out.mono ?_
    rintro e w1 ⟨rfl,hb1⟩
    have hB1:=J01 HD.out HD.out.size hb1
    refine ⟨_,rfl,hK.out _ _ (HSH.out _ hB1) (fun hJ0=>?_)⟩
    clear hK K
    refine nm0 _ ?_
    refine two_ (i:=4) (j:=5) (Ni:=some 39) (Nj:=some 11) #[true,true,true,true,true,false,false] #[true,true,true,true,false,true,false] rfl rfl rfl rfl (by kernel_rfl) (by decide) (by decide) (fun K hK=>?_) (fun K hK=>?_)
    ·refine gs0 Tryz.func75 #[.agg #[.int .i64 sum.1,.int .i64 sum.2.1,.int .i64 sum.2.2],.agg #[.int .i64 (tmOf ee.2.2).1,.int .i64 (tmOf ee.2.2).2.1,.int .i64 (tmOf ee.2.2).2.2]] ?_
     refine (PL _).out.mono ?_
     rintro e w2 ⟨rfl,hb2⟩
     have hB2:=J01 hB1 hB1.size hb2
     refine ⟨_,rfl,hK.out _ _ (HSH.out _ hB2) (fun hJ0=>?_)⟩
     clear hK K
     refine nm0 _ ?_
     refine one_ (i:=5) (N:=some 11) #[true,true,true,true,true,true,false] rfl rfl (by kernel_rfl) (by decide) (fun K hK=>?_)
     refine va0 ?_
     have hB3:=J1e hB2 (.cells #[.int .i64 0,.int .i64 0,.int .i64 0] 99)
     refine hK.out _ _ (HSH.out _ hB3) (fun hJ0=>?_)
     clear hK K
     refine nm0 _ ?_
     exact HCT.out w2.heap.size _ ⟨hB3,Y0c w2 _,hB2.size⟩
    refine va0 ?_
    have hB2:=J1e hB1 (.cells #[.int .i64 0,.int .i64 0,.int .i64 0] 99)
    refine hK.out _ _ (HSH.out _ hB2) (fun hJ0=>?_)
    clear hK K
    refine nm0 _ ?_
    refine one_ (i:=4) (N:=some 39) #[true,true,true,true,true,true,false] rfl rfl (by kernel_rfl) (by decide) (fun K hK=>?_)
    refine gs0 Tryz.func75 #[.agg #[.int .i64 sum.1,.int .i64 sum.2.1,.int .i64 sum.2.2],.agg #[.int .i64 (tmOf ee.2.2).1,.int .i64 (tmOf ee.2.2).2.1,.int .i64 (tmOf ee.2.2).2.2]] ?_
    refine (PL _).out.mono ?_
    rintro e w2 ⟨rfl,hb2⟩
    have hB3:=J01 hB2 hB2.size hb2
    refine ⟨_,rfl,hK.out _ _ (HSH.out _ hB3) (fun hJ0=>?_)⟩
    clear hK K
    refine nm0 _ ?_
    exact HCT.out w1.heap.size _ ⟨hB3,J04 (Y0c w1 _) hb2,hB1.size⟩
   refine va0 ?_
   have hB1:=J1e HD.out (.cells #[.int .i64 0,.int .i64 0,.int .i64 0] 99)
   refine hK.out _ _ (HSH.out _ hB1) (fun hJ0=>?_)
   clear hK K
   refine nm0 _ ?_
   refine one_ (i:=3) (N:=some 38) #[true,true,true,true,false,true,false] rfl rfl (by kernel_rfl) (by decide) (fun K hK=>?_)
   refine gs0 Tryz.func64 #[.slice sA ee.2.2.length sC] ?_
   refine (TI _ (Kd.c00 HEL.out hB1)).out.mono ?_
   rintro e w1 ⟨rfl,hb1⟩
   have hB2:=J01 hB1 hB1.size hb1
   have Z1:=J04 (Y0c wd (.cells #[.int .i64 0,.int .i64 0,.int .i64 0] 99)) hb1
   refine ⟨_,rfl,hK.out _ _ (HSH.out _ hB2) (fun hJ0=>?_)⟩
   clear hK K
   refine nm0 _ ?_
   refine one_ (i:=4) (N:=some 39) #[true,true,true,true,true,true,false] rfl rfl (by kernel_rfl) (by decide) (fun K hK=>?_)
   refine gs0 Tryz.func75 #[.agg #[.int .i64 sum.1,.int .i64 sum.2.1,.int .i64 sum.2.2],.agg #[.int .i64 (tmOf ee.2.2).1,.int .i64 (tmOf ee.2.2).2.1,.int .i64 (tmOf ee.2.2).2.2]] ?_
   refine (PL _).out.mono ?_
   rintro e w2 ⟨rfl,hb2⟩
   have hB3:=J01 hB2 hB2.size hb2
   refine ⟨_,rfl,hK.out _ _ (HSH.out _ hB3) (fun hJ0=>?_)⟩
   clear hK K
   refine nm0 _ ?_
   exact HCT.out wd.heap.size _ ⟨hB3,J04 Z1 hb2,by rw [HW.out];exact Y0e _⟩
  obtain ⟨rfl,g,rfl,n0,n1,n2,HH⟩:=hcut
  have hbq:=HH.out.1
  have g0:=J00 hbq e0
  have g1:=J00 hbq e1
  have m0:=J00 hbq f0
  have m1:=J00 hbq f1
  have m2:=J00 hbq f2
  have hbr:=J01 BE.out BE.out.size hbq
  have HB:=Y08 hbr
  have HX:=Y00 (show WI B w0 E (some ad) eC N start wc∧Kd.S J23 68 wc w0.heap.size (fun k=>ok k∧k≠w.heap.size) (.slice (some ⟨B.ga,0,none⟩) N B.ac) rk∧Kd.bool.R 4 wc w0.heap.size (fun k=>k=B.go) (.slice (some ⟨B.go,0,none⟩) N B.oc) on1∧Kept w wc (fun k=>ok k∨k=B.go) from
   ⟨hX.out.2.1.kept hf (Kept.of_below hbr (fun _=>False)) (J01 hX.out.2.1.below hX.out.2.1.below.size hbr) (fun _ h=>h.elim),Kd.S_below hX.out.2.2.1 hbr,Kd.c01 hX.out.2.2.2.1 hbr,hX.out.2.2.2.2.below hbr⟩)
  obtain ⟨q0,q1,q2,q3⟩:=hf.edges ee HEK.out.2
  have co:=HX.out.1.co
  have cs:=HX.out.1.cs
  have cw:=HX.out.1.cw
  obtain ⟨cl,hcl1,hcl2,hcl3,_⟩:=Kd.R_elem HX.out.2.2.1 false ee.2.1 q2 q3
  have hon:=hcl3 0 _ (by rw [hcl2];rfl)
  rw [show Kd.bool.sz=1 from rfl,Nat.mul_one,Nat.add_zero] at hon
  have hne:∀ w,(binOp .neq 99 (.agg #[.int .i64 (J0l sum (tmOf ee.2.2)).1,.int .i64 (J0l sum (tmOf ee.2.2)).2.1,.int .i64 (J0l sum (tmOf ee.2.2)).2.2]) (.agg #[.int .i64 0,.int .i64 0,.int .i64 0])).run Tryz.prog w=.ok (.bool (!(J0l sum (tmOf ee.2.2) == (0,0,0)))) w:=fun w=>Jbi (J0l sum (tmOf ee.2.2)) (0,0,0) w
  have hstep:=fun rk'=>show (E.take (k+1)).foldl (J3l start n sum on1 (J4e E start f)) (some rows1)=rk'↔J3l start n sum on1 (J4e E start f) (some rk) ee=rk' from by rw [HEK.out.1,List.foldl_append,hX.out.1];rfl
  have HST:=Y08 hstep
  clear hcl1 hcl2 hcl3 hbq hbr e0 e1 e2 f0 f1 f2 hstep
  cases hfn:(ee.1 != (n:Int))
  rotate_left
  ·have HFN:=Y08 hfn
   go_wp2_with fail
   refine (J1w _ _).mono ?_
   rintro e wm ⟨rfl,rfl⟩
   go_wp2_with fail
   exact ⟨⟨k+1,by omega,by go_num,rk,⟨(HST.out _).2 (Jp1 HFN.out),HX.out.1,HX.out.2.1,HX.out.2.2.1,HX.out.2.2.2⟩,m0,m1,m2⟩,by simp [intOf];omega⟩
  have hfe:ee.1=n:=by simpa using hfn
  have HFE:=Y08 hfe
  cases hot:on1.getD ee.2.1.toNat false
  rotate_left
  ·rw [hot] at hon
   have HOT:=Y08 hot
   clear hot
   cases hst:(ee.2.1 != start)
   ·have HSR:=Y08 hst
    cases hz:(J0l sum (tmOf ee.2.2) == (0,0,0))
    ·have HZ:=Y08 hz
     rw [hz] at hne
     clear hz hfe
     go_wp2_with fail
     refine (J1w _ _).mono ?_
     rintro e wm ⟨rfl,rfl⟩
     go_wp2_with fail
     exact ⟨⟨k+1,by omega,by go_num,rk,⟨(HST.out _).2 (Jnc HOT.out HZ.out),HX.out.1,HX.out.2.1,HX.out.2.2.1,HX.out.2.2.2⟩,m0,m1,m2⟩,by simp [intOf];omega⟩
    have HZ:=Y08 hz
    rw [hz] at hne
    clear hz hfe
    go_wp2_with fail
    refine (J0r _ _).mono ?_
    rintro e wm ⟨rfl,rfl⟩
    have hw:J4e E start (f+1) n sum rows on=none:=by
     simp only [J4e]
     rw [HO1.out,HR1.out]
     exact J72 E (k+1) ((HST.out _).2 (Jp2 HFE.out HOT.out HSR.out HZ.out))
    refine ⟨rfl,HX.out.1.below,HX.out.2.2.2,?_⟩
    rw [hw]
   have HSR:=Y08 hst
   clear hfe
   go_wp2_with fail
   refine (J1w _ _).mono ?_
   rintro e wm ⟨rfl,rfl⟩
   go_wp2_with fail
   exact ⟨⟨k+1,by omega,by go_num,rk,⟨(HST.out _).2 (Jqk HOT.out HSR.out),HX.out.1,HX.out.2.1,HX.out.2.2.1,HX.out.2.2.2⟩,m0,m1,m2⟩,by simp [intOf];omega⟩
  rw [hot] at hon
  have HOT:=Y08 hot
  clear hot
  have hL:=hX.out.1
  have hgl:g<wc.heap.size:=World.block_lt_of_cell? wc _ n0
  have hwl:w.heap.size<wr.heap.size:=WRL.out
  have hbq:=HH.out.1.size
  have hsq:=HSZ.out
  have hge:=HH.out.2
  have hcall:=IH.out ee.2.1.toNat (J0l sum (tmOf ee.2.2)) rk on1 (fun k=>(ok k∧k≠w.heap.size)∧k≠wr.heap.size∧k≠g) wc
  have hci:((ee.2.1.toNat:Nat):Int)=ee.2.1:=Y0k q2
  simp only [tmV,WB.caps,hci] at hcall
  obtain ⟨L,hL1,hL2⟩:=HLE.out
  have hfl:=Jjp (K:=N) (W:=wT f) (fun m s r x L hm hr hL hx=>by
   have:=J8g E start hf.e16 f m s r _ x L (fun e he=>by have:=hf.edges e he;omega) (by omega) hL hx
   exact ⟨this.1.trans hr,this.2⟩) (E.take k) rows1 rk L (fun e he=>by have:=hf.edges e (List.mem_of_mem_take he);omega) (by rw [← HR1.out,Y0q];exact HC.out.2.1) hL1 hL
  have hto:ee.2.1.toNat<N:=by omega
  have hol:on1.length=N:=by rw [← HO1.out,Y0q];exact HC.out.1
  have hot:on1.getD ee.2.1.toNat true=false:=by
   have:=HOT.out
   rw [Y01,Y05 (by omega)] at this ⊢
   exact this
  have hcnt:on1.count false≤f:=by
   have:=count_set (on:=on) (n:=n) (by have:=HC.out.1;omega) HC.out.2.2.1
   have:=HC.out.2.2.2
   rw [← HO1.out];omega
  have hlen:(E.take k).length=k:=by rw [Y0o];omega
  have hk16:k*wT f+wT f≤16*wT f:=by
   rw [← Nat.succ_mul];exact Nat.mul_le_mul_right _ (by have:=hf.e16;omega)
  have hcall:=hcall hto hol hfl.1 hot hcnt (fun k hk=>HOK.out k hk.1.1) (fun k hk=>⟨⟨HFR.out k (by omega),by omega⟩,by omega,by omega⟩)
   ⟨L+k*wT f,by have:=hfl.2;rw [hlen] at this;exact this,by omega⟩ ⟨HX.out.1⟩ ⟨Kd.S_below (Kd.S_mono (Kd.S_bound hX.out.2.2.1) (fun k hk=>⟨hk.1,by have:=hk.2.2.1;omega,by have:=hk.2.2.1;omega⟩)) HB.out⟩ ⟨HX.out.2.2.1⟩
  have HCALL:=Y08 hcall
  clear hcall hL hgl hwl hbq hsq hge hL1 hL2 hfl hto hol hot hcnt hlen hk16
  have he:=enters_of Tryz.func94 (by kernel_rfl) rfl
  go_wp2_with fail
  refine HCALL.out.mono ?_
  rintro e wm ⟨hbm,hkm,hm⟩
  have hkw:Kept w wm (fun k=>ok k∨k=B.go):=HX.out.2.2.2.then_ hkm (fun k hk=>hk.elim (fun h=>.inl (.inl h.1.1)) (fun h=>.inl (.inr h)))
  have hwm:=HX.out.1.kept hf hkm hbm (fun k hk=>hk.elim (fun h=>.inl (HOK.out k h.1.1)) .inr)
  cases hwp:J4e E start f ee.2.1.toNat (J0l sum (tmOf ee.2.2)) rk on1 with
  | none =>
   rw [hwp] at hm
   subst hm
   have hw:J4e E start (f+1) n sum rows on=none:=by
    simp only [J4e]
    rw [HO1.out,HR1.out]
    exact J72 E (k+1) ((HST.out _).2 ((Jne HFE.out HOT.out).trans hwp))
   refine ⟨rfl,hbm,hkw,?_⟩
   rw [hw]
  | some rk'=>?_
  rw [hwp] at hm
  obtain ⟨rfl,hms,hmr⟩:=hm
  have hgow:¬ (((ok w.heap.size∧w.heap.size≠w.heap.size)∧w.heap.size≠wr.heap.size∧w.heap.size≠g)∨w.heap.size=B.go):=by
   rintro (h | h)
   ·exact h.1.2 rfl
   exact (HOK.out _ (HFR.out w.heap.size (Y0e _))).2.2.2.2.2.2 h
  have HM:=Y00 (show WI B w0 E (some ad) eC N start wm∧_∧_∧Kept w wm (fun k=>ok k∨k=B.go) from ⟨hwm,Kd.S_mono hms (fun k hk=>hk.1),hmr,hkw⟩)
  have t0:=cellKept m0 hkm hgow
  have t1:=cellKept m1 hkm hgow
  have t2:=cellKept m2 hkm hgow
  have HWP:=Y08 hwp
  clear hbm hkm hms hmr hkw hwm hgow hwp
  go_wp2_with fail
  exact ⟨⟨k+1,by omega,by go_num,rk',⟨(HST.out _).2 ((Jne HFE.out HOT.out).trans HWP.out),HM.out.1,HM.out.2.1,HM.out.2.2.1,HM.out.2.2.2⟩,t0,t1,t2⟩,by simp [intOf];omega⟩
def Mdl.fromP (E:List Ed) (N start:Nat):Option (List (List Tm)):=(J4e E start N start (0,0,0) (List.replicate N []) (List.replicate N false)).map (List.map J0p)
theorem Tryz.infoLt:(Tryz.prog.info? 68).map (fun i=>(i.zero,i.size,i.bytes))=some (some (.slice none 0 0),1,24):=by kernel_rfl
theorem Tryz.infoBool:(Tryz.prog.info? 4).map (fun i=>(i.zero,i.size,i.bytes))=some (some (.bool false),1,1):=by kernel_rfl
def Jpg (w:World) (N:Nat) (r:Option (List (List Tm))) (e:Ending) (w':World):Prop:=Below w.heap.size w w' ∧
 match r with
 | some rows=>∃ v,e=.returned v∧Kd.S J23 68 w' w.heap.size (fun _=>True) v rows∧rows.length=N
 | none=>e=.panicked (J4g 1)
theorem Jis {rows:List (List Tm)} {k:Nat} (f:List Tm→List Tm) (h:k<rows.length):((rows.map f).take k++rows.drop k).set k (f rows[k])=(rows.map f).take (k+1)++rows.drop (k+1):=by
 have h2:k<(rows.map f).length:=by simpa using h
 rw [List.set_append_right _ _ (by simp;omega),Y0u h2,Y0d]
 congr 1
 rw [show k - ((rows.map f).take k).length=0 by simp;omega,List.drop_eq_getElem_cons h,Y0n]
 rfl
theorem Jox (gb:Nat) (E:List Ed) (eA:Option Addr) (eC N start:Nat) (w:World) (hN:w.cell? ⟨gb,0,none⟩=some (.int .i64 N)) (hge:w.cell? ⟨gb,2,none⟩=some (.slice eA E.length eC)) (hE:kE.C w eA E.length E)
  (h16:E.length≤16) (h8:N≤8) (hs:start<N) (hed:∀ e ∈ E,0≤e.1∧e.1<N∧0≤e.2.1∧e.2.1<N) :
  Calls Tryz.prog 69 #[.pointer (some ⟨gb,0,none⟩),.int .i64 start] w (Jpg w N (fromP E N start)):=by
 have HE:=Y00 hE
 have HED:=Y00 hed
 have h0N:(0:Int)≤N:=by omega
 have hgl:gb<w.heap.size:=World.block_lt_of_cell? w _ hN
 clear hE hed
 go_enter Tryz.func69,Tryz.ntmps69
 go_upto_region 1 with fail
 have hw2:((w.alloc (.cells #[.pointer (some ⟨gb,0,none⟩)] 63)).alloc (.cells #[.int .i64 start] 3)).heap.size=w.heap.size+2:=by simp
 have b1:Below w.heap.size w ((w.alloc (.cells #[.pointer (some ⟨gb,0,none⟩)] 63)).alloc (.cells #[.int .i64 start] 3)):=J15
 have cg:((w.alloc (.cells #[.pointer (some ⟨gb,0,none⟩)] 63)).alloc (.cells #[.int .i64 start] 3)).cell? ⟨w.heap.size,0,none⟩=some (.pointer (some ⟨gb,0,none⟩)):=J00 (J02 _ _) (J0a w _ _ 0)
 have cs:((w.alloc (.cells #[.pointer (some ⟨gb,0,none⟩)] 63)).alloc (.cells #[.int .i64 start] 3)).cell? ⟨w.heap.size+1,0,none⟩=some (.int .i64 start):=by
  have:=J0a (w.alloc (.cells #[.pointer (some ⟨gb,0,none⟩)] 63)) #[.int .i64 start] 3 0
  simpa using this
 generalize (w.alloc (.cells #[.pointer (some ⟨gb,0,none⟩)] 63)).alloc (.cells #[.int .i64 start] 3)=w2 at *
 have hN2:=J00 b1 hN
 have HG:=Y00 (show w2.heap.size=w.heap.size+2∧w2.cell? ⟨w.heap.size,0,none⟩=some (.pointer (some ⟨gb,0,none⟩))∧w2.cell? ⟨w.heap.size+1,0,none⟩=some (.int .i64 start)∧w2.cell? ⟨gb,0,none⟩=some (.int .i64 N)∧w2.cell? ⟨gb,2,none⟩=some (.slice eA E.length eC)∧Below w.heap.size w w2 from ⟨hw2,cg,cs,hN2,J00 b1 hge,b1⟩)
 clear hw2 cs b1 hN
 have hge0:=hge
 clear hge
 go_upto_region 2 with (at_make;go_must (refine Kd.S_make J23 (w0:=w) w.heap.size 68 rfl (N:=15) rfl _ _ _ rfl N rfl rfl Tryz.underlying69 _ 24 Tryz.infoLt rfl (by decide) (by decide) ([]:List Tm) (ok:=fun k=>w2.heap.size≤k) (okp:=fun _=>False) ⟨_,rfl,Kd.R_nil _ _ _ _ _⟩ (fun _ h=>h.elim) (Y0e _) h0N (by omega) HG.out.2.2.2.2.2 HG.out.2.2.2.2.2.size ?_);intro v1 w3 hS3 hb3 hg3 hown3;obtain ⟨ga,ac,hv1,hga1,hga2,_⟩:=Kd.S_form hS3 (by simp;omega);rw [Y0j,Y06] at hv1;subst hv1)
 have b3:=J02 w3 (.cells #[.slice (some ⟨ga,0,none⟩) N ac] 69)
 have B3:=Kept.of_grown hg3 (Kept.refl w2 (fun _=>False)) (fun k hk=>by cases hk)
 have hsz4:(w3.alloc (.cells #[.slice (some ⟨ga,0,none⟩) N ac] 69)).heap.size=w3.heap.size+1:=by simp
 have ca:(w3.alloc (.cells #[.slice (some ⟨ga,0,none⟩) N ac] 69)).cell? ⟨w3.heap.size,0,none⟩=some (.slice (some ⟨ga,0,none⟩) N ac):=J0a w3 _ _ 0
 have B4:=Kept.below B3 b3
 have HG4:=Y00 (show w3.heap.size+1=(w3.alloc (.cells #[.slice (some ⟨ga,0,none⟩) N ac] 69)).heap.size∧w2.heap.size≤w3.heap.size∧w2.heap.size≤ga∧ga<w3.heap.size ∧
   Kept w2 (w3.alloc (.cells #[.slice (some ⟨ga,0,none⟩) N ac] 69)) (fun _=>False)∧Below w.heap.size w (w3.alloc (.cells #[.slice (some ⟨ga,0,none⟩) N ac] 69)) ∧
   Kd.S J23 68 (w3.alloc (.cells #[.slice (some ⟨ga,0,none⟩) N ac] 69)) w.heap.size (fun k=>w2.heap.size≤k∧k<w3.heap.size) (.slice (some ⟨ga,0,none⟩) N ac) (List.replicate N []) from
  ⟨hsz4.symm,hg3.size,by have h:=(Kd.S_R hS3).1 ga rfl;exact h,hga2,B4,hb3.alloc (by have:=hb3.size;omega) _,Kd.S_below (Kd.S_mono (Kd.S_bound (by simpa using hS3)) (fun k hk=>⟨hk.1,hk.2.2.1⟩)) b3⟩)
 clear b3 B3 hsz4 B4 hS3 hb3 hg3 hown3 hga1 hga2
 generalize w3.alloc (.cells #[.slice (some ⟨ga,0,none⟩) N ac] 69)=w4 at *
 have cg4:=cellKept cg HG4.out.2.2.2.2.1 (fun h=>h)
 have hN4:=cellKept hN2 HG4.out.2.2.2.2.1 (fun h=>h)
 clear cg hN2
 go_upto_region 3 with (at_make;go_must (refine Kd.R_make Kd.bool (w0:=w) w.heap.size 4 rfl (N:=21) rfl _ _ _ rfl N rfl rfl Tryz.underlying167 _ 1 Tryz.infoBool rfl (by decide) (by decide) false (ok:=fun k=>w4.heap.size≤k) (okp:=fun _=>False) rfl (fun _ h=>h.elim) (Y0e _) h0N (by omega) HG4.out.2.2.2.2.2.1 HG4.out.2.2.2.2.2.1.size ?_);intro v1 w5 hR5 hb5 hg5 hown5;obtain ⟨go,oc,hv1,hgo1,hgo2,_⟩:=Kd.R_form hR5 (by simp;omega);rw [Y0j,Y06] at hv1;subst hv1)
 have b5:=J02 w5 (.cells #[.slice (some ⟨go,0,none⟩) N oc] 167)
 have B5:=Kept.of_grown hg5 (Kept.refl w4 (fun _=>False)) (fun k hk=>by cases hk)
 have co:(w5.alloc (.cells #[.slice (some ⟨go,0,none⟩) N oc] 167)).cell? ⟨w5.heap.size,0,none⟩=some (.slice (some ⟨go,0,none⟩) N oc):=J0a w5 _ _ 0
 have hsz6:(w5.alloc (.cells #[.slice (some ⟨go,0,none⟩) N oc] 167)).heap.size=w5.heap.size+1:=by simp
 have B6:=Kept.below B5 b5
 have HG6:=Y00 (show w5.heap.size+1=(w5.alloc (.cells #[.slice (some ⟨go,0,none⟩) N oc] 167)).heap.size∧w4.heap.size≤w5.heap.size∧w4.heap.size≤go∧go<w5.heap.size ∧
   Kept w4 (w5.alloc (.cells #[.slice (some ⟨go,0,none⟩) N oc] 167)) (fun _=>False)∧Below w.heap.size w (w5.alloc (.cells #[.slice (some ⟨go,0,none⟩) N oc] 167)) ∧
   Kd.bool.R 4 (w5.alloc (.cells #[.slice (some ⟨go,0,none⟩) N oc] 167)) w.heap.size (fun k=>k=go) (.slice (some ⟨go,0,none⟩) N oc) (List.replicate N false) from
  ⟨hsz6.symm,hg5.size,by have h:=hR5.1 go rfl;exact h,hgo2,B6,hb5.alloc (by have:=hb5.size;omega) _,Kd.c01 (Kd.R_reok rfl (by simpa using hR5) (fun k hk=>by injection hk with hk;exact hk.symm)) b5⟩)
 clear b5 B5 hsz6 B6 hR5 hb5 hg5 hown5 hgo1 hgo2
 generalize w5.alloc (.cells #[.slice (some ⟨go,0,none⟩) N oc] 167)=w6 at *
 have ca6:=cellKept ca HG6.out.2.2.2.2.1 (fun h=>h)
 have cg6:=cellKept cg4 HG6.out.2.2.2.2.1 (fun h=>h)
 clear ca cg4 hN4
 go_upto_region 5 with fail
 have hz2:=HG.out.1
 have hz4:=HG4.out.1
 have hz6:=HG6.out.1
 have l34:=HG4.out.2.1
 have l56:=HG6.out.2.1
 have hga:=HG4.out.2.2.1
 have hga':=HG4.out.2.2.2.1
 have hgo:=HG6.out.2.2.1
 have hgo':=HG6.out.2.2.2.1
 have cs6:=cellKept (cellKept HG.out.2.2.1 HG4.out.2.2.2.2.1 (fun h=>h)) HG6.out.2.2.2.2.1 (fun h=>h)
 have ge6:=J00 HG6.out.2.2.2.2.2.1 hge0
 have b7:=J02 w6 (.cells #[.func (.func 94) #[] #[.pointer (some ⟨w3.heap.size,0,none⟩),.pointer (some ⟨w5.heap.size,0,none⟩),.pointer (some ⟨w.heap.size,0,none⟩),.pointer (some ⟨w.heap.size+1,0,none⟩),.pointer (some ⟨w6.heap.size,0,none⟩)]] 168)
 have cw7:(w6.alloc (.cells #[.func (.func 94) #[] #[.pointer (some ⟨w3.heap.size,0,none⟩),.pointer (some ⟨w5.heap.size,0,none⟩),.pointer (some ⟨w.heap.size,0,none⟩),.pointer (some ⟨w.heap.size+1,0,none⟩),.pointer (some ⟨w6.heap.size,0,none⟩)]] 168)).cell? ⟨w6.heap.size,0,none⟩=some (.func (.func 94) #[] #[.pointer (some ⟨w3.heap.size,0,none⟩),.pointer (some ⟨w5.heap.size,0,none⟩),.pointer (some ⟨w.heap.size,0,none⟩),.pointer (some ⟨w.heap.size+1,0,none⟩),.pointer (some ⟨w6.heap.size,0,none⟩)]):=J0a w6 _ _ 0
 have hz7:(w6.alloc (.cells #[.func (.func 94) #[] #[.pointer (some ⟨w3.heap.size,0,none⟩),.pointer (some ⟨w5.heap.size,0,none⟩),.pointer (some ⟨w.heap.size,0,none⟩),.pointer (some ⟨w.heap.size+1,0,none⟩),.pointer (some ⟨w6.heap.size,0,none⟩)]] 168)).heap.size=w6.heap.size+1:=by simp
 generalize w6.alloc (.cells #[.func (.func 94) #[] #[.pointer (some ⟨w3.heap.size,0,none⟩),.pointer (some ⟨w5.heap.size,0,none⟩),.pointer (some ⟨w.heap.size,0,none⟩),.pointer (some ⟨w.heap.size+1,0,none⟩),.pointer (some ⟨w6.heap.size,0,none⟩)]] 168)=w7 at *
 have cs7:=J00 b7 cs6
 have HW:=Y08 (Jny ⟨w3.heap.size,w5.heap.size,w.heap.size,w.heap.size+1,w6.heap.size,gb,ga,go,ac,oc⟩ w E eA eC N start
  ⟨HE.out,h16,HED.out,by simp only;omega,by simp only;omega,hgl⟩ (wT 8) (by decide) N start (0,0,0) (List.replicate N []) (List.replicate N false) (fun k=>w.heap.size≤k∧k≠w3.heap.size∧k≠w5.heap.size∧k≠w.heap.size∧k≠w.heap.size+1∧k≠w6.heap.size∧k≠go) w7 hs (by simp) (by simp) (by simp [Y01,hs]) (by simp)
  (fun k hk=>hk) (fun k hk=>by refine ⟨?_,?_,?_,?_,?_,?_,?_⟩<;>omega) ⟨0,by intro r hr;rw [(List.mem_replicate.1 hr).2];exact Y0e _,by
   have hm:∀ a b,a≤b→wT a≤wT b:=fun a b h=>by
    induction h with
    | refl=>exact Y0e _
    | step _ ih=>simp only [wT];omega
   have:=hm N 8 h8;omega⟩
  ⟨J01 HG6.out.2.2.2.2.2.1 HG6.out.2.2.2.2.2.1.size b7,J00 b7 ca6,J00 b7 co,J00 b7 cg6,cs7,cw7,J00 b7 ge6⟩
  ⟨Kd.S_below (Kd.S_mono (Kd.S_kept HG4.out.2.2.2.2.2.2 HG6.out.2.2.2.2.1 (fun _ _ h=>h)) (fun k hk=>by refine ⟨?_,?_,?_,?_,?_,?_,?_⟩<;>omega)) b7⟩
  ⟨Kd.c01 HG6.out.2.2.2.2.2.2 b7⟩)
 have HWc:=HW.out
 simp only [tmV,WB.caps] at HWc
 have HWD:=Y08 HWc
 have he:=enters_of Tryz.func94 (by kernel_rfl) rfl
 have hbt:∀ w,(Instr.build 99 #[]).run Tryz.prog w=.ok (.agg #[.int .i64 0,.int .i64 0,.int .i64 0]) w:=fun _=>by kernel_rfl
 have CA7:=Y08 (J00 b7 ca6)
 clear HWc HW ca6 cg6 cs6 ge6 b7 co hge0
 go_wp2_with fail
 refine HWD.out.mono ?_
 rintro e w8 ⟨hb8,hk8,hm8⟩
 cases hwp:J4e E start N start (0,0,0) (List.replicate N []) (List.replicate N false) with
 | none =>
  rw [hwp] at hm8
  subst hm8
  refine ⟨rfl,hb8,?_⟩
  rw [show fromP E N start=none by simp [fromP,hwp]]
 | some rows=>?_
 rw [hwp] at hm8
 obtain ⟨rfl,hS8,_⟩:=hm8
 have hlen:=J8g E start h16 N start (0,0,0) (List.replicate N []) (List.replicate N false) rows 0 (fun e he=>by have:=HED.out e he;simp;omega) (by simpa using hs) (by intro r hr;rw [(List.mem_replicate.1 hr).2];exact Y0e _) hwp
 have HR:=Y08 (show fromP E N start=some (rows.map J0p) by simp [fromP,hwp])
 have hrl:rows.length=N:=by simpa using hlen.1
 have HLN:=Y08 (show Len (wT 8) rows from Jaz hlen.2 (by
  have hm:∀ a b,a≤b→wT a≤wT b:=fun a b h=>by
   induction h with
   | refl=>exact Y0e _
   | step _ ih=>simp only [wT];omega
  have:=hm N 8 h8;omega))
 have ca8:=cellKept (J00 (Y0f _ _) (show w7.cell? ⟨w3.heap.size,0,none⟩=some (.slice (some ⟨ga,0,none⟩) N ac) from CA7.out)) hk8 (fun h=>h.elim (fun h=>h.2.1 rfl) (fun h=>by have h:w3.heap.size=go:=h;omega))
 have HS8:=Y00 (show Kd.S J23 68 w8 w.heap.size (fun k=>w.heap.size≤k∧k≠w3.heap.size) (.slice (some ⟨ga,0,none⟩) N ac) rows∧Below w.heap.size w w8 from ⟨Kd.S_mono hS8 (fun k hk=>⟨hk.1,hk.2.1⟩),hb8⟩)
 have HBA:=Y08 (show w.heap.size≤w3.heap.size∧ga≠w3.heap.size by constructor<;>omega)
 clear hS8 hlen hwp hb8 hk8 hz2 hz4 hz6 l34 l56 hga hga' hgo hgo' hz7 cs7 cw7 he hbt HWD HG HG4 HG6
 have HRL:=Y08 hrl
 clear hrl
 go_wp2_with fail
 go_loopw [29] (fun i wr=>∃ k:Nat,k≤N∧i=.int .i64 k∧J08 (Kd.S J23 68 wr w.heap.size (fun k=>w.heap.size≤k∧k≠w3.heap.size) (.slice (some ⟨ga,0,none⟩) N ac) ((rows.map J0p).take k++rows.drop k)∧Below w.heap.size w wr)∧wr.cell? ⟨w3.heap.size,0,none⟩=some (.slice (some ⟨ga,0,none⟩) N ac)) (fun i _=>N - (intOf i).toNat)
 case atStart=>exact ⟨0,Nat.zero_le _,rfl,⟨by simpa using HS8.out.1,HS8.out.2⟩,ca8⟩
 obtain ⟨k,hk,rfl,hX,hca⟩:=hrel
 by_cases hlt:k<N
 rotate_left
 ·go_wp2_with fail
  go_ret
  refine ⟨hX.out.2,?_⟩
  rw [HR.out]
  have hkN:k=N:=by omega
  subst hkN
  have h:=hX.out.1
  rw [List.drop_of_length_le (by rw [HRL.out];exact Y0e _),List.append_nil,Y0t (by rw [Y0g,HRL.out];exact Y0e _)] at h
  exact ⟨_,rfl,Kd.S_mono h (fun _ _=>trivial),by rw [Y0g,HRL.out]⟩
 obtain ⟨hSr,hbr⟩:=hX.out
 have hk0:(0:Int)≤k:=by omega
 have hkN:(k:Int)<N:=by omega
 have hsd:=Kd.S_drew hSr
 obtain ⟨oki,c,hcl,hM,hcc,hfr,hoki,hH⟩:=Kd.S_elem hSr [] k hk0 hkN
 obtain ⟨rv,rfl,hRv⟩:=hM
 have hrow:=hcc 0 rv rfl
 rw [Y06,show J23.sz=1 from rfl,Nat.mul_one,Nat.add_zero] at hrow
 rw [Y06] at hRv
 have hget:((rows.map J0p).take k++rows.drop k).getD k []=rows[k]'(by rw [HRL.out];exact hlt):=by
  rw [Y01,Y09 (by simp;omega)]
  simp [HRL.out,hlt,Nat.min_eq_left (Nat.le_of_lt hlt)]
 rw [hget] at hRv
 obtain ⟨A,cp,hrv,hcp,hC⟩:=Kd.c09 hRv
 have hset:=Jis J0p (show k<rows.length by rw [HRL.out];exact hlt)
 have hrm:rows[k]'(by rw [HRL.out];exact hlt) ∈ rows:=Y0l _
 have hlr:=HLN.out _ hrm
 have HSET:=Y08 hset
 clear hset hget hrm
 generalize rows[k]'(by rw [HRL.out];exact hlt)=rk at *
 generalize hnk:rk.length=nk at hrv hlr
 have hnk:=hnk.symm
 have HCA:=Y08 hca
 have HCB:=Y08 (show w3.heap.size<wr.heap.size from World.block_lt_of_cell? wr _ hca)
 have hgw:ga<wr.heap.size:=World.block_lt_of_cell? wr _ hrow
 have HSr:=Y00 (show Kd.S J23 68 wr w.heap.size (fun k=>(w.heap.size≤k∧k≠w3.heap.size)∧¬ wr.heap.size≤k) (.slice (some ⟨ga,0,none⟩) N ac) ((rows.map J0p).take k++rows.drop k)∧Below w.heap.size w wr from ⟨Kd.S_mono (Kd.S_bound hSr) (fun k hk=>⟨hk.1,by have:=hk.2.2.1;omega⟩),hbr⟩)
 subst hrv
 have HC:=Y00 hC
 have HLR:=Y08 (show nk*24≤140737488355328∧nk=rk.length from ⟨(by have:wT 8=286331153:=(by decide);omega),hnk⟩)
 clear hsd hcl hcc hfr hoki hH hRv hX hSr hbr hC hcp hlr hnk
 go_upto_region 9 with fail
 refine sr1 6 (fun w'=>w'.cell? ⟨w3.heap.size,0,none⟩=some (.slice (some ⟨ga,0,none⟩) N ac)) [5] hca fun hJ0=>?_
 have HD:=Y00 (J05 (Y0f wr.heap.size wr))
 generalize wr.drew=wd at *
 refine tv1 0 ?_
 refine pv 1 ?_
 refine pv 2 ?_
 refine ov 3 fun K hK=>?_
 refine gs0 Tryz.func76 #[.slice A nk cp] ?_
 have HF:=Jdt A cp rk wd (Kd.c00 HC.out HD.out) (by have:=HLR.out;omega)
 rw [← HLR.out.2] at HF
 refine HF.mono ?_
 rintro e w9 ⟨v9,rfl,hR9,hb9⟩
 obtain ⟨A9,c9,hv9⟩:=Kd.c02 hR9
 generalize (J0p rk).length=n9 at hv9
 subst hv9
 have hb10:=J01 HD.out HD.out.size hb9
 refine ⟨_,rfl,hK.out _ _ (J00 hb10 HCA.out) (fun hJ0=>?_)⟩
 clear hK K
 refine nm0 _ ?_
 refine pv 4 ?_
 have hS9:=Kd.S_below HSr.out.1 hb10
 obtain ⟨oki,c,hcl,hM,hcc,hfr,hoki,hH⟩:=Kd.S_elem hS9 [] k hk0 hkN
 obtain ⟨rv9,rfl,_⟩:=hM
 have hrow9:=hcc 0 rv9 rfl
 have hf9:=hfr 0
 rw [Y06,show J23.sz=1 from rfl,Nat.mul_one,Nat.add_zero] at hrow9 hf9
 have hM9:J23.M w9 w.heap.size (fun k=>wr.heap.size≤k) (J0p rk) [.slice A9 n9 c9]:=⟨_,rfl,Kd.c04 (Kd.c06 (Kd.c05 hR9) (fun k hk=>Nat.le_trans HD.out.size hk.2.1)) (show w.heap.size≤wd.heap.size from by have:=HSr.out.2.size;have:=HD.out.size;omega)⟩
 have h10:=Kd.S_seg (okg:=fun k=>wr.heap.size≤k) (ok:=fun k=>w.heap.size≤k∧k≠w3.heap.size) hH hk0 hkN (seg:=[.slice A9 n9 c9]) (j:=0) (x':=J0p rk) (okp:=fun k=>wr.heap.size≤k) (Y0e 1) hM9 (fun k hk=>.inr hk) (fun k hk=>⟨⟨by have:=HSr.out.2.size;omega,by have:=HCB.out;omega⟩,by omega⟩)
 rw [Y06,show J23.sz=1 from rfl,Nat.mul_one,Nat.add_zero,HSET.out] at h10
 have e10:w9.setCells ga k [.slice A9 n9 c9]=w9.setCell ⟨ga,k,none⟩ (.slice A9 n9 c9):=rfl
 rw [e10] at h10
 have H10:=Y00 h10
 have HB10:=Y08 (J01 HSr.out.2 HSr.out.2.size hb10)
 clear h10 hM9 hH hoki hfr hcc hcl hS9 hR9 hb9 hb10
 refine la0 5 (bs 6 63) (N:=none) fun K hK=>?_
 refine sk0 ?_
 refine hK.out _ _ ?_
 clear hK K
 refine dn0 ?_
 have hg10:=H10.out.2
 have hga0:=(Kd.S_R H10.out.1).1 ga rfl
 have hca10:=J09 hg10 hJ0 (fun he=>by injection he with he;exact HBA.out.2 he.symm)
 have HX:=Y00 (Y07 H10.out.1 (HB10.out.grown hg10 HB10.out.size (fun k hk=>by injection hk with hk;subst hk;exact hga0.1)))
 clear hg10 hga0 H10
 go_wp2_with fail
 exact ⟨⟨k+1,by omega,by go_num,HX,hca10⟩,by simp [intOf];omega⟩
namespace Mdl
def J1l (N W:Int) (e:Ed):Bool:=decide (0≤e.1∧e.1<N)&&(decide (0≤e.2.1∧e.2.1<N)&&(decide ((e.2.2.length:Int)=W)&&J42 100 e.2.2))
def J7x (N W:Int) (n:Nat):Prop:=1≤N∧N≤8∧1≤W∧W≤3∧n≤16
instance (N W:Int) (n:Nat):Decidable (J7x N W n):=by unfold J7x;infer_instance
def openedP (N W:Int) (E:List Ed):Option (List (List (List Tm))) :=
 if J7x N W E.length∧E.all (J1l N W)=true then (List.range N.toNat).mapM (fromP E N.toNat) else none
end Mdl
theorem Tryz.infoLlt:(Tryz.prog.info? 69).map (fun i=>(i.zero,i.size,i.bytes))=some (some (.slice none 0 0),1,24):=by kernel_rfl
abbrev Jge:Kd (List (List Tm)):=Kd.slice 68 J23
structure J4v (w:World) (gb:Nat) (N W:Int) (E:List Ed) (ways:List (List (List Tm))):Prop where
 c0:w.cell? ⟨gb,0,none⟩=some (.int .i64 N)
 c1:w.cell? ⟨gb,1,none⟩=some (.int .i64 W)
 c2:∃ eA eC,w.cell? ⟨gb,2,none⟩=some (.slice eA E.length eC)∧kE.C w eA E.length E
 c3:∃ wA wC,w.cell? ⟨gb,3,none⟩=some (.slice wA ways.length wC)∧Jge.C w wA ways.length ways
def Jk2 (w:World) (N W:Int) (E:List Ed) (r:Option (List (List (List Tm)))) (e:Ending) (w':World):Prop:=Below w.heap.size w w' ∧
 match r with
 | some ways=>∃ gb,e=.returned (.pointer (some ⟨gb,0,none⟩))∧w.heap.size≤gb∧J4v w' gb N W E ways
 | none=>e=.panicked (J4g 1)
theorem Jsi {P:Program} {ops:Array Oper} {Q:Exit→Act→World→Prop} {oi:Oper} {N:Option Tmp} {a:Act} {w:World} {K:Act→World→Prop} {f:FuncId} {fn:Func} {aas:Array Operand} {ts:Array TypeId} (hf:P.funcs[f]?=some fn) (hname:(fn.name == "runtime.NumGoroutine")=false) (hb:fn.body.isSome=true) (args:Array Value)
  (hw:Region.wanted oi (yielded ops a.tmps)=true) (hop:oi.op=.call { callee:=.value (.func f),args:=aas,argTypes:=ts }) (hargs:aas.map a.eval=args)
  (h:Calls P f args w fun e w'=>∃ c,e=.panicked c∧Q (.panic c) a w'):if Region.wanted oi (yielded ops a.tmps)=true then Oper.wp P oi a w K Q else K (a.put N undef) w:=by
 rw [if_pos hw]
 have he:=Jf1 hf hname hb args w
 have hrun:(execOp a.eval oi).run P w=.ok (.enter f args) w:=by
  unfold execOp
  simp [hop,resolve,Deferred.ofValue,invoke,Act.eval,hargs,he]
 unfold Oper.wp
 rw [hrun,Oper.upon_enter]
 refine h.mono fun e w'' hh=>?_
 obtain ⟨v,rfl,hk⟩:=hh
 exact hk
theorem ds0 {P:Program} {ops:Array Oper} {Q:Exit→Act→World→Prop} {oi:Oper} {N:Option Tmp} {a:Act} {w:World} {K:Act→World→Prop} {f:FuncId} {fn:Func} {aas:Array Operand} {ts:Array TypeId} (hf:P.funcs[f]?=some fn) (args:Array Value) (h:Calls P f args w fun e w'=>∃ c,e=.panicked c∧Q (.panic c) a w') (hname:(fn.name== "runtime.NumGoroutine")=false:=by kernel_rfl) (hb:fn.body.isSome=true:=by rfl) (hw:Region.wanted oi (yielded ops a.tmps)=true:=by rfl) (hop:oi.op=.call { callee:=.value (.func f),args:=aas,argTypes:=ts }:=by rfl) (hargs:aas.map a.eval=args:=by (try simp only [List.map_toArray,List.map_cons,List.map_nil]);first | done | rfl):if Region.wanted oi (yielded ops a.tmps)=true then Oper.wp P oi a w K Q else K (a.put N undef) w:=Jsi hf hname hb args hw hop hargs h
theorem Jqj {P:Program} {ops:Array Oper} {Q:Exit→Act→World→Prop} {oi:Oper} {N:Option Tmp} {a:Act} {w:World} {K:Act→World→Prop} {f:FuncId} {fn:Func} {aas:Array Operand} {ts:Array TypeId} (hf:P.funcs[f]?=some fn) (hname:(fn.name == "runtime.NumGoroutine")=false) (hb:fn.body.isSome=true) (args:Array Value)
  (hw:Region.wanted oi (yielded ops a.tmps)=true) (hN:oi.dst=N) (hop:oi.op=.call { callee:=.value (.func f),args:=aas,argTypes:=ts }) (hargs:aas.map a.eval=args)
  (h:Calls P f args w fun e w'=>(∃ v,e=.returned v∧K (a.put N v) w')∨∃ c,e=.panicked c∧Q (.panic c) a w'):if Region.wanted oi (yielded ops a.tmps)=true then Oper.wp P oi a w K Q else K (a.put N undef) w:=by
 rw [if_pos hw]
 have he:=Jf1 hf hname hb args w
 have hrun:(execOp a.eval oi).run P w=.ok (.enter f args) w:=by
  unfold execOp
  simp [hop,resolve,Deferred.ofValue,invoke,Act.eval,hargs,he]
 subst hN
 unfold Oper.wp
 rw [hrun,Oper.upon_enter]
 refine h.mono fun e w'' hh=>?_
 obtain ⟨v,rfl,hk⟩ | ⟨c,rfl,hk⟩:=hh
 ·exact hk
 exact hk
theorem Jbw {α β:Type} (f:α→Option β) (l:List α) (x:α):(l++[x]).mapM f=(l.mapM f).bind fun ys=>(f x).bind fun y=>some (ys++[y]):=by
 induction l with
 | nil=>simp [List.mapM_cons]
 | cons a l ih =>
  simp only [List.cons_append,List.mapM_cons,ih]
  cases f a with
  | none=>simp
  | some b=>?_
  cases l.mapM f with
  | some ys=>cases f x<;>simp
  | none=>simp
theorem Jn0 {β:Type} (f:Nat→Option β) (k n:Nat) (hk:k≤n) (h:(List.range k).mapM f=none):(List.range n).mapM f=none:=by
 induction hk with
 | refl=>exact h
 | step _ ih=>rw [List.range_succ,Jbw,ih];rfl
theorem Jao {N W:Int} {E:List Ed} {e:Ed} (h:e ∈ E) (hb:J1l N W e=false):openedP N W E=none:=by
 unfold openedP
 rw [if_neg]
 rintro ⟨_,h2⟩
 have:=List.all_eq_true.1 h2 e h
 rw [hb] at this;cases this
theorem opened_any (N W:Int) (E:List Ed) (eA:Option Addr) (eC:Nat) (w:World) (hE:kE.C w eA E.length E) :
  Calls Tryz.prog 30 #[.agg #[.int .i64 N,.int .i64 W,.slice eA E.length eC]] w (Jk2 w N W E (openedP N W E)):=by
 have HE:=Y00 hE
 have hEm:=Kd.C_max hE
 clear hE
 by_cases hh:J7x N W E.length
 rotate_left
 ·have HH:=Y08 (show openedP N W E=none by simp [openedP,hh])
  have hh:¬ (1≤N∧N≤8∧1≤W∧W≤3∧E.length≤16):=hh
  by_cases g0:1≤N
  rotate_left
  ·have f0:decide (1≤N)=false:=by simp;omega
   have n0:N<1:=by omega
   clear g0 hh
   go_enter Tryz.func30,Tryz.ntmps30
   go_wp2_with fail
   refine (J0r _ _).mono ?_
   rintro e wm ⟨rfl,rfl⟩
   refine ⟨rfl,J15,?_⟩
   rw [HH.out]
  by_cases g1:N≤8
  rotate_left
  ·have f1:decide (N≤8)=false:=by simp;omega
   have n1:8<N:=by omega
   clear g1 hh
   go_enter Tryz.func30,Tryz.ntmps30
   go_wp2_with fail
   refine (J0r _ _).mono ?_
   rintro e wm ⟨rfl,rfl⟩
   refine ⟨rfl,J15,?_⟩
   rw [HH.out]
  by_cases g2:1≤W
  rotate_left
  ·have f2:decide (1≤W)=false:=by simp;omega
   have n2:W<1:=by omega
   clear g2 hh
   go_enter Tryz.func30,Tryz.ntmps30
   go_wp2_with fail
   refine (J0r _ _).mono ?_
   rintro e wm ⟨rfl,rfl⟩
   refine ⟨rfl,J15,?_⟩
   rw [HH.out]
  by_cases g3:W≤3
  rotate_left
  ·have f3:decide (W≤3)=false:=by simp;omega
   have n3:3<W:=by omega
   clear g3 hh
   go_enter Tryz.func30,Tryz.ntmps30
   go_wp2_with fail
   refine (J0r _ _).mono ?_
   rintro e wm ⟨rfl,rfl⟩
   refine ⟨rfl,J15,?_⟩
   rw [HH.out]
  have f4:decide ((E.length:Int)≤16)=false:=by simp;omega
  have n4:16<(E.length:Int):=by omega
  clear hh
  go_enter Tryz.func30,Tryz.ntmps30
  go_wp2_with fail
  refine (J0r _ _).mono ?_
  rintro e wm ⟨rfl,rfl⟩
  refine ⟨rfl,J15,?_⟩
  rw [HH.out]
 obtain ⟨h1,h2,h3,h4,h5⟩:=hh
 have h5:(E.length:Int)≤16:=by omega
 go_enter Tryz.func30,Tryz.ntmps30
 go_wp2_with fail
 refine (J1w _ _).mono ?_
 rintro e wm ⟨rfl,rfl⟩
 have b2:Below w.heap.size w ((w.alloc (.cells #[.int .i64 N,.int .i64 W,.slice eA E.length eC] 24)).alloc (.cells #[.int .i64 N,.int .i64 W,.slice eA E.length eC,.slice none 0 0] 72)):=J15
 have hz2:((w.alloc (.cells #[.int .i64 N,.int .i64 W,.slice eA E.length eC] 24)).alloc (.cells #[.int .i64 N,.int .i64 W,.slice eA E.length eC,.slice none 0 0] 72)).heap.size=w.heap.size+2:=by simp
 have hbk:((w.alloc (.cells #[.int .i64 N,.int .i64 W,.slice eA E.length eC] 24)).alloc (.cells #[.int .i64 N,.int .i64 W,.slice eA E.length eC,.slice none 0 0] 72)).heap[w.heap.size+1]?=some (.cells #[.int .i64 N,.int .i64 W,.slice eA E.length eC,.slice none 0 0] 72 (0,0)):=by
  have:=Y0c (w.alloc (.cells #[.int .i64 N,.int .i64 W,.slice eA E.length eC] 24)) (.cells #[.int .i64 N,.int .i64 W,.slice eA E.length eC,.slice none 0 0] 72)
  simpa using this
 generalize (w.alloc (.cells #[.int .i64 N,.int .i64 W,.slice eA E.length eC] 24)).alloc (.cells #[.int .i64 N,.int .i64 W,.slice eA E.length eC,.slice none 0 0] 72)=w2 at *
 obtain ⟨k0,k1,k2,-⟩:=bc4 hbk
 have HW2:=Y08 (Y07 b2 (Y07 hz2 hbk))
 clear b2 hz2 hbk
 go_wp2_with fail
 go_loopw [56] (fun i wr=>∃ k:Nat,k≤E.length∧i=.int .i64 k∧J08 ((∀ e ∈ E.take k,J1l N W e=true)∧Below w2.heap.size w2 wr)) (fun i _=>E.length - (intOf i).toNat)
 case atStart=>exact ⟨0,Nat.zero_le _,rfl,⟨by simp,Y0f _ _⟩⟩
 obtain ⟨k,hk,rfl,hX⟩:=hrel
 by_cases hlt:k<E.length
 rotate_left
 ·have hall:E.all (J1l N W)=true:=by
   have hkE:k=E.length:=by omega
   have h:=hX.out.1
   rw [hkE,List.take_length] at h
   exact List.all_eq_true.2 h
  obtain ⟨n,rfl⟩:=Int.eq_ofNat_of_zero_le (show 0≤N by omega)
  have HOP:=Y08 (show openedP n W E=(List.range n).mapM (fromP E n) from by
   unfold openedP
   rw [if_pos ⟨⟨h1,h2,h3,h4,by omega⟩,hall⟩];rfl)
  have HED:=Y08 (show ∀ e ∈ E,0≤e.1∧e.1<n∧0≤e.2.1∧e.2.1<n from fun e he=>by
   have:=List.all_eq_true.1 hall e he
   simp only [J1l,Y0x,Y0y] at this
   omega)
  have hb:=hX.out.2
  have HBR:=Y08 (show Below w.heap.size w wr∧w.heap.size+1<wr.heap.size from ⟨J01 HW2.out.1 HW2.out.1.size hb,by have:=HW2.out.2.1;have:=hb.size;omega⟩)
  have HBK:=Y08 (J04 HW2.out.2.2 hb)
  clear hb hall hX k0 k1 k2
  have k0:wr.cell? ⟨w.heap.size+1,0,none⟩=some (.int .i64 n):=(J03 HBK.out 0).trans rfl
  have k3:wr.cell? ⟨w.heap.size+1,3,none⟩=some (.slice none 0 0):=(J03 HBK.out 3).trans rfl
  go_wp2_with fail
  go_loopw [93] (fun i wx=>∃ j:Nat,j≤n∧i=.int .i64 j∧∃ ways A c,J08 ((List.range j).mapM (fromP E n)=some ways∧Below w.heap.size w wx∧wx.heap[w.heap.size+1]?=some (.cells #[.int .i64 n,.int .i64 W,.slice eA E.length eC,.slice A j c] 72 (0,0))∧Jge.R 69 wx w.heap.size (fun k=>k≠w.heap.size+1) (.slice A j c) ways)) (fun i _=>n - (intOf i).toNat)
  case atStart=>exact ⟨0,Nat.zero_le _,rfl,[],none,0,⟨rfl,HBR.out.1,HBK.out,Kd.R_nil _ _ _ _ _⟩⟩
  obtain ⟨j,hj,rfl,ways,A,c,hX⟩:=hrel
  by_cases hjn:j<n
  rotate_left
  ·go_wp2_with fail
   go_ret
   have hjn:j=n:=by omega
   subst hjn
   refine ⟨hX.out.2.1,?_⟩
   rw [HOP.out,hX.out.1]
   have hR:=Kd.c03 hX.out.2.2.2
   refine ⟨_,rfl,by simp,(J03 hX.out.2.2.1 0).trans rfl,(J03 hX.out.2.2.1 1).trans rfl,⟨eA,eC,(J03 hX.out.2.2.1 2).trans rfl,Kd.c00 HE.out hX.out.2.1⟩,⟨A,c,?_,hR.2.2⟩⟩
   rw [← hR.1]
   exact (J03 hX.out.2.2.1 3).trans rfl
  have x0:wr.cell? ⟨w.heap.size+1,0,none⟩=some (.int .i64 n):=(J03 hX.out.2.2.1 0).trans rfl
  have x2:wr.cell? ⟨w.heap.size+1,2,none⟩=some (.slice eA E.length eC):=(J03 hX.out.2.2.1 2).trans rfl
  have x3:wr.cell? ⟨w.heap.size+1,3,none⟩=some (.slice A j c):=(J03 hX.out.2.2.1 3).trans rfl
  have HGB:=Y08 (J0q hX.out.2.2.1)
  have HFR:=Y08 (Jox (w.heap.size+1) E eA eC n j wr.drew x0 x2 (Kd.c00 HE.out (J05 hX.out.2.1)) (by omega) (by omega) hjn HED.out)
  have hjl:ways.length=j:=by have:=(Kd.c03 hX.out.2.2.2).1;exact this.symm
  have HJL:=Y08 hjl
  have X2:=Y08 (Y07 x0 x2)
  clear x0 x2 hjl
  go_upto_region 11 with fail
  refine sr1 13 (fun w'=>w'.cell? ⟨w.heap.size+1,3,none⟩=some (.slice A j c)) [12] x3 fun hJ0=>?_
  have HX:=Y00 (show Below w.heap.size w wr.drew∧wr.drew.heap[w.heap.size+1]?=some (.cells #[.int .i64 n,.int .i64 W,.slice eA E.length eC,.slice A j c] 72 (0,0))∧Jge.R 69 wr.drew w.heap.size (fun k=>k≠w.heap.size+1) (.slice A j c) ways∧w.heap.size+1<wr.drew.heap.size from ⟨J05 hX.out.2.1,hX.out.2.2.1,Kd.c0b hX.out.2.2.2,HGB.out⟩)
  generalize wr.drew=wd at *
  refine pu 0 96 (bs 13 1) ?_
  refine pu 1 97 (bs 13 3) ?_
  refine pu 2 98 (bs 13 7) ?_
  refine pu 3 99 (bs 13 15) ?_
  refine tk1 4 100 (bs 13 31) hJ0 ?_
  refine pu 5 101 (bs 13 63) ?_
  refine pu 6 102 (bs 13 127) ?_
  refine on0 7 103 (bs 13 255) fun K hK=>?_
  refine Jqj Tryz.func69 (by kernel_rfl) rfl #[.pointer (some ⟨w.heap.size+1,0,none⟩),.int .i64 j] (by rfl) rfl rfl (by (try simp only [List.map_toArray,List.map_cons,List.map_nil]);first | done | rfl) ?_
  refine HFR.out.mono ?_
  rintro e w9 ⟨hb9,h9⟩
  cases hfp:fromP E n j with
  | none =>
   rw [hfp] at h9
   subst h9
   have hop:openedP n W E=none:=by
    rw [HOP.out]
    refine Jn0 _ (j+1) n hjn ?_
    rw [List.range_succ,Jbw,hX.out.1,hfp];rfl
   refine .inr ⟨_,rfl,rfl,J01 HX.out.1 HX.out.1.size hb9,?_⟩
   rw [hop]
  | some rows=>?_
  rw [hfp] at h9
  obtain ⟨v9,rfl,hS9,hl9⟩:=h9
  have HFP:=Y08 hfp
  have hR9:=Kd.S_R hS9
  obtain ⟨A9,c9,hv9⟩:=Kd.c02 hR9
  rw [hl9] at hv9
  subst hv9
  have HR9:=Y00 hR9
  have hx3:=J00 hb9 hJ0
  have HY:=Y00 (show Below w.heap.size w w9∧w9.heap[w.heap.size+1]?=some (.cells #[.int .i64 n,.int .i64 W,.slice eA E.length eC,.slice A j c] 72 (0,0))∧Jge.R 69 w9 w.heap.size (fun k=>k≠w.heap.size+1) (.slice A j c) ways from ⟨J01 HX.out.1 HX.out.1.size hb9,J04 HX.out.2.1 hb9,Kd.c01 HX.out.2.2.1 hb9⟩)
  have HOB:=Y08 (show ∀ k,(Value.slice A j c).ownBlock=some k→k<wd.heap.size from Kd.R_lt HX.out.2.2.1)
  have HSZ:=Y08 hb9.size
  clear hb9 hfp hS9 hR9
  refine .inl ⟨_,rfl,hK.out _ _ hx3 (fun hJ0=>?_)⟩
  clear hK K
  refine nm0 _ ?_
  refine on0 8 104 (bs 13 511) fun K hK=>?_
  refine va0 ?_
  refine hK.out _ _ (J00 (J02 w9 _) hJ0) (fun hJ0=>?_)
  clear hK K
  refine nm0 _ ?_
  refine on0 9 105 (bs 13 1023) fun K hK=>?_
  refine Kd.R_append_step Jge (w0:=w) w.heap.size (by rfl) (.tmp 100) (.tmp 104) 70 69 _ 24 rfl Tryz.underlying70 Tryz.infoLlt rfl (by decide) (by decide) (.slice A j c) ways rows [.slice A9 n c9] (fun k=>k≠w.heap.size+1) (fun k=>wd.heap.size≤k) rfl rfl ⟨_,rfl,?aP⟩ ?aH ?aF HY.out.2.2 HY.out.1 HY.out.1.size ?aL ?_
  case aP=>exact Kd.c04 (Kd.c06 (Kd.c05 HR9.out) (fun k hk=>hk.2.1)) HX.out.1.size
  case aH=>exact fun k hk=>⟨by have:=HX.out.2.2.2;omega,fun he=>by have:=HOB.out k he.symm;omega⟩
  case aF=>exact fun k hk=>by have:=HX.out.2.2.2;have:=HSZ.out;omega
  case aL=>have:=HJL.out;omega
  intro v1 w11 hR11 hb11 hg11 hat11
  obtain ⟨A1,c1,hv1⟩:=Kd.c02 hR11
  rw [Y02,HJL.out] at hv1
  have hv1:v1=.slice A1 (j+1) c1:=hv1
  subst hv1
  have hgb:some (w.heap.size+1)≠(Value.slice A j c).ownBlock:=fun he=>(HY.out.2.2.1 _ he.symm) rfl
  have hblk:w11.heap[w.heap.size+1]?=some (.cells #[.int .i64 n,.int .i64 W,.slice eA E.length eC,.slice A j c] 72 (0,0)):=(hg11.block _ (J0q HY.out.2.1) hgb).trans HY.out.2.1
  have y3:w11.cell? ⟨w.heap.size+1,3,none⟩=some (.slice A j c):=(J03 hblk 3).trans rfl
  have yf:=J07 hblk 3
  have HR11:=Y00 hR11
  have HBL:=Y08 hblk
  have HB11:=Y08 hb11
  clear hR11 hb11 hg11 hat11 hgb hblk
  refine hK.out _ _ y3 (fun hJ0=>?_)
  clear hK K
  refine nm0 _ ?_
  refine pu 10 106 (bs 13 2047) ?_
  refine pu 11 107 (bs 13 4095) ?_
  refine la0 12 (bs 13 8191) (N:=none) fun K hK=>?_
  refine sk0 ?_
  refine hK.out _ _ ?_
  clear hK K
  refine dn0 ?_
  have HX3:=Y00 (show (List.range (j+1)).mapM (fromP E n)=some (ways++[rows])∧Below w.heap.size w (w11.setCell ⟨w.heap.size+1,3,none⟩ (.slice A1 (j+1) c1)) ∧
   (w11.setCell ⟨w.heap.size+1,3,none⟩ (.slice A1 (j+1) c1)).heap[w.heap.size+1]?=some (.cells #[.int .i64 n,.int .i64 W,.slice eA E.length eC,.slice A1 (j+1) c1] 72 (0,0)) ∧
   Jge.R 69 (w11.setCell ⟨w.heap.size+1,3,none⟩ (.slice A1 (j+1) c1)) w.heap.size (fun k=>k≠w.heap.size+1) (.slice A1 (j+1) c1) (ways++[rows]) from
   ⟨by rw [List.range_succ,Jbw,hX.out.1,HFP.out];rfl,HB11.out.setCell (by simp) _,J0d HBL.out 3 _ rfl,Kd.R_far HR11.out (fun k hk=>hk) _⟩)
  go_wp2_with fail
  exact ⟨⟨j+1,by omega,by go_num,_,A1,c1,HX3⟩,by simp [intOf];omega⟩
 obtain ⟨ad,sA,sC,rfl,he0,he1,he2,heL,heC⟩:=J8e (Kd.c00 HE.out (J01 HW2.out.1 HW2.out.1.size hX.out.2)) hlt
 have hkE:(k:Int)<E.length:=by omega
 have hk0:(0:Int)≤k:=by omega
 have HEK:=Y00 (show E.take (k+1)=E.take k++[E[k]]∧E[k] ∈ E from ⟨Y0u hlt,Y0l _⟩)
 generalize E[k]=ee at *
 have r0:=J00 hX.out.2 k0
 have r1:=J00 hX.out.2 k1
 have HRW:=Y08 (Y07 r0 r1)
 clear r0 r1
 go_upto_region 6 with fail
 have bE:=J02 wr (.cells #[.int .i64 ee.1,.int .i64 ee.2.1,.slice sA ee.2.2.length sC] 129)
 have e0:(wr.alloc (.cells #[.int .i64 ee.1,.int .i64 ee.2.1,.slice sA ee.2.2.length sC] 129)).cell? ⟨wr.heap.size,0,none⟩=some (.int .i64 ee.1):=J0a wr _ _ 0
 have e1:(wr.alloc (.cells #[.int .i64 ee.1,.int .i64 ee.2.1,.slice sA ee.2.2.length sC] 129)).cell? ⟨wr.heap.size,1,none⟩=some (.int .i64 ee.2.1):=J0a wr _ _ 1
 have e2:(wr.alloc (.cells #[.int .i64 ee.1,.int .i64 ee.2.1,.slice sA ee.2.2.length sC] 129)).cell? ⟨wr.heap.size,2,none⟩=some (.slice sA ee.2.2.length sC):=J0a wr _ _ 2
 have f0:=J00 bE HRW.out.1
 have f1:=J00 bE HRW.out.2
 have HEL:=Y00 (Kd.c00 heL bE)
 have HB:=Y08 (J01 hX.out.2 hX.out.2.size bE)
 clear heL bE he0 he1 he2
 generalize wr.alloc (.cells #[.int .i64 ee.1,.int .i64 ee.2.1,.slice sA ee.2.2.length sC] 129)=wq at *
 have HPN:=Y08 (fun w' (h:Below wq.heap.size wq w')=>J01 (J01 HW2.out.1 HW2.out.1.size HB.out) (J01 HW2.out.1 HW2.out.1.size HB.out).size h)
 have HWI:=fun w' hb=>Y08 (J9d sA sC ee.2.2 100 w' (Kd.c00 HEL.out hb))
 refine sr1 27 (fun w'=>w'.cell? ⟨w.heap.size+1,0,none⟩=some (.int .i64 N)∧w'.cell? ⟨w.heap.size+1,1,none⟩=some (.int .i64 W)∧w'.cell? ⟨wr.heap.size,0,none⟩=some (.int .i64 ee.1)∧w'.cell? ⟨wr.heap.size,1,none⟩=some (.int .i64 ee.2.1)∧w'.cell? ⟨wr.heap.size,2,none⟩=some (.slice sA ee.2.2.length sC)) [] ⟨f0,f1,e0,e1,e2⟩ fun hJ0=>?_
 have HD:=Y00 (J05 (Y0f wq.heap.size wq))
 generalize wq.drew=wd at *
 refine pu 0 60 (bs 27 1) ?_
 refine pu 1 61 (bs 27 3) ?_
 refine tk5 2 62 (bs 27 7) hJ0 ?_
 refine on0 3 63 (bs 27 15) fun K hK=>?_
 refine gs0 Tryz.func32 #[.pointer (some ⟨w.heap.size+1,0,none⟩),.int .i64 ee.1] ?_
 cases hF:decide (0≤ee.1∧ee.1<N)
 ·refine (J7i _ ee.1 N _ hJ0.1 (by have:=of_decide_eq_false hF;omega)).mono ?_
  rintro e w1 ⟨rfl,rfl⟩
  refine ⟨_,rfl,hK.out _ _ hJ0 (fun _=>?_)⟩
  clear hK K
  refine nm0 _ ?_
  refine pu 4 64 (bs 27 31) ?_
  refine uf0 5 65 (bs 27 63) ?_
  refine uf0 6 66 (bs 27 127) ?_
  refine uf0 7 67 (bs 27 255) ?_
  refine uf0 8 68 (bs 27 511) ?_
  refine pu 9 69 (bs 27 1023) ?_
  refine pu 10 70 (bs 27 2047) ?_
  refine uf0 11 71 (bs 27 4095) ?_
  refine uf0 12 72 (bs 27 8191) ?_
  refine uf0 13 73 (bs 27 16383) ?_
  refine uf0 14 74 (bs 27 32767) ?_
  refine uf0 15 75 (bs 27 65535) ?_
  refine uf0 16 76 (bs 27 131071) ?_
  refine uf0 17 77 (bs 27 262143) ?_
  refine uf0 18 78 (bs 27 524287) ?_
  refine uf0 19 79 (bs 27 1048575) ?_
  refine pu 20 80 (bs 27 2097151) ?_
  refine pu 21 81 (bs 27 4194303) ?_
  refine uf0 22 82 (bs 27 8388607) ?_
  refine uf0 23 83 (bs 27 16777215) ?_
  refine uf0 24 84 (bs 27 33554431) ?_
  refine pu 25 85 (bs 27 67108863) ?_
  refine on0 26 86 (bs 27 134217727) fun K hK=>?_
  refine ds0 Tryz.func31 #[.bool false,.int .i64 1] ?_
  refine (J0r _ _).mono ?_
  rintro e w1 ⟨rfl,rfl⟩
  refine ⟨_,rfl,?_⟩
  have hop:openedP N W E=none:=Jao HEK.out.2 (by simp only [J1l,hF,Bool.false_and])
  refine ⟨rfl,HPN.out _ HD.out,?_⟩
  rw [hop]
 skip
 have hF2:0≤ee.1∧ee.1<N:=of_decide_eq_true hF
 refine (J9r _ ee.1 N _ hJ0.1 hF2.1 hF2.2).mono ?_
 rintro e w1 ⟨rfl,rfl⟩
 refine ⟨_,rfl,hK.out _ _ hJ0 (fun _=>?_)⟩
 clear hK K
 refine nm0 _ ?_
 refine pu 4 64 (bs 27 31) ?_
 refine pu 5 65 (bs 27 63) ?_
 refine pu 6 66 (bs 27 127) ?_
 refine tk5 7 67 (bs 27 255) hJ0 ?_
 refine on0 8 68 (bs 27 511) fun K hK=>?_
 refine gs0 Tryz.func32 #[.pointer (some ⟨w.heap.size+1,0,none⟩),.int .i64 ee.2.1] ?_
 cases hT:decide (0≤ee.2.1∧ee.2.1<N)
 ·refine (J7i _ ee.2.1 N _ hJ0.1 (by have:=of_decide_eq_false hT;omega)).mono ?_
  rintro e w1 ⟨rfl,rfl⟩
  refine ⟨_,rfl,hK.out _ _ hJ0 (fun _=>?_)⟩
  clear hK K
  refine nm0 _ ?_
  refine pu 9 69 (bs 27 1023) ?_
  refine pu 10 70 (bs 27 2047) ?_
  refine uf0 11 71 (bs 27 4095) ?_
  refine uf0 12 72 (bs 27 8191) ?_
  refine uf0 13 73 (bs 27 16383) ?_
  refine uf0 14 74 (bs 27 32767) ?_
  refine uf0 15 75 (bs 27 65535) ?_
  refine uf0 16 76 (bs 27 131071) ?_
  refine uf0 17 77 (bs 27 262143) ?_
  refine uf0 18 78 (bs 27 524287) ?_
  refine uf0 19 79 (bs 27 1048575) ?_
  refine pu 20 80 (bs 27 2097151) ?_
  refine pu 21 81 (bs 27 4194303) ?_
  refine uf0 22 82 (bs 27 8388607) ?_
  refine uf0 23 83 (bs 27 16777215) ?_
  refine uf0 24 84 (bs 27 33554431) ?_
  refine pu 25 85 (bs 27 67108863) ?_
  refine on0 26 86 (bs 27 134217727) fun K hK=>?_
  refine ds0 Tryz.func31 #[.bool false,.int .i64 1] ?_
  refine (J0r _ _).mono ?_
  rintro e w1 ⟨rfl,rfl⟩
  refine ⟨_,rfl,?_⟩
  have hop:openedP N W E=none:=Jao HEK.out.2 (by simp only [J1l,hF,hT,Bool.false_and,Bool.true_and])
  refine ⟨rfl,HPN.out _ HD.out,?_⟩
  rw [hop]
 skip
 have hT2:0≤ee.2.1∧ee.2.1<N:=of_decide_eq_true hT
 refine (J9r _ ee.2.1 N _ hJ0.1 hT2.1 hT2.2).mono ?_
 rintro e w1 ⟨rfl,rfl⟩
 refine ⟨_,rfl,hK.out _ _ hJ0 (fun _=>?_)⟩
 clear hK K
 refine nm0 _ ?_
 refine pu 9 69 (bs 27 1023) ?_
 refine pu 10 70 (bs 27 2047) ?_
 refine pu 11 71 (bs 27 4095) ?_
 refine tk5 12 72 (bs 27 8191) hJ0 ?_
 refine pu 13 73 (bs 27 16383) ?_
 refine pu 14 74 (bs 27 32767) ?_
 refine pu 15 75 (bs 27 65535) ?_
 refine pu 16 76 (bs 27 131071) ?_
 refine pu 17 77 (bs 27 262143) ?_
 refine tk5 18 78 (bs 27 524287) hJ0 ?_
 cases hL:decide ((ee.2.2.length:Int)=W)
 ·have hLb:((ee.2.2.length:Int) == W)=false:=by simpa using hL
  refine pu 19 79 (bs 27 1048575) ?_
  refine pu 20 80 (bs 27 2097151) ?_
  refine pu 21 81 (bs 27 4194303) ?_
  refine uf0 22 82 (bs 27 8388607) ?_
  refine uf0 23 83 (bs 27 16777215) ?_
  refine uf0 24 84 (bs 27 33554431) ?_
  refine pu 25 85 (bs 27 67108863) ?_
  refine on0 26 86 (bs 27 134217727) fun K hK=>?_
  refine ds0 Tryz.func31 #[.bool false,.int .i64 1] ?_
  refine (J0r _ _).mono ?_
  rintro e w1 ⟨rfl,rfl⟩
  refine ⟨_,rfl,?_⟩
  have hop:openedP N W E=none:=Jao HEK.out.2 (by simp only [J1l,hF,hT,hL,Bool.false_and,Bool.true_and])
  refine ⟨rfl,HPN.out _ HD.out,?_⟩
  rw [hop]
 skip
 have hL2:(ee.2.2.length:Int)=W:=of_decide_eq_true hL
 have hLb:((ee.2.2.length:Int) == W)=true:=by simpa using hL
 refine pu 19 79 (bs 27 1048575) ?_
 refine pu 20 80 (bs 27 2097151) ?_
 refine pu 21 81 (bs 27 4194303) ?_
 refine pu 22 82 (bs 27 8388607) ?_
 refine tk5 23 83 (bs 27 16777215) hJ0 ?_
 refine on0 24 84 (bs 27 33554431) fun K hK=>?_
 refine gs0 Tryz.func63 #[.slice sA ee.2.2.length sC,.int .i64 100] ?_
 cases hA:J42 100 ee.2.2
 ·rw [hA] at HWI
  refine (HWI _ HD.out).out.mono ?_
  rintro e w1 ⟨rfl,hb1⟩
  have HD:=Y00 (J01 HD.out HD.out.size hb1)
  refine ⟨_,rfl,hK.out _ _ (st5 hb1 hJ0) (fun _=>?_)⟩
  clear hK K
  refine nm0 _ ?_
  refine pu 25 85 (bs 27 67108863) ?_
  refine on0 26 86 (bs 27 134217727) fun K hK=>?_
  refine ds0 Tryz.func31 #[.bool false,.int .i64 1] ?_
  refine (J0r _ _).mono ?_
  rintro e w1 ⟨rfl,rfl⟩
  refine ⟨_,rfl,?_⟩
  have hop:openedP N W E=none:=Jao HEK.out.2 (by simp only [J1l,hF,hT,hL,hA,Bool.and_false])
  refine ⟨rfl,HPN.out _ HD.out,?_⟩
  rw [hop]
 skip
 rw [hA] at HWI
 refine (HWI _ HD.out).out.mono ?_
 rintro e w1 ⟨rfl,hb1⟩
 have HD:=Y00 (J01 HD.out HD.out.size hb1)
 refine ⟨_,rfl,hK.out _ _ (st5 hb1 hJ0) (fun _=>?_)⟩
 clear hK K
 refine nm0 _ ?_
 refine pu 25 85 (bs 27 67108863) ?_
 refine on0 26 86 (bs 27 134217727) fun K hK=>?_
 refine gs0 Tryz.func31 #[.bool true,.int .i64 1] ?_
 refine (J1w _ _).mono ?_
 rintro e w3 ⟨rfl,rfl⟩
 refine ⟨_,rfl,hK.out _ _ (st5 hb1 hJ0) (fun _=>?_)⟩
 clear hK K
 refine nm0 _ ?_
 refine dn0 ?_
 have HX2:=Y00 (show (∀ e ∈ E.take (k+1),J1l N W e=true)∧Below w2.heap.size w2 w1 from ⟨by
  rw [HEK.out.1]
  intro e he
  rcases Y0m.1 he with he | he
  ·exact hX.out.1 e he
  rw [Y11.1 he]
  simp only [J1l,hF,hT,hL,hA,Bool.and_self],J01 HB.out HB.out.size HD.out⟩)
 go_wp2_with fail
 exact ⟨⟨k+1,by omega,by go_num,HX2⟩,by simp [intOf];omega⟩
end Go.Proofs.YtbkfnmgkcgnifaaGreat
namespace Go.Proofs.YtbkfnmgkcgnifaaGreat
open Go.RowKit Go.Shelf W1 W2 Mdl Go.ChangeMaps
attribute [local go_sem] Oper.semAt_some
namespace Mdl
abbrev Ways:=List (List (List Tm))
def J7p (ways:Ways) (m:Int) (k:Nat):List Tm:=(ways.getD m.toNat []).getD k []
def rowP (ways:Ways) (pre:List Mk) (k:Nat):List Tm:=pre.flatMap fun m=>(J7p ways m.1 k).map (J0l m.2)
def J1u (n:Nat) (ways:Ways) (xs:List Mk):List (List Tm):=(List.range n).map fun k=>J0p (rowP ways xs k)
end Mdl
theorem J3d {B:Nat} {W W':World} {a:Addr} {v:Value} (h:W.cell? a=some v) (hq:J3m B W W'):W'.cell? a=some v:=by
 have hb:=World.block_lt_of_cell? W a h
 have:W'.heap[a.block]?=W.heap[a.block]?:=by
  cases ho:W.heap[a.block]? with
  | none=>rw [Array.getElem?_eq_none_iff] at ho;omega
  | some o=>?_
  refine hq.same _ _ ho (.inr ?_)
  cases o with
  | cells=>rfl
  | _=>simp [World.cell?,ho] at h
 rw [World.cell?_of_block this];exact h
theorem Jii {α:Type} {d:Kd α} {e base:Nat} {ok:Nat→Prop} {B:Nat} {W W':World} {v:Value} {xs:List α} (h:Kd.S d e W base ok v xs) (hq:J3m B W W'):Kd.S d e W' base ok v xs :=
 Kd.S_mono (Kd.S_move (Kd.S_bound h) (fun k hk=>by
  obtain ⟨_,_,_,q,_,cells,hc⟩:=hk
  rw [hc];exact hq.same _ _ hc (.inr rfl))) (fun _ hk=>hk.1)
theorem Jjw {α:Type} {d:Kd α} {e:Nat} {w:World} {A:Option Addr} {l:List (List α)} (h:(Kd.slice e d).C w A l.length l) {k:Nat} (hk:k<l.length) :
  ∃ ad A' c',A=some ad∧w.cell? (ad.add k)=some (.slice A' l[k].length c')∧l[k].length≤c'∧d.C w A' l[k].length l[k]:=by
 obtain ⟨ad,c,e1,hl,hK,hc⟩:=Kd.C_get h [] (k:Int) (by omega) (by omega)
 rw [Y06,Y01,Y05 hk] at hK
 rw [Y06] at hc
 obtain ⟨A',c',rfl,hle,hC⟩:=hK
 refine ⟨ad,A',c',e1,?_,hle,hC⟩
 have:=hc 0 _ rfl
 rwa [show (Kd.slice e d).sz=1 from rfl,Nat.mul_one,Nat.add_zero] at this
theorem Jon (V:World) (m:Mk) (t:TypeId):(V.alloc (.cells #[.int .i64 m.1,.int .i64 m.2.1,.int .i64 m.2.2.1,.int .i64 m.2.2.2] t)).cell? ⟨V.heap.size,0,none⟩=some (.int .i64 m.1)∧(V.alloc (.cells #[.int .i64 m.1,.int .i64 m.2.1,.int .i64 m.2.2.1,.int .i64 m.2.2.2] t)).cell? ⟨V.heap.size,1,none⟩=some (.int .i64 m.2.1) ∧
  (V.alloc (.cells #[.int .i64 m.1,.int .i64 m.2.1,.int .i64 m.2.2.1,.int .i64 m.2.2.2] t)).cell? ⟨V.heap.size,2,none⟩=some (.int .i64 m.2.2.1)∧(V.alloc (.cells #[.int .i64 m.1,.int .i64 m.2.1,.int .i64 m.2.2.1,.int .i64 m.2.2.2] t)).cell? ⟨V.heap.size,3,none⟩=some (.int .i64 m.2.2.2) :=
 ⟨J0a V _ _ 0,J0a V _ _ 1,J0a V _ _ 2,J0a V _ _ 3⟩
theorem Jfx {n k:Nat} (f:Nat→List Tm) (y:List Tm) (hk:k<n):((List.range n).map f).set k y=(List.range n).map fun j=>if j=k then y else f j:=by
 apply List.ext_getElem?
 intro i
 rw [List.getElem?_set,List.getElem?_map,List.getElem?_map]
 by_cases hi:k=i
 ·subst hi
  simp [hk]
 rw [if_neg hi]
 by_cases hin:i<n
 ·simp [hin,Ne.symm hi]
 simp [hin]
def mixP (ways:Ways) (pre:List Mk) (m:Mk) (k j:Nat):List Tm:=if j<k then rowP ways (pre++[m]) j else rowP ways pre j
theorem Jjc {x:Nat→Prop} {W W1:World} {row:Option Nat} {e:Nat} (h:W.grownBy W1 row) (hr:∀ k,row=some k→∃ cells,W.heap[k]?=some (.cells cells e (0,0))):NC x W W1 :=
 ⟨h.size,fun k o hk ho _=>(h.block k (J0q hk) (fun he=>by
  obtain ⟨cells,hc⟩:=hr k he.symm
  rw [hc] at hk
  cases hk
  cases ho)).trans hk⟩
structure J9b (n M:Nat) (ways:Ways):Prop where
 len:ways.length=n
 row:∀ r ∈ ways,r.length=n
 way:∀ r ∈ ways,∀ l ∈ r,l.length≤M
theorem J9b.at_ {n M:Nat} {ways:Ways} (h:J9b n M ways) {m:Int} (h0:0≤m) (h1:m<n) {k:Nat} (hk:k<n):∃ (hm:m.toNat<ways.length) (hr:k<ways[m.toNat].length),J7p ways m k=ways[m.toNat][k]∧(J7p ways m k).length≤M:=by
 have hm:m.toNat<ways.length:=by rw [h.len];omega
 have hr:k<ways[m.toNat].length:=by rw [h.row _ (Y0l hm)];exact hk
 have e:J7p ways m k=ways[m.toNat][k]:=by
  simp [J7p,Y01,hm,hr]
 exact ⟨hm,hr,e,by rw [e];exact h.way _ (Y0l hm) _ (Y0l hr)⟩
theorem Jap {n M:Nat} {ways:Ways} (h:J9b n M ways) {k:Nat} (hk:k<n):∀ (xs:List Mk),(∀ y ∈ xs,0≤y.1∧y.1<n)→(rowP ways xs k).length≤xs.length*M
 | [],_=>by simp [rowP]
 | y::xs,hs=>by
  obtain ⟨h0,h1⟩:=hs y Y03
  obtain ⟨_,_,_,hle⟩:=h.at_ h0 h1 hk
  have:=Jap h hk xs (fun z hz=>hs z (Y04 _ hz))
  rw [Y0z,Nat.succ_mul]
  simp only [rowP,List.flatMap_cons,Y02,Y0g] at this ⊢
  omega
theorem Jmm (ways:Ways) (pre:List Mk) (m:Mk) (k:Nat):rowP ways (pre++[m]) k=rowP ways pre k++(J7p ways m.1 k).map (J0l m.2):=by simp [rowP]
theorem J69 (gb:Nat) (n:Nat) (Wd:Int) (E:List Ed) (ways:Ways) (b:Nat) (L:Led) (w:World) (hG:J4v w gb n Wd E ways) (hn:1≤n) (hn3:n≤8) (M:Nat) (hW:J9b n M ways) (hnode:∀ e ∈ L,0≤e.1.1∧e.1.1<n) (hM:L.length*M*24+M*24+24≤140737488355328) (hL:J1a w b L) :
  Calls Tryz.prog 48 #[.pointer (some ⟨gb,0,none⟩),.func (.func 45) #[.agg #[.map (some b)]] #[]] w fun e w' =>
   ∃ v xs,e=.returned v∧xs.Perm (posL L)∧J23.R 68 w' w.heap.size (fun _=>True) v (J1u n ways xs)∧Below w.heap.size w w':=by
 have HG:=Y00 hG
 have HLd:=Y00 hL
 have h0N:(0:Int)≤n:=by omega
 have c0:=hG.c0
 have hgl:gb<w.heap.size:=World.block_lt_of_cell? w _ c0
 clear hG hL
 refine (callsIn_wide (n:=6)).1 (callsIn_of_wp_marks Tryz.func48 rfl trivial ?_ rfl)
 refine wpIn_wide.2 ?_
 simp only [Tryz.ntmps48,List.size_toArray,Y0z,List.length_nil,Nat.reduceAdd,Nat.reduceSub,Array.replicate_succ,Array.replicate_zero,List.push_toArray,List.append_toArray,List.nil_append,List.cons_append,List.append_nil]
 go_upto_region 1 with fail
 have hw2:(w.alloc (.cells #[.pointer (some ⟨gb,0,none⟩)] 63)).heap.size=w.heap.size+1:=by simp
 have b1:=J02 w (.cells #[.pointer (some ⟨gb,0,none⟩)] 63)
 have cg:(w.alloc (.cells #[.pointer (some ⟨gb,0,none⟩)] 63)).cell? ⟨w.heap.size,0,none⟩=some (.pointer (some ⟨gb,0,none⟩)):=J0a w _ _ 0
 generalize w.alloc (.cells #[.pointer (some ⟨gb,0,none⟩)] 63)=w2 at *
 have hN2:=J00 b1 c0
 have H2:=Y00 (Y07 hw2 (Y07 cg b1))
 clear hw2 b1 c0
 go_upto_region 2 with (at_make;go_must (refine Kd.S_make J23 (w0:=w) w.heap.size 68 rfl (N:=17) rfl _ _ _ rfl n rfl rfl Tryz.underlying69 _ 24 Tryz.infoLt rfl (by decide) (by decide) ([]:List Tm) (ok:=fun k=>w2.heap.size≤k) (okp:=fun _=>False) ⟨_,rfl,Kd.R_nil _ _ _ _ _⟩ (fun _ h=>h.elim) (Y0e _) h0N (by omega) H2.out.2.2 H2.out.2.2.size ?_);intro v1 w3 hS3 hb3 hg3 hown3;obtain ⟨ga,ac,hv1,hga1,hga2,_⟩:=Kd.S_form hS3 (by simp;omega);rw [Y0j,Y06] at hv1;subst hv1)
 have b3:=J02 w3 (.cells #[.slice (some ⟨ga,0,none⟩) n ac] 69)
 have ca:(w3.alloc (.cells #[.slice (some ⟨ga,0,none⟩) n ac] 69)).cell? ⟨w3.heap.size,0,none⟩=some (.slice (some ⟨ga,0,none⟩) n ac):=J0a w3 _ _ 0
 have cg3:=J00 b3 (J09 hg3 H2.out.2.1 (by simp))
 have hz4:(w3.alloc (.cells #[.slice (some ⟨ga,0,none⟩) n ac] 69)).heap.size=w3.heap.size+1:=by simp
 have H4:=Y00 (show Kd.S J23 68 (w3.alloc (.cells #[.slice (some ⟨ga,0,none⟩) n ac] 69)) w.heap.size (fun k=>w.heap.size<k∧k≠w3.heap.size) (.slice (some ⟨ga,0,none⟩) n ac) (List.replicate n [])∧Below w.heap.size w (w3.alloc (.cells #[.slice (some ⟨ga,0,none⟩) n ac] 69)) from
  ⟨Kd.S_below (Kd.S_mono (Kd.S_bound (by simpa using hS3)) (fun k hk=>⟨by have:=hk.1;have:=H2.out.1;omega,by have:=hk.2.2.1;omega⟩)) b3,J01 hb3 hb3.size b3⟩)
 have HZ:=Y08 (show w.heap.size<w3.heap.size by have:=hg3.size;have:=H2.out.1;omega)
 have HZ4:=Y08 hz4
 clear b3 hz4 hS3 hb3 hg3 hown3 hga1 hN2 cg
 generalize w3.alloc (.cells #[.slice (some ⟨ga,0,none⟩) n ac] 69)=w4 at *
 go_wp2_with fail
 refine (wpIn_wide (n:=6)).1 ?_
 have HLB:=Y00 (HLd.out.below H4.out.2)
 have CA:=Y08 ca
 have CG:=Y08 cg3
 refine Jfy (P:=Tryz.prog) (gf:=45) (first:=#[.agg #[.map (some b)]]) (cap:=#[]) rfl (enters_of Tryz.func45 (by kernel_rfl) rfl) (enc:=fun m=>#[mkV m]) (fun _=>rfl) (x:=fun _=>False) (fun _ h=>h.elim) (Jip b L w4 (fun _=>False) HLB.out (fun _ h=>h.elim))
  (fun pre W=>W.cell? ⟨w3.heap.size,0,none⟩=some (.slice (some ⟨ga,0,none⟩) n ac)∧W.cell? ⟨w.heap.size,0,none⟩=some (.pointer (some ⟨gb,0,none⟩))∧Kd.S J23 68 W w.heap.size (fun k=>w.heap.size<k∧k≠w3.heap.size) (.slice (some ⟨ga,0,none⟩) n ac) ((List.range n).map (rowP ways pre))∧Below w.heap.size w W)
  ?stab ?start
  (fun pre m a1 W=>∃ bm,a1={ tmps:=#[.pointer (some ⟨gb,0,none⟩),.func (.func 45) #[.agg #[.map (some b)]] #[],.pointer (some ⟨w.heap.size,0,none⟩),undef,.slice none 0 0,.pointer (some ⟨w3.heap.size,0,none⟩),.pointer (some ⟨bm,0,none⟩),undef,undef,undef,undef,undef,.pointer (some ⟨gb,0,none⟩),.pointer (some ⟨gb,0,none⟩),.pointer (some ⟨gb,0,none⟩),.pointer (some ⟨gb,0,none⟩),.int .i64 n,.slice (some ⟨ga,0,none⟩) n ac,.func (.func 45) #[.agg #[.map (some b)]] #[],.agg #[.int .i64 m.1,.int .i64 m.2.1,.int .i64 m.2.2.1,.int .i64 m.2.2.2],undef,undef,undef,undef,undef,undef,undef,undef,undef,undef,undef,undef,undef,undef,undef,undef,undef,undef,undef,undef,undef,undef,undef,undef,undef,undef,undef,undef,undef,undef,undef,undef,undef,undef,undef,undef,undef,undef,undef,undef,undef,undef,undef,undef,undef,undef,undef,undef,undef,undef],defers:=[] }∧w3.heap.size<bm∧(W.cell? ⟨bm,0,none⟩=some (.int .i64 m.1)∧W.cell? ⟨bm,1,none⟩=some (.int .i64 m.2.1)∧W.cell? ⟨bm,2,none⟩=some (.int .i64 m.2.2.1)∧W.cell? ⟨bm,3,none⟩=some (.int .i64 m.2.2.2)) ∧
   W.cell? ⟨w3.heap.size,0,none⟩=some (.slice (some ⟨ga,0,none⟩) n ac)∧W.cell? ⟨w.heap.size,0,none⟩=some (.pointer (some ⟨gb,0,none⟩))∧Kd.S J23 68 W w.heap.size (fun k=>(w.heap.size<k∧k≠w3.heap.size)∧k≠bm) (.slice (some ⟨ga,0,none⟩) n ac) ((List.range n).map (rowP ways pre))∧Below w.heap.size w W)
  ?stab2 ?assign ?body ?done
 case stab =>
  rintro pre V V' hV ⟨h1,h2,h3,h4⟩ hq
  exact ⟨J3d h1 hq,J3d h2 hq,Jii h3 hq,h4.trans ((hq.toBelow hV).mono H4.out.2.size)⟩
 case start =>
  refine ⟨ca,cg3,?_,H4.out.2⟩
  have:(List.range n).map (rowP ways [])=List.replicate n []:=by
   refine List.eq_replicate_iff.2 ⟨by simp,fun r hr=>?_⟩
   obtain ⟨k,_,rfl⟩:=List.mem_map.1 hr
   rfl
  rw [this]
  exact H4.out.1
 case stab2 =>
  rintro pre m a1 _ V V' hV ⟨bm,h0,h1,⟨h2,h3,h4,h5⟩,h6,h7,h8,h9⟩ hq
  exact ⟨bm,h0,h1,⟨J3d h2 hq,J3d h3 hq,J3d h4 hq,J3d h5 hq⟩,J3d h6 hq,J3d h7 hq,Jii h8 hq,h9.trans ((hq.toBelow hV).mono H4.out.2.size)⟩
 case assign =>
  rintro l pre m V K hV hp ⟨h1,h2,h3,h4⟩ hK
  have HKK:=Y08 hK
  have H3:=Y00 h3
  have H4':=Y00 h4
  clear h3 h4 hK
  simp only [mkV]
  gi_wp2
  refine HKK.out _ _ (NC.below (J02 _ _)) ⟨V.heap.size,rfl,by have:=HZ4.out;omega,Jon V m 101,J00 (J02 _ _) h1,J00 (J02 _ _) h2,Kd.S_below (Kd.S_elderB H3.out _ (Y0e _)) (J02 _ _),J01 H4'.out H4'.out.size (J02 _ _)⟩
 case body =>
  rintro l pre m a1 V hV hp ⟨bm,rfl,hbm,⟨m0,m1,m2,m3⟩,k1,k2,hS,hB⟩
  obtain ⟨xs,hxs,hpre⟩:=hp
  have hmem:m ∈ posL L:=hxs.mem_iff.1 (hpre.subset (by simp))
  obtain ⟨hm0,hm1⟩:0≤m.1∧m.1<n:=by
   obtain ⟨e,he,rfl⟩:=List.mem_map.1 hmem
   exact hnode e (List.mem_filter.1 he).1
  have hlenp:pre.length+1≤L.length:=by
   have h1:=hpre.length_le
   rw [Y02,Y10,hxs.length_eq] at h1
   have h2:(posL L).length≤L.length:=by
    rw [posL,Y0g];exact List.length_filter_le _ _
   omega
  have hrow:∀ k,k<n→(rowP ways pre k).length+M≤L.length*M:=by
   intro k hk
   have h1:=Jap hW hk pre (fun y hy=>by
    have hy:y ∈ posL L:=hxs.mem_iff.1 (hpre.subset (by simp [hy]))
    obtain ⟨e,he,rfl⟩:=List.mem_map.1 hy
    exact hnode e (List.mem_filter.1 he).1)
   have h2:(pre.length+1)*M≤L.length*M:=Nat.mul_le_mul_right _ hlenp
   rw [Nat.succ_mul] at h2
   omega
  have HP:=Y00 (Y07 hrow (Y07 hm0 hm1))
  have HS:=Y00 (Y07 hS hB)
  have HM:=Y00 (Y07 m0 (Y07 m1 (Y07 m2 m3)))
  clear hxs hpre hmem hlenp hrow hS hB m1 m2 m3
  gi_wp2
  gi_loopw [22] (fun i V1=>∃ k:Nat,k≤n∧i=.int .i64 k∧J08 (Kd.S J23 68 V1 w.heap.size (fun k=>(w.heap.size<k∧k≠w3.heap.size)∧k≠bm) (.slice (some ⟨ga,0,none⟩) n ac) ((List.range n).map (mixP ways pre m k))∧Below w.heap.size w V1∧NC (fun _=>False) V V1)∧V1.cell? ⟨bm,0,none⟩=some (.int .i64 m.1) ∧
   J08 (V1.cell? ⟨bm,1,none⟩=some (.int .i64 m.2.1)∧V1.cell? ⟨bm,2,none⟩=some (.int .i64 m.2.2.1)∧V1.cell? ⟨bm,3,none⟩=some (.int .i64 m.2.2.2))∧V1.cell? ⟨w3.heap.size,0,none⟩=some (.slice (some ⟨ga,0,none⟩) n ac)∧V1.cell? ⟨w.heap.size,0,none⟩=some (.pointer (some ⟨gb,0,none⟩))) (fun i _=>n - (intOf i).toNat)
  case atStart =>
   refine ⟨0,Nat.zero_le _,rfl,⟨?_,HS.out.2,NC.refl _ _⟩,m0,⟨HM.out.2⟩,k1,k2⟩
   rw [show mixP ways pre m 0=rowP ways pre from funext fun j=>by simp [mixP]]
   exact HS.out.1
  obtain ⟨k,hk,rfl,hX,n0,hN,j1,j2⟩:=hrel
  by_cases hlt:k<n
  rotate_left
  ·gi_wp2
   refine ⟨hX.out.2.2,j1,j2,?_,hX.out.2.1⟩
   have hkn:k=n:=by omega
   subst hkn
   have h:=Kd.S_mono hX.out.1 (fun k hk=>hk.1)
   have he:(List.range k).map (mixP ways pre m k)=(List.range k).map (rowP ways (pre++[m])):=List.map_congr_left (fun j hj=>by simp [mixP,Y12.1 hj])
   rw [he] at h
   exact h
  obtain ⟨hm,hr,hwe,hwM⟩:=hW.at_ HP.out.2.1 HP.out.2.2 hlt
  have hB1:=hX.out.2.1
  obtain ⟨wA,wC,hc3,hCw⟩:=HG.out.c3
  have g3:=J00 hB1 hc3
  obtain ⟨ad,A1,c1,hwA,hcA,_,hC1⟩:=Jjw hCw hm
  obtain ⟨ad1,A2,c2,hA1,hcB,_,hC2⟩:=Jjw hC1 hr
  rw [← hwe] at hcB hC2
  replace hcA:=J00 hB1 hcA
  replace hcB:=J00 hB1 hcB
  subst hwA
  subst hA1
  have hlr1:ways[m.1.toNat].length=n:=hW.row _ (Y0l hm)
  rw [hlr1] at hcA
  rw [hW.len] at g3
  have hm0:=HP.out.2.1
  have hm1:=HP.out.2.2
  have hk0:(0:Int)≤k:=by omega
  have hkn:(k:Int)<n:=by omega
  generalize hway:J7p ways m.1 k=way at *
  have HWY:=Y08 (Y07 hway hwM)
  have HC2:=Y00 (Y07 (rfl:way.length=way.length) hC2)
  generalize hwl:way.length=wl at hcB
  have HWL:=Y08 hwl
  clear hC1 hC2 hCw hc3 hway hwe hwM hlr1 hwl
  gi_wp2
  refine Jio (k:=13) (S:=fun w'=>w'.cell? ⟨w.heap.size,0,none⟩=some (.pointer (some ⟨gb,0,none⟩))∧w'.cell? ⟨gb,3,none⟩=some (.slice (some ad) n wC)∧w'.cell? ⟨bm,0,none⟩=some (.int .i64 m.1)∧w'.cell? (ad.add m.1.toNat)=some (.slice (some ad1) n c1)∧w'.cell? (ad1.add k)=some (.slice A2 wl c2)) (ds:=[]) (bs 13 0) (by kernel_rfl) (by rintro ⟨_,_,h⟩;exact h) (by kernel_rfl) rfl (by kernel_rfl) ⟨j2,g3,n0,hcA,hcB⟩ (fun hJ0=>?_)
  refine tk5 0 25 (bs 13 1) hJ0 ?_
  refine pu 1 26 (bs 13 3) ?_
  refine pu 2 27 (bs 13 7) ?_
  refine tk5 3 28 (bs 13 15) hJ0 ?_
  refine pu 4 29 (bs 13 31) ?_
  refine tk5 5 30 (bs 13 63) hJ0 ?_
  refine pu 6 31 (bs 13 127) ?_
  refine tk5 7 32 (bs 13 255) hJ0 ?_
  refine pu 8 33 (bs 13 511) ?_
  refine pu 9 34 (bs 13 1023) ?_
  refine tk5 10 35 (bs 13 2047) hJ0 ?_
  refine pu 11 36 (bs 13 4095) ?_
  refine pu 12 37 (bs 13 8191) ?_
  refine dn0 ?_
  have HX1:=Y00 (Y07 (Kd.S_drew hX.out.1) (Y07 (J05 hB1) (show NC (fun _=>False) V wr.drew from hX.out.2.2)))
  have HC1:=Y00 HC2.out.2
  have hND:=Y00 (show wr.drew.cell? ⟨bm,0,none⟩=some (.int .i64 m.1)∧wr.drew.cell? ⟨bm,1,none⟩=some (.int .i64 m.2.1)∧wr.drew.cell? ⟨bm,2,none⟩=some (.int .i64 m.2.2.1)∧wr.drew.cell? ⟨bm,3,none⟩=some (.int .i64 m.2.2.2)∧wr.drew.cell? ⟨w3.heap.size,0,none⟩=some (.slice (some ⟨ga,0,none⟩) n ac)∧wr.drew.cell? ⟨w.heap.size,0,none⟩=some (.pointer (some ⟨gb,0,none⟩)) from ⟨n0,hN.out.1,hN.out.2.1,hN.out.2.2,j1,j2⟩)
  have hwm:=Kd.C_max HC1.out
  rw [HWL.out] at hwm
  have HWH:=Y08 hJ0
  have HV1:=Y08 (show V.heap.size≤wr.drew.heap.size from hX.out.2.2.1)
  clear hX hN n0 j1 j2 hB1 hJ0 g3 hcA hcB HC2
  generalize wr.drew=Vd at *
  gi_wp2
  gi_loopw [37] (fun s V2=>∃ i:Nat,i≤wl∧s=.int .i64 i∧J08 (Kd.S J23 68 V2 w.heap.size (fun k=>(w.heap.size<k∧k≠w3.heap.size)∧k≠bm) (.slice (some ⟨ga,0,none⟩) n ac) (((List.range n).map (mixP ways pre m k)).set k (rowP ways pre k++(way.take i).map (J0l m.2)))∧Below w.heap.size w V2∧NC (fun _=>False) V V2∧Kept Vd V2 (fun k=>w.heap.size<k∧k≠bm∧k≠w3.heap.size)) ∧
   V2.cell? ⟨bm,1,none⟩=some (.int .i64 m.2.1)∧V2.cell? ⟨bm,2,none⟩=some (.int .i64 m.2.2.1)∧V2.cell? ⟨bm,3,none⟩=some (.int .i64 m.2.2.2)∧V2.cell? ⟨w3.heap.size,0,none⟩=some (.slice (some ⟨ga,0,none⟩) n ac)) (fun s _=>wl - (intOf s).toNat)
  case atStart =>
   refine ⟨0,Nat.zero_le _,rfl,⟨?_,HX1.out.2.1,HX1.out.2.2,Kept.refl _ _⟩,hND.out.2.1,hND.out.2.2.1,hND.out.2.2.2.1,hND.out.2.2.2.2.1⟩
   rw [Jfx _ _ hlt]
   have he:(List.range n).map (fun j=>if j=k then rowP ways pre k++(way.take 0).map (J0l m.2) else mixP ways pre m k j)=(List.range n).map (mixP ways pre m k):=List.map_congr_left (fun j _=>by
    by_cases hj:j=k
    ·subst hj;simp [mixP]
    rw [if_neg hj])
   rw [he]
   exact HX1.out.1
  obtain ⟨i,hi,rfl,hX2,p1,p2,p3,q0⟩:=hrel
  by_cases hit:i<wl
  rotate_left
  ·gi_wp2
   have hin:i=wl:=by omega
   have hkp:=hX2.out.2.2.2
   have hbw:∀ k,k=bm∨k=w.heap.size→¬ (w.heap.size<k∧k≠bm∧k≠w3.heap.size):=fun k hk h=>by
    rcases hk with hk | hk
    ·exact h.2.1 hk
    omega
   refine ⟨⟨k+1,by omega,by go_num,⟨?_,hX2.out.2.1,hX2.out.2.2.1⟩,Go.Proofs.YtbkfnmgkcgnifaaGreat.W1.cellKept hND.out.1 hkp (hbw _ (.inl rfl)),⟨p1,p2,p3⟩,q0,Go.Proofs.YtbkfnmgkcgnifaaGreat.W1.cellKept hND.out.2.2.2.2.2 hkp (hbw _ (.inr rfl))⟩,by simp [intOf];omega⟩
   have h:=hX2.out.1
   rw [Jfx _ _ hlt,hin,← HWL.out,List.take_length] at h
   have he:(List.range n).map (fun j=>if j=k then rowP ways pre k++way.map (J0l m.2) else mixP ways pre m k j)=(List.range n).map (mixP ways pre m (k+1)):=List.map_congr_left (fun j _=>by
    by_cases hj:j=k
    ·subst hj
     simp [mixP,Jmm,HWY.out.1]
    rw [if_neg hj]
    simp only [mixP]
    by_cases hjk:j<k
    ·rw [if_pos hjk,if_pos (by omega)]
    rw [if_neg hjk,if_neg (by omega)])
   rw [he] at h
   exact h
  have hitw:i<way.length:=by have:=HWL.out;omega
  have hxb:=hX2.out.2.2.2
  have hCi:=Kd.c00 HC1.out hX2.out.2.1
  obtain ⟨ad2,hA2,t0,t1,t2⟩:=Jfa hCi hitw
  subst hA2
  have hi0:(0:Int)≤i:=by omega
  have hiw:(i:Int)<wl:=by omega
  have htk:way.take (i+1)=way.take i++[way[i]]:=Y0u hitw
  generalize way[i]=t at *
  have HTK:=Y08 htk
  clear hCi htk
  gi_wp2
  have b3:=J02 wr (.cells #[.int .i64 t.1,.int .i64 t.2.1,.int .i64 t.2.2] 99)
  have u0:(wr.alloc (.cells #[.int .i64 t.1,.int .i64 t.2.1,.int .i64 t.2.2] 99)).cell? ⟨wr.heap.size,0,none⟩=some (.int .i64 t.1):=J0a wr _ _ 0
  have u1:(wr.alloc (.cells #[.int .i64 t.1,.int .i64 t.2.1,.int .i64 t.2.2] 99)).cell? ⟨wr.heap.size,1,none⟩=some (.int .i64 t.2.1):=J0a wr _ _ 1
  have u2:(wr.alloc (.cells #[.int .i64 t.1,.int .i64 t.2.1,.int .i64 t.2.2] 99)).cell? ⟨wr.heap.size,2,none⟩=some (.int .i64 t.2.2):=J0a wr _ _ 2
  have hS3:=Kd.S_below (Kd.S_elderB hX2.out.1 _ (Y0e _)) b3
  obtain ⟨oki,c,hcl,hM1,hcc,hfr,hoki,hH⟩:=Kd.S_elem hS3 [] k hk0 hkn
  obtain ⟨rv,rfl,hRv⟩:=hM1
  have hrow:=hcc 0 rv rfl
  rw [Y06,show J23.sz=1 from rfl,Nat.mul_one,Nat.add_zero] at hrow
  rw [Y06,Y01,List.getElem?_set_self (by simpa using hlt)] at hRv
  have hRv:kT.R 99 (wr.alloc (.cells #[.int .i64 t.1,.int .i64 t.2.1,.int .i64 t.2.2] 99)) w.heap.size oki rv (rowP ways pre k++(way.take i).map (J0l m.2)):=hRv
  have HRV:=Y00 (Kd.c0b hRv)
  have HH:=Y00 (Kd.H_drew hH)
  have HOI:=Y00 hoki
  have HB3:=Y00 (Y07 (J05 (J01 hX2.out.2.1 hX2.out.2.1.size b3)) (Y07 (show NC (fun _=>False) V (wr.alloc (.cells #[.int .i64 t.1,.int .i64 t.2.1,.int .i64 t.2.2] 99)).drew from hX2.out.2.2.1.trans (NC.below (J05 b3))) (show Kept Vd (wr.alloc (.cells #[.int .i64 t.1,.int .i64 t.2.1,.int .i64 t.2.2] 99)).drew (fun k=>w.heap.size<k∧k≠bm∧k≠w3.heap.size) from hX2.out.2.2.2.below (J05 b3))))
  have v0:=J00 b3 q0
  have v1:=J00 b3 p1
  have v2:=J00 b3 p2
  have v3:=J00 b3 p3
  have HSZ:=Y08 (show (wr.alloc (.cells #[.int .i64 t.1,.int .i64 t.2.1,.int .i64 t.2.2] 99)).drew.heap.size=wr.heap.size+1 by simp)
  have hbmw:=World.block_lt_of_cell? wr _ p1
  have HBM:=Y08 (show bm<wr.heap.size∧w3.heap.size<bm∧w.heap.size<w3.heap.size from ⟨hbmw,hbm,HZ.out⟩)
  clear hS3 hRv hH hoki hcc hfr hcl b3 hbmw
  refine Jio (k:=14) (S:=fun w'=>w'.cell? ⟨w3.heap.size,0,none⟩=some (.slice (some ⟨ga,0,none⟩) n ac)∧w'.cell? ⟨ga,k,none⟩=some rv∧w'.cell? ⟨bm,1,none⟩=some (.int .i64 m.2.1)∧w'.cell? ⟨bm,2,none⟩=some (.int .i64 m.2.2.1)∧w'.cell? ⟨bm,3,none⟩=some (.int .i64 m.2.2.2)∧w'.cell? ⟨wr.heap.size,0,none⟩=some (.int .i64 t.1)∧w'.cell? ⟨wr.heap.size,1,none⟩=some (.int .i64 t.2.1)∧w'.cell? ⟨wr.heap.size,2,none⟩=some (.int .i64 t.2.2)) (ds:=[13]) (bs 14 0) (by kernel_rfl) (by rintro ⟨_,_,h⟩;exact h) (by kernel_rfl) rfl (by kernel_rfl) ⟨v0,hrow,v1,v2,v3,u0,u1,u2⟩ (fun hJ0=>?_)
  clear u0 u1 u2 v0 v1 v2 v3 hrow
  generalize (wr.alloc (.cells #[.int .i64 t.1,.int .i64 t.2.1,.int .i64 t.2.2] 99)).drew=w5 at *
  refine tk8 0 41 (bs 14 1) hJ0 ?_
  refine pu 1 42 (bs 14 3) ?_
  refine tk8 2 43 (bs 14 7) hJ0 ?_
  refine pu 3 44 (bs 14 15) ?_
  refine pu 4 45 (bs 14 31) ?_
  refine tk8 5 46 (bs 14 63) hJ0 ?_
  refine pu 6 47 (bs 14 127) ?_
  refine tk8 7 48 (bs 14 255) hJ0 ?_
  refine tk8 8 49 (bs 14 511) hJ0 ?_
  refine on0 9 50 (bs 14 1023) fun K hK=>?_
  refine gs0 Tryz.func75 #[.agg #[.int .i64 m.2.1,.int .i64 m.2.2.1,.int .i64 m.2.2.2],.agg #[.int .i64 t.1,.int .i64 t.2.1,.int .i64 t.2.2]] ?_
  have PL:=Jen m.2 t w5
  simp only [tmV] at PL
  refine PL.mono ?_
  clear PL
  rintro e w6 ⟨rfl,hb6⟩
  have HRV6:=Y00 (Kd.c01 HRV.out hb6)
  have HH6:=Y00 (Kd.H_below HH.out hb6)
  have HB6:=Y00 (Y07 (J01 HB3.out.1 HB3.out.1.size hb6) (Y07 (HB3.out.2.1.trans (NC.below hb6)) (Y07 (HB3.out.2.2.below hb6) hb6.size)))
  refine ⟨_,rfl,hK.out _ _ (st8 hb6 hJ0) (fun hJ0=>?_)⟩
  clear hK K
  refine nm0 _ ?_
  clear HRV HH HB3 hb6
  refine on0 10 51 (bs 14 2047) fun K hK=>?_
  refine va0 ?_
  have b0:=J02 w6 (.cells #[.int .i64 (J0l m.2 t).1,.int .i64 (J0l m.2 t).2.1,.int .i64 (J0l m.2 t).2.2] 99)
  have HD:=Y00 hJ0
  refine hK.out _ _ (st8 b0 hJ0) (fun hJ0=>?_)
  clear hK K
  refine nm0 _ ?_
  clear hJ0 b0
  refine on0 11 52 (bs 14 4095) fun K hK=>?_
  refine Kd.R_append_step kT (w0:=w) w.heap.size (by rfl) (.tmp 46) (.tmp 51) 68 99 _ 24 rfl Tryz.underlying68 Tryz.infoTime rfl (by decide) (by decide) rv (rowP ways pre k++(way.take i).map (J0l m.2)) (J0l m.2 t) [.int .i64 (J0l m.2 t).1,.int .i64 (J0l m.2 t).2.1,.int .i64 (J0l m.2 t).2.2] (fun k=>oki k∨(((w.heap.size<k∧k≠w3.heap.size)∧k≠bm)∧k≠wr.heap.size)∧w6.heap.size≤k) (fun _=>False) rfl rfl (kT_M _) (fun _ hk=>hk.elim) ?aF ?aO ?aB ?aS ?aL ?_
  case aF=>exact fun k hk=>.inr ⟨by have:=HSZ.out;have:=HB6.out.2.2.2;have:=HBM.out;refine ⟨⟨⟨?_,?_⟩,?_⟩,?_⟩<;>omega,hk⟩
  case aO=>exact Kd.c06 HRV6.out (fun _ hk=>.inl hk)
  case aB=>exact HB6.out.1
  case aS=>exact HB6.out.1.size
  case aL =>
   have h1:=HP.out.1 k hlt
   have h2:=HWY.out.2
   have h3:((way.take i).map (J0l m.2)).length≤way.length:=by simp;omega
   rw [Y02]
   have h4:L.length*M*24+M*24+24≤140737488355328:=hM
   omega
  intro v1 w7 hR7 hb7 hg7 hat7
  obtain ⟨A7,c7,hv7⟩:=Kd.c02 hR7
  generalize (rowP ways pre k++(way.take i).map (J0l m.2)++[J0l m.2 t]).length=ln at hv7
  subst hv7
  have hrow2:∀ k,rv.ownBlock=some k→oki k:=fun k hk=>HRV6.out.1 k hk
  have hH7:=Kd.H_grown (Kd.H_widen HH6.out) hg7 (fun k hk=>.inl (hrow2 k hk))
  have nk:∀ x,(x=w3.heap.size∨x=bm∨x=wr.heap.size∨x=ga)→some x≠rv.ownBlock:=fun x hx he=>by
   obtain ⟨⟨⟨⟨_,h1⟩,h2⟩,h3⟩,h4⟩:=HOI.out x (hrow2 x he.symm)
   rcases hx with hx | hx | hx | hx<;>contradiction
  obtain ⟨hcc7,hfr7⟩:=Kd.H_at hH7 hk0 hkn
  have hc7:=hcc7 0 rv rfl
  have hf7:=hfr7 0
  rw [Y06,show J23.sz=1 from rfl,Nat.mul_one,Nat.add_zero] at hc7 hf7
  have hK7:Kept Vd w7 (fun k=>w.heap.size<k∧k≠bm∧k≠w3.heap.size):=HB6.out.2.2.1.of_grown hg7 (fun x hx=>.inl (by
   obtain ⟨⟨⟨⟨h0,h1⟩,h2⟩,_⟩,_⟩:=HOI.out x (hrow2 x hx)
   exact ⟨h0,h2,h1⟩))
  have hN7:NC (fun _=>False) V w7:=HB6.out.2.1.trans (Jjc hg7 (Kd.R_typed HRV6.out))
  have HH7:=Y00 hH7
  have HR7:=Y00 hR7
  have HB7:=Y00 (Y07 hb7 (Y07 hN7 hK7))
  refine hK.out _ _ ⟨J09 hg7 HD.out.1 (nk _ (.inl rfl)),hc7,J09 hg7 HD.out.2.2.1 (nk _ (.inr (.inl rfl))),J09 hg7 HD.out.2.2.2.1 (nk _ (.inr (.inl rfl))),J09 hg7 HD.out.2.2.2.2.1 (nk _ (.inr (.inl rfl))),J09 hg7 HD.out.2.2.2.2.2.1 (nk _ (.inr (.inr (.inl rfl)))),J09 hg7 HD.out.2.2.2.2.2.2.1 (nk _ (.inr (.inr (.inl rfl)))),J09 hg7 HD.out.2.2.2.2.2.2.2 (nk _ (.inr (.inr (.inl rfl))))⟩ (fun hJ0=>?_)
  clear hK K
  refine nm0 _ ?_
  clear hH7 hcc7 hfr7 hR7 hb7 hg7 hat7 HH6 HRV6 HD nk hK7 hN7
  refine pu 12 53 (bs 14 8191) ?_
  refine la0 13 (bs 14 16383) (N:=none) fun K hK=>?_
  refine sk0 ?_
  have h8:=Kd.S_seg0 HH7.out hk0 hkn (seg:=[.slice A7 ln c7]) (j:=0) (x':=rowP ways pre k++(way.take i).map (J0l m.2)++[J0l m.2 t]) (Y0e 1) ⟨_,rfl,HR7.out⟩ (fun k hk=>hk.elim .inl .inr)
  rw [Y06,show J23.sz=1 from rfl,Nat.mul_one,Nat.add_zero,List.set_set] at h8
  have hty:∀ k,some ga=some k→∃ cells,w7.heap[k]?=some (.cells cells 68 (0,0)):=by
   obtain ⟨_,f,hR⟩:=HH7.out
   exact Kd.R_typed hR
  refine hK.out _ _ ?_
  clear hK K
  refine dn0 ?_
  have e8:w7.setCells ga k [.slice A7 ln c7]=w7.setCell ⟨ga,k,none⟩ (.slice A7 ln c7):=rfl
  rw [e8] at h8
  obtain ⟨hs8,hg8⟩:=h8
  have oga:=(Kd.S_R hs8).1 ga rfl
  have nga:∀ x,(x=w3.heap.size∨x=bm)→some x≠some ga:=fun x hx he=>by
   injection he with he
   subst he
   rcases hx with hx | hx
   ·exact oga.1.1.2 hx
   exact oga.1.2 hx
  have x0:=J09 hg8 hJ0.1 (nga _ (.inl rfl))
  have x1:=J09 hg8 hJ0.2.2.1 (nga _ (.inr rfl))
  have x2:=J09 hg8 hJ0.2.2.2.1 (nga _ (.inr rfl))
  have x3:=J09 hg8 hJ0.2.2.2.2.1 (nga _ (.inr rfl))
  have HX8:=Y00 (show Kd.S J23 68 (w7.setCell ⟨ga,k,none⟩ (.slice A7 ln c7)) w.heap.size (fun k=>(w.heap.size<k∧k≠w3.heap.size)∧k≠bm) (.slice (some ⟨ga,0,none⟩) n ac) (((List.range n).map (mixP ways pre m k)).set k (rowP ways pre k++(way.take (i+1)).map (J0l m.2)))∧Below w.heap.size w (w7.setCell ⟨ga,k,none⟩ (.slice A7 ln c7))∧NC (fun _=>False) V (w7.setCell ⟨ga,k,none⟩ (.slice A7 ln c7))∧Kept Vd (w7.setCell ⟨ga,k,none⟩ (.slice A7 ln c7)) (fun k=>w.heap.size<k∧k≠bm∧k≠w3.heap.size) from
   ⟨by rw [HTK.out,List.map_append,← Y0d];exact Kd.S_mono hs8 (fun k hk=>hk.1),HB7.out.1.grown hg8 HB7.out.1.size (fun k hk=>by injection hk with hk;subst hk;exact Nat.le_of_lt oga.1.1.1),HB7.out.2.1.trans (Jjc hg8 hty),HB7.out.2.2.of_grown hg8 (fun k hk=>.inl (by injection hk with hk;subst hk;exact ⟨oga.1.1.1,oga.1.2,oga.1.1.2⟩))⟩)
  clear hs8 hg8 hJ0 nga oga
  gi_wp2
  exact ⟨⟨i+1,by omega,by go_num,HX8,x1,x2,x3,x0⟩,by simp [intOf];omega⟩
 rintro D xs V hD hS ⟨h1,h2,h3,h4⟩ hK
 have HS:=Y00 (Y07 h3 (Y07 h4 hK))
 have HXS:=Y08 hS
 generalize hrows:(List.range n).map (rowP ways xs)=rows at *
 have hrl:rows.length=n:=by rw [← hrows];simp
 have HRL:=Y08 hrl
 have HFR:=Y08 (show rows.map J0p=J1u n ways xs by rw [← hrows,List.map_map];rfl)
 have HLN:=Y08 (show Len (L.length*M) rows by
  intro r hr
  rw [← hrows] at hr
  obtain ⟨k,hk,rfl⟩:=List.mem_map.1 hr
  have hk:=Y12.1 hk
  have h1:=Jap hW hk xs (fun y hy=>by
   have hy:y ∈ posL L:=hS.mem_iff.1 hy
   obtain ⟨e,he,rfl⟩:=List.mem_map.1 hy
   exact hnode e (List.mem_filter.1 he).1)
  have h2:xs.length≤L.length:=by
   rw [hS.length_eq,posL,Y0g];exact List.length_filter_le _ _
  exact Nat.le_trans h1 (Nat.mul_le_mul_right _ h2))
 have HW3:=Y08 (show w.heap.size<w3.heap.size∧D≠w3.heap.size∧w3.heap.size<D from ⟨HZ.out,by have:=HZ4.out;omega,by have:=HZ4.out;omega⟩)
 clear hrows hrl hS h3 h4 hK h2
 go_wp2_with fail
 go_loopw [58] (fun i wr=>∃ k:Nat,k≤n∧i=.int .i64 k∧J08 (Kd.S J23 68 wr w.heap.size (fun k=>w.heap.size<k∧k≠w3.heap.size) (.slice (some ⟨ga,0,none⟩) n ac) ((rows.map J0p).take k++rows.drop k)∧Below w.heap.size w wr∧wr.heap[D]?=some (.deferred (some [])))∧wr.cell? ⟨w3.heap.size,0,none⟩=some (.slice (some ⟨ga,0,none⟩) n ac)) (fun i _=>n - (intOf i).toNat)
 case atStart=>exact ⟨0,Nat.zero_le _,rfl,⟨by simpa using HS.out.1,HS.out.2.1,HS.out.2.2⟩,h1⟩
 obtain ⟨k,hk,rfl,hX,hca⟩:=hrel
 by_cases hlt:k<n
 rotate_left
 ·go_wp2_with fail
  have hkn:k=n:=by omega
  subst hkn
  have h:=hX.out.1
  rw [List.drop_of_length_le (by rw [HRL.out];exact Y0e _),List.append_nil,Y0t (by rw [Y0g,HRL.out];exact Y0e _),HFR.out] at h
  have hq:J3m w.heap.size wr (wr.putObj D (.deferred none)):=.putObj hX.out.2.2 rfl (by have:=HW3.out;omega)
  refine ⟨by simp,.inl ⟨_,_,rfl,run_takeDeferred hX.out.2.2,?_⟩⟩
  exact ⟨_,results_tmp rfl _ _ _,_,xs,rfl,HXS.out,Kd.c06 (Kd.S_R (Jii h hq)) (fun _ _=>trivial),hX.out.2.1.trans (hq.toBelow hX.out.2.1.size)⟩
 obtain ⟨hSr,hbr,hKr⟩:=hX.out
 have hk0:(0:Int)≤k:=by omega
 have hkN:(k:Int)<n:=by omega
 obtain ⟨oki,c,hcl,hM1,hcc,hfr,hoki,hH⟩:=Kd.S_elem hSr [] k hk0 hkN
 obtain ⟨rv,rfl,hRv⟩:=hM1
 have hrow:=hcc 0 rv rfl
 rw [Y06,show J23.sz=1 from rfl,Nat.mul_one,Nat.add_zero] at hrow
 rw [Y06] at hRv
 have hget:((rows.map J0p).take k++rows.drop k).getD k []=rows[k]'(by rw [HRL.out];exact hlt):=by
  rw [Y01,Y09 (by simp;omega)]
  simp [HRL.out,hlt,Nat.min_eq_left (Nat.le_of_lt hlt)]
 rw [hget] at hRv
 obtain ⟨A,cp,hrv,hcp,hC⟩:=Kd.c09 hRv
 have hset:=Jis J0p (show k<rows.length by rw [HRL.out];exact hlt)
 have hrm:rows[k]'(by rw [HRL.out];exact hlt) ∈ rows:=Y0l _
 have hlr:=HLN.out _ hrm
 have HSET:=Y08 hset
 clear hset hget hrm
 generalize rows[k]'(by rw [HRL.out];exact hlt)=rk at *
 generalize hnk:rk.length=nk at hrv hlr
 have hnk:=hnk.symm
 have HCA:=Y08 hca
 have HCB:=Y08 (show w3.heap.size<wr.heap.size from World.block_lt_of_cell? wr _ hca)
 have hgw:ga<wr.heap.size:=World.block_lt_of_cell? wr _ hrow
 have HSr:=Y00 (show Kd.S J23 68 wr w.heap.size (fun k=>(w.heap.size<k∧k≠w3.heap.size)∧¬ wr.heap.size≤k) (.slice (some ⟨ga,0,none⟩) n ac) ((rows.map J0p).take k++rows.drop k)∧Below w.heap.size w wr∧wr.heap[D]?=some (.deferred (some [])) from ⟨Kd.S_mono (Kd.S_bound hSr) (fun k hk=>⟨hk.1,by have:=hk.2.2.1;omega⟩),hbr,hKr⟩)
 subst hrv
 have HC:=Y00 hC
 have HLR:=Y08 (show nk*24≤140737488355328∧nk=rk.length from ⟨by have h4:L.length*M*24+M*24+24≤140737488355328:=hM;omega,hnk⟩)
 clear hcl hcc hfr hoki hH hRv hX hSr hbr hKr hC hcp hlr hnk
 go_upto_region 16 with fail
 refine wp_region_noPanic ?_
 refine sr1 6 (fun w'=>w'.cell? ⟨w3.heap.size,0,none⟩=some (.slice (some ⟨ga,0,none⟩) n ac)) [5] hca fun hJ0=>?_
 have HD:=Y00 (J05 (Y0f wr.heap.size wr))
 generalize wr.drew=wd at *
 refine tk1 0 63 (bs 6 1) hJ0 ?_
 refine pu 1 64 (bs 6 3) ?_
 refine pu 2 65 (bs 6 7) ?_
 refine on0 3 66 (bs 6 15) fun K hK=>?_
 refine gs0 Tryz.func76 #[.slice A nk cp] ?_
 have HF:=Jdt A cp rk wd (Kd.c00 HC.out HD.out) (by have:=HLR.out;omega)
 rw [← HLR.out.2] at HF
 refine HF.mono ?_
 rintro e w9 ⟨v9,rfl,hR9,hb9⟩
 obtain ⟨A9,c9,hv9⟩:=Kd.c02 hR9
 generalize (J0p rk).length=n9 at hv9
 subst hv9
 have hb10:=J01 HD.out HD.out.size hb9
 refine ⟨_,rfl,hK.out _ _ (J00 hb10 HCA.out) (fun hJ0=>?_)⟩
 clear hK K
 refine nm0 _ ?_
 refine pu 4 67 (bs 6 31) ?_
 have hS9:=Kd.S_below HSr.out.1 hb10
 obtain ⟨oki,c,hcl,hM1,hcc,hfr,hoki,hH⟩:=Kd.S_elem hS9 [] k hk0 hkN
 obtain ⟨rv9,rfl,_⟩:=hM1
 have hrow9:=hcc 0 rv9 rfl
 have hf9:=hfr 0
 rw [Y06,show J23.sz=1 from rfl,Nat.mul_one,Nat.add_zero] at hrow9 hf9
 have hM9:J23.M w9 w.heap.size (fun k=>wr.heap.size≤k) (J0p rk) [.slice A9 n9 c9]:=⟨_,rfl,Kd.c04 (Kd.c06 (Kd.c05 hR9) (fun k hk=>Nat.le_trans HD.out.size hk.2.1)) (show w.heap.size≤wd.heap.size from by have:=HSr.out.2.1.size;have:=HD.out.size;omega)⟩
 have h10:=Kd.S_seg (okg:=fun k=>wr.heap.size≤k) (ok:=fun k=>w.heap.size<k∧k≠w3.heap.size) hH hk0 hkN (seg:=[.slice A9 n9 c9]) (j:=0) (x':=J0p rk) (okp:=fun k=>wr.heap.size≤k) (Y0e 1) hM9 (fun k hk=>.inr hk) (fun k hk=>⟨⟨by have:=HW3.out;have:=HCB.out;omega,by have:=HCB.out;omega⟩,by omega⟩)
 rw [Y06,show J23.sz=1 from rfl,Nat.mul_one,Nat.add_zero,HSET.out] at h10
 have e10:w9.setCells ga k [.slice A9 n9 c9]=w9.setCell ⟨ga,k,none⟩ (.slice A9 n9 c9):=rfl
 rw [e10] at h10
 have hty:=Kd.S_typed hS9
 have hD9:w9.heap[D]?=some (.deferred (some [])):=J04 HSr.out.2.2 hb10
 have hDg:D≠ga:=fun he=>by
  subst he
  obtain ⟨cells,hc⟩:=hty D rfl
  rw [hc] at hD9;cases hD9
 have H10:=Y00 (Y07 h10 (Y07 hD9 hDg))
 have HB10:=Y08 (J01 HSr.out.2.1 HSr.out.2.1.size hb10)
 clear h10 hM9 hH hoki hfr hcc hcl hS9 hR9 hb9 hb10 hty hD9 hDg
 refine la0 5 (bs 6 63) (N:=none) fun K hK=>?_
 refine sk0 ?_
 refine hK.out _ _ ?_
 clear hK K
 refine dn0 ?_
 refine NoPanic.normal ?_
 have hg10:=H10.out.1.2
 have hga0:=(Kd.S_R H10.out.1.1).1 ga rfl
 have hca10:=J09 hg10 hJ0 (fun he=>by injection he with he;exact hga0.2 he.symm)
 have HX:=Y00 (Y07 H10.out.1.1 (Y07 (HB10.out.grown hg10 HB10.out.size (fun k hk=>by injection hk with hk;subst hk;exact Nat.le_of_lt hga0.1)) (J0x H10.out.2.1 hg10 (fun he=>H10.out.2.2 (by injection he)))))
 clear hg10 hga0 H10
 go_wp2_with fail
 exact ⟨⟨k+1,by omega,by go_num,HX,hca10⟩,by simp [intOf];omega⟩
end Go.Proofs.YtbkfnmgkcgnifaaGreat
namespace Go.Proofs.YtbkfnmgkcgnifaaGreat.Mdl
theorem Jkf {l m:List Tm} (h:l.Perm m):J2w l=J2w m:=by
 obtain ⟨h1,h2⟩:=J2a ordT (l:=l) (fun _ _=>trivial)
 exact Jan ordT (fun _ _=>trivial) (h2.trans h) h1
theorem Jgq {l m:List Tm} (h:l.Perm m):J0p l=J0p m:=by unfold J0p;rw [Jkf h]
theorem Jgo {α β:Type} (f:α→List β) {l m:List α} (h:l.Perm m):(l.flatMap f).Perm (m.flatMap f):=by
 induction h with
 | nil=>exact List.Perm.refl _
 | cons x _ ih=>simp only [List.flatMap_cons];exact ih.append_left _
 | swap x y l=>simp only [List.flatMap_cons,← Y0d];exact List.perm_append_comm.append_right _
 | trans _ _ h1 h2=>exact h1.trans h2
theorem J8c (n:Nat) (ways:Ways) {xs ys:List Mk} (h:xs.Perm ys):J1u n ways xs=J1u n ways ys:=by
 unfold J1u
 exact List.map_congr_left (fun k _=>Jgq (Jgo _ h))
structure St where
 led:List Led
 has:List Led
 notes:List (List (List Note))
 script:List Int
 works:Int
 nts:Int
 sent:Int
inductive Mv where
 | work (i:Nat) (m:Mk)
 | take (i k:Nat)
def St.ledOf (s:St) (i:Nat):Led:=s.led.getD i []
def St.hasOf (s:St) (i:Nat):Led:=s.has.getD i []
def St.queue (s:St) (i k:Nat):List Note:=(s.notes.getD i []).getD k []
structure WS where
 has:List Led
 script:List Int
 sent:Int
 note:Note
def J20 (W:Nat) (m:Mk) (s:WS) (e:Ed):WS :=
 if e.1=m.1 then
  if numP s.script ((W:Int)+1)=0 then { s with script:=s.script.tail }
  else
   {has:=s.has.set (numP s.script ((W:Int)+1) - 1).toNat (J0j (s.has.getD (numP s.script ((W:Int)+1) - 1).toNat []) (e.2.1,J0l m.2 (tmOf e.2.2)) 1)
    script:=s.script.tail,sent:=w64 (s.sent+1),note:=s.note++[((e.2.1,J0l m.2 (tmOf e.2.2)),1)] }
 else s
def putQ (ns:List (List (List Note))) (i k:Nat) (q:List Note):List (List (List Note)):=ns.set i ((ns.getD i []).set k q)
def J0y (i:Nat) (note:Note) (ns:List (List (List Note))) (j:Nat):List (List (List Note)) :=
 if j=i then ns else putQ ns j i ((ns.getD j []).getD i []++[note])
def J9l (W i:Nat) (note:Note) (ns:List (List (List Note))):List (List (List Note)):=(List.range W).foldl (J0y i note) ns
def J4w (E:List Ed) (W:Nat) (s:St) (i:Nat) (m:Mk):WS:=E.foldl (J20 W m) ⟨s.has.set i (J0j (s.hasOf i) m (-1)),s.script,s.sent,[(m,-1)]⟩
def J33 (E:List Ed) (W:Nat) (s:St) (i:Nat) (m:Mk):St :=
 {led:=s.led.set i (J2h (s.ledOf i) (J4w E W s i m).note),has:=(J4w E W s i m).has,notes:=J9l W i (J4w E W s i m).note s.notes
  script:=(J4w E W s i m).script,works:=w64 (s.works+1),nts:=s.nts,sent:=(J4w E W s i m).sent }
def J9g (s:St) (i k:Nat):St :=
 {s with led:=s.led.set i (J2h (s.ledOf i) ((s.queue i k).headD [])),notes:=putQ s.notes i k (s.queue i k).tail,nts:=w64 (s.nts+1) }
def Jkv (E:List Ed) (W:Nat) (s:St):Mv→St
 | .work i m=>J33 E W s i m
 | .take i k=>J9g s i k
def J28 (W:Nat) (s:St):List Mv :=
 ((List.range W).flatMap fun i=>(J61 ((s.hasOf i).map (·.1))).map (Mv.work i)) ++
 ((List.range W).flatMap fun i=>(List.range W).flatMap fun k=>if s.queue i k=[] then [] else [Mv.take i k])
def J2j (E:List Ed) (W:Nat) (s:St):Option St :=
 match J28 W s with
 | []=>none
 | a::l=>some (Jkv E W { s with script:=s.script.tail } ((a::l).getD (numP s.script ((l.length:Int)+1)).toNat a))
def J24 (E:List Ed) (W:Nat):Nat→St→St
 | 0,s=>s
 | n+1,s=>match J2j E W s with
  | none=>s
  | some s'=>J24 E W n s'
end Go.Proofs.YtbkfnmgkcgnifaaGreat.Mdl
namespace Go.Proofs.YtbkfnmgkcgnifaaGreat
open Go.RowKit Go.Shelf W1 W2 Mdl Go.ChangeMaps
def J0m (w:World) (k:Nat) (t:TypeId):Prop:=∃ cells,w.heap[k]?=some (.cells cells t (0,0))
theorem J0m.ne {w:World} {k:Nat} {t t':TypeId} (h:J0m w k t) (h':J0m w k t'):t=t':=by
 obtain ⟨c,h⟩:=h
 obtain ⟨c',h'⟩:=h'
 rw [h] at h';cases h';rfl
theorem J1a.not_typed {w:World} {k:Nat} {t:TypeId} {L:Led} (h:J1a w k L):¬ J0m w k t:=by
 rintro ⟨c,hc⟩
 obtain ⟨es,clock,h1,_⟩:=h
 rw [h1] at hc;cases hc
def J2f (B lim:Nat) (w:World) (v:Value) (l:Note):Prop:=kEn.R 213 w B (fun k=>k<lim) v l
theorem J2f.kept {B lim:Nat} {w w':World} {v:Value} {l:Note} {S:Nat→Prop} (h:J2f B lim w v l) (hk:Kept w w' S) (hS:∀ k,S k→k<lim→¬ J0m w k 213):J2f B lim w' v l:=by
 refine Kd.c06 (Kd.c0a (Kd.c05 h) hk (fun k hk' hs=>?_)) (fun _ h=>h.1)
 obtain ⟨hlim,_,_,q,hq,hc⟩:=hk'
 have hq:q=213:=by
  rw [show kEn.E=[] from rfl] at hq
  simpa using hq
 subst hq
 exact hS k hs hlim hc
theorem J2f.relim {B lim:Nat} {w:World} {v:Value} {l:Note} (h:J2f B lim w v l):J2f B w.heap.size w v l:=Kd.c06 (Kd.c05 h) (fun _ h=>h.2.2.1)
theorem J2f.mono {B lim lim':Nat} {w:World} {v:Value} {l:Note} (h:J2f B lim w v l) (hl:lim≤lim'):J2f B lim' w v l:=Kd.c06 h (fun _ h=>Nat.lt_of_lt_of_le h hl)
def qOwn:Value→Option Nat
 | .slice (some a) _ c=>if c=0 then none else some a.block
 | _=>none
def QxAt {α:Type} (tl:TypeId) (P:Value→α→Prop) (B:Nat) (w:World) (v:Value) (l:List α):Prop :=
 ∃ A c,v=.slice A l.length c∧l.length≤c∧c≤maxLen∧(c=0∨∃ g off cells,A=some ⟨g,off,none⟩∧B≤g∧w.heap[g]?=some (.cells cells tl (0,0))∧off+c≤cells.size∧∀ j (hj:j<l.length),∃ nv,cells[off+j]?=some nv∧P nv l[j])
section
variable {α:Type} {tl:TypeId} {P P':Value→α→Prop} {B:Nat} {w w':World} {v nv:Value} {l:List α}
theorem QxAt.kept {S:Nat→Prop} (h:QxAt tl P B w v l) (hk:Kept w w' S) (hP:∀ nv x,P nv x→P' nv x) (hq:∀ k,qOwn v=some k→¬ S k):QxAt tl P' B w' v l:=by
 obtain ⟨A,c,rfl,h1,h2,h3⟩:=h
 refine ⟨A,c,rfl,h1,h2,?_⟩
 rcases h3 with h3 | ⟨g,off,cells,rfl,hB,hg,ho,hn⟩
 ·exact .inl h3
 rcases Nat.eq_zero_or_pos c with h0 | h0
 ·exact .inl h0
 refine .inr ⟨g,off,cells,rfl,hB,J0f hg hk (hq g (by simp [qOwn];omega)),ho,fun j hj=>?_⟩
 obtain ⟨nv,e1,e2⟩:=hn j hj
 exact ⟨nv,e1,hP _ _ e2⟩
theorem QxAt.mono (h:QxAt tl P B w v l) (hn:∀ nv x,P nv x→P' nv x):QxAt tl P' B w v l:=h.kept (S:=fun _=>False) (Kept.of_below (Y0f _ _) _) hn (fun _ _ h=>h)
theorem QxAt.nil (tl:TypeId) (P:Value→α→Prop) (B:Nat) (w:World):QxAt tl P B w (.slice none 0 0) []:=⟨none,0,rfl,Y0e _,Nat.zero_le _,.inl rfl⟩
theorem QxAt.c07 (h:QxAt tl P B w v l) {k:Nat} (hk:qOwn v=some k):B≤k∧J0m w k tl:=by
 obtain ⟨A,c,rfl,h1,h2,h3⟩:=h
 rcases h3 with rfl | ⟨g,off,cells,rfl,hB,hg,ho,hn⟩
 ·cases A<;>simp [qOwn] at hk
 simp only [qOwn] at hk
 split at hk
 ·cases hk
 injection hk with hk
 subst hk
 exact ⟨hB,cells,hg⟩
theorem QxAt.pop {n:α} (h:QxAt tl P B w v (n::l)) :
  ∃ g off c nv,v=.slice (some ⟨g,off,none⟩) (l.length+1) (c+1)∧w.cell? ⟨g,off,none⟩=some nv∧P nv n∧qOwn v=some g ∧
   (c≠0→QxAt tl P B w (.slice (some ⟨g,off+1,none⟩) l.length c) l∧qOwn (.slice (some ⟨g,off+1,none⟩) l.length c)=some g)∧(c=0→QxAt tl P B w (.slice (some ⟨g,off,none⟩) l.length 0) l):=by
 obtain ⟨A,c,rfl,h1,h2,h3⟩:=h
 rw [Y0z] at h1
 obtain ⟨c,rfl⟩:∃ c',c=c'+1:=⟨c - 1,by omega⟩
 rcases h3 with h3 | ⟨g,off,cells,rfl,hB,hg,ho,hn⟩
 ·omega
 obtain ⟨nv,e1,e2⟩:=hn 0 (by simp)
 refine ⟨g,off,c,nv,rfl,by rw [J03 hg];exact e1,e2,by simp [qOwn],fun hc=>⟨⟨_,_,rfl,by omega,by omega,.inr ⟨g,off+1,cells,rfl,hB,hg,by omega,fun j hj=>?_⟩⟩,by simp [qOwn,hc]⟩,fun hc=>⟨_,_,rfl,by omega,Nat.zero_le _,.inl rfl⟩⟩
 obtain ⟨nv',f1,f2⟩:=hn (j+1) (by simpa using hj)
 exact ⟨nv',by rw [← f1];congr 1;omega,f2⟩
theorem QxAt.append {t2:TypeId} {note:α} (ty:TypeId) (hinfo:(Tryz.prog.info? tl).map (fun i=>(i.zero,i.size,i.bytes))=some (some (.slice none 0 0),1,24)) (hu:Tryz.prog.underlying t2=some (.slice tl)) (hn1:nv.oneCell'=true) (hB:B≤w.heap.size) (h:QxAt tl P B w v l) (hn:P nv note) (hl:l.length≤2000000000) :
  ∃ v' w',(Builtin.append_ #[t2,t2] ty #[v,.slice (some ⟨w.heap.size,0,none⟩) 1 1]).run Tryz.prog (w.alloc (.cells #[nv] tl))=.ok v' w'∧QxAt tl P B w' v' (l++[note])∧w.grownBy w' (qOwn v)∧(qOwn v'=qOwn v∨∃ b,qOwn v'=some b∧w.heap.size≤b):=by
 obtain ⟨i0,hi,hzz⟩:=Option.map_eq_some_iff.1 hinfo
 simp only [Prod.mk.injEq] at hzz
 obtain ⟨hz0,hz1,hz2⟩:=hzz
 have hbox:∀ j u,[nv][j]?=some u→(w.alloc (.cells #[nv] tl)).cell? ((⟨w.heap.size,0,none⟩:Addr).add j)=some u:=by
  intro j u hu
  cases j with
  | succ j=>simp at hu
  | zero=>?_
  have hu:nv=u:=by simpa using hu
  subst hu
  rw [J5t]
  exact J0a w _ _ 0
 have hone:∀ u ∈ [nv],u.oneCell'=true:=fun u hu=>by rw [Y11.1 hu];exact hn1
 have hb:=J02 w (.cells #[nv] tl)
 have hsz:(w.alloc (.cells #[nv] tl)).heap.size=w.heap.size+1:=by simp
 obtain ⟨A,c,rfl,h1,h2,h3⟩:=h
 have fresh:∀ (olds:List Value) (v':Value) (w':World),olds.length=l.length→(∀ j (hj:j<l.length),∃ ov,olds[j]?=some ov∧P ov l[j])→w'.ownsRow (w.heap.size+1) tl 1 v' (l.length+1) (olds++[nv])→(w.alloc (.cells #[nv] tl)).grownBy w' none →
   QxAt tl P B w' v' (l++[note])∧∃ b,qOwn v'=some b∧w.heap.size≤b:=by
  intro olds v' w' hol ho hown hg
  obtain ⟨hlen,⟨rfl,hz⟩ | ⟨g,cap,cur,rfl,hbg,hgg,hnc,hcm,hcs,hct⟩⟩:=hown
  ·omega
  have hcap:cap≠0:=by omega
  refine ⟨⟨some ⟨g,0,none⟩,cap,by rw [Y02];rfl,by rw [Y02,Y10];exact hnc,hcm,.inr ⟨g,0,cur,rfl,by omega,hgg,by rw [hcs];omega,fun j hj=>?_⟩⟩,g,by simp [qOwn,hcap],by omega⟩
  have hat:∀ u,(olds++[nv])[j]?=some u→cur[0+j]?=some u:=by
   intro u hu
   rw [← hct,List.getElem?_take] at hu
   split at hu
   ·rw [Nat.zero_add];simpa using hu
   cases hu
  rcases Nat.lt_or_ge j l.length with hlt | hge
  ·obtain ⟨ov,o1,o2⟩:=ho j hlt
   refine ⟨ov,hat ov (by rw [Y0a (by omega)];exact o1),?_⟩
   rw [List.getElem_append_left hlt]
   exact o2
  have hj2:j=l.length:=by simp at hj;omega
  subst hj2
  refine ⟨nv,hat nv (by rw [Y09 (by omega),hol,Nat.sub_self];rfl),?_⟩
  rw [List.getElem_append_right (Y0e _)]
  simp only [Nat.sub_self,List.getElem_singleton]
  exact hn
 by_cases hr:l.length+1≤c
 ·rcases h3 with rfl | ⟨g,off,cells,rfl,hBg,hg,ho,hnn⟩
  ·omega
  have hgw:=J0q hg
  have hg1:=J04 hg hb
  have hcell:∀ j,j<[nv].length→((w.alloc (.cells #[nv] tl)).cell? ⟨g,off+l.length*i0.size+j,none⟩).isSome=true:=by
   intro j hj
   rw [J03 hg1,hz1]
   have:j=0:=by simpa using hj
   subst this
   simp;omega
  have hrun:=run_append_room_cells (P:=Tryz.prog) (w.alloc (.cells #[nv] tl)) t2 ty tl i0 hu hi g off l.length c ⟨w.heap.size,0,none⟩ 1 1 [nv] (by rw [hz1];rfl) hbox hone hr hcell (fun j _=>J07 hg1 _)
  rw [hz1,Nat.mul_one] at hrun
  have hset:(w.alloc (.cells #[nv] tl)).setCells g (off+l.length) [nv]=(w.alloc (.cells #[nv] tl)).setCell ⟨g,off+l.length,none⟩ nv:=rfl
  rw [hset] at hrun
  have hgr:(w.alloc (.cells #[nv] tl)).grownBy ((w.alloc (.cells #[nv] tl)).setCell ⟨g,off+l.length,none⟩ nv) (some g):=J0e g [nv] (off+l.length) _
  have hgw2:w.grownBy ((w.alloc (.cells #[nv] tl)).setCell ⟨g,off+l.length,none⟩ nv) (some g):=(J0b hb).both hgr
  have hc0:c≠0:=by omega
  refine ⟨_,_,hrun,⟨some ⟨g,off,none⟩,c,by rw [Y02];rfl,by rw [Y02,Y10];exact hr,h2,.inr ⟨g,off,cells.setIfInBounds (off+l.length) nv,rfl,hBg,J9y hg1 _ _,by simpa using ho,fun j hj=>?_⟩⟩,by simpa [qOwn,hc0] using hgw2,.inl (by simp [qOwn])⟩
  rcases Nat.lt_or_ge j l.length with hlt | hge
  ·obtain ⟨ov,o1,o2⟩:=hnn j hlt
   refine ⟨ov,by rw [Y0i (by omega)];exact o1,?_⟩
   rw [List.getElem_append_left hlt]
   exact o2
  have hj2:j=l.length:=by simp at hj;omega
  subst hj2
  refine ⟨nv,by rw [Array.getElem?_setIfInBounds_self_of_lt (by omega)],?_⟩
  rw [List.getElem_append_right (Y0e _)]
  simp only [Nat.sub_self,List.getElem_singleton]
  exact hn
 have hlc:c<l.length+1:=by omega
 cases A with
 | none =>
  have hl0:l=[]:=by
   rcases h3 with h3 | ⟨g,off,cells,h3,_⟩
   ·exact List.eq_nil_of_length_eq_zero (by omega)
   cases h3
  subst hl0
  have hc0:c=0:=by rcases h3 with h3 | ⟨g,off,cells,h3,_⟩;exact h3;cases h3
  subst hc0
  obtain ⟨v',w',hrun,hown,hg,_⟩:=run_append_own (P:=Tryz.prog) (w.alloc (.cells #[nv] tl)) (w.alloc (.cells #[nv] tl)).heap.size t2 ty tl i0 (.slice none 0 0) 1 24 hu hi hz0 hz1 hz2 rfl (by decide) (.slice none 0 0) 0 [] (World.ownsRow_nil _ _ tl 1) ⟨w.heap.size,0,none⟩ 1 1 [nv] rfl hbox hone (by decide) (by decide) (Y0e _)
  have hg':(w.alloc (.cells #[nv] tl)).grownBy w' none:=hg
  obtain ⟨f1,b,f2,f3⟩:=fresh [] v' w' rfl (fun j hj=>by simp at hj) (by rw [hsz] at hown;simpa using hown) hg'
  exact ⟨v',w',hrun,f1,(J0b hb).both hg',.inr ⟨b,f2,f3⟩⟩
 | some ad=>?_
 have hol:∃ olds:List Value,olds.length=l.length∧(∀ j (hj:j<l.length),∃ ov,olds[j]?=some ov∧P ov l[j])∧∀ j u,olds[j]?=some u→(w.alloc (.cells #[nv] tl)).cell? (ad.add j)=some u:=by
  rcases h3 with rfl | ⟨g,off,cells,he,hBg,hg,ho,hnn⟩
  ·obtain rfl:l=[]:=List.eq_nil_of_length_eq_zero (by omega)
   exact ⟨[],rfl,fun j hj=>by simp at hj,fun j u hu=>by simp at hu⟩
  injection he with he
  subst he
  refine ⟨(List.range l.length).map (fun j=>(cells[off+j]?).getD undef),by simp,fun j hj=>?_,fun j u hu=>?_⟩
  ·obtain ⟨ov,o1,o2⟩:=hnn j hj
   exact ⟨ov,by simp [hj,o1],o2⟩
  have hjl:j<l.length:=by
   have:=(Y0h.1 hu).1
   simpa using this
  obtain ⟨ov,o1,o2⟩:=hnn j hjl
  have hu:ov=u:=by simpa [hjl,o1] using hu
  subst hu
  rw [Addr.add_lit,J03 (J04 hg hb)]
  exact o1
 obtain ⟨olds,o1,o2,o3⟩:=hol
 obtain ⟨v',w',hrun,hown,hg⟩:=run_append_arg_grows (P:=Tryz.prog) (w.alloc (.cells #[nv] tl)) t2 ty tl i0 (.slice none 0 0) 1 24 hu hi hz0 hz1 hz2 rfl (by decide) ad l.length c olds (by omega) o3 ⟨w.heap.size,0,none⟩ 1 1 [nv] rfl hbox hlc (by simp only [maxLen];omega) (by omega)
 obtain ⟨f1,b,f2,f3⟩:=fresh olds v' w' o1 o2 (by rw [hsz] at hown;exact hown) hg
 exact ⟨v',w',hrun,f1,by
  have:=(J0b (row:=none) hb).both hg
  exact ⟨this.os,this.tape,this.output,this.size,fun k hk _=>this.block k hk (by simp)⟩,.inr ⟨b,f2,f3⟩⟩
end
def QAt (B lim:Nat) (w:World) (v:Value) (l:List Note):Prop:=QxAt 214 (J2f B lim w) B w v l
theorem QAt.kept {B lim:Nat} {w w':World} {v:Value} {l:List Note} {S:Nat→Prop} (h:QAt B lim w v l) (hk:Kept w w' S) (hS:∀ k,S k→k<lim→¬ J0m w k 213) (hq:∀ k,qOwn v=some k→¬ S k):QAt B lim w' v l:=QxAt.kept h hk (fun _ _ h=>h.kept hk hS) hq
theorem QAt.mono {B lim lim':Nat} {w:World} {v:Value} {l:List Note} (h:QAt B lim w v l) (hn:∀ nv n,J2f B lim w nv n→J2f B lim' w nv n):QAt B lim' w v l:=QxAt.mono h hn
theorem QAt.nil (B lim:Nat) (w:World):QAt B lim w (.slice none 0 0) []:=QxAt.nil _ _ B w
theorem QAt.c07 {B lim:Nat} {w:World} {v:Value} {l:List Note} (h:QAt B lim w v l) {k:Nat} (hk:qOwn v=some k):B≤k∧J0m w k 214:=QxAt.c07 h hk
theorem QAt.pop {B lim:Nat} {w:World} {v:Value} {n:Note} {l:List Note} (h:QAt B lim w v (n::l)) :
  ∃ g off c nv,v=.slice (some ⟨g,off,none⟩) (l.length+1) (c+1)∧w.cell? ⟨g,off,none⟩=some nv∧J2f B lim w nv n∧qOwn v=some g ∧
   (c≠0→QAt B lim w (.slice (some ⟨g,off+1,none⟩) l.length c) l∧qOwn (.slice (some ⟨g,off+1,none⟩) l.length c)=some g)∧(c=0→QAt B lim w (.slice (some ⟨g,off,none⟩) l.length 0) l):=QxAt.pop h
theorem Tryz.infoL1:(Tryz.prog.info? 214).map (fun i=>(i.zero,i.size,i.bytes))=some (some (.slice none 0 0),1,24):=by kernel_rfl
theorem J2f.one {B lim:Nat} {w:World} {v:Value} {l:Note} (h:J2f B lim w v l):v.oneCell'=true:=by
 obtain ⟨A,c,rfl⟩:=Kd.c02 h
 rfl
theorem QAt.append {B lim:Nat} {w:World} {v nv:Value} {l:List Note} {note:Note} (ty:TypeId) (hB:B≤w.heap.size) (h:QAt B lim w v l) (hn:J2f B lim w nv note) (hl:l.length≤2000000000) :
  ∃ v' w',(Builtin.append_ #[180,180] ty #[v,.slice (some ⟨w.heap.size,0,none⟩) 1 1]).run Tryz.prog (w.alloc (.cells #[nv] 214))=.ok v' w'∧QAt B lim w' v' (l++[note])∧w.grownBy w' (qOwn v)∧(qOwn v'=qOwn v∨∃ b,qOwn v'=some b∧w.heap.size≤b):=by
 obtain ⟨v',w',h1,h2,h3,h4⟩:=QxAt.append ty Tryz.infoL1 Tryz.underlying180 hn.one hB h hn hl
 have hk:Kept w w' (fun k=>qOwn v=some k):=⟨h3.size,fun i hi hne=>h3.block i hi (fun he=>hne he.symm)⟩
 refine ⟨v',w',h1,h2.mono fun _ _ hx=>hx.kept hk (fun k hk _ hc=>?_),h3,h4⟩
 have:=J0m.ne (QxAt.c07 h hk).2 hc
 revert this;decide
end Go.Proofs.YtbkfnmgkcgnifaaGreat
