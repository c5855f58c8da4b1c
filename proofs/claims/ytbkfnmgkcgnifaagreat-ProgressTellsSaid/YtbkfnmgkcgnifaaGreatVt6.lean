/- ProgressTells: for every input it returns true, and each argument reads as it did. -/
import Derived.Test.YtbkfnmgkcgnifaaGreatVt5
import Derived.ChangeSlices
import Derived.Deep.Strs
import Derived.ProofKit
import Derived.OpenShut
import Derived.ChangeOld
import Derived.SizedLaws
import Derived.Test.YtbkfnmgkcgnifaaGreatRows
set_option linter.all false
set_option maxRecDepth 8000
set_option maxHeartbeats 16000000
namespace Go.Proofs.YtbkfnmgkcgnifaaGreat
open Go.RowKit Go.Shelf W1 W2 Mdl Go.ChangeMaps
def Jsn (w0:World) (V:SV) (Zx:List (Nat × Array Value × TypeId)) (r:RS) (tk:Nat) (e:Ending) (w':World):Prop:=Je4 Zx w' ∧
 ((J60 V.p.E V.W r=none∧e=.returned (.tuple #[stV V tk r.works r.took r.sent,.bool false])∧∃ q',RunR w0 V.G V.W w'.heap.size r q' w') ∨
 ∃ (r':RS) (q':Nat→Nat→Value) (tk':Nat),J60 V.p.E V.W r=some r'∧e=.returned (.tuple #[stV V tk' r'.works r'.took r'.sent,.bool true])∧tk'≤tk+17∧RunR w0 V.G V.W w'.heap.size r' q' w'∧r'.script=V.script.drop tk')
theorem Jmc (w0:World) (V:SV) (lim:Nat) (r:RS) (q:Nat→Nat→Value) (tk:Nat) (w:World) (wd:Nat)
  (hR:RunR w0 V.G V.W lim r q w) (hlim:lim≤w.heap.size) (hok:OkR wd V.W 2000 r) (hW:V.W≤4) (hwk:V.p.workers=V.W)
  (hE:kE.C w0 V.eA V.p.E.length V.p.E) (hEw:∀ e ∈ V.p.E,e.2.2.length=wd) (h16:V.p.E.length≤16) (hsc:kI.C w0 V.sA V.script.length V.script) (hsl:V.script.length≤1000) (hdr:r.script=V.script.drop tk) (hw3:wd≤3) (htk:tk≤900000) (Zx:List (Nat × Array Value × TypeId)) (hZx:Je4 Zx w) :
  Calls Tryz.prog 68 #[stV V tk r.works r.took r.sent] w (Jsn w0 V Zx r tk):=by
 obtain ⟨w2,he2,hb2,k0,k1⟩:=Jb3 w (stC V tk r.works r.took r.sent) stZ 112
 have H0:=Y00 (show WkAt w0 V lim w.heap.size ((w.heap.size+1,stZ,112)::Zx) [] (fun k=>k<lim) (.slice none 0 0) [] tk r q w2 from
  ⟨hR.c08 hb2,k0,hR.sz,fun x hx=>by
   rcases Yz1.1 hx with hx | hx
   ·rw [hx];exact ⟨k1,by simp only;omega,rfl,rfl,rfl,rfl⟩
   obtain ⟨z1,z2,z3,z4,z5⟩:=hZx x hx
   exact ⟨J04 z1 hb2,by have:=J0q z1;omega,z2,z3,z4,z5⟩,fun x hx=>(by cases hx),Kd.R_nil _ _ _ _ _,hdr⟩)
 have HZX:=Y08 (show ∀ x ∈ Zx,x.1<w.heap.size+1 from fun x hx=>by have:=J0q (hZx x hx).1;omega)
 have HOK:=Y08 hok
 have HS:=Y08 (Y07 hsc (Y07 hsl (Y07 hEw hwk)))
 have HE:=Y00 hE
 have HL:=Y08 (show lim≤w2.heap.size from Yz0 hlim hb2.size)
 have HW3:=Y08 hw3
 have HRB2:=Y08 (show w.heap.size≤w.heap.size+1 by omega)
 have HRL:=Y08 (show w0.heap.size≤w.heap.size+1 by have:=H0.out.low;omega)
 have HMV:=Y08 (Jkh w0 V lim r q tk r.works r.took r.sent w2 H0.out.run wd hok hW)
 have hwk4:V.p.workers≤4:=by omega
 clear hZx hR hb2 k0 k1 hok hsc hsl hE hdr hEw hwk hw3
 go_enter Tryz.func68,Tryz.ntmps68
 go_upto_region 1 with fail
 clear he2 hlim
 generalize w.heap.size=sb at *
 generalize sb+1=rb at *
 obtain ⟨⟨c0,c1,c2,c3,c4⟩,⟨c5,c6,c7,c8⟩,⟨c9,c10,c11,c12⟩⟩:=J13 H0.out.box
 go_wp2_with fail
 refine HMV.out.mono ?_
 rintro e w3 ⟨v,rfl,hN⟩
 obtain ⟨A,c,rfl,-,hC⟩:=Kd.c09 hN.1
 have H1:=Y00 (H0.out.below hN.2)
 have HUP:=Y08 (FzUp.below (w0:=w0) hN.2)
 have HML:=Y08 (show ∀ mv ∈ J44 V.W r,(∃ i m,i<V.W∧mv=(((i:Int),true),(m,0))∧m ∈ r.held.getD i [])∨∃ i k,i<V.W∧k<V.W∧mv=(((i:Int),false),((0,[]),(k:Int)))∧r.nts k i≠[] from fun mv h=>Jky h)
 have HSS:=Y08 (fun (l:List MvT) (h:J44 V.W r=l) (j:Nat) (hj:j<l.length) (hn:numP r.script (l.length:Int)=(j:Int))=>Jkc (E:=V.p.E) h hj hn)
 have HLX:=Y08 (Jkt HOK.out hW)
 have HSN:=Y08 (fun (h:J44 V.W r=[])=>Jkd (E:=V.p.E) h)
 have HL1:=Y08 (show lim≤w3.heap.size from Yz0 HL.out hN.2.size)
 obtain ⟨ml,hml⟩:∃ ml,ml=J44 V.W r:=⟨_,rfl⟩
 rw [← hml] at hC
 rw [← hml]
 have HC:=Y00 hC
 have HMM:=Y08 hml.symm
 clear hml hC hN HMV H0 HL c0 c1 c2 c3 c4 c5 c6 c7 c8 c9 c10 c11 c12
 obtain ⟨⟨c0,c1,c2,c3,c4⟩,⟨c5,c6,c7,c8⟩,⟨c9,c10,c11,c12⟩⟩:=J13 H1.out.box
 by_cases hnil:ml=[]
 ·obtain rfl:=hnil
  have hl0:(([]:List MvT).length:Int)=0:=rfl
  have hrb:=H1.out.at0
  obtain ⟨z0,z1,z2,z3,z4,z5,z6,z7,z8,z9,z10,z11,z12⟩:=bc13 hrb
  obtain ⟨y0,y1,y2,y3,y4,y5,y6,y7,y8,y9,y10,y11,y12⟩:=bf13 hrb
  have HRB:=Y08 hrb
  clear hrb
  go_wp2_with fail
  have hrb:=HRB.out
  obtain ⟨hfin,hg⟩:=J6t hrb (.int .i64 V.p.N) (.int .i64 V.p.Wd) (.slice V.eA V.p.E.length V.eC) (.int .i64 V.p.workers) (.slice V.mA V.p.start.length V.mC) (.slice (some ⟨V.G.hb,0,none⟩) V.W V.G.hc) (.slice (some ⟨V.G.lb,0,none⟩) V.W V.G.lc) (.slice (some ⟨V.G.nb,0,none⟩) V.W V.G.nc) (.slice V.sA V.script.length V.sC) (.int .i64 tk) (.int .i64 r.works) (.int .i64 r.took) (.int .i64 r.sent)
  generalize (((((((((((((w3.setCell ⟨rb,0,none⟩ (.int .i64 V.p.N)).setCell ⟨rb,1,none⟩ (.int .i64 V.p.Wd)).setCell ⟨rb,2,none⟩ (.slice V.eA V.p.E.length V.eC)).setCell ⟨rb,3,none⟩ (.int .i64 V.p.workers)).setCell ⟨rb,4,none⟩ (.slice V.mA V.p.start.length V.mC)).setCell ⟨rb,5,none⟩ (.slice (some ⟨V.G.hb,0,none⟩) V.W V.G.hc)).setCell ⟨rb,6,none⟩ (.slice (some ⟨V.G.lb,0,none⟩) V.W V.G.lc)).setCell ⟨rb,7,none⟩ (.slice (some ⟨V.G.nb,0,none⟩) V.W V.G.nc)).setCell ⟨rb,8,none⟩ (.slice V.sA V.script.length V.sC)).setCell ⟨rb,9,none⟩ (.int .i64 tk)).setCell ⟨rb,10,none⟩ (.int .i64 r.works)).setCell ⟨rb,11,none⟩ (.int .i64 r.took)).setCell ⟨rb,12,none⟩ (.int .i64 r.sent))=vF at *
  obtain ⟨q0,q1,q2,q3,q4,q5,q6,q7,q8,q9,q10,q11,q12⟩:=bc13 hfin
  refine bodyPost_ret (v:=.tuple #[.agg #[.int .i64 V.p.N,.int .i64 V.p.Wd,.slice V.eA V.p.E.length V.eC,.int .i64 V.p.workers,.slice V.mA V.p.start.length V.mC,.slice (some ⟨V.G.hb,0,none⟩) V.W V.G.hc,.slice (some ⟨V.G.lb,0,none⟩) V.W V.G.lc,.slice (some ⟨V.G.nb,0,none⟩) V.W V.G.nc,.slice V.sA V.script.length V.sC,.int .i64 tk,.int .i64 r.works,.int .i64 r.took,.int .i64 r.sent],.bool false]) (by simp [results,Tryz.results68,go_sem,q0,q1,q2,q3,q4,q5,q6,q7,q8,q9,q10,q11,q12]) rfl (⟨?_,.inl ⟨HSN.out HMM.out,rfl,q,?_⟩⟩)
  ·intro x hx
   obtain ⟨z1,-,z2⟩:=H1.out.frz x (Y04 _ hx)
   exact ⟨J0x z1 hg (fun he=>by have h1:=HZX.out x hx;injection he with he;omega),z2⟩
  have t:J0m w3 rb 112:=⟨_,hrb⟩
  exact (H1.out.run.set_new hg (fun k hk=>by injection hk with hk;subst hk;exact ⟨Yz0 H1.out.low HRB2.out,.of t rfl rfl rfl,Yz2 t rfl,Yz2 t rfl,Yz2 t rfl,Yz2 t rfl⟩)).relim (.inr (Y0e _))
 have hlp:(0:Int)<ml.length:=by have:=List.length_pos_iff.2 hnil;omega
 have hln:((ml.length:Int) == 0)=false:=by simp;omega
 have hml:ml.length≤8016:=by rw [← HMM.out];exact HLX.out
 have HN:=Y08 (Jiq V tk r.works r.took r.sent ml.length w3 (Kd.c00 HS.out.1 H1.out.run.below) (by omega) (by omega) (by omega) (by have:=HS.out.2.1;omega))
 have HRG:=Y08 (J3q (V.script.drop tk) (show (1:Int)≤ml.length by omega))
 clear hnil
 go_wp2_with fail
 refine HN.out.mono ?_
 rintro e w4 ⟨rfl,hb4⟩
 obtain ⟨j,hj⟩:∃ j:Nat,numP (V.script.drop tk) (ml.length:Int)=(j:Int):=⟨(numP (V.script.drop tk) (ml.length:Int)).toNat,by have:=HRG.out;omega⟩
 have hjl:j<ml.length:=by have:=HRG.out;omega
 have HST:=Y08 (HSS.out ml HMM.out j hjl (by rw [show r.script=V.script.drop tk from H1.out.drop,hj]))
 have HMJ:=Y08 (HML.out ml[j] (by rw [HMM.out];exact Y0l hjl))
 rw [hj]
 clear hj
 have H2:=Y00 (H1.out.below hb4)
 obtain ⟨ad,sA,sC,rfl,f0,f1,f2,f3,f4,hf⟩:=Js4 HC.out hjl
 have f0:=J00 hb4 f0
 have f1:=J00 hb4 f1
 have f2:=J00 hb4 f2
 have f3:=J00 hb4 f3
 have f4:=J00 hb4 f4
 have HFZ:=Y00 ((HUP.out _ _ hf).below hb4)
 have HL2:=Y08 (show lim≤w4.heap.size from Yz0 HL1.out hb4.size)
 have hjE:(j:Int)<ml.length:=by omega
 have hj0:(0:Int)≤j:=by omega
 generalize ml[j]=mv at *
 clear hf hb4 H1 HL1 HC HN HRG HSS HML HSN c0 c1 c2 c3 c4 c5 c6 c7 c8 c9 c10 c11 c12 HLX
 rcases HMJ.out with ⟨i,m,hi,he,hmem⟩ | ⟨i,k,hi,hk,he,hne⟩
 ·subst he
  have HST2:=Y08 (HST.out.trans (congrArg some (Jkw V.p.E V.W { r with script:=r.script.tail } i m)))
  have HMW:=Y08 ((HOK.out.heldAt i).2 m hmem)
  simp only at f0 f1 f2 f3 f4
  clear hmem HST HMJ
  go_upto_region 5 with fail
  have H3:=Y00 ((H2.out.below (J02 w4 (.cells #[.int .i64 i,.bool true,.int .i64 m.1,.slice sA m.2.length sC,.int .i64 0] 163))).freeze (Y0c w4 _) (fun he=>by have:=J0q H2.out.box;omega) rfl rfl rfl rfl)
  have HF3:=Y00 (HFZ.out.below (J02 w4 (.cells #[.int .i64 i,.bool true,.int .i64 m.1,.slice sA m.2.length sC,.int .i64 0] 163)))
  have HL3:=Y08 (Yz0 HL2.out (J02 w4 (.cells #[.int .i64 i,.bool true,.int .i64 m.1,.slice sA m.2.length sC,.int .i64 0] 163)).size)
  clear f0 f1 f2 f3 f4 H2 HFZ HL2
  generalize w4.alloc (.cells #[.int .i64 i,.bool true,.int .i64 m.1,.slice sA m.2.length sC,.int .i64 0] 163)=w5 at *
  generalize w4.heap.size=mb at *
  have c9:=(J13 H3.out.box).2.2.1
  have f9:=J07 H3.out.box 9
  have b1:w5.cell? ⟨mb,1,none⟩=some (.bool true):=(J03 H3.out.at0 1).trans rfl
  have b1':∀ u,(w5.setCell ⟨sb,9,none⟩ u).cell? ⟨mb,1,none⟩=some (.bool true):=fun u=>by
   have h:=J0f H3.out.at0 (J0n w5 sb 9 u) (fun he=>(H3.out.frz _ Y03).2.1 he)
   exact (J03 h 1).trans rfl
  go_upto_region 7 with fail
  have H4:=Y00 (H3.out.cell 9 (.int .i64 ((tk:Int)+1)) (r':={ r with script:=r.script.tail }) (tk':=tk+1) rfl rfl rfl rfl (J95 H3.out.drop))
  have HL4:=Y08 (Yz0 HL3.out (J0n w5 sb 9 (.int .i64 ((tk:Int)+1))).1)
  have HF4:=Y00 (HF3.out.put H3.out.run.sz H3.out.box H3.out.low rfl 9 (.int .i64 ((tk:Int)+1)))
  clear H3 HL3 HF3 c9 f9 b1 b1'
  generalize w5.setCell ⟨sb,9,none⟩ (.int .i64 ((tk:Int)+1))=w6 at *
  have hbx:w6.heap[sb]?=some (.cells (stC V ((tk:Int)+1) r.works r.took r.sent) 112 (0,0)):=H4.out.box
  obtain ⟨⟨c0,c1,c2,c3,c4⟩,⟨c5,c6,c7,c8⟩,⟨c9,c10,c11,c12⟩⟩:=J13 hbx
  obtain ⟨b0,b1,b2,b3,b4⟩:=bc5 H4.out.at0
  have HOT:=Y08 (show Je4 ((rb,stZ,112)::Zx) w6 from fun x hx=>by
   obtain ⟨z1,-,z2⟩:=H4.out.frz x (Y04 _ hx)
   exact ⟨z1,z2⟩)
  have HWK:=Y08 (Jk5 w0 V lim { r with script:=r.script.tail } q (tk+1) w6 i m sA sC true 0 wd H4.out.run HL4.out HOK.out.tail hW HS.out.2.2.2 hi HF4.out HMW.out HE.out HS.out.2.2.1 h16 HS.out.1 HS.out.2.1 H4.out.drop HW3.out (by omega) ((rb,stZ,112)::Zx) HOT.out)
  clear hbx
  go_wp2_with fail
  refine HWK.out.mono ?_
  rintro e w7 ⟨q',tk',rfl,htk',hrun,hdrop,hoth⟩
  generalize Jb1 V.p.E V.W { r with script:=r.script.tail } i m=rW at *
  have HR7:=Y00 (Y07 hrun (Y07 hdrop hoth))
  clear hrun hdrop hoth HWK HOT H4 HL4 HF4 c0 c1 c2 c3 c4 c5 c6 c7 c8 c9 c10 c11 c12 b0 b1 b2 b3 b4
  have hrb:=(HR7.out.2.2 _ Y03).1
  obtain ⟨z0,z1,z2,z3,z4,z5,z6,z7,z8,z9,z10,z11,z12⟩:=bc13 hrb
  obtain ⟨y0,y1,y2,y3,y4,y5,y6,y7,y8,y9,y10,y11,y12⟩:=bf13 hrb
  have HRB:=Y08 hrb
  clear hrb
  go_wp2_with fail
  have hrb:=HRB.out
  obtain ⟨hfin,hg⟩:=J6t hrb (.int .i64 V.p.N) (.int .i64 V.p.Wd) (.slice V.eA V.p.E.length V.eC) (.int .i64 V.p.workers) (.slice V.mA V.p.start.length V.mC) (.slice (some ⟨V.G.hb,0,none⟩) V.W V.G.hc) (.slice (some ⟨V.G.lb,0,none⟩) V.W V.G.lc) (.slice (some ⟨V.G.nb,0,none⟩) V.W V.G.nc) (.slice V.sA V.script.length V.sC) (.int .i64 tk') (.int .i64 rW.works) (.int .i64 rW.took) (.int .i64 rW.sent)
  generalize (((((((((((((w7.setCell ⟨rb,0,none⟩ (.int .i64 V.p.N)).setCell ⟨rb,1,none⟩ (.int .i64 V.p.Wd)).setCell ⟨rb,2,none⟩ (.slice V.eA V.p.E.length V.eC)).setCell ⟨rb,3,none⟩ (.int .i64 V.p.workers)).setCell ⟨rb,4,none⟩ (.slice V.mA V.p.start.length V.mC)).setCell ⟨rb,5,none⟩ (.slice (some ⟨V.G.hb,0,none⟩) V.W V.G.hc)).setCell ⟨rb,6,none⟩ (.slice (some ⟨V.G.lb,0,none⟩) V.W V.G.lc)).setCell ⟨rb,7,none⟩ (.slice (some ⟨V.G.nb,0,none⟩) V.W V.G.nc)).setCell ⟨rb,8,none⟩ (.slice V.sA V.script.length V.sC)).setCell ⟨rb,9,none⟩ (.int .i64 tk')).setCell ⟨rb,10,none⟩ (.int .i64 rW.works)).setCell ⟨rb,11,none⟩ (.int .i64 rW.took)).setCell ⟨rb,12,none⟩ (.int .i64 rW.sent))=vF at *
  obtain ⟨q0,q1,q2,q3,q4,q5,q6,q7,q8,q9,q10,q11,q12⟩:=bc13 hfin
  refine bodyPost_ret (v:=.tuple #[.agg #[.int .i64 V.p.N,.int .i64 V.p.Wd,.slice V.eA V.p.E.length V.eC,.int .i64 V.p.workers,.slice V.mA V.p.start.length V.mC,.slice (some ⟨V.G.hb,0,none⟩) V.W V.G.hc,.slice (some ⟨V.G.lb,0,none⟩) V.W V.G.lc,.slice (some ⟨V.G.nb,0,none⟩) V.W V.G.nc,.slice V.sA V.script.length V.sC,.int .i64 tk',.int .i64 rW.works,.int .i64 rW.took,.int .i64 rW.sent],.bool true]) (by simp [results,Tryz.results68,go_sem,q0,q1,q2,q3,q4,q5,q6,q7,q8,q9,q10,q11,q12]) rfl (⟨?_,.inr ⟨rW,q',tk',HST2.out,rfl,by omega,?_,HR7.out.2.1⟩⟩)
  ·intro x hx
   obtain ⟨z1,z2⟩:=HR7.out.2.2 x (Y04 _ hx)
   exact ⟨J0x z1 hg (fun he=>by have h1:=HZX.out x hx;injection he with he;omega),z2⟩
  have t:J0m w7 rb 112:=⟨_,hrb⟩
  exact (HR7.out.1.set_new hg (fun k hk=>by injection hk with hk;subst hk;exact ⟨HRL.out,.of t rfl rfl rfl,Yz2 t rfl,Yz2 t rfl,Yz2 t rfl,Yz2 t rfl⟩)).relim (.inr (Y0e _))
 subst he
 have HST2:=Y08 (HST.out.trans (congrArg some (Jkx V.p.E V.W { r with script:=r.script.tail } i k)))
 obtain ⟨n,l,hnl⟩:∃ n l,r.nts k i=n::l:=by
  cases h:r.nts k i with
  | cons a b=>exact ⟨a,b,rfl⟩
  | nil=>exact absurd h hne
 have HQ1:=Y08 ((HOK.out.nts k i hk hi).2 n (by rw [hnl];exact Y03))
 have HNL:=Y08 hnl
 simp only [List.length_nil] at f0 f1 f2 f3 f4
 clear hne hnl HST HMJ HFZ
 go_upto_region 5 with fail
 have H3:=Y00 ((H2.out.below (J02 w4 (.cells #[.int .i64 i,.bool false,.int .i64 0,.slice sA 0 sC,.int .i64 k] 163))).freeze (Y0c w4 _) (fun he=>by have:=J0q H2.out.box;omega) rfl rfl rfl rfl)
 clear f0 f1 f2 f3 f4 H2 HL2
 generalize w4.alloc (.cells #[.int .i64 i,.bool false,.int .i64 0,.slice sA 0 sC,.int .i64 k] 163)=w5 at *
 generalize w4.heap.size=mb at *
 have c9:=(J13 H3.out.box).2.2.1
 have f9:=J07 H3.out.box 9
 have b1:w5.cell? ⟨mb,1,none⟩=some (.bool false):=(J03 H3.out.at0 1).trans rfl
 have b1':∀ u,(w5.setCell ⟨sb,9,none⟩ u).cell? ⟨mb,1,none⟩=some (.bool false):=fun u=>by
  have h:=J0f H3.out.at0 (J0n w5 sb 9 u) (fun he=>(H3.out.frz _ Y03).2.1 he)
  exact (J03 h 1).trans rfl
 go_upto_region 8 with fail
 have H4:=Y00 (H3.out.cell 9 (.int .i64 ((tk:Int)+1)) (r':={ r with script:=r.script.tail }) (tk':=tk+1) rfl rfl rfl rfl (J95 H3.out.drop))
 clear H3 c9 f9 b1 b1'
 generalize w5.setCell ⟨sb,9,none⟩ (.int .i64 ((tk:Int)+1))=w6 at *
 have hq6:QxAt 43 (CtAt w0 lim w6) w0.heap.size w6 (q k i) (n::l):=by have h:=H4.out.run.qs k i hk hi;rw [show ({ r with script:=r.script.tail } : RS).nts k i=n::l from HNL.out] at h;exact h
 obtain ⟨g,off,cc,nv,hqv,hn0,hnA,-⟩:=QxAt.pop hq6
 obtain ⟨nA,nC,hnve⟩:=Kd.c02 hnA
 subst hnve
 have hNC:=(Kd.c03 hnA).2.2
 obtain ⟨lv,e6,hLd⟩:=H4.out.run.led.get hi
 have hLd:CtAt w0 lim w6 lv (r.led.getD i []):=hLd
 obtain ⟨lA,lC,rfl,-,hLC⟩:=Kd.c09 hLd
 have HLO:=Y08 (HOK.out.ledAt i)
 obtain ⟨Ll,hLL⟩:∃ Ll,Ll=r.led.getD i []:=⟨_,rfl⟩
 rw [← hLL] at e6 hLC HLO
 have HLL:=Y08 hLL
 obtain ⟨_,r0,rfl⟩:=H4.out.run.rows.get hk
 obtain ⟨_,q0,rfl⟩:=(H4.out.run.row k hk).get hi
 rw [hqv] at q0
 have HQV:=Y08 hqv
 have HLC:=Y00 (Y07 hLC hNC)
 have hiE:(i:Int)<V.W:=by omega
 have hi0:(0:Int)≤i:=by omega
 have hkE:(k:Int)<V.W:=by omega
 have hk0:(0:Int)≤k:=by omega
 have hl0:(0:Int)<(l.length:Int)+1:=by omega
 have hl1:(1:Int)≤(l.length:Int)+1:=by omega
 clear hq6 hqv hnA hNC hLd hLC hLL
 have hbx:w6.heap[sb]?=some (.cells (stC V ((tk:Int)+1) r.works r.took r.sent) 112 (0,0)):=H4.out.box
 have c6:=(J13 hbx).2.1.2.1
 have c7:=(J13 hbx).2.1.2.2.1
 have b0:w6.cell? ⟨mb,0,none⟩=some (.int .i64 i):=(J03 H4.out.at0 0).trans rfl
 have b4:w6.cell? ⟨mb,4,none⟩=some (.int .i64 k):=(J03 H4.out.at0 4).trans rfl
 clear hbx
 refine sr1 25 (fun W'=>W'.cell? ⟨sb,6,none⟩=some (.slice (some ⟨V.G.lb,0,none⟩) V.W V.G.lc)∧W'.cell? ⟨sb,7,none⟩=some (.slice (some ⟨V.G.nb,0,none⟩) V.W V.G.nc)∧W'.cell? ⟨mb,0,none⟩=some (.int .i64 i)∧W'.cell? ⟨mb,4,none⟩=some (.int .i64 k)∧W'.cell? ⟨V.G.lb,i,none⟩=some (.slice lA Ll.length lC)∧W'.cell? ⟨V.G.nb,k,none⟩=some (.slice (some ⟨V.G.rb k,0,none⟩) V.W (V.G.rc k))∧W'.cell? ⟨V.G.rb k,i,none⟩=some (.slice (some ⟨g,off,none⟩) (l.length+1) (cc+1))∧W'.cell? ⟨g,off,none⟩=some (.slice nA n.length nC)) [24] ⟨c6,c7,b0,b4,e6,r0,q0,hn0⟩ fun hJ0=>?_
 have hdr1:=J05 (Y0f w6.heap.size w6)
 have H5:=Y00 (H4.out.below hdr1)
 have HAL:=Y08 (Jnn w0 lA lC Ll nA nC n wd w6.drew ((J58 (FzUp.below hdr1)).C (Kd.c00 HLC.out.1 hdr1)) ((J58 (FzUp.below hdr1)).C (Kd.c00 HLC.out.2 hdr1)) (HLO.out.mono (by omega)) (HQ1.out.1.mono (by omega)) HQ1.out.2)
 clear hdr1 c6 c7 b0 b4 e6 r0 q0 hn0 HLC H4
 generalize w6.drew=wE at *
 refine pv 0 ?_
 refine pv 2 ?_
 refine pv 4 ?_
 refine pv 6 ?_
 refine pv 10 ?_
 refine pv 12 ?_
 refine pv 16 ?_
 refine tv8 1 ?_
 refine tv8 3 ?_
 refine tv8 5 ?_
 refine tv8 7 ?_
 refine tv8 11 ?_
 refine tv8 13 ?_
 refine tv8 17 ?_
 refine pv 8 ?_
 refine pv 14 ?_
 refine tv8 9 ?_
 refine tv8 15 ?_
 refine pv 18 ?_
 refine tv8 19 ?_
 refine pv 20 ?_
 refine tv8 21 ?_
 refine ov 22 fun K hK=>?_
 refine gs0 Tryz.func93 #[.slice lA Ll.length lC,.slice nA n.length nC] ?_
 refine HAL.out.mono ?_
 rintro e w7 ⟨v,rfl,hN⟩
 obtain ⟨vA,vC,hve⟩:=Kd.c02 hN.1
 generalize hvn:(allR Ll n).length=vn at hve
 subst hve
 have HN:=Y00 hN
 clear hN hvn HAL
 refine ⟨_,rfl,hK.out _ _ (st8 HN.out.2 hJ0) (fun hJ0=>?_)⟩
 clear hK K
 refine nm0 _ ?_
 refine pv 23 ?_
 have e6:=hJ0.2.2.2.2.1
 have zf:=(H5.out.below HN.out.2).run.led.frozen i
 refine la0 24 (bs 25 33554431) (N:=none) fun K hK=>?_
 refine sk0 ?_
 refine hK.out _ _ ?_
 clear hK K hJ0 e6 zf
 refine dn0 ?_
 have H6:=Y00 ((H5.out.below HN.out.2).sent.led hi (HN.out.ct H5.out.run.sz))
 clear H5 HN
 generalize w7.setCell ⟨V.G.lb,i,none⟩ (.slice vA vn vC)=w8 at *
 generalize w7.heap.size=lim2 at *
 have hbx:w8.heap[sb]?=some (.cells (stC V ((tk:Int)+1) r.works r.took r.sent) 112 (0,0)):=H6.out.box
 have c7:=(J13 hbx).2.1.2.2.1
 have b0:w8.cell? ⟨mb,0,none⟩=some (.int .i64 i):=(J03 H6.out.at0 0).trans rfl
 have b4:w8.cell? ⟨mb,4,none⟩=some (.int .i64 k):=(J03 H6.out.at0 4).trans rfl
 obtain ⟨_,r0,rfl⟩:=H6.out.run.rows.get hk
 obtain ⟨_,q0,hq0⟩:=(H6.out.run.row k hk).get hi
 rw [hq0,HQV.out] at q0
 clear hq0 hbx
 go_upto_region 9 with fail
 refine sr1 21 (fun W'=>W'.cell? ⟨sb,7,none⟩=some (.slice (some ⟨V.G.nb,0,none⟩) V.W V.G.nc)∧W'.cell? ⟨mb,0,none⟩=some (.int .i64 i)∧W'.cell? ⟨mb,4,none⟩=some (.int .i64 k)∧W'.cell? ⟨V.G.nb,k,none⟩=some (.slice (some ⟨V.G.rb k,0,none⟩) V.W (V.G.rc k))∧W'.cell? ⟨V.G.rb k,i,none⟩=some (.slice (some ⟨g,off,none⟩) (l.length+1) (cc+1))) [20] ⟨c7,b0,b4,r0,q0⟩ fun hJ0=>?_
 have H7:=Y00 (H6.out.below (J05 (Y0f w8.heap.size w8)))
 clear c7 b0 b4 r0 q0 H6
 generalize w8.drew=w9 at *
 refine pv 0 ?_
 refine pv 2 ?_
 refine pv 6 ?_
 refine pv 8 ?_
 refine pv 10 ?_
 refine pv 14 ?_
 refine tv5 1 ?_
 refine tv5 3 ?_
 refine tv5 7 ?_
 refine tv5 9 ?_
 refine tv5 11 ?_
 refine tv5 15 ?_
 refine pv 4 ?_
 refine pv 12 ?_
 refine tv5 5 ?_
 refine tv5 13 ?_
 refine pv 16 ?_
 refine tv5 17 ?_
 refine pv 18 ?_
 refine pv 19 ?_
 have hv:QxAt 43 (CtAt w0 lim2 w9) w0.heap.size w9 (.slice (if cc=0 then some ⟨g,off,none⟩ else some ⟨g,off+1,none⟩) l.length cc) l∧(qOwn (.slice (if cc=0 then some ⟨g,off,none⟩ else some ⟨g,off+1,none⟩) l.length cc)=none∨qOwn (.slice (if cc=0 then some ⟨g,off,none⟩ else some ⟨g,off+1,none⟩) l.length cc)=qOwn (q k i)):=by
  have hq9:QxAt 43 (CtAt w0 lim2 w9) w0.heap.size w9 (q k i) (n::l):=by have h:=H7.out.run.qs k i hk hi;rw [show (RS.nts _:Nat→Nat→List (List Msg)) k i=n::l from HNL.out] at h;exact h
  rw [HQV.out] at hq9
  obtain ⟨g',off',cc',nv',hqv,_,_,hqo,hp1,hp2⟩:=QxAt.pop hq9
  cases hqv
  rw [HQV.out]
  by_cases hc:cc=0
  ·rw [if_pos hc]
   subst hc
   exact ⟨hp2 rfl,.inl rfl⟩
  rw [if_neg hc]
  exact ⟨(hp1 hc).1,.inr (by rw [(hp1 hc).2,hqo])⟩
 generalize (if cc=0 then some (⟨g,off,none⟩:Addr) else some ⟨g,off+1,none⟩)=A' at *
 have HV:=Y00 hv
 clear hv
 have zf:=(H7.out.run.row k hk).frozen i
 refine la0 20 (bs 21 2097151) (N:=none) fun K hK=>?_
 refine sk0 ?_
 refine hK.out _ _ ?_
 clear hK K hJ0 zf
 refine dn0 ?_
 have H8:=Y00 (H7.out.queue hk hi (World.grownBy.refl w9 _) HV.out.1 (HV.out.2.imp id .inl))
 clear H7 HV
 generalize w9.setCell ⟨V.G.rb k,i,none⟩ (.slice A' l.length cc)=w10 at *
 have c11:w10.cell? ⟨sb,11,none⟩=some (.int .i64 r.took):=(J13 H8.out.box).2.2.2.2.1
 have f11:=J07 H8.out.box 11
 have HTE:=Y08 (show Jo2 { r with script:=r.script.tail } i k=⟨r.held,r.led.set i (allR Ll n),upQ r.nts k i l,r.script.tail,r.works,r.sent,w64 (r.took+1)⟩ by
  show RS.mk r.held (r.led.set i (allR (r.led.getD i []) ((r.nts k i).headD []))) (upQ r.nts k i (r.nts k i).tail) r.script.tail r.works r.sent (w64 (r.took+1))=_
  rw [HNL.out,HLL.out];rfl)
 go_upto_region 11 with fail
 have H9:=Y00 (H8.out.cell 11 (.int .i64 (wrap64 (r.took+1))) (r':=⟨r.held,r.led.set i (allR Ll n),upQ r.nts k i l,r.script.tail,r.works,r.sent,w64 (r.took+1)⟩) (tk':=tk+1) (by show _=stC V _ _ (w64 (r.took+1)) _;rw [J2u];rfl) rfl rfl rfl H8.out.drop)
 clear H8 c11 f11
 generalize w10.setCell ⟨sb,11,none⟩ (.int .i64 (wrap64 (r.took+1)))=w11 at *
 obtain ⟨⟨c0,c1,c2,c3,c4⟩,⟨c5,c6,c7,c8⟩,⟨c9,c10,c11,c12⟩⟩:=J13 (show w11.heap[sb]?=some (.cells (stC V ((tk:Int)+1) r.works (w64 (r.took+1)) r.sent) 112 (0,0)) from H9.out.box)
 have hrb:=H9.out.at1
 obtain ⟨z0,z1,z2,z3,z4,z5,z6,z7,z8,z9,z10,z11,z12⟩:=bc13 hrb
 obtain ⟨y0,y1,y2,y3,y4,y5,y6,y7,y8,y9,y10,y11,y12⟩:=bf13 hrb
 have HRB:=Y08 hrb
 clear hrb
 generalize hwk64:w64 (r.took+1)=wks at *
 have HK64:=Y08 hwk64
 clear hwk64
 go_wp2_with fail
 have hrb:=HRB.out
 obtain ⟨hfin,hg⟩:=J6t hrb (.int .i64 V.p.N) (.int .i64 V.p.Wd) (.slice V.eA V.p.E.length V.eC) (.int .i64 V.p.workers) (.slice V.mA V.p.start.length V.mC) (.slice (some ⟨V.G.hb,0,none⟩) V.W V.G.hc) (.slice (some ⟨V.G.lb,0,none⟩) V.W V.G.lc) (.slice (some ⟨V.G.nb,0,none⟩) V.W V.G.nc) (.slice V.sA V.script.length V.sC) (.int .i64 ((tk:Int)+1)) (.int .i64 r.works) (.int .i64 wks) (.int .i64 r.sent)
 generalize (((((((((((((w11.setCell ⟨rb,0,none⟩ (.int .i64 V.p.N)).setCell ⟨rb,1,none⟩ (.int .i64 V.p.Wd)).setCell ⟨rb,2,none⟩ (.slice V.eA V.p.E.length V.eC)).setCell ⟨rb,3,none⟩ (.int .i64 V.p.workers)).setCell ⟨rb,4,none⟩ (.slice V.mA V.p.start.length V.mC)).setCell ⟨rb,5,none⟩ (.slice (some ⟨V.G.hb,0,none⟩) V.W V.G.hc)).setCell ⟨rb,6,none⟩ (.slice (some ⟨V.G.lb,0,none⟩) V.W V.G.lc)).setCell ⟨rb,7,none⟩ (.slice (some ⟨V.G.nb,0,none⟩) V.W V.G.nc)).setCell ⟨rb,8,none⟩ (.slice V.sA V.script.length V.sC)).setCell ⟨rb,9,none⟩ (.int .i64 ((tk:Int)+1))).setCell ⟨rb,10,none⟩ (.int .i64 r.works)).setCell ⟨rb,11,none⟩ (.int .i64 wks)).setCell ⟨rb,12,none⟩ (.int .i64 r.sent))=vF at *
 obtain ⟨q0,q1,q2,q3,q4,q5,q6,q7,q8,q9,q10,q11,q12⟩:=bc13 hfin
 refine bodyPost_ret (v:=.tuple #[.agg #[.int .i64 V.p.N,.int .i64 V.p.Wd,.slice V.eA V.p.E.length V.eC,.int .i64 V.p.workers,.slice V.mA V.p.start.length V.mC,.slice (some ⟨V.G.hb,0,none⟩) V.W V.G.hc,.slice (some ⟨V.G.lb,0,none⟩) V.W V.G.lc,.slice (some ⟨V.G.nb,0,none⟩) V.W V.G.nc,.slice V.sA V.script.length V.sC,.int .i64 ((tk:Int)+1),.int .i64 r.works,.int .i64 wks,.int .i64 r.sent],.bool true]) (by simp [results,Tryz.results68,go_sem,q0,q1,q2,q3,q4,q5,q6,q7,q8,q9,q10,q11,q12]) rfl (⟨?_,.inr ⟨⟨r.held,r.led.set i (allR Ll n),upQ r.nts k i l,r.script.tail,r.works,r.sent,wks⟩,fun j m=>if j=k∧m=i then .slice A' l.length cc else q j m,tk+1,HST2.out.trans (congrArg some HTE.out),rfl,by omega,?_,H9.out.drop⟩⟩)
 ·intro x hx
  obtain ⟨z1,-,z2⟩:=H9.out.frz x (Y04 _ (Y04 _ hx))
  exact ⟨J0x z1 hg (fun he=>by have h1:=HZX.out x hx;injection he with he;omega),z2⟩
 have t:J0m w11 rb 112:=⟨_,hrb⟩
 exact (H9.out.run.set_new hg (fun k hk=>by injection hk with hk;subst hk;exact ⟨HRL.out,.of t rfl rfl rfl,Yz2 t rfl,Yz2 t rfl,Yz2 t rfl,Yz2 t rfl⟩)).relim (.inr (Y0e _))
theorem Jnk {w:World} {b:Nat} {t:TypeId} {a0 a1 a2 a3 a4 a5 a6 a7 a8 a9 a10 a11 a12:Value} (h:w.heap[b]?=some (.cells #[a0,a1,a2,a3,a4,a5,a6,a7,a8,a9,a10,a11,a12] t (0,0))) (v0 v1 v2 v3 v4 v5 v6 v7 v8 v9 v10 v11 v12:Value):(((((((((((((w.setCell ⟨b,0,none⟩ v0).setCell ⟨b,1,none⟩ v1).setCell ⟨b,2,none⟩ v2).setCell ⟨b,3,none⟩ v3).setCell ⟨b,4,none⟩ v4).setCell ⟨b,5,none⟩ v5).setCell ⟨b,6,none⟩ v6).setCell ⟨b,7,none⟩ v7).setCell ⟨b,8,none⟩ v8).setCell ⟨b,9,none⟩ v9).setCell ⟨b,10,none⟩ v10).setCell ⟨b,11,none⟩ v11).setCell ⟨b,12,none⟩ v12).heap[b]?=some (.cells #[v0,v1,v2,v3,v4,v5,v6,v7,v8,v9,v10,v11,v12] t (0,0))∧w.grownBy (((((((((((((w.setCell ⟨b,0,none⟩ v0).setCell ⟨b,1,none⟩ v1).setCell ⟨b,2,none⟩ v2).setCell ⟨b,3,none⟩ v3).setCell ⟨b,4,none⟩ v4).setCell ⟨b,5,none⟩ v5).setCell ⟨b,6,none⟩ v6).setCell ⟨b,7,none⟩ v7).setCell ⟨b,8,none⟩ v8).setCell ⟨b,9,none⟩ v9).setCell ⟨b,10,none⟩ v10).setCell ⟨b,11,none⟩ v11).setCell ⟨b,12,none⟩ v12) (some b):=by
 have h0:=J0d (cs':=#[v0,a1,a2,a3,a4,a5,a6,a7,a8,a9,a10,a11,a12]) h 0 v0 rfl
 have h1:=J0d (cs':=#[v0,v1,a2,a3,a4,a5,a6,a7,a8,a9,a10,a11,a12]) h0 1 v1 rfl
 have h2:=J0d (cs':=#[v0,v1,v2,a3,a4,a5,a6,a7,a8,a9,a10,a11,a12]) h1 2 v2 rfl
 have h3:=J0d (cs':=#[v0,v1,v2,v3,a4,a5,a6,a7,a8,a9,a10,a11,a12]) h2 3 v3 rfl
 have h4:=J0d (cs':=#[v0,v1,v2,v3,v4,a5,a6,a7,a8,a9,a10,a11,a12]) h3 4 v4 rfl
 have h5:=J0d (cs':=#[v0,v1,v2,v3,v4,v5,a6,a7,a8,a9,a10,a11,a12]) h4 5 v5 rfl
 have h6:=J0d (cs':=#[v0,v1,v2,v3,v4,v5,v6,a7,a8,a9,a10,a11,a12]) h5 6 v6 rfl
 have h7:=J0d (cs':=#[v0,v1,v2,v3,v4,v5,v6,v7,a8,a9,a10,a11,a12]) h6 7 v7 rfl
 have h8:=J0d (cs':=#[v0,v1,v2,v3,v4,v5,v6,v7,v8,a9,a10,a11,a12]) h7 8 v8 rfl
 have h9:=J0d (cs':=#[v0,v1,v2,v3,v4,v5,v6,v7,v8,v9,a10,a11,a12]) h8 9 v9 rfl
 have h10:=J0d (cs':=#[v0,v1,v2,v3,v4,v5,v6,v7,v8,v9,v10,a11,a12]) h9 10 v10 rfl
 have h11:=J0d (cs':=#[v0,v1,v2,v3,v4,v5,v6,v7,v8,v9,v10,v11,a12]) h10 11 v11 rfl
 have h12:=J0d (cs':=#[v0,v1,v2,v3,v4,v5,v6,v7,v8,v9,v10,v11,v12]) h11 12 v12 rfl
 exact ⟨h12,J0e b [v0,v1,v2,v3,v4,v5,v6,v7,v8,v9,v10,v11,v12] 0 w⟩
theorem Jfo {p:Plan} {script:List Int} {k:Nat} {st':St} (h:J2j p.E p.workers.toNat (stAt p script k)=some st'):stAt p script (k+1)=st':=by
 unfold stAt at *
 rw [J5i,h]
theorem Jeg (w0:World) (V:SV) (lim:Nat) (r:RS) (q:Nat→Nat→Value) (tk x y z:Int) (wd who:Nat) (w:World) (hR:RunR w0 V.G V.W lim r q w) (hok:OkR wd V.W 2000 r) (hwho:who<V.W) :
  Calls Tryz.prog 54 #[stV V tk x y z,.int .i64 who] w fun e w'=>∃ v,e=.returned v∧J29 w0 w w v (J1s (r.led.getD who [])) w':=by
 have hb0:=J02 w (.cells (stC V tk x y z) 112)
 have hblk:=Y0c w (.cells (stC V tk x y z) 112)
 have c6:(w.alloc (.cells (stC V tk x y z) 112)).cell? ⟨w.heap.size,6,none⟩=some (.slice (some ⟨V.G.lb,0,none⟩) V.W V.G.lc):=(J03 hblk 6).trans rfl
 obtain ⟨hv,e6,hLd⟩:=hR.led.get hwho
 obtain ⟨lA,lC,rfl,-,hLC⟩:=Kd.c09 hLd
 have hln:=(hok.ledAt who).1
 have HB:=Y00 hb0
 have hwE:(who:Int)<V.W:=by omega
 have hw0:(0:Int)≤who:=by omega
 generalize r.led.getD who []=L at *
 have HLC:=Y00 (Y07 e6 hLC)
 clear hb0 hblk hR hok hLd e6 hLC
 go_enter Tryz.func54,Tryz.ntmps54
 go_upto_region 1 with fail
 generalize w.alloc (.cells _ 112)=w1 at *
 have HC:=Y00 c6
 clear c6
 go_wp2_with fail
 have HO:=Y00 (J29.start w0 w w1)
 generalize w1.alloc (.cells #[] 57)=w2 at *
 go_loopw [5,6] (fun o i wr=>∃ k:Nat,i=.int .i64 k∧k≤L.length∧J08 (J29 w0 w w1 o (J1s (L.take k)) wr)) (fun _ i _=>L.length - (intOf i).toNat)
 case atStart=>exact ⟨0,rfl,Yz3 _,HO⟩
 clear HO
 obtain ⟨k,rfl,hk,hX⟩:=hrel
 have c6:=J00 hX.out.2 HC.out
 have e6:=J00 (J01 HB.out HB.out.size hX.out.2) HLC.out.1
 by_cases hlt:k<L.length
 rotate_left
 ·have hkE:¬ ((k:Int)<L.length):=by omega
  have HZ:=Y00 (show J29 w0 w w1 u5 (J1s L) wr by have h:=hX.out;rwa [Y0t (by omega)] at h)
  clear hX
  go_wp2_with fail
  go_ret
  exact ⟨_,rfl,HZ.out.down HB.out⟩
 have hkE:(k:Int)<L.length:=by omega
 have hk0:(0:Int)≤k:=by omega
 obtain ⟨ad,sA,sC,rfl,f0,f1,f2,hf⟩:=Jqv HLC.out.2 hlt
 have f0:=J00 (J01 HB.out HB.out.size hX.out.2) f0
 have f1:=J00 (J01 HB.out HB.out.size hX.out.2) f1
 have f2:=J00 (J01 HB.out HB.out.size hX.out.2) f2
 have HTK:=Y08 (show J1s (L.take (k+1))=J1s (L.take k)++if 0<L[k].2 then [L[k].1] else [] by
  unfold J1s
  rw [Y0u hlt,List.filter_append,List.map_append]
  congr 1
  by_cases h:0<L[k].2
  ·rw [if_pos h,List.filter_cons_of_pos (by simpa using h)];rfl
  rw [if_neg h,List.filter_cons_of_neg (by simpa using h)];rfl)
 have HPL:=Y08 (show (J1s (L.take k)).length≤2000 by
  unfold J1s
  rw [Y0g]
  have h1:=List.length_filter_le (fun x:Msg=>decide (0<x.2)) (L.take k)
  rw [Y0o] at h1
  omega)
 generalize L[k]=x at *
 generalize J1s (L.take k)=pre at *
 have HF:=Y00 hf
 have HX:=Y00 hX.out
 clear hf hX
 by_cases hp:0<x.2
 ·have HP:=Y08 hp
  go_wp2_with (at_builtin;go_must (refine Kd.R_append (kMF w0 w) (w0:=w1) w1.heap.size rfl (.tmp 28) (.tmp 38) _ 57 _ 32 rfl Tryz.underlying46 Tryz.infoAmark rfl (Y0v rfl) (Y0v rfl) _ pre x.1 _ (fun _=>True) (fun _=>False) rfl rfl ⟨_,rfl,HF.out⟩ (fun _ h=>h.elim) (fun _ _=>trivial) HX.out.1 HX.out.2 HX.out.2.size (by have:=HPL.out;omega) ?_);intro v6 w6 hR6 hb6 hg6 hat6)
  have HS:=Y00 (show J29 w0 w w1 v6 (J1s (L.take (k+1))) w6 by rw [HTK.out,if_pos HP.out];exact ⟨hR6,hb6⟩)
  clear hR6 hb6 hg6 hat6
  exact ⟨⟨k+1,by go_num,by omega,HS⟩,by simp [intOf];omega⟩
 have HP:=Y08 hp
 have HS:=Y00 (show J29 w0 w w1 u5 (J1s (L.take (k+1))) wr by rw [HTK.out,if_neg HP.out,List.append_nil];exact HX.out)
 go_wp2_with fail
 exact ⟨⟨k+1,by go_num,by omega,HS⟩,by simp [intOf];omega⟩
def Mdl.askP (p:Plan) (script:List Int) (n who:Int):Int:=match J16 p script n who with
 | .error c=>c
 | .ok _=>0
theorem Jp9 {p:Plan} {script:List Int} {n who:Int} (h:J0t p=none):askP p script n who=1:=by unfold askP J16;rw [h]
theorem Jpa {p:Plan} {ways:Ways} {script:List Int} {n who:Int} (h:J0t p=some ways) (hl:¬ script.length≤300):askP p script n who=3:=by unfold askP J16;rw [h];simp only;rw [if_neg hl]
theorem Jhb {p:Plan} {ways:Ways} {script:List Int} {n who:Int} (h:J0t p=some ways) (hl:script.length≤300) (hr:¬ (0≤n∧0≤who∧who<p.workers)):askP p script n who=2:=by unfold askP J16;rw [h];simp only;rw [if_pos hl,if_neg hr]
theorem Jrp {p:Plan} {ways:Ways} {script:List Int} {n who:Int} (h:J0t p=some ways) (hl:script.length≤300) (hr:0≤n∧0≤who∧who<p.workers):askP p script n who=0:=by unfold askP J16;rw [h];simp only;rw [if_pos hl,if_pos hr]
theorem J5a (p:Plan) (eA mA sA:Option Addr) (eC mC sC:Nat) (script:List Int) (n who:Int) (w:World) (hp:J1v w p eA mA) (hm:script.length≤4611686018427387904) :
  Calls Tryz.prog 49 #[J1q p eA eC mA mC,.slice sA script.length sC,.int .i64 n,.int .i64 who] w fun e w'=>e=.returned (.int .i64 (askP p script n who))∧Below w.heap.size w w':=by
 have hb0:=J02 w (.cells (pC p eA mA eC mC) 27)
 have hgb:=Y0c w (.cells (pC p eA mA eC mC) 27)
 have HC:=Y08 (Jkk p eA mA eC mC (w.alloc (.cells (pC p eA mA eC mC) 27)) (hp.below hb0))
 have HB:=Y00 hb0
 have p0:=(J03 hgb 0).trans rfl
 have p1:=(J03 hgb 1).trans rfl
 have p2:=(J03 hgb 2).trans rfl
 have p3:(w.alloc (.cells (pC p eA mA eC mC) 27)).cell? ⟨w.heap.size,3,none⟩=some (.int .i64 p.workers):=(J03 hgb 3).trans rfl
 have p4:=(J03 hgb 4).trans rfl
 have HP3:=Y08 p3
 simp only [J1q] at HC ⊢
 clear hp hb0 hgb
 cases hpl:J0t p with
 | none =>
  have HA:=Y08 (Jp9 (script:=script) (n:=n) (who:=who) hpl)
  have HCK:=Y08 (show checkP p=1 by unfold checkP;rw [hpl])
  clear hpl
  go_enter Tryz.func49,Tryz.ntmps49
  go_wp2_with fail
  refine HC.out.mono ?_
  rintro e w2 ⟨rfl,hb2⟩
  rw [HCK.out]
  go_wp2_with fail
  go_ret
  exact ⟨by rw [HA.out];rfl,J01 HB.out HB.out.size hb2⟩
 | some ways=>?_
 have HF:=Y08 (Jpm hpl)
 have HPL:=Y08 hpl
 have HCK:=Y08 (show checkP p=0 by unfold checkP;rw [hpl])
 have hw1:=HF.out.Wk.1
 have hw4:=HF.out.Wk.2
 clear hpl
 by_cases hl:script.length≤300
 rotate_left
 ·have HA:=Y08 (Jpa (n:=n) (who:=who) HPL.out hl)
  have hl3:(300:Int)<script.length:=by omega
  go_enter Tryz.func49,Tryz.ntmps49
  go_wp2_with fail
  refine HC.out.mono ?_
  rintro e w2 ⟨rfl,hb2⟩
  rw [HCK.out]
  go_wp2_with fail
  go_ret
  exact ⟨by rw [HA.out];rfl,J01 HB.out HB.out.size hb2⟩
 by_cases hn:n<0
 ·have HA:=Y08 (Jhb (n:=n) (who:=who) HPL.out hl (by omega))
  have hl3:¬ ((300:Int)<script.length):=by omega
  have hnb:decide (n<0)=true:=Y0r hn
  go_enter Tryz.func49,Tryz.ntmps49
  go_wp2_with fail
  refine HC.out.mono ?_
  rintro e w2 ⟨rfl,hb2⟩
  rw [HCK.out]
  go_wp2_with fail
  go_ret
  exact ⟨by rw [HA.out];rfl,J01 HB.out HB.out.size hb2⟩
 have hl3:¬ ((300:Int)<script.length):=by omega
 have hnb:decide (n<0)=false:=Y0s hn
 have hwr:IntKind.i64.wrap (p.workers - 1)=p.workers - 1:=by rw [Y0b];omega
 go_enter Tryz.func49,Tryz.ntmps49
 go_wp2_with fail
 refine HC.out.mono ?_
 rintro e w2 ⟨rfl,hb2⟩
 rw [HCK.out]
 have p3:=J00 hb2 HP3.out
 go_wp2_with fail
 refine (J14 who 0 (p.workers - 1) w2).mono ?_
 rintro e w3 ⟨rfl,rfl⟩
 cases hlb:J3y who 0 (p.workers - 1) with
 | true =>
  have HA:=Y08 (Jrp (n:=n) (who:=who) HPL.out hl (by have:=J22.1 hlb;omega))
  go_wp2_with fail
  go_ret
  exact ⟨by rw [HA.out];rfl,J01 HB.out HB.out.size hb2⟩
 | false=>?_
 have HA:=Y08 (Jhb (n:=n) (who:=who) HPL.out hl (fun h=>by
  have:J3y who 0 (p.workers - 1)=true:=J22.2 (by omega)
  rw [hlb] at this;cases this))
 go_wp2_with fail
 go_ret
 exact ⟨by rw [HA.out];rfl,J01 HB.out HB.out.size hb2⟩
theorem begun_ok {p:Plan} {ways:Ways} {script:List Int} {n who:Int} (h:J16 p script n who=.ok ways):Fit p ways∧script.length≤300∧0≤n∧0≤who∧who<p.workers:=by
 unfold J16 at h
 cases hp:J0t p with
 | none=>rw [hp] at h;cases h
 | some w=>?_
 rw [hp] at h
 simp only at h
 by_cases hl:script.length≤300
 ·rw [if_pos hl] at h
  by_cases hr:0≤n∧0≤who∧who<p.workers
  ·rw [if_pos hr] at h
   injection h with h
   subst h
   exact ⟨Jpm hp,hl,hr.1,hr.2.1,hr.2.2⟩
  rw [if_neg hr] at h;cases h
 rw [if_neg hl] at h;cases h
theorem J4r {p:Plan} {script:List Int} {n who c:Int} (h:J16 p script n who=.error c):(c == 0)=false∧(c != 0)=true:=by
 unfold J16 at h
 cases hp:J0t p with
 | none=>rw [hp] at h;injection h with h;subst h;exact ⟨rfl,rfl⟩
 | some w=>?_
 rw [hp] at h
 simp only at h
 by_cases hl:script.length≤300
 ·rw [if_pos hl] at h
  by_cases hr:0≤n∧0≤who∧who<p.workers
  ·rw [if_pos hr] at h;cases h
  rw [if_neg hr] at h;injection h with h;subst h;exact ⟨rfl,rfl⟩
 rw [if_neg hl] at h;injection h with h;subst h;exact ⟨rfl,rfl⟩
namespace Mdl
def J4m (n:Nat) (E:List Ed) (ms:List Mk) (b:Nat):List Tm:=ms.flatMap fun m=>((J3e n E m.1.toNat n).getD b []).map (J0l m.2)
def outF (n:Nat) (f:Nat→List Tm):List (List Tm):=(List.range n).map f
def frF (n:Nat) (E:List Ed) (ms:List Mk):List (List Tm):=outF n fun b=>J0p (J4m n E ms b)
theorem Jj8 (n:Nat) (f:Nat→List Tm) {b:Nat} (hb:b<n):(outF n f).getD b []=f b:=by
 unfold outF
 rw [Y01,List.getElem?_map,List.getElem?_range hb];rfl
theorem Jj7 (n:Nat) (f:Nat→List Tm):(outF n f).length=n:=by unfold outF;simp
theorem J5e {n:Nat} {f g:Nat→List Tm} (h:∀ b,b<n→f b=g b):outF n f=outF n g:=List.map_congr_left fun b hb=>h b (Y12.1 hb)
theorem Jj6 (n:Nat) (f g:Nat→List Tm) {b:Nat} (hb:b<n):(outF n fun c=>if c<b then g c else f c).set b (g b)=outF n fun c=>if c<b+1 then g c else f c:=by
 apply List.ext_getElem?
 intro c
 by_cases hcb:b=c
 ·subst hcb
  rw [List.getElem?_set_self (by rw [Jj7];exact hb)]
  unfold outF
  rw [List.getElem?_map,List.getElem?_range hb]
  simp
 rw [List.getElem?_set_ne hcb]
 unfold outF
 rw [List.getElem?_map,List.getElem?_map]
 rcases Nat.lt_or_ge c n with hc | hc
 ·rw [List.getElem?_range hc]
  simp only [Option.map_some]
  by_cases h1:c<b
  ·rw [if_pos h1,if_pos (by omega)]
  rw [if_neg h1,if_neg (by omega)]
 rw [Y0w (by simpa using hc)];rfl
theorem Jl7 (n:Nat) (E:List Ed) (ms:List Mk) (m:Mk) (b:Nat):J4m n E (ms++[m]) b=J4m n E ms b++((J3e n E m.1.toNat n).getD b []).map (J0l m.2):=by
 unfold J4m
 rw [List.flatMap_append];simp
theorem Jgj {n K:Nat} {E:List Ed} {b:Nat} : ∀ (ms:List Mk),(∀ m ∈ ms,((J3e n E m.1.toNat n).getD b []).length≤K)→(J4m n E ms b).length≤ms.length*K
 | [],_=>Yz3 _
 | m::ms,h=>by
  have h1:=Jgj ms (fun x hx=>h x (Y04 _ hx))
  have h2:=h m Y03
  show (((J3e n E m.1.toNat n).getD b []).map (J0l m.2)++J4m n E ms b).length≤_
  rw [Y02,Y0g,Y0z,Nat.succ_mul];omega
theorem Joy {n wd:Nat} {E:List Ed} {b:Nat} {ms:List Mk} (hz:∀ m ∈ ms,ZW wd m.2) (h:∀ m ∈ ms,∀ t ∈ (J3e n E m.1.toNat n).getD b [],ZW wd t):∀ x ∈ J4m n E ms b,ZW wd x:=by
 intro x hx
 unfold J4m at hx
 obtain ⟨m,hm,hx⟩:=List.mem_flatMap.1 hx
 obtain ⟨t,ht,rfl⟩:=Yz4.1 hx
 exact Jcs (hz m hm) (h m hm t ht)
end Mdl
theorem Jog {wd:Nat} (hw:wd≤3) (yA sA:Option Addr) (yC sC:Nat) (y t:Tm) (W:World) (hy:kI.C W yA wd (J0g wd y)) (ha:kI.C W sA wd (J0g wd t)) :
  Calls Tryz.prog 72 #[.slice yA wd yC,.slice sA wd sC] W fun e w'=>∃ v,e=.returned v∧kI.R 3 w' W.heap.size (fun _=>True) v (J0g wd (J0l y t))∧Below W.heap.size W w':=by
 have hl:=J0u y hw
 have hl2:=J0u t hw
 have h:=Jbe yA sA yC sC (J0g wd y) (J0g wd t) W (by rw [hl];exact hy) (by rw [hl2];exact ha) (by rw [hl,hl2]) (by rw [hl];omega)
 rw [hl,hl2,J9m hw] at h
 exact h
theorem J7t (w0:World) (n wd:Nat) (E:List Ed) (eA:Option Addr) (eC:Nat) (ms:List Mk) (mA:Option Addr) (mC:Nat) (w:World) (hE:kE.C w eA E.length E) (hn1:1≤n) (hn8:n≤8) (hw1:1≤wd) (hw3:wd≤3) (h16:E.length≤16) (hok:∀ e ∈ E,J1l n wd e=true)
  (hM:(kMF w0 w).C w mA ms.length (ms.map (J0h wd))) (hml:ms.length≤616) (hnode:∀ m ∈ ms,0≤m.1∧m.1<n) (hz:∀ m ∈ ms,ZW wd m.2) :
  Calls Tryz.prog 50 #[.agg #[.int .i64 (n:Int),.int .i64 (wd:Int),.slice eA E.length eC],.slice mA ms.length mC] w fun e w'=>∃ v,e=.returned v∧kLLI.R 28 w' w.heap.size (fun _=>True) v (numF wd (frF n E ms))∧Below w.heap.size w w':=by
 have HE:=Y00 hE
 have HN:=Y08 (show J57 n E from fun e he=>by have:=J3k hok (by omega) e he;omega)
 have HM:=Y00 hM
 have HZ:=Y08 (Y07 hnode (Y07 hz hok))
 have HFA:=Y08 (show ∀ a,a<n→∀ b,b<n→((J3e n E a n).getD b []).length≤163865601∧∀ t ∈ (J3e n E a n).getD b [],ZW wd t from fun a ha b hb=>by
  have h:=(J8h HN.out ha n).1.facts (Nd:=n) (Wd:=wd) hok (by omega) (Nat.mul_le_mul hn8 h16) hb
  exact ⟨h.1,fun t ht=>by simpa using (h.2 t ht).1⟩)
 have HRL:=Y08 (show ∀ k b,b<n→(J4m n E (ms.take k) b).length≤200000000000 from fun k b hb=>by
  have h:=Jgj (ms.take k) (K:=163865601) (n:=n) (E:=E) (b:=b) (fun m hm=>(HFA.out _ (by have:=hnode m (List.mem_of_mem_take hm);omega) b hb).1)
  have h2:(ms.take k).length*163865601≤616*163865601:=Nat.mul_le_mul_right _ (by rw [Y0o];omega)
  omega)
 have hb0:=J02 w (.cells #[.int .i64 (n:Int),.int .i64 (wd:Int),.slice eA E.length eC] 24)
 have hgb:=Y0c w (.cells #[.int .i64 (n:Int),.int .i64 (wd:Int),.slice eA E.length eC] 24)
 obtain ⟨g0,g1,g2⟩:=bc3 hgb
 have HB1:=Y00 hb0
 clear hE hM hnode hz hok hb0 hgb
 go_enter Tryz.func50,Tryz.ntmps50
 go_upto_region 1 with fail
 generalize w.alloc (.cells #[.int .i64 (n:Int),.int .i64 (wd:Int),.slice eA E.length eC] 24)=w1 at *
 have HG:=Y08 (Y07 g0 (Y07 g1 g2))
 go_upto_region 2 with (at_make;go_must (refine Kd.R_make kLLI (w0:=w1) w1.heap.size 28 rfl (N:=13) rfl _ _ _ rfl n rfl rfl Tryz.underlying38 _ 24 Tryz.infoLLI rfl (by decide) (by decide) ([]:List (List Int)) (ok:=fun _=>True) (okp:=fun _=>False) ⟨_,rfl,Kd.R_nil _ _ _ _ _⟩ (fun _ h=>h.elim) trivial (by omega) (by omega) (Y0f w1.heap.size w1) (Y0e w1.heap.size) ?_;intro v7 w2 hR7 hb7 hg7 hown7;obtain ⟨g,cw,hv7,hgb,-,-⟩:=Kd.R_form hR7 (by simp;omega);rw [Y06,Y0j] at hv7;subst hv7;rw [Y06] at hR7;have HW:=Y00 (Y07 hR7 hb7);have HGE:=Y08 hgb;clear hR7 hb7 hg7 hown7 hgb))
 clear g0 g1 g2
 have HW2:=Y00 (show kLLI.R 28 w2 w1.heap.size (fun _=>True) (.slice (some ⟨g,0,none⟩) n cw) (numF wd (outF n (J4m n E (ms.take 0))))∧Below w1.heap.size w1 w2 from ⟨by
  have e:numF wd (outF n (J4m n E (ms.take 0)))=List.replicate n []:=by
   have h0:outF n (J4m n E (ms.take 0))=outF n (fun _=>[]):=J5e (fun b _=>rfl)
   rw [h0]
   show List.map (List.map (J0g wd)) ((List.range n).map (fun _=>[]))=_
   rw [List.map_map,List.eq_replicate_iff]
   exact ⟨by simp,fun x hx=>by obtain ⟨b,_,rfl⟩:=Yz4.1 hx;rfl⟩
  rw [e];exact HW.out.1,HW.out.2⟩)
 clear HW
 go_wp2_with fail
 go_loopw [6] (fun i wr=>∃ q:Nat,i=.int .i64 q∧q≤ms.length∧J08 (kLLI.R 28 wr w1.heap.size (fun _=>True) (.slice (some ⟨g,0,none⟩) n cw) (numF wd (outF n (J4m n E (ms.take q))))∧Below w1.heap.size w1 wr)) (fun i _=>ms.length - (intOf i).toNat)
 case atStart=>exact ⟨0,rfl,Yz3 _,HW2⟩
 clear HW2
 obtain ⟨q,rfl,hq,hX⟩:=hrel
 have g0:=J00 hX.out.2 HG.out.1
 by_cases hqt:q<ms.length
 rotate_left
 ·have hqE:¬ ((q:Int)<ms.length):=by omega
  have HZW:=Y08 (show ∀ b,b<n→∀ x ∈ J4m n E ms b,ZW wd x from fun b hb=>Joy HZ.out.2.1 (fun m hm=>(HFA.out _ (by have:=HZ.out.1 m hm;omega) b hb).2))
  have HRQ:=Y08 (show ∀ b,b<n→(J4m n E ms b).length≤200000000000 from fun b hb=>by have h:=HRL.out ms.length b hb;rwa [Y0t (Y0e _)] at h)
  have HFF:=Y08 (show frF n E ms=outF n (fun c=>J0p (J4m n E ms c)) from rfl)
  have HX2:J08 (kLLI.R 28 wr w1.heap.size (fun _=>True) (.slice (some ⟨g,0,none⟩) n cw) (numF wd (outF n (J4m n E ms)))∧Below w1.heap.size w1 wr):=⟨by have h:=hX.out.1;rwa [Y0t (by omega)] at h,hX.out.2⟩
  generalize J4m n E ms=R at *
  clear hX
  go_wp2_with fail
  clear hqE hqt g0
  generalize wr=wp at *
  go_loopw [10] (fun i wr=>∃ b:Nat,i=.int .i64 b∧b≤n∧J08 (kLLI.R 28 wr w1.heap.size (fun _=>True) (.slice (some ⟨g,0,none⟩) n cw) (numF wd (outF n fun c=>if c<b then J0p (R c) else R c))∧Below w1.heap.size w1 wr)) (fun i _=>n - (intOf i).toNat)
  case atStart=>exact ⟨0,rfl,Yz3 _,⟨by have h:=HX2.out.1;rwa [show outF n R=outF n (fun c=>if c<0 then J0p (R c) else R c) from J5e (fun b _=>(if_neg (Nat.not_lt_zero b)).symm)] at h,HX2.out.2⟩⟩
  clear HX2
  obtain ⟨b,rfl,hb,hY⟩:=hrel
  have g0:=J00 hY.out.2 HG.out.1
  by_cases hbt:b<n
  rotate_left
  ·have hbE:¬ ((b:Int)<n):=by omega
   have HF:=Y00 (show kLLI.R 28 wr w.heap.size (fun _=>True) (.slice (some ⟨g,0,none⟩) n cw) (numF wd (frF n E ms))∧Below w.heap.size w wr from ⟨by
    have h:=hY.out.1
    rw [show (outF n fun c=>if c<b then J0p (R c) else R c)=outF n (fun c=>J0p (R c)) from J5e (fun c hc=>if_pos (by omega)),← HFF.out] at h
    exact Kd.c04 h HB1.out.size,J01 HB1.out HB1.out.size hY.out.2⟩)
   clear hY
   go_wp2_with fail
   go_ret
   exact ⟨_,rfl,HF.out.1,HF.out.2⟩
  have hbE:(b:Int)<n:=by omega
  have hb0:(0:Int)≤b:=by omega
  have HOS:=Y08 (Jj6 n R (fun c=>J0p (R c)) hbt)
  have HOG:=Y08 (show (outF n fun c=>if c<b then J0p (R c) else R c).getD b []=R b from by rw [Jj8 n _ hbt,if_neg (Nat.lt_irrefl b)])
  have hRr:=hY.out.1
  generalize (outF n fun c=>if c<b then J0p (R c) else R c)=ry at *
  obtain ⟨cA,cC,zc,-,hcR⟩:=Jdk hRr (k:=b) hbt
  rw [J7g,HOG.out,Y0g] at zc hcR
  have HZB:=Y08 (Y07 (HZW.out b hbt) (HRQ.out b hbt))
  generalize R b=cl at *
  have HD:=Y00 (Y07 hY.out.1 (Y07 hY.out.2 hcR))
  have HCA:=Y08 (Jcg hw1 hw3 cA cC cl wr (Kd.c04 HD.out.2.2 (Y0e _)) HZB.out.1 (by have:=HZB.out.2;omega))
  clear hY hRr hcR
  go_wp2_with fail
  refine HCA.out.mono ?_
  rintro e w7 ⟨v7,rfl,hR7,hb7⟩
  obtain ⟨pA,pC,hpe⟩:=Kd.c02 hR7
  have HR7:=Y00 (Y07 (Kd.c04 hR7 HD.out.2.1.size) hb7)
  generalize hpn:((J0p cl).map (J0g wd)).length=pn at *
  subst hpe
  clear hR7 HCA hpn hb7 zc g0
  obtain ⟨⟨q1,zc⟩,zf,hR9,hg9⟩:=Jbx (Kd.c01 HD.out.1 HR7.out.2) hbt HR7.out.1
  have HP:=Y00 (Y07 hR9 hg9)
  clear hR9 hg9
  go_upto_region 15 with fail
  have HR:=Y00 (show kLLI.R 28 (w7.setCell ⟨g,b,none⟩ (.slice pA pn pC)) w1.heap.size (fun _=>True) (.slice (some ⟨g,0,none⟩) n cw) (numF wd (outF n fun c=>if c<b+1 then J0p (R c) else R c))∧Below w1.heap.size w1 (w7.setCell ⟨g,b,none⟩ (.slice pA pn pC)) from ⟨by have h:=HP.out.1;rw [Jas] at h;rw [← HOS.out];exact h,(J01 HD.out.2.1 HD.out.2.1.size HR7.out.2).setCell (p:=⟨g,b,none⟩) HGE.out _⟩)
  clear HP HD zc zf
  go_wp2_with fail
  exact ⟨⟨b+1,by go_num,by omega,HR⟩,by simp [intOf];omega⟩
 have hqE:(q:Int)<ms.length:=by omega
 have hq0:(0:Int)≤q:=by omega
 have HM2:=HM.out
 rw [← Y0g (J0h wd)] at HM2
 obtain ⟨ad,sA,sC,rfl,e0,e1,hf⟩:=Jmx HM2 (k:=q) (by rw [Y0g];exact hqt)
 simp only [Y0n] at e0 e1 hf
 have hl2:(J0h wd ms[q]).2.length=wd:=J0u _ hw3
 rw [hl2] at e1 hf
 have e0:w.cell? (ad.add (q*2))=some (.int .i64 ms[q].1):=e0
 have HND:=Y08 (HZ.out.1 _ (Y0l hqt))
 have HTM:=Y08 (HZ.out.2.1 _ (Y0l hqt))
 have HF:=Y00 (show kI.C w sA wd (J0g wd ms[q].2) from by
  obtain ⟨A',c',he,h1,_⟩:=hf
  injection he with he1 _ _
  rw [he1]
  have h2:(J0h wd ms[q]).2=J0g wd ms[q].2:=rfl
  rw [h2,J0u _ hw3] at h1
  exact h1)
 have HSN:=Y08 (show ∀ b,J4m n E (ms.take (q+1)) b=J4m n E (ms.take q) b++((J3e n E ms[q].1.toNat n).getD b []).map (J0l ms[q].2) from fun b=>by rw [Y0u hqt];exact Jl7 n E (ms.take q) ms[q] b)
 have HRQ:=Y08 (HRL.out q)
 have HRQ1:=Y08 (HRL.out (q+1))
 generalize J4m n E (ms.take q)=F0 at *
 generalize hF1:J4m n E (ms.take (q+1))=F1 at *
 have HF1N:=Y08 hF1
 clear hF1
 clear HM2 hf hl2
 generalize ms[q]=m at *
 obtain ⟨mn,mt⟩:=m
 obtain ⟨a,rfl⟩:∃ a:Nat,mn=a:=⟨mn.toNat,(Y0k HND.out.1).symm⟩
 have han:a<n:=by have:=HND.out.2;simpa using this
 simp only [Y06] at e0 e1 HF HSN HTM
 have g1:=J00 hX.out.2 HG.out.2.1
 have g2:=J00 hX.out.2 HG.out.2.2
 have HBX:=Y00 (J01 HB1.out HB1.out.size hX.out.2)
 have f0:=J00 HBX.out e0
 have HE1:=Y00 e1
 clear e0 e1
 go_upto_region 5 with fail
 refine sr1 8 (fun W'=>W'.cell? ⟨w.heap.size,0,none⟩=some (.int .i64 (n:Int))∧W'.cell? ⟨w.heap.size,1,none⟩=some (.int .i64 (wd:Int))∧W'.cell? ⟨w.heap.size,2,none⟩=some (.slice eA E.length eC)∧W'.cell? (ad.add (q*2))=some (.int .i64 (a:Int))) [] ⟨g0,g1,g2,f0⟩ fun hJ0=>?_
 have hdr1:=J05 (Y0f wr.heap.size wr)
 have HY:=Y00 (Y07 (Kd.c01 hX.out.1 hdr1) (J01 hX.out.2 hX.out.2.size hdr1))
 have HSU:=Y08 (Jmb n wd E eA eC a wr.drew (Kd.c00 HE.out (J01 HBX.out HBX.out.size hdr1)) hn1 hn8 hw1 hw3 h16 HZ.out.2.2 han)
 have HGB:=Y08 (show g<wr.drew.heap.size from by
  obtain ⟨inner,ho⟩:=Kd.R_own HY.out.1
  exact Jdh ho g (by simp [Value.ownBlock]))
 clear hdr1 g0 g1 g2 f0 hX HBX
 generalize wr.drew=wq at *
 refine pv 1 ?_
 refine pv 2 ?_
 refine pv 3 ?_
 refine pv 4 ?_
 refine tv4 0 ?_
 refine tv4 5 ?_
 refine ov 6 fun K hK=>?_
 refine gs0 Tryz.func35 #[.agg #[.int .i64 (n:Int),.int .i64 (wd:Int),.slice eA E.length eC],.int .i64 (a:Int)] ?_
 refine HSU.out.mono ?_
 rintro e w4 ⟨v,rfl,hRS,hbS⟩
 have HSL:=Y08 (show (J3e n E a n).length=n from (J8h HN.out han n).1.len)
 have HFS:=Y08 (HFA.out a han)
 obtain ⟨S,hS⟩:∃ S,S=J3e n E a n:=⟨_,rfl⟩
 rw [← hS] at hRS
 have HSE:=Y08 hS
 clear hS
 obtain ⟨sg,sc,hve,hsg,-,-⟩:=Kd.R_form hRS (by show 0<(List.map _ S).length;rw [Y0g,HSE.out,HSL.out];omega)
 have hnl:(numF wd S).length=n:=by show (List.map _ S).length=n;rw [Y0g,HSE.out,HSL.out]
 rw [hnl] at hve
 subst hve
 have HS4:=Y00 (show kLLI.R 28 w4 w1.heap.size (fun _=>True) (.slice (some ⟨g,0,none⟩) n cw) (numF wd (outF n F0))∧Below w1.heap.size w1 w4∧kLLI.R 28 w4 w1.heap.size (fun k=>k≠g) (.slice (some ⟨sg,0,none⟩) n sc) (numF wd S) from ⟨Kd.c01 HY.out.1 hbS,J01 HY.out.2 HY.out.2.size hbS,Kd.c04 (Kd.c06 (Kd.c05 hRS) (fun k hk=>by have h1:=hk.2.1;have h2:=HGB.out;omega)) HY.out.2.size⟩)
 have hH4:=Y07 (J00 hbS hJ0.1) (Y07 (J00 hbS hJ0.2.1) (Y07 (J00 hbS hJ0.2.2.1) (J00 hbS hJ0.2.2.2)))
 clear hnl hRS HSU HY hbS
 refine ⟨_,rfl,hK.out _ _ hH4 (fun hJ0=>?_)⟩
 clear hK K
 refine nm0 _ ?_
 refine pv 7 ?_
 refine dn0 ?_
 clear hH4 hJ0
 have HFE:=Y08 (show ∀ b,F1 b=F0 b++(S.getD b []).map (J0l mt) from fun b=>by rw [HSN.out b,HSE.out])
 have HFS:=Y08 (show ∀ b,b<n→(S.getD b []).length≤163865601∧∀ t ∈ S.getD b [],ZW wd t from fun b hb=>by rw [HSE.out];exact HFS.out b hb)
 clear HSN
 go_wp2_with fail
 generalize wr=wo at *
 go_loopw [8] (fun i wr=>∃ b:Nat,i=.int .i64 b∧b≤n∧J08 (kLLI.R 28 wr w1.heap.size (fun _=>True) (.slice (some ⟨g,0,none⟩) n cw) (numF wd (outF n fun c=>if c<b then F1 c else F0 c))∧Below w1.heap.size w1 wr∧kLLI.R 28 wr w1.heap.size (fun k=>k≠g) (.slice (some ⟨sg,0,none⟩) n sc) (numF wd S))) (fun i _=>n - (intOf i).toNat)
 case atStart=>exact ⟨0,rfl,Yz3 _,⟨by have h:=HS4.out.1;rwa [show outF n F0=outF n (fun c=>if c<0 then F1 c else F0 c) from J5e (fun b _=>(if_neg (Nat.not_lt_zero b)).symm)] at h,HS4.out.2.1,HS4.out.2.2⟩⟩
 clear HS4
 obtain ⟨b,rfl,hb,hY⟩:=hrel
 have g0:=J00 hY.out.2.1 HG.out.1
 by_cases hbt:b<n
 rotate_left
 ·have hbE:¬ ((b:Int)<n):=by omega
  have HR:=Y00 (show kLLI.R 28 wr w1.heap.size (fun _=>True) (.slice (some ⟨g,0,none⟩) n cw) (numF wd (outF n F1))∧Below w1.heap.size w1 wr from ⟨by
   have h:=hY.out.1
   rwa [show (outF n fun c=>if c<b then F1 c else F0 c)=outF n F1 from J5e (fun c hc=>if_pos (by omega))] at h,hY.out.2.1⟩)
  clear hY
  go_wp2_with fail
  exact ⟨⟨q+1,by go_num,by omega,⟨by rw [HF1N.out];exact HR.out.1,HR.out.2⟩⟩,by simp [intOf];omega⟩
 have hbE:(b:Int)<n:=by omega
 have hb0:(0:Int)≤b:=by omega
 have HOS:=Y08 (Jj6 n F0 F1 hbt)
 have HOG:=Y08 (show (outF n fun c=>if c<b then F1 c else F0 c).getD b []=F0 b from by rw [Jj8 n _ hbt,if_neg (Nat.lt_irrefl b)])
 have HOL:=Y08 (show b<(outF n fun c=>if c<b then F1 c else F0 c).length by rw [Jj7];exact hbt)
 generalize (outF n fun c=>if c<b then F1 c else F0 c)=ry at *
 have HF1:=Y08 (HFE.out b)
 have HFB:=Y08 (HFS.out b hbt)
 have HLB:=Y08 (Y07 (HRQ.out b hbt) (HRQ1.out b hbt))
 have HNF:=Y08 (show (numF wd S).getD b []=(S.getD b []).map (J0g wd) from J7g wd S b)
 obtain ⟨br,hbr⟩:∃ br,br=S.getD b []:=⟨_,rfl⟩
 rw [← hbr] at HF1 HFB HNF
 have hbl:=HFB.out.1
 clear hbr
 have HT0:=Y00 (show kLLI.R 28 wr w1.heap.size (fun _=>True) (.slice (some ⟨g,0,none⟩) n cw) (numF wd (ry.set b (ry.getD b []++(br.take 0).map (J0l mt))))∧Below w1.heap.size w1 wr∧kLLI.R 28 wr w1.heap.size (fun k=>k≠g) (.slice (some ⟨sg,0,none⟩) n sc) (numF wd S) from ⟨by rw [List.take_zero,List.map_nil,List.append_nil,Jit ry HOL.out];exact hY.out.1,hY.out.2.1,hY.out.2.2⟩)
 clear hY
 go_wp2_with fail
 generalize wr=wp at *
 go_loopw [9] (fun i wr=>∃ k:Nat,i=.int .i64 k∧k≤br.length∧J08 (kLLI.R 28 wr w1.heap.size (fun _=>True) (.slice (some ⟨g,0,none⟩) n cw) (numF wd (ry.set b (ry.getD b []++(br.take k).map (J0l mt))))∧Below w1.heap.size w1 wr∧kLLI.R 28 wr w1.heap.size (fun k=>k≠g) (.slice (some ⟨sg,0,none⟩) n sc) (numF wd S))) (fun i _=>br.length - (intOf i).toNat)
 case atStart=>exact ⟨0,rfl,Yz3 _,HT0⟩
 clear HT0 g0
 obtain ⟨k,rfl,hk,hT⟩:=hrel
 obtain ⟨bA,bC,zb,-,hbR⟩:=Jdk (Kd.c06 hT.out.2.2 (fun _ _=>trivial)) (k:=b) hbt
 rw [HNF.out] at zb hbR
 rw [Y0g] at zb hbR
 by_cases hkt:k<br.length
 rotate_left
 ·have hkE:¬ ((k:Int)<br.length):=by omega
  have HR:=Y00 (show kLLI.R 28 wr w1.heap.size (fun _=>True) (.slice (some ⟨g,0,none⟩) n cw) (numF wd (outF n fun c=>if c<b+1 then F1 c else F0 c))∧Below w1.heap.size w1 wr∧kLLI.R 28 wr w1.heap.size (fun k=>k≠g) (.slice (some ⟨sg,0,none⟩) n sc) (numF wd S) from ⟨by
   have h:=hT.out.1
   rw [Y0t (by omega),HOG.out,← HF1.out] at h
   rw [← HOS.out];exact h,hT.out.2.1,hT.out.2.2⟩)
  clear hT hbR
  go_wp2_with fail
  exact ⟨⟨b+1,by go_num,by omega,HR⟩,by simp [intOf];omega⟩
 have hkE:(k:Int)<br.length:=by omega
 have hk0:(0:Int)≤k:=by omega
 have HCL:=Y08 (show (ry.getD b []++(br.take (k+1)).map (J0l mt))=(ry.getD b []++(br.take k).map (J0l mt))++[J0l mt br[k]] by rw [Y0u hkt,List.map_append,Y0d];rfl)
 have HLN:=Y08 (show (ry.getD b []++(br.take k).map (J0l mt)).length≤400000000000 by have h1:=HLB.out.1;have h2:=HFB.out.1;rw [HOG.out,Y02,Y0g,Y0o];omega)
 obtain ⟨bg,yA,yC,hbA,zy,hyR⟩:=Jms hw3 hbR hkt
 subst hbA
 generalize br[k]=y at *
 generalize (ry.getD b []++(br.take k).map (J0l mt))=cl at *
 have hRr:kLLI.R 28 wr w1.heap.size (fun _=>True) (.slice (some ⟨g,0,none⟩) n cw) (numF wd (ry.set b cl)):=hT.out.1
 obtain ⟨cA,cC,zc,-,hcR⟩:=Jdk hRr (k:=b) hbt
 rw [J7g,J0o _ _ _ _ HOL.out,Y0g] at zc hcR
 have e1:=J00 (J01 HB1.out HB1.out.size hT.out.2.1) HE1.out
 have HTT:=Y00 (Y07 hcR hyR)
 clear hcR hyR hRr hbR
 go_upto_region 12 with fail
 refine sr1 25 (fun V=>V.cell? ⟨g,b,none⟩=some (.slice cA cl.length cC)∧V.cell? ⟨(ad.add (q*2)).block,(ad.add (q*2)).off+1,none⟩=some (.slice sA wd sC)∧V.cell? ⟨sg,b,none⟩=some (.slice (some ⟨bg,0,none⟩) br.length bC)∧V.cell? ⟨bg,k,none⟩=some (.slice yA wd yC)) [24] ⟨zc,e1,zb,zy⟩ fun hJ0=>?_
 have hdr1:=J05 (Y0f wr.heap.size wr)
 have HD:=Y00 (Y07 (Kd.c01 hT.out.1 hdr1) (Y07 (J01 hT.out.2.1 hT.out.2.1.size hdr1) (Y07 (Kd.c01 hT.out.2.2 hdr1) (Y07 (Kd.c01 HTT.out.1 hdr1) (Kd.c01 HTT.out.2 hdr1)))))
 clear hT HTT zc e1 zb zy hdr1
 generalize wr.drew=wq at *
 have HQ:=Y00 hJ0
 have HN0:=Y00 (J1o.start HD.out.2.1)
 refine pv 0 ?_
 refine pv 1 ?_
 refine pv 3 ?_
 refine pv 4 ?_
 refine pv 8 ?_
 refine pv 9 ?_
 refine pv 10 ?_
 refine pv 11 ?_
 refine pv 13 ?_
 refine pv 14 ?_
 refine pv 17 ?_
 refine pv 5 ?_
 refine pv 15 ?_
 refine tv4 6 ?_
 refine tv4 12 ?_
 refine tv4 16 ?_
 refine pv 18 ?_
 refine tv4 19 ?_
 refine ov 2 fun K hK=>?_
 refine va0 ?_
 refine hK.out _ _ (st4 HN0.out.below HQ.out) (fun hJ0=>?_)
 clear hK K
 refine nm0 _ ?_
 refine ov 7 fun K hK=>?_
 refine J1o.rowsS (ys:=cl.map (J0g wd)) HN0.out (by rw [Y0g];exact HD.out.2.2.2.1) (by rw [Y0g];have:=HLN.out;simp;omega) (.tmp 44) (.tmp 48) (by rfl) rfl rfl (by rw [Y0g];rfl) ?_
 intro v6 w6 hN6
 rw [List.nil_append] at hN6
 have HN6:=Y00 hN6
 clear hN6 HN0
 refine hK.out _ _ (st4 HN6.out.below HQ.out) (fun hJ0=>?_)
 clear hK K
 refine nm0 _ ?_
 have HCA:=Y08 (Jog hw3 sA yA sC yC mt y w6 (Kd.c00 HF.out (J01 HB1.out HB1.out.size HN6.out.down)) (kI_C (Kd.c01 HD.out.2.2.2.2 HN6.out.below)))
 refine ov 20 fun K hK=>?_
 refine gs0 Tryz.func72 #[.slice sA wd sC,.slice yA wd yC] ?_
 refine HCA.out.mono ?_
 rintro e w7 ⟨v7,rfl,hR7,hb7⟩
 obtain ⟨pA,pC,hpe⟩:=Kd.c02 hR7
 rw [J0u _ hw3] at hpe
 subst hpe
 have HN7:=Y00 (HN6.out.up hb7)
 have HR7:=Y00 (Kd.c04 hR7 HN6.out.down.size)
 clear hR7 hb7 HCA
 refine ⟨_,rfl,hK.out _ _ (st4 HN7.out.below HQ.out) (fun hJ0=>?_)⟩
 clear hK K
 refine nm0 _ ?_
 refine ov 21 fun K hK=>?_
 refine va0 ?_
 refine hK.out _ _ ⟨J00 (HN7.out.up (J02 w7 _)).below HQ.out.1,J00 (HN7.out.up (J02 w7 _)).below HQ.out.2.1,J00 (HN7.out.up (J02 w7 _)).below HQ.out.2.2.1,J00 (HN7.out.up (J02 w7 _)).below HQ.out.2.2.2⟩ (fun hJ0=>?_)
 clear hK K
 refine nm0 _ ?_
 refine ov 22 fun K hK=>?_
 refine J1o.appS HN7.out HR7.out (by rw [Y0g];have:=HLN.out;omega) (.tmp 49) (.tmp 63) (by rfl) rfl rfl rfl ?_
 intro v8 w8 hN8 hg8
 have HN8:=Y00 hN8
 clear hN8 hg8
 obtain ⟨vA,vC,hve⟩:=J1o.slice HN8.out
 generalize hvn:(cl.map (J0g wd)++[J0g wd (J0l mt y)]).length=vn at *
 have HVN:=Y08 hvn
 clear hvn
 subst hve
 refine hK.out _ _ (st4 HN8.out.below HQ.out) (fun hJ0=>?_)
 clear hK K
 refine nm0 _ ?_
 refine pv 23 ?_
 obtain ⟨⟨q1,zc⟩,zf,hR9,hg9⟩:=Jbx (Kd.c01 HD.out.1 HN8.out.below) hbt HN8.out.rows
 have HP:=Y00 (Y07 hR9 hg9)
 clear hR9 hg9
 refine la0 24 (bs 25 33554431) (N:=none) fun K hK=>?_
 refine sk0 ?_
 refine hK.out _ _ ?_
 clear hK K hJ0
 refine dn0 ?_
 have HR:=Y00 (show kLLI.R 28 (w8.setCell ⟨g,b,none⟩ (.slice vA vn vC)) w1.heap.size (fun _=>True) (.slice (some ⟨g,0,none⟩) n cw) (numF wd (ry.set b (ry.getD b []++(br.take (k+1)).map (J0l mt))))∧Below w1.heap.size w1 (w8.setCell ⟨g,b,none⟩ (.slice vA vn vC))∧kLLI.R 28 (w8.setCell ⟨g,b,none⟩ (.slice vA vn vC)) w1.heap.size (fun k=>k≠g) (.slice (some ⟨sg,0,none⟩) n sc) (numF wd S) from ⟨by have h:=HP.out.1;rwa [show cl.map (J0g wd)++[J0g wd (J0l mt y)]=(ry.getD b []++(br.take (k+1)).map (J0l mt)).map (J0g wd) by rw [HCL.out];simp,Jas,List.set_set] at h,HN8.out.down.setCell (p:=⟨g,b,none⟩) HGE.out _,Kd.R_grown (Kd.c01 HD.out.2.2.1 HN8.out.below) HP.out.2 (fun j hj he=>by injection he with he;exact hj he)⟩)
 clear HP HD HQ zc zf
 go_wp2_with fail
 exact ⟨⟨k+1,by go_num,by omega,HR⟩,by simp [intOf];omega⟩
structure MkOk (N:Int) (wd:Nat) (ms:List Mk):Prop where
 len:ms.length≤616
 node:∀ m ∈ ms,0≤m.1∧m.1<N
 zw:∀ m ∈ ms,ZW wd m.2
theorem Jlo {p:Plan} {ways:Ways} (h:Fit p ways) {script:List Int} (hs:script.length≤300) (n:Nat) {who:Nat} (hw:who<p.workers.toNat):MkOk p.N p.Wd.toNat (J37 ((stAt p script n).ledOf who)):=by
 have hr:=(h.here hs n).reach
 have hz:=h.zw hs n
 have hL:(stAt p script n).ledOf who ∈ (stAt p script n).led:=J0i (by rw [hr.inv.llen];exact hw) []
 obtain ⟨hnd,hnode⟩:=hr.inv.ledN _ hL
 have hmem:∀ m ∈ J37 ((stAt p script n).ledOf who),∃ e ∈ (stAt p script n).ledOf who,e.1=m:=fun m hm=>by
  unfold J37 ledM at hm
  obtain ⟨e,he,rfl⟩:=Yz4.1 hm
  obtain ⟨k,hk,rfl⟩:=Yz4.1 (List.mem_filter.1 he).1
  exact Yz4.1 (((J2m hnd).2 k).1 hk)
 refine ⟨?_,fun m hm=>?_,fun m hm=>?_⟩
 ·unfold J37
  rw [Y0g]
  refine Yz0 (List.length_filter_le _ _) ?_
  unfold ledM Jd1
  rw [Y0g]
  have:=hr.led_len hw
  have h2:=J6q (((stAt p script n).ledOf who).map (·.1))
  rw [Y0g] at h2
  omega
 ·obtain ⟨e,he,rfl⟩:=hmem m hm
  exact hnode e he
 obtain ⟨e,he,rfl⟩:=hmem m hm
 exact hz.led _ hL e he
theorem Jgk {p:Plan} {ways:Ways} (h:Fit p ways) {ms:List Mk} (hm:∀ m ∈ ms,0≤m.1∧m.1<p.N):frF p.N.toNat p.E ms=J1u p.N.toNat ways ms:=by
 unfold frF outF J1u
 refine List.map_congr_left (fun b hb=>?_)
 congr 1
 unfold J4m rowP
 exact J5m (fun m hm'=>Jod h.open_ (hm m hm') (Y12.1 hb))
end Go.Proofs.YtbkfnmgkcgnifaaGreat
namespace Go.Proofs.YtbkfnmgkcgnifaaGreat.Mdl
theorem Jsw {p:Plan} {ways:Ways} (h:Fit p ways) {script:List Int} (hs:script.length≤300) {who:Nat} (hw:who<p.workers.toNat) {m:Mk} {n:Nat} (he:J2j p.E p.workers.toNat (stAt p script n)=none):Jsu p ways script who m n=true:=by
 have hh:=h.here hs n
 unfold Jsu Jg4 J3t
 rw [(Jtr he).led hh.know hh.reach (i:=who) hw]
 show (!List.any (List.getD (J1u p.N.toNat ways []) m.1.toNat []) _)=true
 rw [Jtj,Y01,List.getElem?_replicate]
 split<;>rfl
theorem Jt0 {p:Plan} {ways:Ways} (h:Fit p ways) {script:List Int} (hs:script.length≤300) {who:Nat} (hw:who<p.workers.toNat) {m:Mk} : ∀ k,k≤1233→(∀ j,j<k→Jsu p ways script who m j=false)→J7q p.E p.workers.toNat p.N ways who m 1233 (stAt p script 0) 0=J7q p.E p.workers.toNat p.N ways who m (1233 - k) (stAt p script k) (k:Int)
 | 0,_,_=>rfl
 | k+1,hk,hf=>by
  rw [Jt0 h hs hw k (by omega) (fun j hj=>hf j (by omega))]
  have h1:=hf k (by omega)
  cases he:J2j p.E p.workers.toNat (stAt p script k) with
  | none=>rw [Jsw h hs hw he] at h1;cases h1
  | some st'=>?_
  have e:=Jfo he
  obtain ⟨f,hf⟩:∃ f,1233 - k=f+1:=⟨1233 - k - 1,by omega⟩
  rw [hf,Jk7 h1 he,show 1233 - (k+1)=f by omega,← e,Int.natCast_add];rfl
theorem Jtt {p:Plan} {ways:Ways} (h:Fit p ways) {script:List Int} (hs:script.length≤300) {who:Nat} (hw:who<p.workers.toNat) {m:Mk} {k:Nat} (hk:k≤1233) (hf:∀ j,j<k→Jsu p ways script who m j=false) (ho:Jsu p ways script who m k=true):J7q p.E p.workers.toNat p.N ways who m 1233 (J0s p.workers.toNat p.start script) 0=(k:Int):=by
 have h1:=Jt0 h hs hw k hk hf
 rw [Jk8 (show Jg4 p.N ways (stAt p script k) who m=true from ho)] at h1
 exact h1
theorem Jtf {p:Plan} {ways:Ways} (h:Fit p ways) {script:List Int} (hs:script.length≤300) {who:Nat} (hw:who<p.workers.toNat) {m:Mk} {k:Nat} (ho:Jsu p ways script who m k=false):∃ st',J2j p.E p.workers.toNat (stAt p script k)=some st':=by
 cases he:J2j p.E p.workers.toNat (stAt p script k) with
 | some st'=>exact ⟨st',rfl⟩
 | none=>rw [Jsw h hs hw he] at ho;cases ho
theorem Jtn {p:Plan} {ways:Ways} (h:Fit p ways):∀ {P:List Ed},(∀ e ∈ P,e ∈ p.E)→ZW p.Wd.toNat (sumW P)
 | [],_=>⟨fun _=>rfl,fun _=>rfl⟩
 | e::P,he=>by
  have h1:=Jd6 (wd:=p.Wd.toNat) (l:=e.2.2) (h.wide (he e Y03))
  have h2:=Jtn h (P:=P) (fun x hx=>he x (Y04 _ hx))
  refine ⟨fun hh=>?_,fun hh=>?_⟩
  ·show (tmOf e.2.2).2.2+(sumW P).2.2=0
   rw [h1.1 hh,h2.1 hh];rfl
  show (tmOf e.2.2).2.1+(sumW P).2.1=0
  rw [h1.2 hh,h2.2 hh];rfl
theorem Jti {p:Plan} {ways:Ways} (h:Fit p ways) {xs:List Mk} (hx:∀ m ∈ xs,(0≤m.1∧m.1<p.N)∧ZW p.Wd.toNat m.2) {k:Nat} (hk:k<p.N.toNat):∀ t ∈ (J1u p.N.toNat ways xs).getD k [],ZW p.Wd.toNat t:=fun t ht=>by
 rw [Jtk hk] at ht
 obtain ⟨m,hm,ht⟩:=List.mem_flatMap.1 (J5n ht)
 obtain ⟨s,hs,rfl⟩:=Yz4.1 ht
 obtain ⟨hn,hz⟩:=hx m hm
 have hs:s ∈ J7p ways m.1 (k:Int).toNat:=hs
 obtain ⟨P,hP,hw,rfl⟩:=Jt9 h.open_ hn (b:=k) (by omega) hs
 exact Jcs hz (Jtn h (J3p hw))
theorem Jtg {p:Plan} {ways:Ways} (h:Fit p ways) {script:List Int} (hs:script.length≤300) {who:Nat} (hw:who<p.workers.toNat) {nd:Nat} (hnd:nd<p.N.toNat) {tl:List Int} (hl:tl.length=p.Wd.toNat) (n:Nat):Jsu p ways script who ((nd:Int),tmOf tl) n=!Jt7 ((numF p.Wd.toNat (J3t p.N ways (stAt p script n) who)).getD nd []) tl:=by
 have hz:=Jlo h hs n hw
 have hh:=h.here hs n
 have hw1:=h.Wd
 have hB:J3t p.N ways (stAt p script n) who=J1u p.N.toNat ways (J37 ((stAt p script n).ledOf who)):=by
  have hL:(stAt p script n).ledOf who ∈ (stAt p script n).led:=J0i (by rw [hh.reach.inv.llen];exact hw) []
  exact (Jh9 ways (hh.reach.inv.ledN _ hL).1 (fun e he=>(hh.know.ledT _ hL e he).2)).symm
 unfold Jsu Jg4
 rw [J7g,Jte (by omega) (by omega) hl (by
  rw [hB]
  exact Jti h (fun m hm=>⟨hz.node m hm,hz.zw m hm⟩) hnd)]
 rfl
theorem Jtv {p:Plan} {ways:Ways} {who:Nat} (st:St):(numF p.Wd.toNat (J3t p.N ways st who)).length=p.N.toNat:=by
 unfold numF J3t
 rw [Y0g]
 unfold J1u
 rw [Y0g,List.length_range]
theorem Jtq {p:Plan} {ways:Ways} (h:Fit p ways) {who nd:Nat} (st:St):∀ s ∈ (numF p.Wd.toNat (J3t p.N ways st who)).getD nd [],s.length=p.Wd.toNat:=fun s hs=>by
 rw [J7g] at hs
 obtain ⟨t,_,rfl⟩:=Yz4.1 hs
 exact J0u t (by have:=h.Wd;omega)
end Go.Proofs.YtbkfnmgkcgnifaaGreat.Mdl
namespace Go.Proofs.YtbkfnmgkcgnifaaGreat
open Go.RowKit Go.Shelf W1 W2 Mdl
theorem Jtc (A B:Option Addr) (cA cB:Nat) (f:List (List Int)) (t:List Int) (w:World) (hl:kLI.C w A f.length f) (hm:kI.C w B t.length t) (hlen:∀ s ∈ f,s.length=t.length) :
  Calls Tryz.prog 89 #[.slice A f.length cA,.slice B t.length cB] w fun e w'=>e=.returned (.bool (Jt7 f t))∧Below w.heap.size w w':=by
 have HL:=Y00 hl
 have HM:=Y00 hm
 have hlm:=Kd.C_max hl
 have hmm:=Kd.C_max hm
 have HLN:=Y08 hlen
 clear hl hm hlen
 go_enter Tryz.func89,Tryz.ntmps89
 go_wp2_with fail
 go_loopw [5] (fun i wr=>∃ k:Nat,i=.int .i64 k∧k≤f.length∧J08 ((f.take k).any (Jsv t)=false∧Below w.heap.size w wr)) (fun i _=>f.length - (intOf i).toNat)
 case atStart=>exact ⟨0,rfl,Yz3 _,⟨rfl,Y0f _ _⟩⟩
 obtain ⟨k,rfl,hk,hX⟩:=hrel
 by_cases hlt:k<f.length
 ·have hkE:(k:Int)<f.length:=by omega
  have hk0:(0:Int)≤k:=by omega
  obtain ⟨ad,sA,sC,rfl,c1,d1,_⟩:=Jqx (Kd.c00 HL.out hX.out.2) hlt
  have HG:=Y08 (show (Jsv t f[k]=false→(f.take (k+1)).any (Jsv t)=false)∧(Jsv t f[k]=true→Jt7 f t=true) from ⟨Jts hlt hX.out.1,Jtw hlt⟩)
  have d2:=Kd.c00 HM.out hX.out.2
  have hs:f[k].length=t.length:=HLN.out _ (Y0l hlt)
  generalize f[k]=s at *
  have HC:=Y08 (Jra sA B sC cB s t wr d1 d2 hs)
  have HS:=Y08 hs
  clear d1 d2 hs
  go_wp2_with fail
  refine HC.out.mono ?_
  rintro e w4 ⟨rfl,hb⟩
  have HD:=Y00 (J01 hX.out.2 hX.out.2.size hb)
  have HQ:=Y08 (show Jsv t s=leL s t by unfold Jsv;rw [Y0r HS.out];rfl)
  clear hb
  cases hle:leL s t
  ·go_wp2_with fail
   exact ⟨⟨k+1,by go_num,by omega,⟨HG.out.1 (by rw [HQ.out,hle]),HD.out⟩⟩,by simp [intOf];omega⟩
  go_wp2_with fail
  go_ret
  exact ⟨by rw [HG.out.2 (by rw [HQ.out,hle])];rfl,HD.out⟩
 have hkE:¬ ((k:Int)<f.length):=by omega
 have HE:=Y08 (show Jt7 f t=false by
  have h:=hX.out.1
  rw [Y0t (by omega)] at h
  exact h)
 go_wp2_with fail
 go_ret
 exact ⟨by rw [HE.out];rfl,hX.out.2⟩
theorem Jtd (fA xA:Option Addr) (fC xC nd:Nat) (f:List (List (List Int))) (tl:List Int) (w:World) (hF:kLLI.C w fA f.length f) (hx:kI.C w xA tl.length tl) (hnd:nd<f.length) (hlen:∀ s ∈ f.getD nd [],s.length=tl.length) :
  Calls Tryz.prog 67 #[.slice fA f.length fC,.agg #[.int .i64 nd,.slice xA tl.length xC]] w fun e w'=>e=.returned (.bool (!Jt7 (f.getD nd []) tl))∧Below w.heap.size w w':=by
 obtain ⟨ad,sA,sC,rfl,c1,d1,_⟩:=Jpr hF hnd
 have e1:f.getD nd []=f[nd]:=by rw [Y01,Y05 hnd];rfl
 have hfm:=Kd.C_max hF
 rw [e1] at hlen ⊢
 have hndE:(nd:Int)<f.length:=by omega
 have hnd0:(0:Int)≤nd:=by omega
 generalize f[nd]=s at *
 have HL:=Y08 hlen
 have hb0:=J02 w (.cells #[.int .i64 nd,.slice xA tl.length xC] 57)
 have hblk:=Y0c w (.cells #[.int .i64 nd,.slice xA tl.length xC] 57)
 obtain ⟨c0,cx⟩:=bc2 hblk
 have c1:=J00 hb0 c1
 have HD:=Y00 (Y07 (Kd.c00 d1 hb0) (Y07 (Kd.c00 hx hb0) hb0))
 clear hF hx hlen d1 hb0 hblk e1
 go_enter Tryz.func67,Tryz.ntmps67
 go_upto_region 1 with fail
 generalize w.alloc (.cells #[.int .i64 nd,.slice xA tl.length xC] 57)=w1 at *
 refine sr1 10 (fun W'=>W'.cell? ⟨w.heap.size,0,none⟩=some (.int .i64 nd)∧W'.cell? ⟨w.heap.size,1,none⟩=some (.slice xA tl.length xC)∧W'.cell? (ad.add nd)=some (.slice sA s.length sC)) [] ⟨c0,cx,c1⟩ fun hJ0=>?_
 have hdr:=J05 (Y0f w1.heap.size w1)
 have HE:=Y00 (Y07 (Kd.c00 HD.out.1 hdr) (Y07 (Kd.c00 HD.out.2.1 hdr) (J01 HD.out.2.2 HD.out.2.2.size hdr)))
 clear hdr HD c0 cx c1
 generalize w1.drew=wd at *
 refine pv 0 ?_
 refine pv 1 ?_
 refine tv3 2 ?_
 refine pv 3 ?_
 refine tv3 4 ?_
 refine pv 5 ?_
 refine tv3 6 ?_
 refine oc 7 Tryz.func89 #[.slice sA s.length sC,.slice xA tl.length xC] ?_
 refine (Jtc sA xA sC xC s tl wd HE.out.1 HE.out.2.1 HL.out).mono ?_
 rintro e w2 ⟨rfl,hb⟩
 refine ⟨_,rfl,(st3 hb hJ0),fun hJ0=>?_⟩
 have HZ:=Y00 (J01 HE.out.2.2 HE.out.2.2.size hb)
 clear hb HE
 refine nm0 _ ?_
 generalize hpb:Jt7 s tl=pb at *
 have HPB:=Y08 hpb
 clear hpb
 refine pv 8 ?_
 refine pv 9 ?_
 refine dn0 ?_
 go_wp2_with fail
 go_ret
 exact ⟨by rw [HPB.out];rfl,HZ.out⟩
end Go.Proofs.YtbkfnmgkcgnifaaGreat
namespace Go.Proofs.YtbkfnmgkcgnifaaGreat
open Go.RowKit Go.Shelf W1 W2 Mdl Go.ChangeMaps
theorem Jt6 {p:Plan} {ways:Ways} (h:Fit p ways) (eA mA sA:Option Addr) (eC mC sC:Nat) (script:List Int) (w0 w:World) (Zx:List (Nat × Array Value × TypeId)) (hb0:Below w0.heap.size w0 w) (hZx:OthB Zx w) (hp:J1v w0 p eA mA) :
  Calls Tryz.prog 66 #[J1q p eA eC mA mC,.slice sA script.length sC] w fun e w'=>∃ (G:RQ) (q:Nat→Nat→Value),e=.returned (stV ⟨p,eA,mA,sA,eC,mC,sC,script,G,p.workers.toNat⟩ 0 0 0 0)∧RunR w0 G p.workers.toNat w'.heap.size (toR p.Wd.toNat (stAt p script 0)) q w'∧OthB Zx w':=by
 have hwk:=h.Wk
 have hms:∀ m ∈ p.start,m.1.2.length=p.Wd.toNat∧0≤m.2∧m.2<p.workers.toNat:=fun m hm=>by
  have h1:=h.msg m hm
  have h2:=Jat h1
  simp only [J3g,Y0x,Y0y] at h1
  exact ⟨h2,by omega,by omega⟩
 have hb:=h.begin script
 have h8:=h.S8
 have he:stAt p script 0=J0s p.workers.toNat p.start script:=rfl
 rw [he,← hb]
 clear hb he h
 obtain ⟨N,Wd,E,wk,ms⟩:=p
 obtain ⟨W,rfl⟩:∃ W:Nat,wk=W:=⟨wk.toNat,(Y0k (by simp only at hwk;omega)).symm⟩
 simp only [Y06] at *
 exact Jkj N Wd E W ms eA mA sA eC mC sC script Wd.toNat w0 w Zx hb0 hZx hp ⟨by omega,by omega⟩ h8 hms
theorem Jtb {p:Plan} {ways:Ways} (h:Fit p ways) {script:List Int} (hs:script.length≤300) (eA mA sA:Option Addr) (eC mC sC:Nat) (w0 w:World) (G:RQ) (q:Nat→Nat→Value) (tk k:Nat) (hp:J1v w0 p eA mA) (hsc:kI.C w0 sA script.length script)
  (hR:RunR w0 G p.workers.toNat w.heap.size (toR p.Wd.toNat (stAt p script k)) q w) (hdr:(toR p.Wd.toNat (stAt p script k)).script=script.drop tk) (htk:tk≤900000) {st':St} (hst:J2j p.E p.workers.toNat (stAt p script k)=some st') (Zx:List (Nat × Array Value × TypeId)) (hZx:Je4 Zx w) :
  Calls Tryz.prog 68 #[stV ⟨p,eA,mA,sA,eC,mC,sC,script,G,p.workers.toNat⟩ tk (toR p.Wd.toNat (stAt p script k)).works (toR p.Wd.toNat (stAt p script k)).took (toR p.Wd.toNat (stAt p script k)).sent] w fun e w'=>∃ (q':Nat→Nat→Value) (tk':Nat),e=.returned (.tuple #[stV ⟨p,eA,mA,sA,eC,mC,sC,script,G,p.workers.toNat⟩ tk' (toR p.Wd.toNat (stAt p script (k+1))).works (toR p.Wd.toNat (stAt p script (k+1))).took (toR p.Wd.toNat (stAt p script (k+1))).sent,.bool true])∧tk'≤tk+17∧RunR w0 G p.workers.toNat w'.heap.size (toR p.Wd.toNat (stAt p script (k+1))) q' w'∧(toR p.Wd.toNat (stAt p script (k+1))).script=script.drop tk'∧Je4 Zx w':=by
 have h1:=h.step hs k
 rw [hst] at h1
 have hwk:=h.Wk
 have hwd:=h.Wd
 refine (Jmc w0 ⟨p,eA,mA,sA,eC,mC,sC,script,G,p.workers.toNat⟩ w.heap.size (toR p.Wd.toNat (stAt p script k)) q tk w p.Wd.toNat hR (Y0e _) (h.okR hs k) (show p.workers.toNat≤4 by omega) (Y0k (show 0≤p.workers by omega)).symm hp.hE (fun e he=>h.wide he) h.E16 hsc (show script.length≤1000 by omega) hdr (by omega) htk Zx hZx).mono ?_
 rintro e w' ⟨hoth,⟨hn,-⟩ | ⟨r',q',tk',hsm,he,htk',hr',hd'⟩⟩
 ·have hn:J60 p.E p.workers.toNat (toR p.Wd.toNat (stAt p script k))=none:=hn
  rw [h1] at hn;cases hn
 have hsm:J60 p.E p.workers.toNat (toR p.Wd.toNat (stAt p script k))=some r':=hsm
 have e1:=Jfo hst
 rw [h1] at hsm
 have e2:toR p.Wd.toNat st'=r':=Option.some.inj hsm
 rw [← e1] at e2
 subst e2
 exact ⟨q',tk',he,htk',hr',hd',hoth⟩
theorem Jtl {p:Plan} {ways:Ways} (h:Fit p ways) {script:List Int} (hs:script.length≤300) (k ww:Nat) (hww:ww<p.workers.toNat) (eA mA sA:Option Addr) (eC mC sC:Nat) (w0 w:World) (G:RQ) (lim:Nat) (q:Nat→Nat→Value) (tk:Nat) (hE:kE.C w eA p.E.length p.E)
  (hR:RunR w0 G p.workers.toNat lim (toR p.Wd.toNat (stAt p script k)) q w) :
  Calls Tryz.prog 54 #[stV ⟨p,eA,mA,sA,eC,mC,sC,script,G,p.workers.toNat⟩ tk (toR p.Wd.toNat (stAt p script k)).works (toR p.Wd.toNat (stAt p script k)).took (toR p.Wd.toNat (stAt p script k)).sent,.int .i64 ww] w fun e w'=>∃ (tA:Option Addr) (ml tC:Nat),e=.returned (.slice tA ml tC)∧Below w.heap.size w w' ∧
   Calls Tryz.prog 50 #[.agg #[.int .i64 p.N,.int .i64 p.Wd,.slice eA p.E.length eC],.slice tA ml tC] w' fun e w''=>∃ (A:Option Addr) (c:Nat),e=.returned (.slice A (numF p.Wd.toNat (J3t p.N ways (stAt p script k) ww)).length c)∧kLLI.C w'' A (numF p.Wd.toNat (J3t p.N ways (stAt p script k) ww)).length (numF p.Wd.toNat (J3t p.N ways (stAt p script k) ww))∧Below w'.heap.size w' w'':=by
 have h0:=h.here hs k
 have hmk:=Jlo h hs k hww
 have hft:frF p.N.toNat p.E (J37 ((stAt p script k).ledOf ww))=J3t p.N ways (stAt p script k) ww:=(Jgk h hmk.node).trans (Jh9 ways (h0.reach.inv.ledN _ (J0i (by rw [h0.reach.inv.llen];exact hww) [])).1 (h.simOk hs k |>.nz _ (J0i (by rw [h0.reach.inv.llen];exact hww) [])))
 have hms:J1s ((toR p.Wd.toNat (stAt p script k)).led.getD ww [])=(J37 ((stAt p script k).ledOf ww)).map (J0h p.Wd.toNat):=(congrArg J1s (J2y (J11 p.Wd.toNat) (stAt p script k).led ww [] [] rfl)).trans (Jh8 p.Wd.toNat ((stAt p script k).ledOf ww))
 have hN1:=h.N
 have hW1:=h.Wd
 have hNI:(p.N.toNat:Int)=p.N:=Y0k (by omega)
 have hWI:(p.Wd.toNat:Int)=p.Wd:=Y0k (by omega)
 refine (Jeg w0 ⟨p,eA,mA,sA,eC,mC,sC,script,G,p.workers.toNat⟩ lim (toR p.Wd.toNat (stAt p script k)) q tk (toR p.Wd.toNat (stAt p script k)).works (toR p.Wd.toNat (stAt p script k)).took (toR p.Wd.toNat (stAt p script k)).sent p.Wd.toNat ww w hR (h.okR hs k) hww).mono ?_
 rintro e w5 ⟨v5,rfl,hN⟩
 rw [hms] at hN
 obtain ⟨tA,tC,rfl,-,hTC⟩:=Kd.c09 hN.1
 rw [Y0g] at hTC ⊢
 have hTC2:=(J6l (FzUp.below hN.2)).C hTC
 refine ⟨tA,_,tC,rfl,hN.2,?_⟩
 have h:=J7t w0 p.N.toNat p.Wd.toNat p.E eA eC (J37 ((stAt p script k).ledOf ww)) tA tC w5 (Kd.c00 hE hN.2) (by omega) (by omega) (by omega) (by omega) h.E16 (fun e he=>by rw [hNI,hWI];exact h.ok e he) hTC2 hmk.len (fun m hm=>by rw [hNI];exact hmk.node m hm) hmk.zw
 rw [hNI,hWI,hft] at h
 refine h.mono ?_
 rintro e w6 ⟨v6,rfl,hR6,hb6⟩
 obtain ⟨fA,fC,rfl,-,hFC⟩:=Kd.c09 hR6
 exact ⟨fA,fC,rfl,hFC,hb6⟩
theorem Jsy {N Wd nd:Int} {tl:List Int} : J6x N Wd (nd,tl)=(J3y nd 0 (N - 1)&&J9o tl Wd 1073741824):=by
 have h1:decide (0≤nd∧nd<N)=J3y nd 0 (N - 1):=by
  rw [Bool.eq_iff_iff,decide_eq_true_iff,J22];omega
 have h2:J42 1073741824 tl=tl.all fun x=>J3y x 0 1073741824:=by
  unfold J42
  rw [Bool.eq_iff_iff,Bool.not_eq_true',List.any_eq_false,List.all_eq_true]
  refine forall_congr' fun x=>forall_congr' fun _=>?_
  rw [J22]
  simp [outB]
 unfold J6x J9o
 simp only [h1,h2]
theorem Jth {p:Plan} {ways:Ways} (h:Fit p ways) {script:List Int} (hs:script.length≤300) (k ww kd:Nat) (hww:ww<p.workers.toNat) (hkd:kd<p.N.toNat) (tl:List Int) (htl:tl.length=p.Wd.toNat) (fA xA:Option Addr) (fC xC:Nat) (w:World) (hF:kLLI.C w fA (numF p.Wd.toNat (J3t p.N ways (stAt p script k) ww)).length (numF p.Wd.toNat (J3t p.N ways (stAt p script k) ww))) (hx:kI.C w xA tl.length tl) :
  Calls Tryz.prog 67 #[.slice fA (numF p.Wd.toNat (J3t p.N ways (stAt p script k) ww)).length fC,.agg #[.int .i64 kd,.slice xA tl.length xC]] w fun e w'=>e=.returned (.bool (Jsu p ways script ww ((kd:Int),tmOf tl) k))∧Below w.heap.size w w':=by
 rw [Jtg h hs hww hkd htl k]
 exact Jtd fA xA fC xC kd _ tl w hF hx (by rw [Jtv];exact hkd) (fun s hs=>(Jtq h (stAt p script k) s hs).trans htl.symm)
theorem Jto {p:Plan} {ways:Ways} (h:Fit p ways) {script:List Int} (hs:script.length≤300) {k:Nat} {st':St} (hst:J2j p.E p.workers.toNat (stAt p script k)=some st'):phi (stAt p script (k+1))<phi (stAt p script k):=by
 rw [Jfo hst]
 exact ((h.here hs k).reach.step (by have:=h.Wk;omega) (fun e he=>(h.in_ e he).2.1) hst).2
structure TdAt (w0:World) (V:SV) (sb pb:Nat) (nd:Int) (xA:Option Addr) (xl xC tk:Nat) (r:RS) (q:Nat→Nat→Value) (w:World):Prop where
 run:RunR w0 V.G V.W w.heap.size r q w
 box:w.heap[sb]?=some (.cells (stC V tk r.works r.took r.sent) 112 (0,0))
 pl:w.heap[pb]?=some (.cells #[.int .i64 V.p.N,.int .i64 V.p.Wd,.slice V.eA V.p.E.length V.eC,.int .i64 V.p.workers,.slice V.mA V.p.start.length V.mC] 27 (0,0))
 mrk:w.heap[pb+1]?=some (.cells #[.int .i64 nd,.slice xA xl xC] 57 (0,0))
 drop:r.script=V.script.drop tk
 low:w0.heap.size≤pb∧pb+1<sb
theorem TdAt.drew {w0 w w':World} {V:SV} {sb pb:Nat} {nd:Int} {xA:Option Addr} {xl xC tk:Nat} {r:RS} {q:Nat→Nat→Value} (h:TdAt w0 V sb pb nd xA xl xC tk r q w) (hb:Below w.heap.size w w'):TdAt w0 V sb pb nd xA xl xC tk r q w' :=
 ⟨(h.run.c08 hb).relim (.inl hb.size),J04 h.box hb,J04 h.pl hb,J04 h.mrk hb,h.drop,h.low⟩
theorem Jtu {w0 w:World} {V:SV} {sb pb:Nat} {nd:Int} {xA:Option Addr} {xl xC tk:Nat} {r:RS} {q:Nat→Nat→Value} (h:TdAt w0 V sb pb nd xA xl xC tk r q w):Je4 [(sb,stC V tk r.works r.took r.sent,112),(pb,#[.int .i64 V.p.N,.int .i64 V.p.Wd,.slice V.eA V.p.E.length V.eC,.int .i64 V.p.workers,.slice V.mA V.p.start.length V.mC],27),(pb+1,#[.int .i64 nd,.slice xA xl xC],57)] w:=fun z hz=>by
 rcases Yz1.1 hz with hz | hz
 ·rw [hz];exact ⟨h.box,rfl,rfl,rfl,rfl⟩
 rcases Yz1.1 hz with hz | hz
 ·rw [hz];exact ⟨h.pl,rfl,rfl,rfl,rfl⟩
 rw [Y11.1 hz];exact ⟨h.mrk,rfl,rfl,rfl,rfl⟩
theorem TdAt.others {w0 w w':World} {V:SV} {sb pb:Nat} {nd:Int} {xA:Option Addr} {xl xC tk:Nat} {r:RS} {q:Nat→Nat→Value} (h:TdAt w0 V sb pb nd xA xl xC tk r q w) {r':RS} {q':Nat→Nat→Value} {tk':Nat} (ho:Je4 [(sb,stC V tk r.works r.took r.sent,112),(pb,#[.int .i64 V.p.N,.int .i64 V.p.Wd,.slice V.eA V.p.E.length V.eC,.int .i64 V.p.workers,.slice V.mA V.p.start.length V.mC],27),(pb+1,#[.int .i64 nd,.slice xA xl xC],57)] w') (hr:RunR w0 V.G V.W w'.heap.size r' q' w') (hd:r'.script=V.script.drop tk')
  {v:World} (hb:v.heap[sb]?=some (.cells (stC V tk' r'.works r'.took r'.sent) 112 (0,0))) (hg:w'.grownBy v (some sb)):TdAt w0 V sb pb nd xA xl xC tk' r' q' v:=by
 have h0:=(ho _ Y03).1
 have h1:=(ho _ (Y04 _ Y03)).1
 have h2:=(ho _ (Y04 _ (Y04 _ Y03))).1
 have hl:=h.low
 have t4:J0m w' sb 112:=⟨_,h0⟩
 exact ⟨(hr.set_new hg (fun k hk=>by injection hk with hk;subst hk;exact ⟨by omega,.of t4 rfl rfl rfl,Yz2 t4 rfl,Yz2 t4 rfl,Yz2 t4 rfl,Yz2 t4 rfl⟩)).relim (.inr (Y0e _)),hb,J0x h1 hg (fun he=>by injection he with he;omega),J0x h2 hg (fun he=>by injection he with he;omega),hd,h.low⟩
theorem Jsz {w:World} {b:Nat} {t:TypeId} {a0 a1 a2 a3 a4 a5 a6 a7 a8 a9 a10 a11 a12:Value} (h:w.heap[b]?=some (.cells #[a0,a1,a2,a3,a4,a5,a6,a7,a8,a9,a10,a11,a12] t (0,0))) :
  w.cell? ⟨b,0,none⟩=some a0∧w.cell? ⟨b,1,none⟩=some a1∧w.cell? ⟨b,2,none⟩=some a2∧w.cell? ⟨b,3,none⟩=some a3∧w.cell? ⟨b,4,none⟩=some a4∧w.cell? ⟨b,5,none⟩=some a5∧w.cell? ⟨b,6,none⟩=some a6∧w.cell? ⟨b,7,none⟩=some a7∧w.cell? ⟨b,8,none⟩=some a8∧w.cell? ⟨b,9,none⟩=some a9∧w.cell? ⟨b,10,none⟩=some a10∧w.cell? ⟨b,11,none⟩=some a11∧w.cell? ⟨b,12,none⟩=some a12 :=
 ⟨(J03 h 0).trans rfl,(J03 h 1).trans rfl,(J03 h 2).trans rfl,(J03 h 3).trans rfl,(J03 h 4).trans rfl,(J03 h 5).trans rfl,(J03 h 6).trans rfl,(J03 h 7).trans rfl,(J03 h 8).trans rfl,(J03 h 9).trans rfl,(J03 h 10).trans rfl,(J03 h 11).trans rfl,(J03 h 12).trans rfl⟩
theorem Jtp {w:World} {b:Nat} {t:TypeId} {cs:Array Value} (h:w.heap[b]?=some (.cells cs t (0,0))) :
  w.frozen? ⟨b,0,none⟩=false∧w.frozen? ⟨b,1,none⟩=false∧w.frozen? ⟨b,2,none⟩=false∧w.frozen? ⟨b,3,none⟩=false∧w.frozen? ⟨b,4,none⟩=false∧w.frozen? ⟨b,5,none⟩=false∧w.frozen? ⟨b,6,none⟩=false∧w.frozen? ⟨b,7,none⟩=false∧w.frozen? ⟨b,8,none⟩=false∧w.frozen? ⟨b,9,none⟩=false∧w.frozen? ⟨b,10,none⟩=false∧w.frozen? ⟨b,11,none⟩=false∧w.frozen? ⟨b,12,none⟩=false :=
 ⟨J07 h 0,J07 h 1,J07 h 2,J07 h 3,J07 h 4,J07 h 5,J07 h 6,J07 h 7,J07 h 8,J07 h 9,J07 h 10,J07 h 11,J07 h 12⟩
theorem Jsx {w:World} {b:Nat} {t:TypeId} {a0 a1 a2 a3 a4:Value} (h:w.heap[b]?=some (.cells #[a0,a1,a2,a3,a4] t (0,0))) :
  w.cell? ⟨b,0,none⟩=some a0∧w.cell? ⟨b,1,none⟩=some a1∧w.cell? ⟨b,2,none⟩=some a2∧w.cell? ⟨b,3,none⟩=some a3∧w.cell? ⟨b,4,none⟩=some a4 :=
 ⟨(J03 h 0).trans rfl,(J03 h 1).trans rfl,(J03 h 2).trans rfl,(J03 h 3).trans rfl,(J03 h 4).trans rfl⟩
theorem Jt3 {w:World} {b:Nat} {t:TypeId} {a0 a1:Value} (h:w.heap[b]?=some (.cells #[a0,a1] t (0,0))):w.cell? ⟨b,0,none⟩=some a0∧w.cell? ⟨b,1,none⟩=some a1:=⟨(J03 h 0).trans rfl,(J03 h 1).trans rfl⟩
theorem Jta (p:Plan) (eA mA sA xA:Option Addr) (eC mC sC xC:Nat) (script:List Int) (who nd:Int) (tl:List Int) (w:World) (hp:J1v w p eA mA) (hsC:kI.C w sA script.length script) (hsl:script.length≤4611686018427387904) (hxC:kI.C w xA tl.length tl) :
  Calls Tryz.prog 27 #[J1q p eA eC mA mC,.slice sA script.length sC,.int .i64 who,.agg #[.int .i64 nd,.slice xA tl.length xC]] w fun e w'=>e=.returned (.tuple #[.int .i64 (Je9 (Jb5 p script who (nd,tl))).1,.int .i64 (Je9 (Jb5 p script who (nd,tl))).2])∧Below w.heap.size w w':=by
 obtain ⟨w1,he1,hb0,hgb,hrb⟩:=J9f w #[.int .i64 p.N,.int .i64 p.Wd,.slice eA p.E.length eC,.int .i64 p.workers,.slice mA p.start.length mC] #[.int .i64 nd,.slice xA tl.length xC] 27 57
 have HP0:=Y00 (Y07 hp (Y07 hsC hxC))
 have HP:=Y00 (Y07 (hp.below hb0) (Y07 (Kd.c00 hxC hb0) (Y07 hb0 (Y07 hgb hrb))))
 have HAS:=Y08 (J5a p eA mA sA eC mC sC script 0 who _ HP.out.1 hsl)
 obtain ⟨p0,p1,p2,p3,p4⟩:=Jsx hgb
 simp only [J1q] at HAS ⊢
 clear hp hsC hb0 hgb hrb hxC
 go_enter Tryz.func27,Tryz.ntmps27
 go_upto_region 1 with fail
 clear he1
 go_wp2_with fail
 refine HAS.out.mono ?_
 rintro e w2 ⟨rfl,hb2⟩
 have HP2:=Y00 (Y07 (HP.out.1.below hb2) (Y07 (Kd.c00 HP.out.2.1 hb2) (Y07 (J01 HP.out.2.2.1 HP.out.2.2.1.size hb2) (Y07 (J04 HP.out.2.2.2.1 hb2) (J04 HP.out.2.2.2.2 hb2)))))
 clear HP HAS hb2 p0 p1 p2 p3 p4
 cases hbg:J16 p script 0 who with
 | error c =>
  have HX:=Y08 (show Jb5 p script who (nd,tl)=.error c by unfold Jb5;rw [hbg])
  have HA:=Y08 (show askP p script 0 who=c by unfold askP;rw [hbg])
  obtain ⟨hc0,hc1⟩:=J4r hbg
  clear hbg
  rw [HA.out]
  go_wp2_with fail
  refine bodyPost_ret (v:=.tuple #[.int .i64 0,.int .i64 c]) (by simp [results,Tryz.results27,go_sem]) rfl ⟨by rw [HX.out];rfl,HP2.out.2.2.1⟩
 | ok ways=>?_
 have HF:=Y08 (begun_ok hbg)
 obtain ⟨ww,rfl⟩:∃ ww:Nat,who=ww:=⟨who.toNat,(Y0k HF.out.2.2.2.1).symm⟩
 have HWW:=Y08 (show ww<p.workers.toNat by have:=HF.out.2.2.2.2;omega)
 have HBAD:=Y08 (fun (hn:J6x p.N p.Wd (nd,tl)=false)=>show Jb5 p script ww (nd,tl)=.error 1 by simp only [Jb5,hbg];rw [if_neg (by simp [hn])])
 have HOK:=Y08 (fun (hn:J6x p.N p.Wd (nd,tl)=true)=>show Jb5 p script ww (nd,tl)=.ok (J7q p.E p.workers.toNat p.N ways ww (nd,tmOf tl) 1233 (J0s p.workers.toNat p.start script) 0) by simp only [Jb5,hbg];rw [if_pos hn,Y06])
 have HA:=Y08 (show askP p script 0 ww=0 by unfold askP;rw [hbg])
 have HWR:=Y08 (show IntKind.i64.wrap (p.N - 1)=p.N - 1 by have:=HF.out.1.N;rw [Y0b];omega)
 clear hbg
 obtain ⟨p0,p1,p2,p3,p4⟩:=Jsx HP2.out.2.2.2.1
 obtain ⟨x0,x1⟩:=Jt3 HP2.out.2.2.2.2
 rw [HA.out]
 have hwr:=HWR.out
 cases hL:J3y nd 0 (p.N - 1) with
 | false =>
  have HX:=Y08 (HBAD.out (by rw [Jsy,hL];rfl))
  go_wp2_with fail
  refine (J14 nd 0 (p.N - 1) w2).mono ?_
  rintro e w3 ⟨rfl,rfl⟩
  rw [hL]
  go_wp2_with fail
  refine bodyPost_ret (v:=.tuple #[.int .i64 0,.int .i64 1]) (by simp [results,Tryz.results27,go_sem]) rfl ⟨by rw [HX.out];rfl,HP2.out.2.2.1⟩
 | true=>?_
 cases hM:J9o tl p.Wd 1073741824 with
 | false =>
  have HX:=Y08 (HBAD.out (by rw [Jsy,hL,hM];rfl))
  go_wp2_with fail
  refine (J14 nd 0 (p.N - 1) w2).mono ?_
  rintro e w3 ⟨rfl,rfl⟩
  rw [hL]
  go_wp2_with fail
  refine (J3x xA xC tl p.Wd 1073741824 w2 HP2.out.2.1).mono ?_
  rintro e w3 ⟨rfl,rfl⟩
  rw [hM]
  go_wp2_with fail
  refine bodyPost_ret (v:=.tuple #[.int .i64 0,.int .i64 1]) (by simp [results,Tryz.results27,go_sem]) rfl ⟨by rw [HX.out];rfl,HP2.out.2.2.1⟩
 | true=>?_
 have HX:=Y08 (HOK.out (by rw [Jsy,hL,hM];rfl))
 have hnd:=J22.1 hL
 obtain ⟨kd,rfl⟩:∃ kd:Nat,nd=kd:=⟨nd.toNat,(Y0k hnd.1).symm⟩
 have HKD:=Y08 (show kd<p.N.toNat by omega)
 have HTL:=Y08 (show tl.length=p.Wd.toNat by
  simp only [J9o,Y0x,Y0y] at hM
  omega)
 have HBG:=Y08 (Jt6 HF.out.1 eA mA sA eC mC sC script w w2 [(w.heap.size,#[.int .i64 p.N,.int .i64 p.Wd,.slice eA p.E.length eC,.int .i64 p.workers,.slice mA p.start.length mC],27),(w.heap.size+1,#[.int .i64 kd,.slice xA tl.length xC],57)] HP2.out.2.2.1 (fun x hx=>by
  rcases Yz1.1 hx with hx | hx
  ·rw [hx];exact ⟨HP2.out.2.2.2.1,rfl,rfl,rfl⟩
  rw [Y11.1 hx];exact ⟨HP2.out.2.2.2.2,rfl,rfl,rfl⟩) HP0.out.1)
 simp only [J1q] at HBG
 clear hnd
 go_wp2_with fail
 refine (J14 kd 0 (p.N - 1) w2).mono ?_
 rintro e w3 ⟨rfl,rfl⟩
 rw [hL]
 go_wp2_with fail
 refine (J3x xA xC tl p.Wd 1073741824 w2 HP2.out.2.1).mono ?_
 rintro e w3 ⟨rfl,rfl⟩
 rw [hM]
 clear hL hM hwr
 go_wp2_with fail
 refine HBG.out.mono ?_
 rintro e w3 ⟨G,q,rfl,hrun,hoth⟩
 clear HBG p0 p1 p2 p3 p4 x0 x1
 go_upto_region 7 with fail
 have H3:=Y00 (show TdAt w ⟨p,eA,mA,sA,eC,mC,sC,script,G,p.workers.toNat⟩ w3.heap.size w.heap.size kd xA tl.length xC 0 (toR p.Wd.toNat (stAt p script 0)) q (w3.alloc (.cells (stC ⟨p,eA,mA,sA,eC,mC,sC,script,G,p.workers.toNat⟩ 0 0 0 0) 112)) from by
  have hb:=J02 w3 (.cells (stC ⟨p,eA,mA,sA,eC,mC,sC,script,G,p.workers.toNat⟩ 0 0 0 0) 112)
  have h1:=(hoth _ Y03).1
  have h2:=(hoth _ (Y04 _ Y03)).1
  exact ⟨(hrun.c08 hb).relim (.inr (Y0e _)),Y0c w3 _,J04 h1 hb,J04 h2 hb,rfl,⟨Y0e _,J0q h2⟩⟩)
 clear hrun hoth
 generalize w3.alloc (.cells _ 112)=w4 at *
 generalize w3.heap.size=sb at *
 go_wp2_with fail
 go_loopw [12,13] (fun g ix wr=>∃ (k tk:Nat) (q:Nat→Nat→Value),g=.bool true∧ix=.int .i64 k∧tk≤17*k∧J08 (TdAt w ⟨p,eA,mA,sA,eC,mC,sC,script,G,p.workers.toNat⟩ sb w.heap.size kd xA tl.length xC tk (toR p.Wd.toNat (stAt p script k)) q wr∧k+phi (stAt p script k)≤1232∧∀ j,j<k→Jsu p ways script ww ((kd:Int),tmOf tl) j=false)) (fun _ ix _=>1300 - (intOf ix).toNat)
 case atStart=>exact ⟨0,0,q,rfl,rfl,Y0e _,H3.out,by have:=(HF.out.1.here HF.out.2.1 0).reach.phi;omega,fun j hj=>absurd hj (Nat.not_lt_zero j)⟩
 clear H3
 obtain ⟨k,tk,q',rfl,rfl,htk,hX⟩:=hrel
 have hk12:k≤1232:=by have:=hX.out.2.1;omega
 have HPH:=Y08 hX.out.2
 have HT:=Y00 hX.out.1
 clear hX
 have hpl:wr.heap[w.heap.size]?=some (.cells (pC p eA mA eC mC) 27 (0,0)):=HT.out.pl
 have hbx:wr.heap[sb]?=some (.cells #[.int .i64 p.N,.int .i64 p.Wd,.slice eA p.E.length eC,.int .i64 p.workers,.slice mA p.start.length mC,.slice (some ⟨G.hb,0,none⟩) p.workers.toNat G.hc,.slice (some ⟨G.lb,0,none⟩) p.workers.toNat G.lc,.slice (some ⟨G.nb,0,none⟩) p.workers.toNat G.nc,.slice sA script.length sC,.int .i64 tk,.int .i64 (toR p.Wd.toNat (stAt p script k)).works,.int .i64 (toR p.Wd.toNat (stAt p script k)).took,.int .i64 (toR p.Wd.toNat (stAt p script k)).sent] 112 (0,0)):=HT.out.box
 have hmk:wr.heap[w.heap.size+1]?=some (.cells #[.int .i64 kd,.slice xA tl.length xC] 57 (0,0)):=HT.out.mrk
 go_upto_region 10 with fail
 refine sr1 8 (fun V=>V.heap[w.heap.size]?=some (.cells #[.int .i64 p.N,.int .i64 p.Wd,.slice eA p.E.length eC,.int .i64 p.workers,.slice mA p.start.length mC] 27 (0,0))∧V.heap[sb]?=some (.cells #[.int .i64 p.N,.int .i64 p.Wd,.slice eA p.E.length eC,.int .i64 p.workers,.slice mA p.start.length mC,.slice (some ⟨G.hb,0,none⟩) p.workers.toNat G.hc,.slice (some ⟨G.lb,0,none⟩) p.workers.toNat G.lc,.slice (some ⟨G.nb,0,none⟩) p.workers.toNat G.nc,.slice sA script.length sC,.int .i64 tk,.int .i64 (toR p.Wd.toNat (stAt p script k)).works,.int .i64 (toR p.Wd.toNat (stAt p script k)).took,.int .i64 (toR p.Wd.toNat (stAt p script k)).sent] 112 (0,0))∧V.heap[w.heap.size+1]?=some (.cells #[.int .i64 kd,.slice xA tl.length xC] 57 (0,0))) [] ⟨hpl,hbx,hmk⟩ fun hJ0=>?_
 have HT2:=Y00 (HT.out.drew (J05 (Y0f wr.heap.size wr)))
 clear HT hpl hbx hmk
 generalize wr.drew=wd at *
 have HBF:=Y08 (Jtl HF.out.1 HF.out.2.1 k ww HWW.out eA mA sA eC mC sC w wd G wd.heap.size q' tk (Kd.c00 HP0.out.1.hE HT2.out.run.below) HT2.out.run)
 refine pv 0 ?_
 refine pv 3 ?_
 refine tv3 1 ?_ (hy:=by exact .inl ⟨by rfl,by rintro w' ⟨s0,s1,s2⟩;obtain ⟨c0,c1,c2,c3,c4⟩:=Jsx s0;go_simp;with_reducible rfl⟩)
 refine tv3 2 ?_ (hy:=by exact .inl ⟨by rfl,by rintro w' ⟨s0,s1,s2⟩;obtain ⟨c0,c1,c2,c3,c4,c5,c6,c7,c8,c9,c10,c11,c12⟩:=Jsz s1;go_simp;with_reducible rfl⟩)
 refine tv3 6 ?_ (hy:=by exact .inl ⟨by rfl,by rintro w' ⟨s0,s1,s2⟩;obtain ⟨c0,c1⟩:=Jt3 s2;go_simp;with_reducible rfl⟩)
 refine oc 4 Tryz.func54 #[stV ⟨p,eA,mA,sA,eC,mC,sC,script,G,p.workers.toNat⟩ tk (toR p.Wd.toNat (stAt p script k)).works (toR p.Wd.toNat (stAt p script k)).took (toR p.Wd.toNat (stAt p script k)).sent,.int .i64 ww] ?_
 refine HBF.out.mono ?_
 rintro e w5 ⟨tA,ml,tC,rfl,hb5,hFR⟩
 have HFR:=Y08 hFR
 have HB5:=Y00 hb5
 refine ⟨_,rfl,⟨J04 hJ0.1 hb5,J04 hJ0.2.1 hb5,J04 hJ0.2.2 hb5⟩,fun hJ0=>?_⟩
 clear hb5 hFR HBF
 refine nm0 _ ?_
 refine oc 5 Tryz.func50 #[.agg #[.int .i64 p.N,.int .i64 p.Wd,.slice eA p.E.length eC],.slice tA ml tC] ?_
 refine HFR.out.mono ?_
 rintro e w6 ⟨fA,fC,rfl,hFC,hb6⟩
 have HB6:=Y00 (J01 HB5.out HB5.out.size hb6)
 have HOC:=Y08 (Jth HF.out.1 HF.out.2.1 k ww kd HWW.out HKD.out tl HTL.out fA xA fC xC w6 hFC (Kd.c00 HP0.out.2.2 (J01 HT2.out.run.below HT2.out.run.below.size HB6.out)))
 refine ⟨_,rfl,⟨J04 hJ0.1 hb6,J04 hJ0.2.1 hb6,J04 hJ0.2.2 hb6⟩,fun hJ0=>?_⟩
 generalize (numF p.Wd.toNat (J3t p.N ways (stAt p script k) ww)).length=fl at *
 clear hb6 hFC HFR HB5
 refine nm0 _ ?_
 refine oc 7 Tryz.func67 #[.slice fA fl fC,.agg #[.int .i64 kd,.slice xA tl.length xC]] ?_
 refine HOC.out.mono ?_
 rintro e w7 ⟨rfl,hb7⟩
 have HT7:=Y00 (HT2.out.drew (J01 HB6.out HB6.out.size hb7))
 refine ⟨_,rfl,⟨J04 hJ0.1 hb7,J04 hJ0.2.1 hb7,J04 hJ0.2.2 hb7⟩,fun hJ0=>?_⟩
 clear hb7 HOC HB6 HT2
 refine nm0 _ ?_
 refine dn0 ?_
 clear hJ0
 cases hov:Jsu p ways script ww ((kd:Int),tmOf tl) k with
 | true =>
  have HZ:=Y08 (Jtt HF.out.1 HF.out.2.1 HWW.out (k:=k) (by omega) HPH.out.2 hov)
  clear hov
  go_wp2_with fail
  refine bodyPost_ret (v:=.tuple #[.int .i64 k,.int .i64 0]) (by simp [results,Tryz.results27,go_sem]) rfl ⟨by rw [HX.out,HZ.out];rfl,HT7.out.run.below⟩
 | false=>?_
 obtain ⟨st',hst⟩:=Jtf HF.out.1 HF.out.2.1 HWW.out hov
 have HPS:=Y08 (Jto HF.out.1 HF.out.2.1 hst)
 have HOV:=Y08 hov
 have HST:=Y08 (Jtb HF.out.1 HF.out.2.1 eA mA sA eC mC sC w w7 G q' tk k HP0.out.1 HP0.out.2.1 HT7.out.run HT7.out.drop (by omega) hst _ (Jtu HT7.out))
 have hbx:w7.heap[sb]?=some (.cells #[.int .i64 p.N,.int .i64 p.Wd,.slice eA p.E.length eC,.int .i64 p.workers,.slice mA p.start.length mC,.slice (some ⟨G.hb,0,none⟩) p.workers.toNat G.hc,.slice (some ⟨G.lb,0,none⟩) p.workers.toNat G.lc,.slice (some ⟨G.nb,0,none⟩) p.workers.toNat G.nc,.slice sA script.length sC,.int .i64 tk,.int .i64 (toR p.Wd.toNat (stAt p script k)).works,.int .i64 (toR p.Wd.toNat (stAt p script k)).took,.int .i64 (toR p.Wd.toNat (stAt p script k)).sent] 112 (0,0)):=HT7.out.box
 obtain ⟨c0,c1,c2,c3,c4,c5,c6,c7,c8,c9,c10,c11,c12⟩:=Jsz hbx
 clear hst hov hbx
 go_wp2_with fail
 refine HST.out.mono ?_
 rintro e w8 ⟨q8,tk8,rfl,htk8,hrun8,hdr8,hoth8⟩
 have hbx:w8.heap[sb]?=some (.cells #[.int .i64 p.N,.int .i64 p.Wd,.slice eA p.E.length eC,.int .i64 p.workers,.slice mA p.start.length mC,.slice (some ⟨G.hb,0,none⟩) p.workers.toNat G.hc,.slice (some ⟨G.lb,0,none⟩) p.workers.toNat G.lc,.slice (some ⟨G.nb,0,none⟩) p.workers.toNat G.nc,.slice sA script.length sC,.int .i64 tk,.int .i64 (toR p.Wd.toNat (stAt p script k)).works,.int .i64 (toR p.Wd.toNat (stAt p script k)).took,.int .i64 (toR p.Wd.toNat (stAt p script k)).sent] 112 (0,0)):=(hoth8 _ Y03).1
 have HR8:=Y00 (Y07 hrun8 (Y07 hdr8 hoth8))
 clear c0 c1 c2 c3 c4 c5 c6 c7 c8 c9 c10 c11 c12 hrun8 hdr8 hoth8 HST
 obtain ⟨z0,z1,z2,z3,z4,z5,z6,z7,z8,z9,z10,z11,z12⟩:=Jsz hbx
 obtain ⟨y0,y1,y2,y3,y4,y5,y6,y7,y8,y9,y10,y11,y12⟩:=Jtp hbx
 have HBX:=Y08 hbx
 clear hbx
 go_wp2_with fail
 obtain ⟨hfin,hg⟩:=Jnk HBX.out (.int .i64 p.N) (.int .i64 p.Wd) (.slice eA p.E.length eC) (.int .i64 p.workers) (.slice mA p.start.length mC) (.slice (some ⟨G.hb,0,none⟩) p.workers.toNat G.hc) (.slice (some ⟨G.lb,0,none⟩) p.workers.toNat G.lc) (.slice (some ⟨G.nb,0,none⟩) p.workers.toNat G.nc) (.slice sA script.length sC) (.int .i64 tk8) (.int .i64 (toR p.Wd.toNat (stAt p script (k+1))).works) (.int .i64 (toR p.Wd.toNat (stAt p script (k+1))).took) (.int .i64 (toR p.Wd.toNat (stAt p script (k+1))).sent)
 generalize ((((((((((((w8.setCell ⟨sb,0,none⟩ (.int .i64 p.N)).setCell ⟨sb,1,none⟩ (.int .i64 p.Wd)).setCell ⟨sb,2,none⟩ (.slice eA p.E.length eC)).setCell ⟨sb,3,none⟩ (.int .i64 p.workers)).setCell ⟨sb,4,none⟩ (.slice mA p.start.length mC)).setCell ⟨sb,5,none⟩ (.slice (some ⟨G.hb,0,none⟩) p.workers.toNat G.hc)).setCell ⟨sb,6,none⟩ (.slice (some ⟨G.lb,0,none⟩) p.workers.toNat G.lc)).setCell ⟨sb,7,none⟩ (.slice (some ⟨G.nb,0,none⟩) p.workers.toNat G.nc)).setCell ⟨sb,8,none⟩ (.slice sA script.length sC)).setCell ⟨sb,9,none⟩ (.int .i64 tk8)).setCell ⟨sb,10,none⟩ (.int .i64 (toR p.Wd.toNat (stAt p script (k+1))).works)).setCell ⟨sb,11,none⟩ (.int .i64 (toR p.Wd.toNat (stAt p script (k+1))).took)).setCell ⟨sb,12,none⟩ (.int .i64 (toR p.Wd.toNat (stAt p script (k+1))).sent)=vF at *
 have HT9:=HT7.out.others HR8.out.2.2 HR8.out.1 HR8.out.2.1 hfin hg
 refine ⟨⟨k+1,tk8,q8,rfl,by go_num,by omega,HT9,?_,fun j hj=>?_⟩,by simp [intOf];omega⟩
 ·have:=HPS.out;have:=HPH.out.1;omega
 by_cases hjk:j=k
 ·subst hjk;exact HOV.out
 exact HPH.out.2 j (by omega)
end Go.Proofs.YtbkfnmgkcgnifaaGreat
namespace Go.Proofs.YtbkfnmgkcgnifaaGreat
open Go.RowKit Go.Shelf W1 W2 Mdl
theorem Jt5 (N Wd wk who nd:Int) (eA mA sA xA:Option Addr) (eL eC mL mC sL sC xL xC:Nat) (r er:Int) (w:World)
  (hT:∀ u,Below w.heap.size w u→Calls Tryz.prog 26 #[.agg #[.int .i64 N,.int .i64 Wd,.slice eA eL eC,.int .i64 wk,.slice mA mL mC],.slice sA sL sC,.int .i64 who,.agg #[.int .i64 nd,.slice xA xL xC]] u (fun e w'=>e=.returned (.tuple #[.int .i64 r,.int .i64 er])∧Below u.heap.size u w'))
  (hST:∀ u,Below w.heap.size w u→Calls Tryz.prog 27 #[.agg #[.int .i64 N,.int .i64 Wd,.slice eA eL eC,.int .i64 wk,.slice mA mL mC],.slice sA sL sC,.int .i64 who,.agg #[.int .i64 nd,.slice xA xL xC]] u (fun e w'=>e=.returned (.tuple #[.int .i64 r,.int .i64 er])∧Below u.heap.size u w')) :
  Calls Tryz.prog 5 #[.agg #[.int .i64 N,.int .i64 Wd,.slice eA eL eC,.int .i64 wk,.slice mA mL mC],.slice sA sL sC,.int .i64 who,.agg #[.int .i64 nd,.slice xA xL xC]] w fun e w'=>e=.returned (.bool true)∧Below w.heap.size w w':=by
 obtain ⟨w1,he1,hb0,hgb,hrb⟩:=J9f w #[.int .i64 N,.int .i64 Wd,.slice eA eL eC,.int .i64 wk,.slice mA mL mC] #[.int .i64 nd,.slice xA xL xC] 27 57
 have HT:=Y08 hT
 have HST:=Y08 hST
 have HP:=Y00 (Y07 hb0 (Y07 hgb hrb))
 clear hT hST hb0 hgb hrb
 go_enter Tryz.func5,Tryz.ntmps5
 go_upto_region 1 with fail
 clear he1
 go_wp2_with fail
 refine (J14 sL 21 300 w1).mono ?_
 rintro e u ⟨rfl,rfl⟩
 cases hl:J3y sL 21 300 with
 | true =>
  go_wp2_with fail
  refine (J7u _).mono ?_
  rintro e w2 ⟨rfl,hb⟩
  go_wp2_with fail
  go_ret
  exact ⟨rfl,J01 HP.out.1 HP.out.1.size hb⟩
 | false=>?_
 clear hl
 obtain ⟨p0,p1,p2,p3,p4⟩:=Jsx HP.out.2.1
 obtain ⟨x0,x1⟩:=Jt3 HP.out.2.2
 have HC:=Y08 (HT.out _ HP.out.1)
 go_wp2_with fail
 refine HC.out.mono ?_
 rintro e w2 ⟨rfl,hb⟩
 have HP2:=Y00 (Y07 (J01 HP.out.1 HP.out.1.size hb) (Y07 (J04 HP.out.2.1 hb) (J04 HP.out.2.2 hb)))
 clear hb HC HP HT p0 p1 p2 p3 p4 x0 x1
 obtain ⟨p0,p1,p2,p3,p4⟩:=Jsx HP2.out.2.1
 obtain ⟨x0,x1⟩:=Jt3 HP2.out.2.2
 have HC:=Y08 (HST.out _ HP2.out.1)
 go_wp2_with fail
 refine HC.out.mono ?_
 rintro e w3 ⟨rfl,hb⟩
 have HP3:=Y00 (J01 HP2.out.1 HP2.out.1.size hb)
 clear hb HC HP2 HST p0 p1 p2 p3 p4 x0 x1
 go_wp2_with fail
 refine (J7u w3).mono ?_
 rintro e w4 ⟨rfl,hb⟩
 have HZ:=Y08 (J01 HP3.out HP3.out.size hb)
 clear hb
 go_wp2_with fail
 go_ret
 exact ⟨rfl,HZ.out⟩
theorem Jt4 (p:Plan) (eA mA sA xA:Option Addr) (eC mC sC xC:Nat) (script:List Int) (who nd:Int) (tl:List Int) (w:World) (hp:J1v w p eA mA) (hsC:kI.C w sA script.length script) (hsl:script.length≤sC) (hxC:kI.C w xA tl.length tl) (hsm:script.length≤4611686018427387904) :
  Calls Tryz.prog 5 #[J1q p eA eC mA mC,.slice sA script.length sC,.int .i64 who,.agg #[.int .i64 nd,.slice xA tl.length xC]] w fun e w'=>e=.returned (.bool true)∧Below w.heap.size w w':=by
 exact Jt5 p.N p.Wd p.workers who nd eA mA sA xA p.E.length eC p.start.length mC script.length sC tl.length xC (Je9 (Jb5 p script who (nd,tl))).1 (Je9 (Jb5 p script who (nd,tl))).2 w
  (fun u hb=>Jb6 p eA mA sA xA eC mC sC xC script who nd tl u (hp.below hb) (Kd.c00 hsC hb) hsl (Kd.c00 hxC hb))
  (fun u hb=>Jta p eA mA sA xA eC mC sC xC script who nd tl u (hp.below hb) (Kd.c00 hsC hb) hsm (Kd.c00 hxC hb))
end Go.Proofs.YtbkfnmgkcgnifaaGreat
namespace Go.Proofs.YtbkfnmgkcgnifaaGreat
open Go.ChangeShapes Go.WideShapes Go.ChangeAt Go.Deep Go.RowKit Go.Shelf W1 W2 Mdl
section
variable {H:Type} {enc:TypeId × Value→H} {W:World} {base:Nat} {sp:Nat→Bool} {held:Bool}
def Jij (enc:TypeId × Value→H) (W:World) (base:Nat) (sp:Nat→Bool) (held:Bool) (t:TypeId) {α:Type} (d:Kd α):Prop :=
 ∀ (fuel:Nat) (cs:List Value) (x:DataW H × List MemPlace),DataW.trod enc Tryz.prog W base sp held fuel t cs=some x→∃ a,d.K W a cs
theorem opens_int:Jij enc W base sp held 3 kI:=fun _ _ _ h=>by
 obtain ⟨a,rfl,_⟩:=DataW.trod_int Tryz.underlying3 h
 exact ⟨a,rfl⟩
theorem opens_slice {t e:TypeId} {α:Type} {d:Kd α} (ht:Tryz.prog.underlying t=some (.slice e)) (hc:Tryz.prog.cellsOf e=d.sz) (h1:Jij enc W base sp held e d):Jij enc W base sp held t (Kd.slice e d):=fun fuel cs x h=>by
 rcases DataW.trod_slice ht h with ⟨rfl,_⟩ | ⟨a,len,cap,elems,rest,n,_,rfl,_,_,hlc,hcm,hel,hget,_⟩
 ·exact ⟨[],none,0,rfl,Y0e _,Kd.C_nil d W⟩
 have hex:∀ i:Fin len,∃ p:α,∃ c:List Value,d.K W p c∧∀ j u,c[j]?=some u→W.cell? (a.add (i*d.sz+j))=some u:=fun i=>by
  have hg:=hget i i.2
  rw [Y05 (by omega)] at hg
  obtain ⟨c,hcells,htr⟩:=Option.bind_eq_some_iff.1 hg
  obtain ⟨p,hp⟩:=h1 _ _ _ htr
  obtain ⟨_,hl,hcell⟩:=World.cells?_some hcells
  refine ⟨p,c,hp,fun j u hu=>?_⟩
  obtain ⟨hj,_⟩:=Y0h.1 hu
  have:=hcell j (by omega)
  rw [Addr.add_add,hc,hu] at this
  exact this
 refine ⟨List.ofFn fun i:Fin len=>Classical.choose (hex i),some a,cap,by rw [List.length_ofFn],by rw [List.length_ofFn];exact hlc,rfl,by rw [List.length_ofFn];exact Yz0 hlc hcm,fun _=>⟨a,rfl,fun j p hj=>?_⟩⟩
 obtain ⟨hjl,rfl⟩:=Y0h.1 hj
 rw [List.length_ofFn] at hjl
 obtain ⟨c,hp,hcell⟩:=Classical.choose_spec (hex ⟨j,hjl⟩)
 rw [List.getElem_ofFn]
 exact ⟨c,d.K_len hp,hp,hcell⟩
theorem opens_ints:Jij enc W base sp held 36 kLI:=opens_slice Tryz.underlying36 (by kernel_rfl) opens_int
theorem J78:Tryz.prog.cellsOf 3=1:=by kernel_rfl
theorem Jdz:Tryz.prog.cellsOf 36=1:=by kernel_rfl
theorem Jif:Tryz.prog.cellsOf 22=1:=by kernel_rfl
theorem Jll:Tryz.prog.cellsOf 25=1:=by kernel_rfl
theorem Je0:Tryz.prog.cellsOf 129=3:=by kernel_rfl
theorem Jh5:Tryz.prog.cellsOf 77=3:=by kernel_rfl
theorem Jck:Tryz.prog.cellsOf 57=2:=by kernel_rfl
theorem Jh6:Tryz.prog.cellsOf 24=3:=by kernel_rfl
theorem Jlk:Tryz.prog.cellsOf 27=5:=by kernel_rfl
set_option maxRecDepth 100000 in
theorem opens_amark:Jij enc W base sp held 57 (Kd.pair kI kLI):=fun fuel cs x h=>by
 obtain ⟨y0,y1,n,_,hl,t0,t1⟩:=trod_struct2 Tryz.underlying57 h
 rw [Jck] at hl
 match cs,hl with
 | [c0,c1],_ =>
  simp only [J78,Jdz,List.drop,List.take] at t0 t1
  obtain ⟨a,ha⟩:=opens_int _ _ _ t0
  obtain ⟨b,hb⟩:=opens_ints _ _ _ t1
  exact ⟨(a,b),[c0],[c1],rfl,ha,hb⟩
set_option maxRecDepth 100000 in
theorem opens_edge:Jij enc W base sp held 129 kE:=fun fuel cs x h=>by
 obtain ⟨y0,y1,y2,n,_,hl,t0,t1,t2⟩:=trod_struct3 Tryz.underlying129 h
 rw [Je0] at hl
 match cs,hl with
 | [c0,c1,c2],_ =>
  simp only [J78,Jdz,List.drop,List.take] at t0 t1 t2
  obtain ⟨a,ha⟩:=opens_int _ _ _ t0
  obtain ⟨b,hb⟩:=opens_int _ _ _ t1
  obtain ⟨c,hc⟩:=opens_ints _ _ _ t2
  exact ⟨(a,b,c),[c0],[c1,c2],rfl,ha,[c1],[c2],rfl,hb,hc⟩
set_option maxRecDepth 100000 in
theorem opens_msg:Jij enc W base sp held 77 kMs:=fun fuel cs x h=>by
 obtain ⟨y0,y1,n,_,hl,t0,t1⟩:=trod_struct2 Tryz.underlying77 h
 rw [Jh5] at hl
 match cs,hl with
 | [c0,c1,c2],_ =>
  simp only [J78,Jck,List.drop,List.take] at t0 t1
  obtain ⟨a,ha⟩:=opens_amark _ _ _ t0
  obtain ⟨b,hb⟩:=opens_int _ _ _ t1
  exact ⟨(a,b),[c0,c1],[c2],rfl,ha,hb⟩
set_option maxRecDepth 100000 in
theorem opens_plan {r:Reach} {b0:Nat} {v:Value} {d:DataW H} {ps:List MemPlace} (hv:Value.okWide Tryz.prog W r b0 27 v) (h:DataW.Trod enc Tryz.prog W base sp held 27 v d ps) :
  ∃ (p:Plan) (eA mA:Option Addr) (eC mC:Nat),v=J1q p eA eC mA mC∧J1v W p eA mA:=by
 simp only [Value.okWide,Tryz.underlying27] at hv
 obtain ⟨cs,rfl,hs,_⟩:=hv
 obtain ⟨fuel,hf⟩:=h
 have hcs:(Value.agg cs).cells.toList=cs.toList:=rfl
 rw [hcs] at hf
 obtain ⟨y0,y1,y2,n,_,hl,t0,t1,t2⟩:=trod_struct3 Tryz.underlying27 hf
 rw [Jlk] at hl
 obtain ⟨l,hcl⟩:∃ l,cs=List.toArray l:=⟨cs.toList,rfl⟩
 subst hcl
 match l,hl with
 | [c0,c1,c2,c3,c4],_ =>
  simp only [J78,Jh6,Jll,List.drop,List.take] at t0 t1 t2
  obtain ⟨z0,z1,z2,_,_,_,u0,u1,u2⟩:=trod_struct3 Tryz.underlying24 t0
  simp only [J78,Jif,List.drop,List.take] at u0 u1 u2
  obtain ⟨N,hN⟩:=opens_int _ _ _ u0
  obtain ⟨Wd,hW⟩:=opens_int _ _ _ u1
  obtain ⟨E,eA,eC,he,hle,hE⟩:=opens_slice (d:=kE) Tryz.underlying22 Je0 opens_edge _ _ _ u2
  obtain ⟨wk,hk⟩:=opens_int _ _ _ t1
  obtain ⟨S,mA,mC,hm,hlm,hS⟩:=opens_slice (d:=kMs) Tryz.underlying25 Jh5 opens_msg _ _ _ t2
  have hN:[c0]=[.int .i64 N]:=hN
  have hW:[c1]=[.int .i64 Wd]:=hW
  have hk:[c3]=[.int .i64 wk]:=hk
  injection hN with hN
  injection hW with hW
  injection hk with hk
  injection he with he
  injection hm with hm
  subst hN hW hk he hm
  exact ⟨⟨N,Wd,E,wk,S⟩,eA,mA,eC,mC,rfl,hE,hS⟩
set_option maxRecDepth 100000 in
theorem opens_mark {r:Reach} {b0:Nat} {v:Value} {d:DataW H} {ps:List MemPlace} (hv:Value.okWide Tryz.prog W r b0 57 v) (h:DataW.Trod enc Tryz.prog W base sp held 57 v d ps) :
  ∃ (nd:Int) (tl:List Int) (xA:Option Addr) (xC:Nat),v=.agg #[.int .i64 nd,.slice xA tl.length xC]∧kI.C W xA tl.length tl:=by
 simp only [Value.okWide,Tryz.underlying57] at hv
 obtain ⟨cs,rfl,hs,_⟩:=hv
 obtain ⟨fuel,hf⟩:=h
 have hcs:(Value.agg cs).cells.toList=cs.toList:=rfl
 rw [hcs] at hf
 obtain ⟨y0,y1,n,_,hl,t0,t1⟩:=trod_struct2 Tryz.underlying57 hf
 rw [Jck] at hl
 obtain ⟨l,hcl⟩:∃ l,cs=List.toArray l:=⟨cs.toList,rfl⟩
 subst hcl
 match l,hl with
 | [c0,c1],_ =>
  simp only [J78,Jdz,List.drop,List.take] at t0 t1
  obtain ⟨N,hN⟩:=opens_int _ _ _ t0
  obtain ⟨T,tA,tC,ht,hlt,hT⟩:=opens_slice (d:=kI) Tryz.underlying36 J78 opens_int _ _ _ t1
  have hN:[c0]=[.int .i64 N]:=hN
  injection hN with hN
  injection ht with ht
  subst hN ht
  exact ⟨N,T,tA,tC,rfl,hT⟩
end
end Go.Proofs.YtbkfnmgkcgnifaaGreat
namespace Go.Proofs.YtbkfnmgkcgnifaaGreat.W1
open Go.ChangeShapes Go.WideShapes
theorem Jki {H:Type} {enc:TypeId × Value→H} {P:Program} {W:World} {base:Nat} {spare:Nat→Bool} {held:Bool} {t e:TypeId} {k:IntKind} {a:Option Addr} {len cap:Nat} {d:DataW H} {ps:List MemPlace} {ts:List TypeId} {ds:List (DataW H)} {j:Nat}
  (hsz:(DataW.weightsEach P ts ds).all (·≤reachBytes)=true) (ht:ts[j]?=some t) (hd:ds[j]?=some d) (hu:P.underlying t=some (.slice e)) (he:P.underlying e=some (.int k)) (hc:P.cellsOf e=1) {B:Nat} (hB:P.bytesOf e=B)
  (h:DataW.Trod enc P W base spare held t (.slice a len cap) d ps):len*B≤140737488351232:=by
 obtain ⟨fuel,hf⟩:=h
 rcases open_ints hu he hc hf with ⟨hcs,_⟩ | ⟨x,l,c,zs,hcs,_,hl,_,hz,hx,_,_⟩
 ·simp [Value.cells] at hcs
  obtain ⟨rfl,rfl,rfl⟩:=hcs
  simp
 simp [Value.cells] at hcs
 obtain ⟨rfl,rfl,rfl⟩:=hcs
 obtain ⟨hx,_⟩:=Prod.mk.inj hx
 subst hx
 have z:=sized_slice hsz ht hd hu
 rw [hB] at z
 have hl2:len≤zs.length:=by
  rw [hz]
  split
  ·exact hl
  exact Nat.le_refl _
 have h1:(lits (H:=H) k (zs.take len)).length+(lits (H:=H) k (zs.drop len)).length=zs.length:=by
  simp [lits]
  omega
 rw [h1] at z
 exact Yz0 (Nat.mul_le_mul_right _ hl2) z
end Go.Proofs.YtbkfnmgkcgnifaaGreat.W1
namespace Go.Proofs.YtbkfnmgkcgnifaaGreat.progressTells
open Go.ChangeShapes Go.WideShapes Go.ChangeAt Go.RowKit W1
set_option linter.unusedVariables false
theorem own:ownKnob Tryz.prog.godebug=none:=by kernel_rfl
theorem Jn4:laidOutB Tryz.prog=true:=by kernel_rfl
def Jss (w:World) (a:Option Addr) (len cap:Nat) (zs:List Int):Prop :=
 (a=none∧len=0∧cap=0∧zs=[]) ∨
 ∃ x,a=some x∧len≤cap∧cap≤maxLen∧zs.length=cap∧(∀ i,i<zs.length→w.cell? (x.add i)=some (.int .i64 (zs.getD i 0)))∧∀ n ∈ zs,(Lit.int .i64 n).wf=true
set_option maxRecDepth 100000 in
theorem lifted (os:Os) (started:os.Started) (H:Type) (enc:TypeId × Value→H) :
  ReturnsInHanded {} Tryz.checked os 5 .any (Rows.progressTellsSpec.pre6 enc Tryz.prog Tryz.f5 Rows.progressTellsRow.domain false) (Rows.progressTellsSpec.post enc Tryz.prog Tryz.f5 false true false false):=by
 refine returnsInHanded_of_change_sized (C:=Tryz.checked) own started (by kernel_rfl) Tryz.func5
  (ChangeSpec.witness6 (enc:=enc) (C:=Tryz.checked) false ⟨#[],#[.agg #[.int .i64 0,.int .i64 0,.slice none 0 0,.int .i64 0,.slice none 0 0],.slice none 0 0,.int .i64 0,.agg #[.int .i64 0,.slice none 0 0]],[]⟩ 8 (by kernel_rfl) (by kernel_rfl) (by kernel_rfl) (by kernel_rfl)) ?_
 intro W base args ds gs before hval0 hW hcnd hsz0 _
 have hsz:(DataW.weightsEach Tryz.prog (Tryz.f5.params.toList++Rows.progressTellsSpec.plain.varTypes Tryz.prog) (ds++gs)).all (·≤reachBytes)=true:=hsz0
 have hval:∀ (j:Nat) t v,Tryz.f5.params[j]?=some t→args[j]?=some v→Value.okWide Tryz.prog W .any base t v:=hval0
 have hW':=hW
 obtain ⟨p,q,hA0,hV,rfl,hfz,hnd⟩:=hW
 have hA:DataW.TrodAll enc Tryz.prog W 0 (fun _=>true) true Tryz.f5.params.toList args.toList ds p:=hA0
 rw [Tryz.params5] at hA hval hsz
 obtain ⟨v0,vs0,d0,ds0,p0,q0,hargs,rfl,rfl,h0,r0⟩:=trodAll_cons hA
 obtain ⟨v1,vs1,d1,ds1,p1,q1,rfl,rfl,rfl,h1,r1⟩:=trodAll_cons r0
 obtain ⟨v2,vs2,d2,ds2,p2,q2,rfl,rfl,rfl,h2,r2⟩:=trodAll_cons r1
 obtain ⟨v3,vs3,d3,ds3,p3,q3,rfl,rfl,rfl,h3,r3⟩:=trodAll_cons r2
 obtain ⟨rfl,rfl,rfl⟩:=trodAll_nil r3
 obtain rfl:args=#[v0,v1,v2,v3]:=by cases args;simp_all
 obtain ⟨rfl,rfl⟩:=trodVars_none hV
 have k0:=h0
 have lt0:∀ x ∈ p0,x.block<W.heap.size:=by obtain ⟨m,hm⟩:=k0;exact DataW.trod_lt m _ _ _ hm
 obtain ⟨pl,eA,mA,eC,mC,rfl,hp⟩:=opens_plan (hval 0 27 v0 rfl rfl) h0
 have k1:=h1
 have lt1:∀ x ∈ p1,x.block<W.heap.size:=by obtain ⟨m,hm⟩:=k1;exact DataW.trod_lt m _ _ _ hm
 obtain ⟨a1,len1,cap1,rfl⟩:=okWide_slice Tryz.underlying36 (hval 1 36 v1 rfl rfl)
 obtain ⟨z1,w1⟩:∃ zs,Jss W a1 len1 cap1 zs:=by
  obtain ⟨fuel,hf⟩:=h1
  rcases open_ints Tryz.underlying36 Tryz.underlying3 (by kernel_rfl) hf with ⟨hcs,_⟩ | ⟨x,l,c,zs,hcs,_,hl,hm,hz,_,hcell,hwz⟩
  ·simp [Value.cells] at hcs
   obtain ⟨rfl,rfl,rfl⟩:=hcs
   exact ⟨[],.inl ⟨rfl,rfl,rfl,rfl⟩⟩
  simp [Value.cells] at hcs
  obtain ⟨rfl,rfl,rfl⟩:=hcs
  exact ⟨zs,.inr ⟨_,rfl,hl,hm,by simpa using hz,hcell,hwz⟩⟩
 have y1:len1*8≤140737488351232:=Jki hsz (j:=1) (t:=36) rfl rfl Tryz.underlying36 Tryz.underlying3 (by kernel_rfl) (by kernel_rfl) h1
 obtain ⟨l1,rfl,hr1,hm1,hw1,hc1⟩:=J4a.ofRowC w1
 obtain ⟨a2,rfl,rfl,rfl,w2⟩:=open_int Tryz.underlying3 (hval 2 3 v2 rfl rfl) h2
 have k3:=h3
 have lt3:∀ x ∈ p3,x.block<W.heap.size:=by obtain ⟨m,hm⟩:=k3;exact DataW.trod_lt m _ _ _ hm
 obtain ⟨nd,tl,xA,xC,rfl,hx⟩:=opens_mark (hval 3 57 v3 rfl rfl) h3
 clear hA0 hval0 hsz0 hsz
 refine (Jt4 pl eA mA a1 xA eC mC cap1 xC l1 a2 nd tl W hp (Kd.C_of_reads (d:=(0:Int)) (h1:=fun _=>rfl) hr1) hc1 hx (by omega)).mono fun e W' ⟨he,bel⟩=>?_
 subst he
 exact ⟨_,rfl,_,_,_,[],_,[],hW',trodAll_mk1 (shut_bool Tryz.underlying4 _),(trodAll_cons_mk (Below.trod Jn4 (by kernel_rfl) (of_decide_eq_true (by kernel_rfl)) k0 bel lt0) (trodAll_cons_mk (Below.trod Jn4 (by kernel_rfl) (of_decide_eq_true (by kernel_rfl)) k1 bel lt1) (trodAll_cons_mk (shut_int Tryz.underlying3 w2) (trodAll_cons_mk (Below.trod Jn4 (by kernel_rfl) (of_decide_eq_true (by kernel_rfl)) k3 bel lt3) trodAll_mk0)))),rfl,bel.frame _,fun h=>by cases h⟩
theorem over:Rows.progressTellsRow.holds Tryz.pinned (OpenSpec.ofChange Rows.progressTellsSpec) :=
 OpenClaim.holds_of_wide 5 Tryz.f5 rfl rfl rfl rfl rfl rfl rfl ⟨rfl,rfl,rfl,rfl,rfl⟩ rfl rfl rfl rfl rfl (by kernel_rfl) Tryz.func5 (by kernel_rfl)
  (of_decide_eq_true (by kernel_rfl)) (by unfold Func.isWrapper;first | (rw [if_pos (by decide +kernel)];kernel_rfl) | (rw [if_neg (by decide +kernel)];exact ⟨rfl,rfl⟩))
  (fun os started H enc _=>lifted os started H enc)
theorem proved:Rows.ProgressTellsSaid:=over
#print axioms proved
end Go.Proofs.YtbkfnmgkcgnifaaGreat.progressTells
