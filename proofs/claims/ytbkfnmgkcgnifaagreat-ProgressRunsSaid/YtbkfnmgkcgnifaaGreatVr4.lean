/- Part 4 of the proof of ProgressRuns and ProgressTells. -/
import Derived.Test.YtbkfnmgkcgnifaaGreatVr3
import Derived.RecoverIn
import Derived.DefersIn
set_option linter.all false
set_option maxRecDepth 8000
set_option maxHeartbeats 16000000
namespace Go.Proofs.YtbkfnmgkcgnifaaGreat
open Go.RowKit Go.Shelf W1 W2 Mdl
namespace Mdl
def J7q (E:List Ed) (W:Nat) (N:Int) (ways:Ways) (who:Nat) (m:Mk):Nat→St→Int→Int
 | 0,_,n=>n
 | f+1,st,n=>if Jg4 N ways st who m=true then n else match J2j E W st with
  | none=>n
  | some st'=>J7q E W N ways who m f st' (n+1)
def J6x (N Wd:Int) (x:Int × List Int):Bool:=decide (0≤x.1∧x.1<N)&&(decide ((x.2.length:Int)=Wd)&&J42 1073741824 x.2)
def Jb5 (p:Plan) (script:List Int) (who:Int) (x:Int × List Int):Except Int Int:=match J16 p script 0 who with
 | .error c=>.error c
 | .ok ways=>if J6x p.N p.Wd x=true then .ok (J7q p.E p.workers.toNat p.N ways who.toNat (x.1,tmOf x.2) 1233 (J0s p.workers.toNat p.start script) 0) else .error 1
def Je9 (r:Except Int Int):Int × Int:=match r with
 | .ok x=>(x,0)
 | .error c=>(0,c)
theorem Jk8 {E:List Ed} {W:Nat} {N:Int} {ways:Ways} {who:Nat} {m:Mk} {st:St} (h:Jg4 N ways st who m=true) (f:Nat) (n:Int):J7q E W N ways who m f st n=n:=by
 cases f with
 | succ f=>unfold J7q;rw [if_pos h]
 | zero=>rfl
theorem Jk9 {E:List Ed} {W:Nat} {N:Int} {ways:Ways} {who:Nat} {m:Mk} {st:St} (h:Jg4 N ways st who m=false) (hs:J2j E W st=none) (f:Nat) (n:Int):J7q E W N ways who m f st n=n:=by
 cases f with
 | succ f=>unfold J7q;rw [if_neg (by simp [h]),hs]
 | zero=>rfl
theorem Jk7 {E:List Ed} {W:Nat} {N:Int} {ways:Ways} {who:Nat} {m:Mk} {st st':St} (h:Jg4 N ways st who m=false) (hs:J2j E W st=some st') (f:Nat) (n:Int):J7q E W N ways who m (f+1) st n=J7q E W N ways who m f st' (n+1):=by
 conv=>lhs;unfold J7q
 rw [if_neg (by simp [h]),hs]
end Mdl
def J82 (Q:Exit→Act→World→Prop) (D:List Deferred) (x8 x9:Value) (c0:List PanicEntry) (Pw:World→Prop):Exit→Act→World→Prop
 | .panic c,a,w=>a.defers=D∧a.tmps.getD 8 undef=x8∧a.tmps.getD 9 undef=x9∧c=c0∧Pw w
 | e,a,w=>Q e a w
theorem Jlu {P:Program} {code:Code} {Q:Exit→Act→World→Prop} {D:List Deferred} {x8 x9:Value} {c0:List PanicEntry} {Pw:World→Prop} {a:Act} {w:World}
  (h:code.wp P (J82 Q D x8 x9 c0 Pw) a w) (hq:∀ a w,a.defers=D→a.tmps.getD 8 undef=x8→a.tmps.getD 9 undef=x9→Pw w→Q (.panic c0) a w):code.wp P Q a w:=by
 refine Code.wp_mono (fun e a w q=>?_) h
 cases e with
 | normal=>exact q
 | exit id=>exact q
 | goto l=>exact q
 | ret=>exact q
 | outgrown=>exact q
 | panic c=>obtain ⟨h1,h2,h3,rfl,h5⟩:=q;exact hq a w h1 h2 h3 h5
theorem Jeo {Q:Exit→Act→World→Prop} {D:List Deferred} {x8 x9:Value} {c0:List PanicEntry} {Pw:World→Prop} {a:Act} {w:World} (h:Q .normal a w):J82 Q D x8 x9 c0 Pw .normal a w:=h
theorem J9n {Q:Exit→Act→World→Prop} {D:List Deferred} {x8 x9:Value} {c0:List PanicEntry} {Pw:World→Prop} {N:Tmp} {v:Value} (h8:N≠8) (h9:N≠9) (c:List PanicEntry) (a:Act) (w:World) (h:J82 Q D x8 x9 c0 Pw (.panic c) (a.put (some N) v) w):J82 Q D x8 x9 c0 Pw (.panic c) a w:=by
 obtain ⟨h1,h2,h3,h4,h5⟩:=h
 refine ⟨h1,?_,?_,h4,h5⟩
 ·rw [← h2]
  simp only [Act.put,Array.getD_eq_getD_getElem?]
  rw [Y0i h8]
 rw [← h3]
 simp only [Act.put,Array.getD_eq_getD_getElem?]
 rw [Y0i h9]
section
variable {P:Program} {ops:Array Oper} {md:Region.Mode} {S:World→Prop} {ds:List Nat} {oi:Oper} {fuel:Nat} {l:Array Bool} {a:Act} {w:World} {Q:Exit→Act→World→Prop} {D:List Deferred} {x8 x9:Value} {c0:List PanicEntry} {Pw:World→Prop}
theorem puq (i N:Nat) (l':Array Bool) {v:Value} {a':Act} (h:J06 P md ops (J82 Q D x8 x9 c0 Pw) S ds fuel l' a' w) (hi:ops[i]?=some oi:=by rfl) (hN:oi.dst=some N:=by rfl) (hc:anyB md ops l l' i=true:=by kernel_rfl) (h8:N≠8:=by decide) (h9:N≠9:=by decide) (hy:Yields P ops oi v a:=by exact .inl ⟨by rfl,by intro w';go_simp;with_reducible rfl⟩) (ha:a.put (some N) v=a':=by go_simp;rfl):J06 P md ops (J82 Q D x8 x9 c0 Pw) S ds (fuel+1) l a w:=Jof l' hi hN hc (fun c a w hh=>J9n h8 h9 c a w (by rw [hN] at hh;exact hh)) hy ha h
theorem ufq (i N:Nat) (l':Array Bool) {a':Act} (h:J06 P md ops (J82 Q D x8 x9 c0 Pw) S ds fuel l' a' w) (hi:ops[i]?=some oi:=by rfl) (hN:oi.dst=some N:=by rfl) (hc:anyB md ops l l' i=true:=by kernel_rfl) (h8:N≠8:=by decide) (h9:N≠9:=by decide) (hy:Yields P ops oi undef a:=by exact Or.inr ⟨by rfl,rfl⟩) (ha:a.put (some N) undef=a':=by simp only [Act.put,List.setIfInBounds_toArray,List.set_cons_zero,List.set_cons_succ,Jc3,Jov];rfl):J06 P md ops (J82 Q D x8 x9 c0 Pw) S ds (fuel+1) l a w:=Jof l' hi hN hc (fun c a w hh=>J9n h8 h9 c a w (by rw [hN] at hh;exact hh)) hy ha h
theorem tkq5 (i N:Nat) (l':Array Bool) (hS:S w) {v:Value} {a':Act} (h:J06 P md ops (J82 Q D x8 x9 c0 Pw) S ds fuel l' a' w) (hi:ops[i]?=some oi:=by rfl) (hN:oi.dst=some N:=by rfl) (hc:J5y md ops ds l l' i=true:=by kernel_rfl) (h8:N≠8:=by decide) (h9:N≠9:=by decide) (hy:YieldsIf P ops S oi v a:=by exact .inl ⟨by rfl,by rintro w' ⟨s0,s1,s2,s3,s4⟩;go_simp;with_reducible rfl⟩) (ha:a.put (some N) v=a':=by go_simp;rfl):J06 P md ops (J82 Q D x8 x9 c0 Pw) S ds (fuel+1) l a w:=Jea l' hi hN hc (fun c a w hh=>J9n h8 h9 c a w (by rw [hN] at hh;exact hh)) hy hS ha h
end
theorem Jb6 (p:Plan) (eA mA sA xA:Option Addr) (eC mC sC xC:Nat) (script:List Int) (who nd:Int) (tl:List Int) (w:World) (hp:J1v w p eA mA) (hsC:kI.C w sA script.length script) (hsl:script.length≤sC) (hxC:kI.C w xA tl.length tl) :
  Calls Tryz.prog 26 #[J1q p eA eC mA mC,.slice sA script.length sC,.int .i64 who,.agg #[.int .i64 nd,.slice xA tl.length xC]] w fun e w'=>e=.returned (.tuple #[.int .i64 (Je9 (Jb5 p script who (nd,tl))).1,.int .i64 (Je9 (Jb5 p script who (nd,tl))).2])∧Below w.heap.size w w':=by
 have hmf:=hmf0
 have hz1:(w.alloc (.cells (pC p eA mA eC mC) 27)).heap.size=w.heap.size+1:=by simp
 have hz2:((w.alloc (.cells (pC p eA mA eC mC) 27)).alloc (.cells #[.int .i64 nd,.slice xA tl.length xC] 57)).heap.size=w.heap.size+2:=by simp
 have b2:Below w.heap.size w (((w.alloc (.cells (pC p eA mA eC mC) 27)).alloc (.cells #[.int .i64 nd,.slice xA tl.length xC] 57)).alloc (.cells #[.int .i64 0] 29)):=Jb7
 have hbk:(((w.alloc (.cells (pC p eA mA eC mC) 27)).alloc (.cells #[.int .i64 nd,.slice xA tl.length xC] 57)).alloc (.cells #[.int .i64 0] 29)).heap[w.heap.size]?=some (.cells (pC p eA mA eC mC) 27 (0,0)):=J04 (Y0c w _) J15
 have hbc:(((w.alloc (.cells (pC p eA mA eC mC) 27)).alloc (.cells #[.int .i64 nd,.slice xA tl.length xC] 57)).alloc (.cells #[.int .i64 0] 29)).heap[w.heap.size+1]?=some (.cells #[.int .i64 nd,.slice xA tl.length xC] 57 (0,0)):=by
  have:=Y0c (w.alloc (.cells #[.int .i64 p.N,.int .i64 p.Wd,.slice eA p.E.length eC,.int .i64 p.workers,.slice mA p.start.length mC] 27)) (.cells #[.int .i64 nd,.slice xA tl.length xC] 57)
  rw [hz1] at this
  exact J04 this (J02 _ _)
 have hbr:=Y0c ((w.alloc (.cells (pC p eA mA eC mC) 27)).alloc (.cells #[.int .i64 nd,.slice xA tl.length xC] 57)) (.cells #[.int .i64 0] 29)
 rw [hz2] at hbr
 have HAF:=Y08 (Jco p eA mA sA eC mC sC script 0 who _ (hp.below b2) (Kd.c00 hsC b2) hsl)
 have hSm:=Kd.C_max hp.hS
 have hEm:=Kd.C_max hp.hE
 have hSc:=Kd.C_max hsC
 have hTm:=Kd.C_max hxC
 have H1:=Y00 (Y07 b2 (Y07 hbk (Y07 hbc (Y07 hbr (Kd.c00 hxC b2)))))
 clear hp hsC hsl hz1 hz2 hbk hbr hbc b2 hxC
 simp only [J1q] at HAF ⊢
 go_enter_defers Tryz.func26,Tryz.ntmps26
 go_upto_region 1 with fail
 generalize (((w.alloc (.cells (pC p eA mA eC mC) 27)).alloc (.cells #[.int .i64 nd,.slice xA tl.length xC] 57)).alloc (.cells #[.int .i64 0] 29))=w2 at *
 obtain ⟨p0,p1,p2,p3,p4⟩:=bc5 H1.out.2.1
 go_wp2_with fail
 refine HAF.out.mono ?_
 rintro e w3 h3
 unfold J30 at h3
 cases ho:J16 p script 0 who with
 | error c =>
  rw [ho] at h3
  obtain ⟨rfl,hb3⟩:=h3
  have HC:=Y08 (show Jb5 p script who (nd,tl)=.error c by simp only [Jb5,ho])
  have hbr:=J04 H1.out.2.2.2.1 hb3
  have hb:=J01 H1.out.1 H1.out.1.size hb3
  refine leaves_cons (f:=62) (args:=#[.pointer (some ⟨w.heap.size+2,0,none⟩)]) (by simp) (by simp [go_sem]) ?_
  refine (J80 ⟨w.heap.size+2,0,none⟩ 0 c w3 ((J03 hbr 0).trans rfl) (J07 hbr 0)).mono ?_
  rintro e u' w'' ⟨rfl,rfl,rfl⟩
  have hbx:=J0d (J04 hbr (J02 w3 (.cells #[.int .i64 c] 126))) 0 (.int .i64 c) rfl
  have hcx:=(J03 hbx 0).trans rfl
  have hb5:=J01 hb hb.size (J02 w3 (.cells #[.int .i64 c] 126))
  rw [HC.out]
  simp [Leaves,settle,results,Tryz.results26,go_sem,hcx,Je9]
  exact hb5.setCell (by simp) _
 | ok ways=>?_
 rw [ho] at h3
 obtain ⟨rb,w0,G,rfl,hrb,hb0,hgb,hG,hR⟩:=h3
 have HBAD:=Y08 (fun (hn:J6x p.N p.Wd (nd,tl)=false)=>show Jb5 p script who (nd,tl)=.error 1 by simp only [Jb5,ho];rw [if_neg (by simp [hn])])
 have HOK:=Y08 (fun (hn:J6x p.N p.Wd (nd,tl)=true)=>show Jb5 p script who (nd,tl)=.ok (J7q p.E p.workers.toNat p.N ways who.toNat (nd,tmOf tl) 1233 (J0s p.workers.toNat p.start script) 0) by simp only [Jb5,ho];rw [if_pos hn])
 have HB:=Y08 (begun_ok ho)
 have HG:=Y00 hG
 have HR:=Y00 hR
 obtain ⟨q,hR⟩:=hR
 have hb3:=J01 hb0 hb0.size hR.below
 have HH:=Y00 (Y07 hb0 (Y07 (J01 H1.out.1 H1.out.1.size hb3) (Y07 (J04 H1.out.2.2.1 hb3) (Y07 (J04 H1.out.2.2.2.1 hb3) (Kd.c00 H1.out.2.2.2.2 hb3)))))
 obtain ⟨A,c,_,_,_,_,_,_,r3,_⟩:=hR.cells
 have g0:=(hG.below hR.below).c0
 have g1:=(hG.below hR.below).c1
 obtain ⟨x0,x1⟩:=bq2 HH.out.2.2.1 (.int .i64 nd) (.slice xA tl.length xC)
 clear ho hG hR hb0 hb3 hgb p0 p1 p2 p3 p4 HAF
 subst hrb
 have hwho0:=HB.out.who0
 have hwhoW:=HB.out.whoW
 generalize p.workers.toNat=W at *
 obtain ⟨x,rfl⟩:∃ x:Nat,who=x:=⟨who.toNat,by omega⟩
 have hxW:x<W:=by omega
 go_upto_region 3 with fail
 refine Jlu (D:=[{ target:=.fn (.func 62) #[.pointer (some ⟨w.heap.size+1+1,0,none⟩)],args:=#[] }]) (x8:=.int .i64 0) (x9:=.pointer (some ⟨w.heap.size+1+1,0,none⟩)) (c0:=J4g 1) (Pw:=fun V=>Below w3.heap.size w3 V∧J6x p.N p.Wd (nd,tl)=false) ?_ ?_
 rotate_left
 ·rintro a V hdf h8 h9 ⟨hbV,hbad⟩
  have HC:=Y08 (HBAD.out hbad)
  have hbr:=J04 HH.out.2.2.2.1 hbV
  have hb:=J01 HH.out.2.1 HH.out.2.1.size hbV
  show Leaves Tryz.prog _ a.tmps _ a.defers _ _
  rw [hdf]
  rw [Array.getD_eq_getD_getElem?] at h8 h9
  refine leaves_cons (f:=62) (args:=#[.pointer (some ⟨w.heap.size+2,0,none⟩)]) (by simp) (by simp [go_sem]) ?_
  refine (J80 ⟨w.heap.size+2,0,none⟩ 0 1 V ((J03 hbr 0).trans rfl) (J07 hbr 0)).mono ?_
  rintro e u' w'' ⟨rfl,rfl,rfl⟩
  have hbx:=J0d (J04 hbr (J02 V (.cells #[.int .i64 1] 126))) 0 (.int .i64 1) rfl
  have hcx:=(J03 hbx 0).trans rfl
  have hb5:=J01 hb hb.size (J02 V (.cells #[.int .i64 1] 126))
  rw [HC.out]
  simp [Leaves,settle,results,Tryz.results26,go_sem,hcx,Je9,h8,h9]
  exact hb5.setCell (by simp) _
 have HWI:=fun w' hb=>Y08 (J9d xA xC tl 1073741824 w' (Kd.c00 HH.out.2.2.2.2 hb))
 refine sr1 27 (fun V=>V.cell? ⟨G.rb,3,none⟩=some (.pointer (some ⟨G.gb,0,none⟩))∧V.cell? ⟨G.gb,0,none⟩=some (.int .i64 p.N)∧V.cell? ⟨G.gb,1,none⟩=some (.int .i64 p.Wd)∧V.cell? ⟨w.heap.size+1,0,none⟩=some (.int .i64 nd)∧V.cell? ⟨w.heap.size+1,1,none⟩=some (.slice xA tl.length xC)) [] ⟨r3,g0,g1,x0,x1⟩ fun hJ0=>?_
 have HBD:=Y08 (J05 (Y0f w3.heap.size w3))
 generalize w3.drew=wd at *
 refine puq 0 18 (bs 27 1) ?_
 refine puq 1 19 (bs 27 3) ?_
 refine puq 2 20 (bs 27 7) ?_
 refine tkq5 3 21 (bs 27 15) hJ0 ?_
 refine puq 4 22 (bs 27 31) ?_
 refine tkq5 5 23 (bs 27 63) hJ0 ?_
 refine on0 6 24 (bs 27 127) fun K hK=>?_
 refine gs0 Tryz.func32 #[.pointer (some ⟨G.gb,0,none⟩),.int .i64 nd] ?_
 cases hF:decide (0≤nd∧nd<p.N)
 ·refine (J7i _ nd p.N _ hJ0.2.1 (by have:=of_decide_eq_false hF;omega)).mono ?_
  rintro e v1 ⟨rfl,rfl⟩
  refine ⟨_,rfl,hK.out _ _ hJ0 (fun _=>?_)⟩
  have HBX:=Y08 (Y07 HBD.out (show J6x p.N p.Wd (nd,tl)=false by simp only [J6x,hF,Bool.false_and]))
  clear hK K
  refine nm0 _ ?_
  refine puq 7 25 (bs 27 255) ?_
  refine ufq 8 26 (bs 27 511) ?_
  refine ufq 9 27 (bs 27 1023) ?_
  refine ufq 10 28 (bs 27 2047) ?_
  refine ufq 11 29 (bs 27 4095) ?_
  refine ufq 12 30 (bs 27 8191) ?_
  refine ufq 13 31 (bs 27 16383) ?_
  refine ufq 14 32 (bs 27 32767) ?_
  refine ufq 15 33 (bs 27 65535) ?_
  refine ufq 16 34 (bs 27 131071) ?_
  refine ufq 17 35 (bs 27 262143) ?_
  refine ufq 18 36 (bs 27 524287) ?_
  refine ufq 19 37 (bs 27 1048575) ?_
  refine puq 20 38 (bs 27 2097151) ?_
  refine puq 21 39 (bs 27 4194303) ?_
  refine ufq 22 40 (bs 27 8388607) ?_
  refine ufq 23 41 (bs 27 16777215) ?_
  refine ufq 24 42 (bs 27 33554431) ?_
  refine puq 25 43 (bs 27 67108863) ?_
  refine on0 26 44 (bs 27 134217727) fun K hK=>?_
  refine ds0 Tryz.func31 #[.bool false,.int .i64 1] ?_
  refine (J0r _ _).mono ?_
  rintro e wm ⟨rfl,rfl⟩
  exact ⟨_,rfl,rfl,rfl,rfl,rfl,HBX.out⟩
 skip
 have hF2:0≤nd∧nd<p.N:=of_decide_eq_true hF
 refine (J9r _ nd p.N _ hJ0.2.1 hF2.1 hF2.2).mono ?_
 rintro e v1 ⟨rfl,rfl⟩
 refine ⟨_,rfl,hK.out _ _ hJ0 (fun _=>?_)⟩
 clear hK K
 refine nm0 _ ?_
 refine puq 7 25 (bs 27 255) ?_
 refine puq 8 26 (bs 27 511) ?_
 refine tkq5 9 27 (bs 27 1023) hJ0 ?_
 refine puq 10 28 (bs 27 2047) ?_
 refine puq 11 29 (bs 27 4095) ?_
 refine puq 12 30 (bs 27 8191) ?_
 refine puq 13 31 (bs 27 16383) ?_
 refine tkq5 14 32 (bs 27 32767) hJ0 ?_
 refine puq 15 33 (bs 27 65535) ?_
 refine puq 16 34 (bs 27 131071) ?_
 refine puq 17 35 (bs 27 262143) ?_
 refine tkq5 18 36 (bs 27 524287) hJ0 ?_
 cases hL:decide ((tl.length:Int)=p.Wd)
 ·have hLb:((tl.length:Int) == p.Wd)=false:=by simpa using hL
  have HBX:=Y08 (Y07 HBD.out (show J6x p.N p.Wd (nd,tl)=false by simp only [J6x,hF,hL,Bool.false_and,Bool.true_and]))
  refine puq 19 37 (bs 27 1048575) ?_
  refine puq 20 38 (bs 27 2097151) ?_
  refine puq 21 39 (bs 27 4194303) ?_
  refine ufq 22 40 (bs 27 8388607) ?_
  refine ufq 23 41 (bs 27 16777215) ?_
  refine ufq 24 42 (bs 27 33554431) ?_
  refine puq 25 43 (bs 27 67108863) ?_
  refine on0 26 44 (bs 27 134217727) fun K hK=>?_
  refine ds0 Tryz.func31 #[.bool false,.int .i64 1] ?_
  refine (J0r _ _).mono ?_
  rintro e wm ⟨rfl,rfl⟩
  exact ⟨_,rfl,rfl,rfl,rfl,rfl,HBX.out⟩
 skip
 have hLb:((tl.length:Int) == p.Wd)=true:=by simpa using hL
 refine puq 19 37 (bs 27 1048575) ?_
 refine puq 20 38 (bs 27 2097151) ?_
 refine puq 21 39 (bs 27 4194303) ?_
 refine puq 22 40 (bs 27 8388607) ?_
 refine tkq5 23 41 (bs 27 16777215) hJ0 ?_
 refine on0 24 42 (bs 27 33554431) fun K hK=>?_
 refine gs0 Tryz.func63 #[.slice xA tl.length xC,.int .i64 1073741824] ?_
 cases hA:J42 1073741824 tl
 ·rw [hA] at HWI
  refine (HWI _ HBD.out).out.mono ?_
  rintro e v2 ⟨rfl,hb2⟩
  have HBX:=Y08 (Y07 (J01 HBD.out HBD.out.size hb2) (show J6x p.N p.Wd (nd,tl)=false by simp only [J6x,hF,hL,hA,Bool.false_and,Bool.true_and]))
  refine ⟨_,rfl,hK.out _ _ (st5 hb2 hJ0) (fun hJ0=>?_)⟩
  clear hK K
  refine nm0 _ ?_
  refine puq 25 43 (bs 27 67108863) ?_
  refine on0 26 44 (bs 27 134217727) fun K hK=>?_
  refine ds0 Tryz.func31 #[.bool false,.int .i64 1] ?_
  refine (J0r _ _).mono ?_
  rintro e wm ⟨rfl,rfl⟩
  exact ⟨_,rfl,rfl,rfl,rfl,rfl,HBX.out⟩
 skip
 rw [hA] at HWI
 refine (HWI _ HBD.out).out.mono ?_
 rintro e v2 ⟨rfl,hb2⟩
 have HB2:=Y08 (J01 HBD.out HBD.out.size hb2)
 refine ⟨_,rfl,hK.out _ _ (st5 hb2 hJ0) (fun hJ0=>?_)⟩
 clear hK K
 refine nm0 _ ?_
 refine puq 25 43 (bs 27 67108863) ?_
 refine on0 26 44 (bs 27 134217727) fun K hK=>?_
 refine gs0 Tryz.func31 #[.bool true,.int .i64 1] ?_
 refine (J1w _ _).mono ?_
 rintro e v3 ⟨rfl,rfl⟩
 refine ⟨_,rfl,hK.out _ _ hJ0 (fun _=>?_)⟩
 clear hK K
 refine nm0 _ ?_
 refine dn0 ?_
 have HC:=Y08 (HOK.out (by simp only [J6x,hF,hL,hA,Bool.and_self]))
 clear HBAD HOK
 obtain ⟨q,hR⟩:=HR.out
 have hR2:=hR.c08 HB2.out
 have HX:=Y00 (Y07 hR2 (Y07 (J01 HH.out.2.1 HH.out.2.1.size HB2.out) (Y07 (J04 HH.out.2.2.2.1 HB2.out) (Kd.c00 HH.out.2.2.2.2 HB2.out))))
 have e0:=hJ0.2.2.2.1
 have e1:=hJ0.2.2.2.2
 have hNd:=Y07 hF2.1 hF2.2
 clear hR hR2 hJ0 HWI hb2 HR hF hL hLb hA hF2 HB2 HBD r3 g0 g1 x0 x1
 refine Jeo ?_
 go_upto_region 4 with fail
 refine wp_region_noPanic ?_
 have TI:=fun w h=>Y08 (J6m xA xC tl w h)
 simp only [tmV] at TI
 have HSH:=Y08 (fun V (hb:Below v2.heap.size v2 V)=>Y07 (J00 hb e0) (J00 hb e1))
 have HD:=Y00 (J05 (Y0f v2.heap.size v2))
 refine sr1 8 (fun V=>V.cell? ⟨w.heap.size+1,0,none⟩=some (.int .i64 nd)∧V.cell? ⟨w.heap.size+1,1,none⟩=some (.slice xA tl.length xC)) [7] ⟨e0,e1⟩ fun hJ0=>?_
 clear e0 e1
 generalize v2.drew=v3 at *
 refine pu 0 45 (bs 8 1) ?_
 refine tk2 1 46 (bs 8 3) hJ0 ?_
 refine pu 2 47 (bs 8 7) ?_
 refine tk2 3 48 (bs 8 15) hJ0 ?_
 refine Jl1 1 #[true,true,true,true,true,true,true,false] (fun g:Nat=>[(49,.agg #[.int .i64 (tmOf tl).1,.int .i64 (tmOf tl).2.1,.int .i64 (tmOf tl).2.2]),(50,.agg #[.int .i64 nd,.int .i64 (tmOf tl).1,.int .i64 (tmOf tl).2.1,.int .i64 (tmOf tl).2.2]),(11,.pointer (some ⟨g,0,none⟩))]) (fun g V=>Below v2.heap.size v2 V∧V.heap[g]?=some (.cells #[.int .i64 0,.int .i64 0,.int .i64 0,.int .i64 0] 101)∧v2.heap.size≤g) ?_ ?_
 rotate_left
 ·intro hcont
  simp only [J2x,Act.put,List.setIfInBounds_toArray,List.set_cons_zero,List.set_cons_succ] at hcont
  have HCT:=Y08 hcont
  clear hcont hJ0
  refine two_ (i:=4) (j:=6) (Ni:=some 49) (Nj:=some 11) #[true,true,true,true,true,false,false,false] #[true,true,true,true,false,false,true,false] rfl rfl rfl rfl (by kernel_rfl) (by decide) (by decide) (fun K hK=>?_) (fun K hK=>?_)
  ·refine gs0 Tryz.func64 #[.slice xA tl.length xC] ?_
   refine (TI _ (Kd.c00 HX.out.2.2.2 HD.out)).out.mono ?_
   rintro e v4 ⟨rfl,hb4⟩
   have hB4:=J01 HD.out HD.out.size hb4
   refine ⟨_,rfl,hK.out _ _ (HSH.out _ hB4) (fun hJ0=>?_)⟩
   clear hK K
   refine nm0 _ ?_
   refine pu 5 50 (bs 8 63) ?_
   refine one_ (i:=6) (N:=some 11) #[true,true,true,true,true,true,true,false] rfl rfl (by kernel_rfl) (by decide) (fun K hK=>?_)
   refine va0 ?_
   have hB5:=J1e hB4 (.cells #[.int .i64 0,.int .i64 0,.int .i64 0,.int .i64 0] 101)
   refine hK.out _ _ (HSH.out _ hB5) (fun hJ0=>?_)
   clear hK K
   refine nm0 _ ?_
   exact HCT.out v4.heap.size _ ⟨hB5,Y0c v4 _,hB4.size⟩
  skip
  refine va0 ?_
  have hB4:=J1e HD.out (.cells #[.int .i64 0,.int .i64 0,.int .i64 0,.int .i64 0] 101)
  refine hK.out _ _ (HSH.out _ hB4) (fun hJ0=>?_)
  clear hK K
  refine nm0 _ ?_
  refine one_ (i:=4) (N:=some 49) #[true,true,true,true,true,false,true,false] rfl rfl (by kernel_rfl) (by decide) (fun K hK=>?_)
  refine gs0 Tryz.func64 #[.slice xA tl.length xC] ?_
  refine (TI _ (Kd.c00 HX.out.2.2.2 hB4)).out.mono ?_
  rintro e v4 ⟨rfl,hb4⟩
  have hB5:=J01 hB4 hB4.size hb4
  refine ⟨_,rfl,hK.out _ _ (HSH.out _ hB5) (fun hJ0=>?_)⟩
  clear hK K
  refine nm0 _ ?_
  refine pu 5 50 (bs 8 127) ?_
  exact HCT.out v3.heap.size _ ⟨hB5,J04 (Y0c v3 _) hb4,HD.out.size⟩
 rintro g v5 ⟨hbw,hbk,hge⟩
 clear hJ0
 refine Jkr (a':=?_) ?_ ?_
 rotate_left
 ·show J2x _ _=_
  simp only [J2x,Act.put,List.setIfInBounds_toArray,List.set_cons_zero,List.set_cons_succ]
  rfl
 obtain ⟨z0,z1,z2,z3⟩:=bc4 hbk
 obtain ⟨y0,y1,y2,y3⟩:=bf4 hbk
 refine Jqe (i:=7) (N:=none) #[true,true,true,true,true,true,true,true] rfl rfl (by kernel_rfl) (by decide) (fun K hK=>?_)
 refine sk0 ?_
 refine hK.out _ _ ?_
 clear hK K
 refine dn0 ?_
 refine NoPanic.normal ?_
 have hk6:=J0d (J0d (J0d (J0d hbk 0 (.int .i64 nd) rfl) 1 (.int .i64 (tmOf tl).1) rfl) 2 (.int .i64 (tmOf tl).2.1) rfl) 3 (.int .i64 (tmOf tl).2.2) rfl
 have hb6:Below v2.heap.size v2 ((((v5.setCell ⟨g,0,none⟩ (.int .i64 nd)).setCell ⟨g,1,none⟩ (.int .i64 (tmOf tl).1)).setCell ⟨g,2,none⟩ (.int .i64 (tmOf tl).2.1)).setCell ⟨g,3,none⟩ (.int .i64 (tmOf tl).2.2)):=(((hbw.setCell hge _).setCell hge _).setCell hge _).setCell hge _
 clear z0 z1 z2 z3 y0 y1 y2 y3 hbw hbk
 generalize (((v5.setCell ⟨g,0,none⟩ (.int .i64 nd)).setCell ⟨g,1,none⟩ (.int .i64 (tmOf tl).1)).setCell ⟨g,2,none⟩ (.int .i64 (tmOf tl).2.1)).setCell ⟨g,3,none⟩ (.int .i64 (tmOf tl).2.2)=v6 at *
 have hfz:∃ G':RG,G.rb=G'.rb∧G.gb=G'.gb∧(∀ st V,J6e w0 G' W st V→V.heap[g]?=some (.cells #[.int .i64 nd,.int .i64 (tmOf tl).1,.int .i64 (tmOf tl).2.1,.int .i64 (tmOf tl).2.2] 101 (0,0)))∧J6e w0 G' W (J0s W p.start script) v6:=by
  have hR6:=HX.out.1.c08 hb6
  exact ⟨{ G with z:=fun k c=>k=g∧c=#[.int .i64 nd,.int .i64 (tmOf tl).1,.int .i64 (tmOf tl).2.1,.int .i64 (tmOf tl).2.2] },rfl,rfl,fun st V hV=>by obtain ⟨q',hV⟩:=hV;exact hV.frz g _ ⟨rfl,rfl⟩,_,(hR6.freeze hk6).relim⟩
 obtain ⟨G',hrb',hgb',hfr,hR6⟩:=hfz
 rw [hrb']
 have HG2:=Y00 (show J4v w0 G'.gb p.N p.Wd p.E ways by rw [← hgb'];exact HG.out)
 have HFR:=Y08 hfr
 have HR:=Y00 hR6
 clear hrb' hgb' hfr hR6 hk6 hb6
 go_wp2_with fail
 go_loopg [12] 1233 (fun k i wr=>∃ n:Nat,i=.int .i64 n∧n+k≤1233∧J08 (∃ st,Mdl.phi st<k∧J6e w0 G' W st wr∧Mdl.Reach W p.N st∧J7q p.E W p.N ways x (nd,tmOf tl) k st n=J7q p.E W p.N ways x (nd,tmOf tl) 1233 (J0s W p.start script) 0))
 case atStart=>exact ⟨0,rfl,by omega,_,by have:=HB.out.reach.phi;omega,HR.out,HB.out.reach,rfl⟩
 clear HR
 obtain ⟨nn,rfl,hnk,hX⟩:=hrel
 obtain ⟨st,hph,hR,hRe,hit⟩:=hX.out
 have HR:=Y00 (Y07 hR (Y07 hRe (Y07 hit hph)))
 have HOV:=Joj w0 G' W st p.N p.Wd p.E ways x (nd,tmOf tl) wr hR HG2.out hRe HB.out.N1 HB.out.N8 HB.out.ways hxW HB.out.w4 hNd
 simp only [mkV] at HOV
 have HOV:=Y08 HOV
 have hbk:=HFR.out _ _ hR
 obtain ⟨z0,z1,z2,z3⟩:=bc4 hbk
 clear hX hR hRe hit hph hbk
 go_wp2_with fail
 refine HOV.out.mono ?_
 rintro e v7 ⟨rfl,hR7⟩
 have HR7:=Y00 hR7
 clear z0 z1 z2 z3 hR7 HOV
 cases hov:Jg4 p.N ways st x (nd,tmOf tl) with
 | true =>
  have HF:=Y08 (show J7q p.E W p.N ways x (nd,tmOf tl) 1233 (J0s W p.start script) 0=nn by rw [← HR.out.2.2.1];exact Jk8 hov _ _)
  obtain ⟨q',hRq⟩:=HR7.out
  have hb7:=J01 HH.out.1 HH.out.1.size hRq.below
  have HZ:=Y00 (Y07 (J01 H1.out.1 H1.out.1.size hb7) (J04 H1.out.2.2.2.1 hb7))
  clear hov hRq hb7
  have y0:=J07 HZ.out.2 0
  have z0:v7.cell? ⟨w.heap.size+2,0,none⟩=some (.int .i64 0):=(J03 HZ.out.2 0).trans rfl
  go_wp2_with fail
  refine leaves_cons (f:=62) (args:=#[.pointer (some ⟨w.heap.size+2,0,none⟩)]) (by simp) (by simp [go_sem]) ?_
  refine (J81 ⟨w.heap.size+2,0,none⟩ _).mono ?_
  rintro e u' w'' ⟨rfl,rfl,rfl⟩
  have hbx:=J0d HZ.out.2 0 (.int .i64 0) rfl
  have hcx:=(J03 hbx 0).trans rfl
  have HC2:=HC.out
  simp only [Y06] at HC2
  rw [HF.out] at HC2
  rw [HC2]
  simp [Leaves,settle,results,Tryz.results26,go_sem,hcx,Je9]
  exact HZ.out.1.setCell (by simp;omega) _
 | false=>?_
 have HS:=Y08 (Jec w0 G' W st p.N p.Wd p.E ways v7 HR7.out HG2.out HB.out.w4 HB.out.E16 (fun j k=>Nat.le_trans (HR.out.2.1.queue j k) (by decide)) (HR.out.2.1.hasOk HB.out.N8) (HR.out.2.1.moves HB.out.w4))
 have HOV:=Y08 hov
 clear hov
 go_wp2_with fail
 refine HS.out.mono ?_
 rintro e v8 h8
 unfold J6d at h8
 cases hs:J2j p.E W st with
 | some st' =>
  rw [hs] at h8
  obtain ⟨rfl,hR8⟩:=h8
  obtain ⟨hst1,hst2⟩:=HR.out.2.1.step HB.out.w4 HB.out.E hs
  obtain ⟨k',rfl⟩:∃ k',gk=k'+1:=⟨gk - 1,by have:=HR.out.2.2.2;omega⟩
  have HY:=Y00 (show ∃ st,Mdl.phi st<k'∧J6e w0 G' W st v8∧Mdl.Reach W p.N st∧J7q p.E W p.N ways x (nd,tmOf tl) k' st ((nn+1:Nat):Int)=J7q p.E W p.N ways x (nd,tmOf tl) 1233 (J0s W p.start script) 0 from ⟨st',by have:=HR.out.2.2.2;omega,hR8,hst1,by rw [← HR.out.2.2.1,Jk7 HOV.out hs];rfl⟩)
  clear hs hR8 hst1 hst2 HS HR HR7 HOV
  go_wp2_with fail
  go_roundg k'
  case measure=>omega
  exact ⟨nn+1,by go_num,by omega,HY⟩
 | none=>?_
 rw [hs] at h8
 obtain ⟨rfl,hR8⟩:=h8
 have HF:=Y08 (show J7q p.E W p.N ways x (nd,tmOf tl) 1233 (J0s W p.start script) 0=nn by rw [← HR.out.2.2.1];exact Jk9 HOV.out hs _ _)
 obtain ⟨q',hRq⟩:=hR8
 have hb7:=J01 HH.out.1 HH.out.1.size hRq.below
 have HZ:=Y00 (Y07 (J01 H1.out.1 H1.out.1.size hb7) (J04 H1.out.2.2.2.1 hb7))
 clear hs hRq hb7 HS
 have y0:=J07 HZ.out.2 0
 have z0:v8.cell? ⟨w.heap.size+2,0,none⟩=some (.int .i64 0):=(J03 HZ.out.2 0).trans rfl
 go_wp2_with fail
 refine leaves_cons (f:=62) (args:=#[.pointer (some ⟨w.heap.size+2,0,none⟩)]) (by simp) (by simp [go_sem]) ?_
 refine (J81 ⟨w.heap.size+2,0,none⟩ _).mono ?_
 rintro e u' w'' ⟨rfl,rfl,rfl⟩
 have hbx:=J0d HZ.out.2 0 (.int .i64 0) rfl
 have hcx:=(J03 hbx 0).trans rfl
 have HC2:=HC.out
 simp only [Y06] at HC2
 rw [HF.out] at HC2
 rw [HC2]
 simp [Leaves,settle,results,Tryz.results26,go_sem,hcx,Je9]
 exact HZ.out.1.setCell (by simp;omega) _
end Go.Proofs.YtbkfnmgkcgnifaaGreat
namespace Go.Proofs.YtbkfnmgkcgnifaaGreat.Mdl
theorem J77:∀ (l:List Tm) (x:Tm),x ∈ J1c l↔x ∈ l
 | [],_=>Iff.rfl
 | [_],_=>Iff.rfl
 | a::b::r,x=>by
  have ih:=J77 (b::r) x
  by_cases h:a=b
  ·subst h
   rw [J2t,ih]
   simp
  rw [J2s h,List.mem_cons,ih,List.mem_cons (a:=x) (b:=a)]
def J54 (l:List Tm):Prop:=l.Pairwise (fun a b=>cmpT a b<0)
theorem J53:∀ (l:List Tm),J0c cmpT l→J54 (J1c l)
 | [],_=>List.Pairwise.nil
 | [a],_=>List.pairwise_singleton _ _
 | a::b::r,h=>by
  have h2:J0c cmpT (b::r):=(List.pairwise_cons.1 h).2
  have ih:=J53 (b::r) h2
  by_cases hab:a=b
  ·subst hab
   rw [J2t];exact ih
  rw [J2s hab]
  refine List.pairwise_cons.2 ⟨fun x hx=>?_,ih⟩
  have hx2:=(J77 _ _).1 hx
  have hle:=(List.pairwise_cons.1 h).1 x hx2
  have hab1:=(List.pairwise_cons.1 h).1 b Y03
  have hne:cmpT a x≠0:=fun h0=>by
   have he:=J2o.1 h0
   subst he
   have hba:cmpT b a≤0:=by
    rcases List.mem_cons.1 hx2 with h | h
    ·subst h;exact absurd rfl hab
    exact (List.pairwise_cons.1 h2).1 a h
   rw [J32] at hba
   exact hab (J2o.1 (by omega))
  have hle:cmpT a x≤0:=hle
  omega
theorem J3h:∀ {l m:List Tm},J54 l→J54 m→(∀ x,x ∈ l↔x ∈ m)→l=m
 | [],[],_,_,_=>rfl
 | [],b::m,_,_,h=>absurd ((h b).2 Y03) (by simp)
 | a::l,[],_,_,h=>absurd ((h a).1 Y03) (by simp)
 | a::l,b::m,hl,hm,h=>by
  have l1:=List.pairwise_cons.1 hl
  have m1:=List.pairwise_cons.1 hm
  have hab:a=b:=by
   rcases List.mem_cons.1 ((h a).1 Y03) with h1 | h1
   ·exact h1
   rcases List.mem_cons.1 ((h b).2 Y03) with h2 | h2
   ·exact h2.symm
   have e1:=m1.1 a h1
   have e2:=l1.1 b h2
   rw [J32] at e1;omega
  subst hab
  have hns:∀ {r:List Tm},(∀ x ∈ r,cmpT a x<0)→a ∉ r:=fun hr hm=>by
   have:=hr a hm
   rw [J2o.2 rfl] at this;omega
  rw [J3h l1.2 m1.2 (fun x=>?_)]
  have hx:=h x
  constructor
  ·intro hxl
   rcases List.mem_cons.1 (hx.1 (Y04 _ hxl)) with h1 | h1
   ·subst h1;exact absurd hxl (hns l1.1)
   exact h1
  intro hxm
  rcases List.mem_cons.1 (hx.2 (Y04 _ hxm)) with h1 | h1
  ·subst h1;exact absurd hxm (hns m1.1)
  exact h1
theorem Jca {l m:List Tm} (h:∀ x,x ∈ l↔x ∈ m):J0p l=J0p m:=by
 obtain ⟨s1,p1⟩:=J2a ordT (l:=l) (fun _ _=>trivial)
 obtain ⟨s2,p2⟩:=J2a ordT (l:=m) (fun _ _=>trivial)
 unfold J0p
 rw [J3h (J53 (J2w l) s1) (J53 (J2w m) s2) (fun x=>by
  rw [J77,J77]
  exact (p1.mem_iff.trans (h x)).trans p2.mem_iff.symm)]
theorem Jdr (n:Nat) (ways:Ways) {xs ys:List Mk} (h:∀ m,m ∈ xs↔m ∈ ys):J1u n ways xs=J1u n ways ys:=by
 unfold J1u
 refine List.map_congr_left (fun k _=>Jca (fun t=>?_))
 simp only [rowP,List.mem_flatMap]
 exact ⟨fun ⟨m,hm,ht⟩=>⟨m,(h m).1 hm,ht⟩,fun ⟨m,hm,ht⟩=>⟨m,(h m).2 hm,ht⟩⟩
def Jb4 (W:Nat) (st:St):List Mk:=(List.range W).flatMap fun i=>posL (st.hasOf i)
def J7s (N:Int) (ways:Ways) (W:Nat) (st:St):List (List Tm):=J1u N.toNat ways (Jb4 W st)
def J3w (p:Plan) (script:List Int) (n:Int):Except Int (List (List Tm)):=match J16 p script n 0 with
 | .error c=>.error c
 | .ok ways=>.ok (J7s p.N ways p.workers.toNat (J24 p.E p.workers.toNat n.toNat (J0s p.workers.toNat p.start script)))
structure Ja1 (L:Led) (ms:List Mk):Prop where
 pos:Pos L
 cnt:cnt L=ms.length
 keys:∀ m,m ∈ L.map (·.1)↔m ∈ ms
theorem Ja1.nil:Ja1 [] []:=⟨⟨List.nodup_nil,fun e h=>by cases h⟩,rfl,fun m=>Iff.rfl⟩
theorem Ji9 {L:Led} (h:Pos L) (m:Mk) (hc:Mdl.cnt L≤1000000) (x:Mk):x ∈ (J0j L m 1).map (·.1)↔x=m∨x ∈ L.map (·.1):=by
 constructor
 ·intro hx
  obtain ⟨e,he,rfl⟩:=List.mem_map.1 hx
  rcases J1j he with h1 | h1
  ·exact .inl h1
  exact .inr (List.mem_map.2 ⟨e,h1,rfl⟩)
 intro hx
 have hw:w64 (getL L m+1)≠0:=by
  by_cases hm:m ∈ L.map (·.1)
  ·have:=Ji4 h hm
   rw [J25 (by omega) (by omega)];omega
  rw [J3z (fun e he hk=>hm (List.mem_map.2 ⟨e,he,hk⟩))];decide
 have he:J0j L m 1=insK m (w64 (getL L m+1)) (L.filter (fun e=>!(e.1 == m))):=by unfold J0j;rw [if_neg hw]
 rw [he,((J1g _ _ _).map (·.1)).mem_iff,List.map_cons,List.mem_cons]
 by_cases hxm:x=m
 ·exact .inl hxm
 rcases hx with hx | hx
 ·exact absurd hx hxm
 obtain ⟨e,he,rfl⟩:=List.mem_map.1 hx
 exact .inr (List.mem_map.2 ⟨e,List.mem_filter.2 ⟨he,by simpa using hxm⟩,rfl⟩)
theorem Ja1.snoc {L:Led} {ms:List Mk} (h:Ja1 L ms) (m:Mk) (hl:ms.length≤100000):Ja1 (J0j L m 1) (ms++[m]):=by
 have hc:Mdl.cnt L≤1000000:=by rw [h.cnt];omega
 obtain ⟨h1,h2⟩:=h.pos.enter1 m hc
 refine ⟨h1,by rw [h2,h.cnt];simp,fun x=>?_⟩
 rw [Ji9 h.pos m hc,Y0m,Y11,h.keys x]
 exact Or.comm
theorem Ja1.front {L:Led} {ms:List Mk} (h:Ja1 L ms) (n:Nat) (ways:Ways):J1u n ways (posL L)=J1u n ways ms:=by
 refine Jdr n ways (fun m=>?_)
 rw [← h.keys m]
 unfold posL
 rw [List.filter_eq_self.2 (fun e he=>by have:=h.pos.pos e he;simpa using by omega)]
end Go.Proofs.YtbkfnmgkcgnifaaGreat.Mdl
namespace Go.Proofs.YtbkfnmgkcgnifaaGreat
open Go.RowKit Go.Shelf W1 W2 Mdl
attribute [local go_sem] Oper.semAt_some
theorem J79 {P:Program} {n:Nat} {f:FuncId} {fn:Func} {c:Code} {args:Array Value} {u:FrameMode} {w:World} {R:Ending→FrameMode→World→Prop} (hf:P.funcs[f]?=some fn) (hb:fn.body=some c)
  (h:∀ (c₀:Frame) (cs:List Frame),c₀.mode=u→c.wpS P (bodyPostS P fn c₀ cs R) { tmps:=args++Array.replicate (fn.ntmps - args.size) undef,defers:=[] } (c₀::cs) w):CallsDIn Fence.wide n P f args u w R:=by
 refine ⟨trivial,fun c₀ cs hu _=>?_⟩
 obtain ⟨b,hbd⟩:∃ b:Frame,b={ (default:Frame) with fn:=f,kind:=.deferred }:=⟨_,rfl⟩
 have henter:Frame.enter P f args .deferred=b.at { tmps:=args++Array.replicate (fn.ntmps - args.size) undef,defers:=[] } [.code c]:=by
  rw [hbd]
  simp [Frame.enter,Frame.at,hf,hb]
 obtain ⟨e,a',cs',w',hq,harr⟩:=h c₀ cs hu b [] (by rw [hbd]) (by rw [hbd];rfl)
 rw [← henter] at harr
 cases e with
 | normal =>
  obtain ⟨hd,u',rfl,v,hr,hR⟩:=hq
  exact ⟨.returned v,u',w',_,hR,comesIn_wide.2 (Steps.trans harr (.one step_end)),by rw [hbd];rfl,by rw [hbd];rfl,by rw [hbd];exact ⟨rfl,hd,fn,hf,hr⟩⟩
 | panic chain =>
  obtain ⟨hd,u',rfl,hR⟩:=hq
  obtain ⟨todo,hs⟩:=harr
  exact ⟨.panicked chain,u',w',_,hR,comesIn_wide.2 hs,by rw [hbd];rfl,by rw [hbd];rfl,by rw [hbd];exact ⟨rfl,hd,fn,hf⟩⟩
 | exit id=>exact hq.elim
 | goto l=>exact hq.elim
 | outgrown =>
  obtain ⟨u',hR⟩:=hq
  exact ⟨.outgrown,u',w',b,hR,comesIn_wide.2 (harr.resolve_left (by rw [hbd];simp)),by rw [hbd],by rw [hbd],trivial⟩
 | ret=>?_
 obtain ⟨hd,u',rfl,v,hr,hR⟩:=hq
 obtain ⟨todo,hs⟩:=harr
 exact ⟨.returned v,u',w',_,hR,comesIn_wide.2 hs,by rw [hbd];rfl,by rw [hbd];rfl,by rw [hbd];exact ⟨rfl,hd,fn,hf,hr⟩⟩
theorem J9w (p:Addr) (x c:Int) (w:World) (hc:w.cell? p=some (.int .i64 x)) (hz:w.frozen? p=false) :
  CallsDIn Fence.wide 5 Tryz.prog 42 #[.pointer (some p)] (.panicking (J4g c)) w fun e u' w'=>e=.returned (.tuple #[])∧u'=.panicking [{ v:=.iface 126 (.agg #[.int .i64 c]),recovered:=true }]∧w'=(w.alloc (.cells #[.int .i64 c] 126)).setCell p (.int .i64 c):=by
 refine J79 Tryz.func42 rfl fun c₀ cs hu=>?_
 apply wpS_region
 simp [wpOpsS,go_sem,recoverD,hu,Tryz.ntmps42,Exit.thenS,J4g]
 refine (J26 p x c w hc hz).mono ?_
 rintro e w' ⟨rfl,rfl⟩
 simp [bodyPostS,results,Tryz.results42,go_sem]
theorem J9x (p:Addr) (w:World) :
  CallsDIn Fence.wide 5 Tryz.prog 42 #[.pointer (some p)] .returning w fun e u' w'=>e=.returned (.tuple #[])∧u'=.returning∧w'=w:=by
 refine J79 Tryz.func42 rfl fun c₀ cs hu=>?_
 apply wpS_region
 simp [wpOpsS,go_sem,recoverD,hu,Tryz.ntmps42,Exit.thenS]
 refine (J2i p w).mono ?_
 rintro e w' ⟨rfl,rfl⟩
 cases c₀
 simp_all [bodyPostS,results,Tryz.results42,go_sem]
def J3u (w:World):List Nat→Prop
 | []=>True
 | D::ds=>w.heap[D]?=some (.deferred (some []))∧D ∉ ds∧J3u w ds
def Jr6 (D:Nat):Deferred:={ target:=.collected D,args:=#[] }
theorem J3u.mem {w:World} : ∀ {ds:List Nat},J3u w ds→∀ D ∈ ds,w.heap[D]?=some (.deferred (some []))
 | [],_,D,h=>by cases h
 | E::ds,hm,D,h=>by
  rcases List.mem_cons.1 h with h | h
  ·subst h;exact hm.1
  exact hm.2.2.mem D h
theorem J3u.of {w w':World} : ∀ {ds:List Nat},J3u w ds→(∀ D ∈ ds,w.heap[D]?=some (.deferred (some []))→w'.heap[D]?=some (.deferred (some [])))→J3u w' ds
 | [],_,_=>trivial
 | E::ds,hm,h=>⟨h E Y03 hm.1,hm.2.1,hm.2.2.of (fun D hD=>h D (Y04 _ hD))⟩
theorem Jac {fn:Func} {tmps:Array Value} {R:Ending→World→Prop} {ds:List Deferred} {B:Nat} : ∀ (Ds:List Nat) (w:World),J3u w Ds→(∀ D ∈ Ds,B≤D)→(∀ w',J3m B w w'→LeavesInM Fence.wide 6 Tryz.prog fn tmps R ds .returning w') →
  LeavesInM Fence.wide 6 Tryz.prog fn tmps R (Ds.map Jr6++ds) .returning w
 | [],w,_,_,h=>h w (J3m.refl _ _)
 | D::Ds,w,hm,hB,h=>by
  refine ⟨by simp,.inl ⟨D,_,rfl,run_takeDeferred hm.1,?_⟩⟩
  refine Jac Ds _ (hm.2.2.of (fun E hE hd=>?_)) (fun E hE=>hB E (Y04 _ hE)) (fun w' hq=>h w' (J3m.trans (.putObj hm.1 rfl (hB D Y03)) hq))
  have hne:D≠E:=fun he=>hm.2.1 (he ▸ hE)
  rw [World.putObj_heap_other (by omega)]
  exact hd
theorem Jgc {fn:Func} {tmps:Array Value} {R:Ending→World→Prop} {cap:Array Value} {f:Nat} {u:FrameMode} {w:World} (hu:u≠.run) (hinv:(invoke (.fn (.func f) cap) #[]).run Tryz.prog w=.ok (.enter f cap) w)
  (h:CallsDIn Fence.wide 5 Tryz.prog f cap u w fun
     | .returned _,u',w'=>LeavesInM Fence.wide 6 Tryz.prog fn tmps R [] (settle u') w'
     | .panicked chain,u',w'=>LeavesInM Fence.wide 6 Tryz.prog fn tmps R [] (raised u' chain) w'
     | .outgrown,_,w'=>R .outgrown w'):LeavesInM Fence.wide 6 Tryz.prog fn tmps R [{ target:=.fn (.func f) cap,args:=#[] }] u w :=
 ⟨hu,.inr ⟨fun _=>by omega,_,_,_,_,rfl,hinv,fun _ _=>trivial,h⟩⟩
theorem Jlv {P:Program} {Q:Exit→Act→World→Prop} {a:Act} {w:World} {c:Code} (I:Act→World→Prop) (μ:Act→World→Nat) (h0:I a w)
  (round:∀ a w,I a w→∀ K:Act→World→Prop,Hid (∀ a' w',I a' w'→μ a' w'<μ a w→K a' w')→c.wp P (Exit.then K Q) a w):(Code.loop c).wp P Q a w :=
 wp_loop I μ h0 (fun a w h=>round a w h _ (Y08 fun _ _ h1 h2=>⟨h1,h2⟩))
theorem J1a.quiet {B:Nat} {W W':World} {b:Nat} {L:Led} (h:J1a W b L) (hq:J3m B W W') (hb:b<B):J1a W' b L:=by
 obtain ⟨es,ck,h1,h2⟩:=h
 exact ⟨es,ck,hq.same _ _ h1 (.inl hb),h2⟩
theorem Jfk (p:Plan) (eA mA sA:Option Addr) (eC mC sC:Nat) (script:List Int) (n:Int) (hn64:n≤9223372036854775807) (w:World) (hp:J1v w p eA mA) (hsC:kI.C w sA script.length script) (hsl:script.length≤sC) :
  Calls Tryz.prog 13 #[J1q p eA eC mA mC,.slice sA script.length sC,.int .i64 n] w fun e w'=>∃ v,e=.returned (.tuple #[v,.int .i64 (J1f (J3w p script n)).2])∧kLLI.R 28 w' w.heap.size (fun _=>True) v ((J1f (J3w p script n)).1.map (List.map (J0g p.Wd.toNat)))∧Below w.heap.size w w':=by
 have hmf:=hmf0
 have hz1:(w.alloc (.cells (pC p eA mA eC mC) 27)).heap.size=w.heap.size+1:=by simp
 have b2:Below w.heap.size w ((w.alloc (.cells (pC p eA mA eC mC) 27)).alloc (.cells #[.int .i64 0] 29)):=J15
 have hbk:((w.alloc (.cells (pC p eA mA eC mC) 27)).alloc (.cells #[.int .i64 0] 29)).heap[w.heap.size]?=some (.cells (pC p eA mA eC mC) 27 (0,0)):=J04 (Y0c w _) (J02 _ _)
 have hbr:=Y0c (w.alloc (.cells (pC p eA mA eC mC) 27)) (.cells #[.int .i64 0] 29)
 rw [hz1] at hbr
 have HAF:=Y08 (J9a p eA mA sA eC mC sC script n 0 hn64 _ (hp.below b2) (Kd.c00 hsC b2) hsl)
 have hSm:=Kd.C_max hp.hS
 have hEm:=Kd.C_max hp.hE
 have hSc:=Kd.C_max hsC
 have H1:=Y00 (Y07 b2 (Y07 hbk hbr))
 clear hp hsC hsl hz1 hbk hbr b2
 simp only [J1q] at HAF ⊢
 refine (callsIn_wide (n:=6)).1 (callsIn_of_wp_marks Tryz.func13 rfl trivial ?_ rfl)
 refine wpIn_wide.2 ?_
 simp only [Tryz.ntmps13,List.size_toArray,Y0z,List.length_nil,Nat.reduceAdd,Nat.reduceSub,Array.replicate_succ,Array.replicate_zero,List.push_toArray,List.append_toArray,List.nil_append,List.cons_append,List.append_nil]
 go_upto_region 1 with fail
 generalize (w.alloc (.cells (pC p eA mA eC mC) 27)).alloc (.cells #[.int .i64 0] 29)=w2 at *
 obtain ⟨p0,p1,p2,p3,p4⟩:=bc5 H1.out.2.1
 go_wp2_with fail
 refine HAF.out.mono ?_
 rintro e w3 h3
 unfold J41 at h3
 cases ho:J16 p script n 0 with
 | error c =>
  rw [ho] at h3
  obtain ⟨rfl,hb3⟩:=h3
  have HC:=Y08 (show J3w p script n=.error c by simp only [J3w,ho])
  have hbr:=J04 H1.out.2.2 hb3
  have hb:=J01 H1.out.1 H1.out.1.size hb3
  refine Jgc (f:=42) (cap:=#[.pointer (some ⟨w.heap.size+1,0,none⟩)]) (by simp) (by simp [go_sem]) ?_
  refine (J9w ⟨w.heap.size+1,0,none⟩ 0 c w3 ((J03 hbr 0).trans rfl) (J07 hbr 0)).mono ?_
  rintro e u' w'' ⟨rfl,rfl,rfl⟩
  have hbx:=J0d (J04 hbr (J02 w3 (.cells #[.int .i64 c] 126))) 0 (.int .i64 c) rfl
  have hcx:=(J03 hbx 0).trans rfl
  have hb5:=J01 hb hb.size (J02 w3 (.cells #[.int .i64 c] 126))
  rw [HC.out]
  simp [LeavesInM,LeavesIn,settle,results,Tryz.results13,go_sem,hcx,J1f]
  exact ⟨Kd.R_nil _ _ _ _ _,hb5.setCell (by simp) _⟩
 | ok ways=>?_
 rw [ho] at h3
 obtain ⟨rb,w0,G,rfl,hrb,hb0,hgb,hG,q,hR⟩:=h3
 have hb3:=J01 hb0 hb0.size hR.below
 have hb:=J01 H1.out.1 H1.out.1.size hb3
 have hbr:=J04 H1.out.2.2 hb3
 have HC:=Y08 (show J3w p script n=.ok (J7s p.N ways p.workers.toNat (J24 p.E p.workers.toNat n.toNat (J0s p.workers.toNat p.start script))) by simp only [J3w,ho])
 have HB:=Y08 (begun_ok ho)
 have HG:=Y00 hG
 have HR:=Y00 hR
 have HH:=Y00 (Y07 hb (Y07 hbr hb0))
 clear ho hG hR hb3 hb hbr hb0 hgb p0 p1 p2 p3 p4 HAF
 subst hrb
 have hN1:=HB.out.N1
 have hN8:=HB.out.N8
 have hWd1:=HB.out.Wd1
 have hWd3:=HB.out.Wd3
 have hRe:=J4j (n:=n.toNat) HB.out.w4 HB.out.E _ HB.out.reach
 generalize J24 p.E p.workers.toNat n.toNat (J0s p.workers.toNat p.start script)=st at *
 have HRE:=Y08 hRe
 clear hRe
 have hW4:=HB.out.w4
 have hW1:=HB.out.w1
 generalize p.workers.toNat=W at *
 obtain ⟨nd,hnd⟩:∃ m:Nat,p.N=m:=⟨p.N.toNat,by omega⟩
 obtain ⟨wd,hwd⟩:∃ m:Nat,p.Wd=m:=⟨p.Wd.toNat,by omega⟩
 have HNW:=Y08 (Y07 hnd hwd)
 have hnd1:1≤nd∧nd≤8∧1≤wd∧wd≤3:=by omega
 obtain ⟨hd1,hd8,hd1',hd3⟩:=hnd1
 clear hnd hwd hN1 hN8 hWd1 hWd3
 have HNL:=Y08 (J2q w3)
 go_wp2_with fail
 refine HNL.out.mono ?_
 rintro e w4 ⟨ab,rfl,hab,hb4,hL4⟩
 go_upto_region 4 with fail
 have bX:=J02 w4 (.cells #[.map (some ab)] 88)
 have hx4:=Y0c w4 (.cells #[.map (some ab)] 88)
 have H4:=Y00 (show J12 w0 G W w3.heap.size st q (w4.alloc (.cells #[.map (some ab)] 88))∧J1a (w4.alloc (.cells #[.map (some ab)] 88)) ab []∧(w4.alloc (.cells #[.map (some ab)] 88)).heap[w4.heap.size]?=some (.cells #[.map (some ab)] 88 (0,0))∧Below w3.heap.size w3 (w4.alloc (.cells #[.map (some ab)] 88)) from
  ⟨(HR.out.c08 hb4).c08 bX,hL4.below bX,hx4,J01 hb4 hb4.size bX⟩)
 have HAB:=Y08 hab
 clear hb4 hL4 bX hx4 hab HNL
 generalize w4.alloc (.cells #[.map (some ab)] 88)=w5 at *
 generalize w4.heap.size=xb at *
 obtain ⟨A,c,_,_,_,_,_,_,_,r4,_⟩:=H4.out.1.cells
 go_wp2_with fail
 clear r4
 refine Jlv (fun a V=>∃ (j:Nat) (Ds:List Nat) (es:List Mk) (u11 u12 u25 u26 u27 u28 u29 u30 u31 u32 u33 u34 u35 u36 u37:Value),j≤W∧a={ tmps:=#[.agg #[.int .i64 p.N,.int .i64 p.Wd,.slice eA p.E.length eC,.int .i64 p.workers,.slice mA p.start.length mC],.slice sA script.length sC,.int .i64 n,.pointer (some ⟨w.heap.size,0,none⟩),undef,undef,.slice none 0 0,.pointer (some ⟨w.heap.size+1,0,none⟩),.pointer (some ⟨G.rb,0,none⟩),.pointer (some ⟨xb,0,none⟩),undef,u11,u12,.func (.func 42) #[] #[.pointer (some ⟨w.heap.size+1,0,none⟩)],.agg #[.int .i64 p.N,.int .i64 p.Wd,.slice eA p.E.length eC,.int .i64 p.workers,.slice mA p.start.length mC],.slice sA script.length sC,.int .i64 n,.pointer (some ⟨G.rb,0,none⟩),.agg #[.map (some ab)],.pointer (some ⟨G.rb,0,none⟩),.pointer (some ⟨G.rb,0,none⟩),.pointer (some ⟨G.rb,4,none⟩),.slice (some ⟨G.wa,0,none⟩) W G.wc,.int .i64 W,.int .i64 j,u25,u26,u27,u28,u29,u30,u31,u32,u33,u34,u35,u36,u37,undef,undef,undef,undef,undef,undef,undef,undef,undef],defers:=Ds.map Jr6++[{ target:=.fn (.func 42) #[.pointer (some ⟨w.heap.size+1,0,none⟩)],args:=#[] }] }∧J08 (Below w3.heap.size w3 V∧(∃ L,J1a V ab L∧Ja1 L es)∧(∀ m,m ∈ es↔m ∈ (List.range j).flatMap fun i=>posL (st.hasOf i))∧es.length≤j*308∧V.heap[xb]?=some (.cells #[.map (some ab)] 88 (0,0))∧J3u V Ds∧∀ D ∈ Ds,w3.heap.size≤D)) (fun a _=>W - (intOf (a.tmps.getD 24 undef)).toNat) ?_ ?_
 ·exact ⟨0,[],[],undef,undef,undef,undef,undef,undef,undef,undef,undef,undef,undef,undef,undef,undef,undef,Nat.zero_le _,rfl,⟨H4.out.2.2.2,⟨[],H4.out.2.1,Ja1.nil⟩,by simp,Nat.zero_le _,H4.out.2.2.1,trivial,by simp⟩⟩
 rintro a V ⟨j,Ds,es,u11,u12,u25,u26,u27,u28,u29,u30,u31,u32,u33,u34,u35,u36,u37,hj,rfl,hX⟩ K hK
 obtain ⟨hB,⟨L,hL,hAll⟩,hes,hel,hxb,hMk,hDs⟩:=hX.out
 have hRV:=HR.out.c08 hB
 have HXX:=Y00 (Y07 hB (Y07 hL (Y07 hAll (Y07 hes (Y07 hel (Y07 hxb (Y07 hMk (Y07 hDs hRV))))))))
 clear hB hL hAll hes hel hxb hMk hDs hRV hX
 by_cases hlt:j<W
 ·have hjW:(j:Int)<W:=by omega
  have hj0:(0:Int)≤j:=by omega
  obtain ⟨s1,_,s3,_⟩:=HXX.out.2.2.2.2.2.2.2.2.wcells hlt
  go_wp2_with fail
  clear s1 s3
  have hLh:=HXX.out.2.2.2.2.2.2.2.2.has j hlt
  have hPos:Pos (st.hasOf j):=HRE.out.inv.has.pos _ (J0i (l:=st.has) (i:=j) (by rw [HRE.out.inv.has.len];exact hlt) [])
  have hcl:(posL (st.hasOf j)).length≤308:=by
   have h1:=J5h hPos.pos
   have h2:=J1d (has:=st.has) (i:=j) (by rw [HRE.out.inv.has.len];exact hlt)
   have h3:=HRE.out.phi
   unfold Mdl.phi at h3
   have h4:=Jem (st.hasOf j)
   have h5:cnt (st.has.getD j [])=cnt (st.hasOf j):=rfl
   omega
  have hne:ab≠G.hb j:=fun he=>by
   have h1:=(HR.out.has j hlt).lt
   have h2:=HAB.out
   omega
  have HPJ:=Y08 (Y07 hPos (Y07 hcl hne))
  have hablt:ab<V.heap.size:=HXX.out.2.1.lt
  have HAL:=Y08 hablt
  have HSQ:=Jip (G.hb j) (st.hasOf j) V (fun k=>k=ab) hLh (fun k hk=>by subst hk;exact ⟨hablt,hne⟩)
  clear hLh hPos hcl hne hablt
  refine (wpIn_wide (n:=6)).1 ?_
  refine Jfy (P:=Tryz.prog) (gf:=45) (first:=#[.agg #[.map (some (G.hb j))]]) (cap:=#[]) rfl (enters_of Tryz.func45 (by kernel_rfl) rfl) (enc:=fun m=>#[mkV m]) (fun _=>rfl) (x:=fun k=>k=ab) (fun k hk=>by subst hk;exact HAL.out) HSQ
   (fun pre V1=>Below w3.heap.size w3 V1∧(∃ L,J1a V1 ab L∧Ja1 L (es++pre))∧V1.heap[xb]?=some (.cells #[.map (some ab)] 88 (0,0))∧J3u V1 Ds)
   ?stab ?start
   (fun pre m a1 V1=>∃ bm,a1={ tmps:=#[.agg #[.int .i64 p.N,.int .i64 p.Wd,.slice eA p.E.length eC,.int .i64 p.workers,.slice mA p.start.length mC],.slice sA script.length sC,.int .i64 n,.pointer (some ⟨w.heap.size,0,none⟩),undef,undef,.slice none 0 0,.pointer (some ⟨w.heap.size+1,0,none⟩),.pointer (some ⟨G.rb,0,none⟩),.pointer (some ⟨xb,0,none⟩),undef,.pointer (some ⟨G.wb j,0,none⟩),.pointer (some ⟨bm,0,none⟩),.func (.func 42) #[] #[.pointer (some ⟨w.heap.size+1,0,none⟩)],.agg #[.int .i64 p.N,.int .i64 p.Wd,.slice eA p.E.length eC,.int .i64 p.workers,.slice mA p.start.length mC],.slice sA script.length sC,.int .i64 n,.pointer (some ⟨G.rb,0,none⟩),.agg #[.map (some ab)],.pointer (some ⟨G.rb,0,none⟩),.pointer (some ⟨G.rb,0,none⟩),.pointer (some ⟨G.rb,4,none⟩),.slice (some ⟨G.wa,0,none⟩) W G.wc,.int .i64 W,.int .i64 j,.bool true,.pointer (some ⟨G.wa,j,none⟩),.pointer (some ⟨G.wb j,0,none⟩),.pointer (some ⟨G.wb j,0,none⟩),.pointer (some ⟨G.wb j,0,none⟩),.pointer (some ⟨G.wb j,1,none⟩),.agg #[.map (some (G.hb j))],.func (.func 45) #[.agg #[.map (some (G.hb j))]] #[],.agg #[.int .i64 m.1,.int .i64 m.2.1,.int .i64 m.2.2.1,.int .i64 m.2.2.2],u34,u35,u36,u37,undef,undef,undef,undef,undef,undef,undef,undef,undef],defers:=[] }∧V1.heap[bm]?=some (.cells #[.int .i64 m.1,.int .i64 m.2.1,.int .i64 m.2.2.1,.int .i64 m.2.2.2] 101 (0,0))∧Below w3.heap.size w3 V1∧(∃ L,J1a V1 ab L∧Ja1 L (es++pre))∧V1.heap[xb]?=some (.cells #[.map (some ab)] 88 (0,0))∧J3u V1 Ds)
   ?stab2 ?assign ?body ?done
  case stab =>
   rintro pre V1 V2 hV ⟨h1,⟨L1,h2,h3⟩,h4,h5⟩ hq
   exact ⟨h1.trans ((hq.toBelow hV).mono HXX.out.1.size),⟨L1,h2.quiet hq HAL.out,h3⟩,hq.same _ _ h4 (.inr rfl),h5.of (fun D hD hd=>hq.same _ _ hd (.inl (J0q (HXX.out.2.2.2.2.2.2.1.mem D hD))))⟩
  case start=>exact ⟨HXX.out.1,⟨L,HXX.out.2.1,by rw [List.append_nil];exact HXX.out.2.2.1⟩,HXX.out.2.2.2.2.2.1,HXX.out.2.2.2.2.2.2.1⟩
  case stab2 =>
   rintro pre m a1 _ V1 V2 hV ⟨bm,h0,hb,h1,⟨L1,h2,h3⟩,h4,h5⟩ hq
   exact ⟨bm,h0,hq.same _ _ hb (.inr rfl),h1.trans ((hq.toBelow hV).mono HXX.out.1.size),⟨L1,h2.quiet hq HAL.out,h3⟩,hq.same _ _ h4 (.inr rfl),h5.of (fun D hD hd=>hq.same _ _ hd (.inl (J0q (HXX.out.2.2.2.2.2.2.1.mem D hD))))⟩
  case assign =>
   rintro l pre m V1 K1 hV hp ⟨h1,⟨L1,h2,h3⟩,h4,h5⟩ hK1
   have HKK:=Y08 hK1
   have HI:=Y00 (Y07 h1 (Y07 h2 (Y07 h3 (Y07 h4 h5))))
   clear h1 h2 h3 h4 h5 hK1 hK
   simp only [mkV]
   gi_wp2
   have bN:=J02 V1 (.cells #[.int .i64 m.1,.int .i64 m.2.1,.int .i64 m.2.2.1,.int .i64 m.2.2.2] 101)
   exact HKK.out _ _ (NC.below bN) ⟨V1.heap.size,rfl,Y0c V1 _,J01 HI.out.1 HI.out.1.size bN,⟨L1,HI.out.2.1.below bN,HI.out.2.2.1⟩,J04 HI.out.2.2.2.1 bN,HI.out.2.2.2.2.of (fun D _ hd=>J04 hd bN)⟩
  case body =>
   rintro l pre m a1 V1 hV hp ⟨bm,rfl,hb,h1,⟨L1,h2,h3⟩,h4,h5⟩
   have hpl:(es++pre).length≤100000:=by
    obtain ⟨xs,hxs,hpx⟩:=hp
    have g1:=hpx.length_le
    rw [hxs.length_eq,Y02] at g1
    have g2:=HPJ.out.2.1
    have g3:=HXX.out.2.2.2.2.1
    rw [Y02]
    have g4:j*308≤4*308:=Nat.mul_le_mul_right _ (by omega)
    omega
   have HI:=Y00 (Y07 h1 (Y07 h2 (Y07 h3 (Y07 h4 (Y07 h5 hpl)))))
   have k0:V1.cell? ⟨xb,0,none⟩=some (.map (some ab)):=(J03 h4 0).trans rfl
   obtain ⟨m0,m1,m2,m3⟩:=bc4 hb
   have EN:=J5o ab L1 m 1 V1 h2
   simp only [mkV] at EN
   have HEN:=Y08 EN
   clear h1 h2 h3 h4 h5 hb hp hpl EN hK
   gi_wp2
   refine ⟨trivial,callsIn_wide.2 (HEN.out.mono ?_)⟩
   rintro e V2 ⟨rfl,hg2,hL2⟩
   have hk2:Kept V1 V2 (fun k=>k=ab):=⟨hg2.size,fun i hi hn=>hg2.block i hi (fun he=>hn (by injection he))⟩
   have HJ:=Y00 (show NC (fun k=>k=ab) V1 V2∧Below w3.heap.size w3 V2∧(∃ L,J1a V2 ab L∧Ja1 L (es++(pre++[m])))∧V2.heap[xb]?=some (.cells #[.map (some ab)] 88 (0,0))∧J3u V2 Ds from
    ⟨⟨hg2.size,fun k o hk _ hx=>J0f hk hk2 hx⟩,HI.out.1.grown hg2 HI.out.1.size (fun k hk=>by injection hk with hk;subst hk;exact HAB.out),⟨_,hL2,by rw [← Y0d];exact HI.out.2.2.1.snoc m HI.out.2.2.2.2.2⟩,
     J0f HI.out.2.2.2.1 hk2 (Ne.symm (J45 HI.out.2.1 ⟨_,HI.out.2.2.2.1⟩)),HI.out.2.2.2.2.1.of (fun D hD hd=>J0f hd hk2 (fun he=>by
      subst he
      obtain ⟨es9,ck,hmap,_⟩:=HI.out.2.1
      rw [hmap] at hd;cases hd))⟩)
   clear hg2 hL2 hk2 k0 m0 m1 m2 m3 HEN
   gi_wp2
   exact HJ.out
  rintro D xs V1 hD hS ⟨h1,⟨L1,h2,h3⟩,h4,h5⟩ hKd
  have HN:=Y00 (show Below w3.heap.size w3 V1∧(∃ L,J1a V1 ab L∧Ja1 L (es++xs))∧(∀ m,m ∈ es++xs↔m ∈ (List.range (j+1)).flatMap fun i=>posL (st.hasOf i))∧(es++xs).length≤(j+1)*308∧V1.heap[xb]?=some (.cells #[.map (some ab)] 88 (0,0))∧J3u V1 (D::Ds)∧∀ D' ∈ D::Ds,w3.heap.size≤D' from
   ⟨h1,⟨L1,h2,h3⟩,fun m=>by
    rw [List.range_succ,List.flatMap_append,Y0m,Y0m,HXX.out.2.2.2.1 m,hS.mem_iff]
    simp,by
    rw [Y02,hS.length_eq]
    have g1:=HXX.out.2.2.2.2.1
    have g2:=HPJ.out.2.1
    omega,h4,⟨hKd,fun hm=>by
     have:=J0q (HXX.out.2.2.2.2.2.2.1.mem D hm)
     omega,h5⟩,fun D' hD'=>by
    rcases List.mem_cons.1 hD' with h | h
    ·subst h;have:=HXX.out.1.size;omega
    exact HXX.out.2.2.2.2.2.2.2.1 D' h⟩)
  clear h1 h2 h3 h4 h5 hKd hS
  go_wp2_with fail
  refine hK.out _ _ ⟨j+1,D::Ds,es++xs,.pointer (some ⟨G.wb j,0,none⟩),u12,.bool true,.pointer (some ⟨G.wa,j,none⟩),.pointer (some ⟨G.wb j,0,none⟩),.pointer (some ⟨G.wb j,0,none⟩),.pointer (some ⟨G.wb j,0,none⟩),.pointer (some ⟨G.wb j,1,none⟩),.agg #[.map (some (G.hb j))],.func (.func 45) #[.agg #[.map (some (G.hb j))]] #[],u33,u34,u35,u36,.int .i64 ((j:Int)+1),by omega,?_,HN⟩ ?_
  ·rw [show ((j+1:Nat):Int)=(j:Int)+1 from by omega]
   rfl
  show W - (intOf (.int .i64 ((j:Int)+1))).toNat<W - (intOf (.int .i64 (j:Int))).toNat
  simp [intOf];omega
 have hjW:¬ ((j:Int)<W):=by omega
 have hjW2:j=W:=by omega
 clear hK
 have HES:=Y08 (show ∀ m,m ∈ es↔m ∈ Jb4 W st from by rw [← hjW2];exact HXX.out.2.2.2.1)
 have hel:es.length≤1232:=by
  have g3:=HXX.out.2.2.2.2.1
  have g4:j*308≤4*308:=Nat.mul_le_mul_right _ (by omega)
  omega
 have HEL:=Y08 hel
 clear hjW2 hel
 obtain ⟨_,_,_,_,_,_,_,_,r3,_,_⟩:=HXX.out.2.2.2.2.2.2.2.2.cells
 have k0:V.cell? ⟨xb,0,none⟩=some (.map (some ab)):=(J03 HXX.out.2.2.2.2.2.1 0).trans rfl
 go_upto_region 11 with fail
 refine wp_region_noPanic ?_
 refine sr1 11 (fun V1=>V1.cell? ⟨G.rb,3,none⟩=some (.pointer (some ⟨G.gb,0,none⟩))∧V1.cell? ⟨xb,0,none⟩=some (.map (some ab))) [10] ⟨r3,k0⟩ fun hJ0=>?_
 have HD:=Y00 (J05 (Y0f V.heap.size V))
 have HSH:=Y08 (fun V1 (hb:Below V.heap.size V V1)=>(Y07 (J00 hb r3) (J00 hb k0)))
 clear r3 k0
 generalize V.drew=wdr at *
 have hLn:∀ e ∈ L,0≤e.1.1∧e.1.1<nd:=fun e he=>by
  have hm:=(HES.out e.1).1 ((HXX.out.2.2.1.keys e.1).1 (List.mem_map.2 ⟨e,he,rfl⟩))
  unfold Jb4 at hm
  obtain ⟨i,hi,hm⟩:=List.mem_flatMap.1 hm
  have hi:=Y12.1 hi
  obtain ⟨e2,he2,hk2⟩:=Jel _ hm
  have:=HRE.out.inv.has.node _ (J0i (l:=st.has) (i:=i) (by rw [HRE.out.inv.has.len];exact hi) []) e2 he2
  rw [hk2] at this
  unfold J1k at this
  rwa [HNW.out.1] at this
 have hLl:L.length≤1232:=by
  have h1:=J5h HXX.out.2.2.1.pos.pos
  rw [HXX.out.2.2.1.cnt] at h1
  have:=HEL.out;omega
 have hWO:J9b nd 286331153 ways:=by have:=HB.out.ways;rwa [HNW.out.1,Y06] at this
 have HF:=Y08 (J69 G.gb nd p.Wd p.E ways ab L wdr (by have:=HG.out.below (J01 HXX.out.2.2.2.2.2.2.2.2.below HXX.out.2.2.2.2.2.2.2.2.below.size HD.out);rwa [HNW.out.1] at this) (by omega) (by omega) 286331153 hWO hLn (by omega) (HXX.out.2.1.below HD.out))
 have HLN:=Y08 (Y07 hLn (Y07 hLl hWO))
 clear hLn hLl hWO
 refine pv 0 ?_
 refine pv 1 ?_
 refine pv 2 ?_
 refine pv 3 ?_
 refine tv2 4 ?_
 refine tv2 5 ?_
 refine pv 6 ?_
 refine ov 7 fun K hK=>?_
 refine gs0 Tryz.func48 #[.pointer (some ⟨G.gb,0,none⟩),.func (.func 45) #[.agg #[.map (some ab)]] #[]] ?_
 refine HF.out.mono ?_
 rintro e w7 ⟨v7,xs,rfl,hxs,hR7,hb7⟩
 have hlx:xs.length≤1232:=by have:=hxs.length_eq;have:=Jem L;have:=HLN.out.2.1;omega
 have hfr:∀ r ∈ J1u nd ways xs,r.length≤xs.length*286331153:=Jfv HLN.out.2.2 (fun y hy=>by
  obtain ⟨e,he,rfl⟩:=Jel y (hxs.mem_iff.1 hy)
  exact HLN.out.1 e he)
 rw [J8c nd ways hxs] at hR7 hfr
 have hfl:=Jc9 nd ways (posL L)
 have HBP:=Y08 (show J7s p.N ways W st=J1u nd ways (posL L) by
  unfold J7s
  rw [HNW.out.1,Y06,HXX.out.2.2.1.front nd ways]
  exact (Jdr nd ways HES.out).symm)
 generalize J1u nd ways (posL L)=fr at *
 obtain ⟨A7,c7,rfl⟩:=Kd.c02 hR7
 have HB7:=Y08 (J01 HD.out HD.out.size hb7)
 have hc1:=(HG.out.below (J01 HXX.out.2.2.2.2.2.2.2.2.below HXX.out.2.2.2.2.2.2.2.2.below.size HB7.out)).c1
 rw [HNW.out.2] at hc1
 have HTD:=Y08 (Jil G.rb G.gb wd A7 c7 fr w7 (HSH.out _ HB7.out).1 hc1 (by omega) (by omega) (Kd.c03 hR7).2.2 (by omega) (fun r hr=>by have:=hfr r hr;have:xs.length*286331153≤1232*286331153:=Nat.mul_le_mul_right _ hlx;omega))
 refine ⟨_,rfl,hK.out _ _ (HSH.out _ HB7.out) (fun hJ0=>?_)⟩
 clear hxs hR7 hfr hlx hb7 hc1 hfl
 clear hK K
 refine nm0 _ ?_
 refine ov 8 fun K hK=>?_
 refine gs0 Tryz.func47 #[.pointer (some ⟨G.rb,0,none⟩),.slice A7 fr.length c7] ?_
 refine HTD.out.mono ?_
 rintro e w8 ⟨v8,rfl,hR8,hb8⟩
 obtain ⟨A8,c8,rfl⟩:=Kd.c02 hR8
 have HB8:=Y08 (J01 HB7.out HB7.out.size hb8)
 have hw38:=J01 HXX.out.1 HXX.out.1.size HB8.out
 have H8:=Y00 (Y07 (Kd.c04 hR8 (show w3.heap.size≤w7.heap.size from Nat.le_trans HXX.out.1.size HB7.out.size)) (Y07 (J04 HH.out.2.1 hw38) (Y07 hw38 (HXX.out.2.2.2.2.2.2.1.of (fun D _ hd=>J04 hd HB8.out)))))
 generalize (fr.map (List.map (J0g wd))).length=n8 at *
 have y0:=J07 H8.out.2.1 0
 have z0:w8.cell? ⟨w.heap.size+1,0,none⟩=some (.int .i64 0):=(J03 H8.out.2.1 0).trans rfl
 refine ⟨_,rfl,hK.out _ _ (HSH.out _ HB8.out) (fun hJ0=>?_)⟩
 clear hR8 hb8 hw38
 clear hK K
 refine nm0 _ ?_
 refine pv 9 ?_
 refine la0 10 (bs 11 2047) (N:=none) fun K hK=>?_
 refine sk0 ?_
 refine hK.out _ _ ?_
 clear hK K hJ0
 refine dn0 ?_
 refine NoPanic.normal ?_
 go_wp2_with fail
 have hbx:=J0d H8.out.2.1 0 (.int .i64 0) rfl
 have hg9:w8.grownBy (w8.setCell ⟨w.heap.size+1,0,none⟩ (.int .i64 0)) (some (w.heap.size+1)):=J0e (w.heap.size+1) [_] 0 w8
 have hR9:=J7b (b':=w3.heap.size) (j:=0) (u:=.int .i64 0) H8.out.1 (J0q HH.out.2.1) (Y0e _)
 have hB9:Below w.heap.size w (w8.setCell ⟨w.heap.size+1,0,none⟩ (.int .i64 0)):=(J01 HH.out.1 HH.out.1.size H8.out.2.2.1).setCell (by simp) _
 have hM9:J3u (w8.setCell ⟨w.heap.size+1,0,none⟩ (.int .i64 0)) Ds:=H8.out.2.2.2.of (fun D hD hd=>J0x hd hg9 (fun he=>by
  injection he with he
  have h1:=HXX.out.2.2.2.2.2.2.2.1 D hD
  have h2:=J0q HH.out.2.1
  omega))
 refine Jac (B:=w3.heap.size) Ds _ hM9 HXX.out.2.2.2.2.2.2.2.1 (fun w10 hq=>?_)
 refine Jgc (f:=42) (cap:=#[.pointer (some ⟨w.heap.size+1,0,none⟩)]) (by simp) (by simp [go_sem]) ?_
 refine (J9x ⟨w.heap.size+1,0,none⟩ w10).mono ?_
 rintro e u' w'' ⟨rfl,rfl,rfl⟩
 have hcx:=(J03 (hq.same _ _ hbx (.inr rfl)) 0).trans rfl
 have hR10:=Jfd hR9 hq
 have hB10:=hB9.trans ((hq.toBelow (by have:=H8.out.2.2.1.size;simpa [World.setCell] using this)).mono HH.out.1.size)
 rw [HC.out]
 have hE9:(J1f (Except.ok (J7s p.N ways W st):Except Int (List (List Tm)))).1.map (List.map (J0g p.Wd.toNat))=fr.map (List.map (J0g wd)):=by
  rw [HNW.out.2,Y06]
  show (J7s p.N ways W st).map _=_
  rw [HBP.out]
 rw [hE9]
 simp [LeavesInM,LeavesIn,settle,results,Tryz.results13,go_sem,hcx,J1f]
 exact ⟨Kd.c04 hR10 HH.out.1.size,hB10⟩
end Go.Proofs.YtbkfnmgkcgnifaaGreat
namespace Go.Proofs.YtbkfnmgkcgnifaaGreat
open Go.RowKit W1 W2
theorem oc {P:Program} {ops:Array Oper} {Q:Exit→Act→World→Prop} {md:Region.Mode} {S:World→Prop} {ds:List Nat} {oi:Oper} {fuel n k k' N:Nat} {a:Act} {w:World} {f:FuncId} {fn:Func} {as_:Array Operand} {ts:Array TypeId} (i:Nat) (hf:P.funcs[f]?=some fn) (args:Array Value) (h:Calls P f args w fun e w'=>∃ v,e=.returned v∧S w'∧(S w'→J06 P md ops Q S ds fuel (bs n k') (a.put (some N) v) w')) (hk:k|||1<<<i=k':=by simp only [Nat.reduceShiftLeft,Nat.reduceOr];rfl) (hi:ops[i]?=some oi:=by rfl) (hN:oi.dst=some N:=by rfl) (hc:Jbl md ops (bs n k) (bs n k') i=true:=by kernel_rfl) (hd:i∉ds:=by decide) (hname:(fn.name== "runtime.NumGoroutine")=false:=by kernel_rfl) (hb:fn.body.isSome=true:=by rfl) (hw:Region.wanted oi (yielded ops a.tmps)=true:=by rfl) (hop:oi.op=.call { callee:=.value (.func f),args:=as_,argTypes:=ts }:=by rfl) (hargs:as_.map a.eval=args:=by (try simp only [List.map_toArray,List.map_cons,List.map_nil]);first | done | rfl):J06 P md ops Q S ds (fuel+1) (bs n k) a w:=ov i (fun K hK=>gs0 hf args (h.mono fun e w' ⟨v,he,hs,hw⟩=>⟨v,he,hK.out _ _ hs hw⟩) hname hb hw hN hop hargs) hk hi hN hc hd
end Go.Proofs.YtbkfnmgkcgnifaaGreat
namespace Go.Proofs.YtbkfnmgkcgnifaaGreat
open Go.RowKit Go.Shelf W1 W2 Mdl
theorem at_int {w:World} {A:Option Addr} {l:List Int} (h:kI.C w A l.length l) {k:Nat} (hk:k<l.length):∃ ad,A=some ad∧w.cell? (ad.add k)=some (.int .i64 l[k]):=by
 obtain ⟨ad,c,e,hl,hK,hc⟩:=Kd.C_get h 0 (k:Int) (by omega) (by omega)
 rw [Y06,Y01,Y05 hk] at hK
 rw [Y06] at hc
 have hK:c=[.int .i64 l[k]]:=hK
 subst hK
 refine ⟨ad,e,?_⟩
 have:=hc 0 _ rfl
 rwa [show kI.sz=1 from rfl,Nat.mul_one,Nat.add_zero] at this
theorem Jqx {w:World} {A:Option Addr} {l:List (List Int)} (h:kLI.C w A l.length l) {k:Nat} (hk:k<l.length) :
  ∃ ad sA sC,A=some ad∧w.cell? (ad.add k)=some (.slice sA l[k].length sC)∧kI.C w sA l[k].length l[k]∧l[k].length≤sC:=by
 obtain ⟨ad,c,e,hl,hK,hc⟩:=Kd.C_get h [] (k:Int) (by omega) (by omega)
 rw [Y06,Y01,Y05 hk] at hK
 rw [Y06] at hc
 obtain ⟨sA,sC,rfl,hle,hC⟩:=hK
 refine ⟨ad,sA,sC,e,?_,hC,hle⟩
 have:=hc 0 _ rfl
 rwa [show kLI.sz=1 from rfl,Nat.mul_one,Nat.add_zero] at this
theorem Jpr {w:World} {A:Option Addr} {l:List (List (List Int))} (h:kLLI.C w A l.length l) {k:Nat} (hk:k<l.length) :
  ∃ ad sA sC,A=some ad∧w.cell? (ad.add k)=some (.slice sA l[k].length sC)∧kLI.C w sA l[k].length l[k]∧l[k].length≤sC:=by
 obtain ⟨ad,c,e,hl,hK,hc⟩:=Kd.C_get h [] (k:Int) (by omega) (by omega)
 rw [Y06,Y01,Y05 hk] at hK
 rw [Y06] at hc
 obtain ⟨sA,sC,rfl,hle,hC⟩:=hK
 refine ⟨ad,sA,sC,e,?_,hC,hle⟩
 have:=hc 0 _ rfl
 rwa [show kLLI.sz=1 from rfl,Nat.mul_one,Nat.add_zero] at this
theorem Jpq {w:World} {A:Option Addr} {l:List (Int × List Int)} (h:kMk.C w A l.length l) {k:Nat} (hk:k<l.length) :
  ∃ ad sA sC,A=some ad∧w.cell? (ad.add (k*2))=some (.int .i64 l[k].1)∧w.cell? ⟨(ad.add (k*2)).block,(ad.add (k*2)).off+1,none⟩=some (.slice sA l[k].2.length sC)∧kI.C w sA l[k].2.length l[k].2∧l[k].2.length≤sC:=by
 obtain ⟨ad,c,e,hl,hK,hc⟩:=Kd.C_get h (0,[]) (k:Int) (by omega) (by omega)
 rw [Y06,Y01,Y05 hk] at hK
 rw [Y06] at hc
 obtain ⟨c0,c1,rfl,h0,h1⟩:=hK
 cases h0
 obtain ⟨sA,sC,rfl,hle,hC⟩:=h1
 refine ⟨ad,sA,sC,e,?_,?_,hC,hle⟩
 ·have:=hc 0 _ rfl
  rwa [show kMk.sz=2 from rfl,Nat.add_zero] at this
 have:=hc 1 _ rfl
 rwa [show kMk.sz=2 from rfl,J1i _ _ _ (by omega)] at this
theorem J59 {α:Type} {l m:List α} {k:Nat} (hl:k<l.length) (hm:k<m.length) (h:l.take k=m.take k) (e:l[k]=m[k]):l.take (k+1)=m.take (k+1):=by
 rw [Y0u hl,Y0u hm,h,e]
theorem Jgh {α:Type} {l m:List α} {k:Nat} (hl:k<l.length) (hm:k<m.length) (e:l[k]≠m[k]):l≠m:=fun h=>by subst h;exact e rfl
theorem J73 (A B:Option Addr) (cA cB:Nat) (l m:List Int) (w:World) (hl:kI.C w A l.length l) (hm:kI.C w B m.length m) :
  Calls Tryz.prog 39 #[.slice A l.length cA,.slice B m.length cB] w fun e w'=>e=.returned (.bool (decide (l=m)))∧Below w.heap.size w w':=by
 have HL:=Y00 hl
 have HM:=Y00 hm
 have hlm:=Kd.C_max hl
 have hmm:=Kd.C_max hm
 clear hl hm
 go_enter Tryz.func39,Tryz.ntmps39
 go_wp2_with fail
 go_loopw [5,6] (fun s i wr=>∃ (k:Nat) (b:Bool),s=.bool b∧i=.int .i64 k∧k≤l.length∧J08 ((b=true→l.length=m.length∧l.take k=m.take k)∧(b=false→l≠m)∧Below w.heap.size w wr)) (fun _ i _=>l.length - (intOf i).toNat)
 case atStart=>exact ⟨0,_,rfl,rfl,Nat.zero_le _,⟨fun h=>⟨by have:=eq_of_beq h;omega,by simp⟩,fun h he=>by subst he;simp at h,Y0f _ _⟩⟩
 obtain ⟨k,b,rfl,rfl,hk,hX⟩:=hrel
 cases b with
 | false =>
  have HF:=Y08 (hX.out.2.1 rfl)
  go_wp2_with fail
  go_ret
  exact ⟨by rw [Y0s HF.out];rfl,hX.out.2.2⟩
 | true=>?_
 have HT:=Y08 (hX.out.1 rfl)
 by_cases hlt:k<l.length
 rotate_left
 ·have hkE:¬ ((k:Int)<l.length):=by omega
  have HE:=Y08 (show l=m by
   have h:=HT.out.2
   rwa [Y0t (by omega),Y0t (by have:=HT.out.1;omega)] at h)
  go_wp2_with fail
  go_ret
  exact ⟨by rw [Y0r HE.out];rfl,hX.out.2.2⟩
 have hkm:k<m.length:=by have:=HT.out.1;omega
 have hkE:(k:Int)<l.length:=by omega
 have hkM:(k:Int)<m.length:=by omega
 have hk0:(0:Int)≤k:=by omega
 obtain ⟨ad,rfl,c1⟩:=at_int (Kd.c00 HL.out hX.out.2.2) hlt
 obtain ⟨ad2,rfl,c2⟩:=at_int (Kd.c00 HM.out hX.out.2.2) hkm
 have HG:=Y08 (show (l[k]=m[k]→l.take (k+1)=m.take (k+1))∧(l[k]≠m[k]→l≠m) from ⟨J59 hlt hkm HT.out.2,Jgh hlt hkm⟩)
 have HLEN:=Y08 HT.out.1
 clear HT
 generalize l[k]=x at *
 generalize m[k]=y at *
 clear hkm
 go_upto_region 5 with fail
 refine sr1 10 (fun w'=>w'.cell? (ad.add k)=some (.int .i64 x)∧w'.cell? (ad2.add k)=some (.int .i64 y)) [] ⟨c1,c2⟩ fun hJ0=>?_
 have HD:=Y00 (J05 hX.out.2.2)
 have HDW:=Y00 (J05 (Y0f wr.heap.size wr))
 generalize wr.drew=wd at *
 refine pv 0 ?_
 refine pv 1 ?_
 refine pv 2 ?_
 refine tv2 3 ?_
 refine pv 4 ?_
 refine pv 5 ?_
 refine pv 6 ?_
 refine tv2 7 ?_
 refine pv 8 ?_
 refine pv 9 ?_
 refine dn0 ?_
 go_wp2_with fail
 exact ⟨⟨k+1,_,rfl,by go_num,by omega,⟨fun h=>⟨HLEN.out,HG.out.1 (eq_of_beq h)⟩,fun h=>HG.out.2 (by simpa using h),HD.out⟩⟩,by simp [intOf];omega⟩
theorem J7z (A B:Option Addr) (cA cB:Nat) (l m:List (List Int)) (w:World) (hl:kLI.C w A l.length l) (hm:kLI.C w B m.length m) :
  Calls Tryz.prog 10 #[.slice A l.length cA,.slice B m.length cB] w fun e w'=>e=.returned (.bool (decide (l=m)))∧Below w.heap.size w w':=by
 have HL:=Y00 hl
 have HM:=Y00 hm
 have hlm:=Kd.C_max hl
 have hmm:=Kd.C_max hm
 clear hl hm
 go_enter Tryz.func10,Tryz.ntmps10
 go_wp2_with fail
 go_loopw [5,6] (fun s i wr=>∃ (k:Nat) (b:Bool),s=.bool b∧i=.int .i64 k∧k≤l.length∧J08 ((b=true→l.length=m.length∧l.take k=m.take k)∧(b=false→l≠m)∧Below w.heap.size w wr)) (fun _ i _=>l.length - (intOf i).toNat)
 case atStart=>exact ⟨0,_,rfl,rfl,Nat.zero_le _,⟨fun h=>⟨by have:=eq_of_beq h;omega,by simp⟩,fun h he=>by subst he;simp at h,Y0f _ _⟩⟩
 obtain ⟨k,b,rfl,rfl,hk,hX⟩:=hrel
 cases b with
 | false =>
  have HF:=Y08 (hX.out.2.1 rfl)
  go_wp2_with fail
  go_ret
  exact ⟨by rw [Y0s HF.out];rfl,hX.out.2.2⟩
 | true=>?_
 have HT:=Y08 (hX.out.1 rfl)
 by_cases hlt:k<l.length
 rotate_left
 ·have hkE:¬ ((k:Int)<l.length):=by omega
  have HE:=Y08 (show l=m by
   have h:=HT.out.2
   rwa [Y0t (by omega),Y0t (by have:=HT.out.1;omega)] at h)
  go_wp2_with fail
  go_ret
  exact ⟨by rw [Y0r HE.out];rfl,hX.out.2.2⟩
 have hkm:k<m.length:=by have:=HT.out.1;omega
 have hkE:(k:Int)<l.length:=by omega
 have hkM:(k:Int)<m.length:=by omega
 have hk0:(0:Int)≤k:=by omega
 obtain ⟨ad,sA,sC,rfl,c1,d1,_⟩:=Jqx (Kd.c00 HL.out hX.out.2.2) hlt
 obtain ⟨ad2,tA,tC,rfl,c2,d2,_⟩:=Jqx (Kd.c00 HM.out hX.out.2.2) hkm
 have HG:=Y08 (show (l[k]=m[k]→l.take (k+1)=m.take (k+1))∧(l[k]≠m[k]→l≠m) from ⟨J59 hlt hkm HT.out.2,Jgh hlt hkm⟩)
 have HLEN:=Y08 HT.out.1
 clear HT
 generalize l[k]=x at *
 generalize m[k]=y at *
 clear hkm
 go_upto_region 5 with fail
 refine sr1 10 (fun w'=>w'.cell? (ad.add k)=some (.slice sA x.length sC)∧w'.cell? (ad2.add k)=some (.slice tA y.length tC)) [] ⟨c1,c2⟩ fun hJ0=>?_
 have HD:=Y00 (J05 hX.out.2.2)
 have HDW:=Y00 (J05 (Y0f wr.heap.size wr))
 generalize wr.drew=wd at *
 have HC:=Y08 (J73 sA tA sC tC x y wd (Kd.c00 d1 HDW.out) (Kd.c00 d2 HDW.out))
 refine pv 0 ?_
 refine pv 1 ?_
 refine pv 2 ?_
 refine tv2 3 ?_
 refine pv 4 ?_
 refine pv 5 ?_
 refine pv 6 ?_
 refine tv2 7 ?_
 refine oc 8 Tryz.func39 #[.slice sA x.length sC,.slice tA y.length tC] ?_
 refine HC.out.mono ?_
 rintro e w4 ⟨rfl,hb4⟩
 refine ⟨_,rfl,(st2 hb4 hJ0),fun hJ0=>?_⟩
 have HD4:=Y00 (J01 HD.out HD.out.size hb4)
 clear hb4
 refine nm0 _ ?_
 refine pv 9 ?_
 refine dn0 ?_
 go_wp2_with fail
 exact ⟨⟨k+1,_,rfl,by go_num,by omega,⟨fun h=>⟨HLEN.out,HG.out.1 (of_decide_eq_true h)⟩,fun h=>HG.out.2 (of_decide_eq_false h),HD4.out⟩⟩,by simp [intOf];omega⟩
theorem Jl6 (A B:Option Addr) (cA cB:Nat) (l m:List (List (List Int))) (w:World) (hl:kLLI.C w A l.length l) (hm:kLLI.C w B m.length m) :
  Calls Tryz.prog 17 #[.slice A l.length cA,.slice B m.length cB] w fun e w'=>e=.returned (.bool (decide (l=m)))∧Below w.heap.size w w':=by
 have HL:=Y00 hl
 have HM:=Y00 hm
 have hlm:=Kd.C_max hl
 have hmm:=Kd.C_max hm
 clear hl hm
 go_enter Tryz.func17,Tryz.ntmps17
 go_wp2_with fail
 go_loopw [5,6] (fun s i wr=>∃ (k:Nat) (b:Bool),s=.bool b∧i=.int .i64 k∧k≤l.length∧J08 ((b=true→l.length=m.length∧l.take k=m.take k)∧(b=false→l≠m)∧Below w.heap.size w wr)) (fun _ i _=>l.length - (intOf i).toNat)
 case atStart=>exact ⟨0,_,rfl,rfl,Nat.zero_le _,⟨fun h=>⟨by have:=eq_of_beq h;omega,by simp⟩,fun h he=>by subst he;simp at h,Y0f _ _⟩⟩
 obtain ⟨k,b,rfl,rfl,hk,hX⟩:=hrel
 cases b with
 | false =>
  have HF:=Y08 (hX.out.2.1 rfl)
  go_wp2_with fail
  go_ret
  exact ⟨by rw [Y0s HF.out];rfl,hX.out.2.2⟩
 | true=>?_
 have HT:=Y08 (hX.out.1 rfl)
 by_cases hlt:k<l.length
 rotate_left
 ·have hkE:¬ ((k:Int)<l.length):=by omega
  have HE:=Y08 (show l=m by
   have h:=HT.out.2
   rwa [Y0t (by omega),Y0t (by have:=HT.out.1;omega)] at h)
  go_wp2_with fail
  go_ret
  exact ⟨by rw [Y0r HE.out];rfl,hX.out.2.2⟩
 have hkm:k<m.length:=by have:=HT.out.1;omega
 have hkE:(k:Int)<l.length:=by omega
 have hkM:(k:Int)<m.length:=by omega
 have hk0:(0:Int)≤k:=by omega
 obtain ⟨ad,sA,sC,rfl,c1,d1,_⟩:=Jpr (Kd.c00 HL.out hX.out.2.2) hlt
 obtain ⟨ad2,tA,tC,rfl,c2,d2,_⟩:=Jpr (Kd.c00 HM.out hX.out.2.2) hkm
 have HG:=Y08 (show (l[k]=m[k]→l.take (k+1)=m.take (k+1))∧(l[k]≠m[k]→l≠m) from ⟨J59 hlt hkm HT.out.2,Jgh hlt hkm⟩)
 have HLEN:=Y08 HT.out.1
 clear HT
 generalize l[k]=x at *
 generalize m[k]=y at *
 clear hkm
 go_upto_region 5 with fail
 refine sr1 10 (fun w'=>w'.cell? (ad.add k)=some (.slice sA x.length sC)∧w'.cell? (ad2.add k)=some (.slice tA y.length tC)) [] ⟨c1,c2⟩ fun hJ0=>?_
 have HD:=Y00 (J05 hX.out.2.2)
 have HDW:=Y00 (J05 (Y0f wr.heap.size wr))
 generalize wr.drew=wd at *
 have HC:=Y08 (J7z sA tA sC tC x y wd (Kd.c00 d1 HDW.out) (Kd.c00 d2 HDW.out))
 refine pv 0 ?_
 refine pv 1 ?_
 refine pv 2 ?_
 refine tv2 3 ?_
 refine pv 4 ?_
 refine pv 5 ?_
 refine pv 6 ?_
 refine tv2 7 ?_
 refine oc 8 Tryz.func10 #[.slice sA x.length sC,.slice tA y.length tC] ?_
 refine HC.out.mono ?_
 rintro e w4 ⟨rfl,hb4⟩
 refine ⟨_,rfl,(st2 hb4 hJ0),fun hJ0=>?_⟩
 have HD4:=Y00 (J01 HD.out HD.out.size hb4)
 clear hb4
 refine nm0 _ ?_
 refine pv 9 ?_
 refine dn0 ?_
 go_wp2_with fail
 exact ⟨⟨k+1,_,rfl,by go_num,by omega,⟨fun h=>⟨HLEN.out,HG.out.1 (of_decide_eq_true h)⟩,fun h=>HG.out.2 (of_decide_eq_false h),HD4.out⟩⟩,by simp [intOf];omega⟩
theorem Jkz (A B:Option Addr) (cA cB:Nat) (l m:List (Int × List Int)) (w:World) (hl:kMk.C w A l.length l) (hm:kMk.C w B m.length m) :
  Calls Tryz.prog 25 #[.slice A l.length cA,.slice B m.length cB] w fun e w'=>e=.returned (.bool (decide (l=m)))∧Below w.heap.size w w':=by
 have HL:=Y00 hl
 have HM:=Y00 hm
 have hlm:=Kd.C_max hl
 have hmm:=Kd.C_max hm
 clear hl hm
 go_enter Tryz.func25,Tryz.ntmps25
 go_wp2_with fail
 go_loopw [5,6] (fun s i wr=>∃ (k:Nat) (b:Bool),s=.bool b∧i=.int .i64 k∧k≤l.length∧J08 ((b=true→l.length=m.length∧l.take k=m.take k)∧(b=false→l≠m)∧Below w.heap.size w wr)) (fun _ i _=>l.length - (intOf i).toNat)
 case atStart=>exact ⟨0,_,rfl,rfl,Nat.zero_le _,⟨fun h=>⟨by have:=eq_of_beq h;omega,by simp⟩,fun h he=>by subst he;simp at h,Y0f _ _⟩⟩
 obtain ⟨k,b,rfl,rfl,hk,hX⟩:=hrel
 cases b with
 | false =>
  have HF:=Y08 (hX.out.2.1 rfl)
  go_wp2_with fail
  go_ret
  exact ⟨by rw [Y0s HF.out];rfl,hX.out.2.2⟩
 | true=>?_
 have HT:=Y08 (hX.out.1 rfl)
 by_cases hlt:k<l.length
 rotate_left
 ·have hkE:¬ ((k:Int)<l.length):=by omega
  have HE:=Y08 (show l=m by
   have h:=HT.out.2
   rwa [Y0t (by omega),Y0t (by have:=HT.out.1;omega)] at h)
  go_wp2_with fail
  go_ret
  exact ⟨by rw [Y0r HE.out];rfl,hX.out.2.2⟩
 have hkm:k<m.length:=by have:=HT.out.1;omega
 have hkE:(k:Int)<l.length:=by omega
 have hkM:(k:Int)<m.length:=by omega
 have hk0:(0:Int)≤k:=by omega
 obtain ⟨ad,sA,sC,rfl,c1,e1,d1,_⟩:=Jpq (Kd.c00 HL.out hX.out.2.2) hlt
 obtain ⟨ad2,tA,tC,rfl,c2,e2,d2,_⟩:=Jpq (Kd.c00 HM.out hX.out.2.2) hkm
 have HG:=Y08 (show (l[k]=m[k]→l.take (k+1)=m.take (k+1))∧(l[k]≠m[k]→l≠m) from ⟨J59 hlt hkm HT.out.2,Jgh hlt hkm⟩)
 have HLEN:=Y08 HT.out.1
 clear HT
 generalize l[k]=x at *
 generalize m[k]=y at *
 clear hkm
 go_upto_region 5 with fail
 refine sr1 25 (fun w'=>w'.cell? (ad.add (k*2))=some (.int .i64 x.1)∧w'.cell? ⟨(ad.add (k*2)).block,(ad.add (k*2)).off+1,none⟩=some (.slice sA x.2.length sC)∧w'.cell? (ad2.add (k*2))=some (.int .i64 y.1)∧w'.cell? ⟨(ad2.add (k*2)).block,(ad2.add (k*2)).off+1,none⟩=some (.slice tA y.2.length tC)) [] ⟨c1,e1,c2,e2⟩ fun hJ0=>?_
 have HD:=Y00 (J05 hX.out.2.2)
 have HDW:=Y00 (J05 (Y0f wr.heap.size wr))
 generalize wr.drew=wd at *
 have HC:=Y08 (J73 sA tA sC tC x.2 y.2 wd (Kd.c00 d1 HDW.out) (Kd.c00 d2 HDW.out))
 refine pv 0 ?_
 refine pv 1 ?_
 refine pv 2 ?_
 refine pv 3 ?_
 refine tv4 4 ?_
 refine pv 5 ?_
 refine pv 6 ?_
 refine pv 7 ?_
 refine pv 8 ?_
 refine tv4 9 ?_
 cases hn:decide (x.1=y.1)
 ·have hnb:(x.1 == y.1)=false:=by simpa using hn
  have HNE:=Y08 (HG.out.2 (fun h=>of_decide_eq_false hn (by rw [h])))
  refine pv 10 ?_
  refine pv 11 ?_
  refine uv 12 ?_
  refine uv 13 ?_
  refine uv 14 ?_
  refine uv 15 ?_
  refine uv 16 ?_
  refine uv 17 ?_
  refine uv 18 ?_
  refine uv 19 ?_
  refine uv 20 ?_
  refine uv 21 ?_
  refine uv 22 ?_
  refine pv 23 ?_
  refine pv 24 ?_
  refine dn0 ?_
  go_wp2_with fail
  exact ⟨⟨k+1,_,rfl,by go_num,by omega,⟨fun h=>absurd h (by simp),fun _=>HNE.out,HD.out⟩⟩,by simp [intOf];omega⟩
 skip
 have hnb:(x.1 == y.1)=true:=by simpa using hn
 have hx1:=of_decide_eq_true hn
 refine pv 10 ?_
 refine pv 11 ?_
 refine pv 12 ?_
 refine pv 13 ?_
 refine pv 14 ?_
 refine pv 15 ?_
 refine tv4 16 ?_
 refine pv 17 ?_
 refine pv 18 ?_
 refine pv 19 ?_
 refine pv 20 ?_
 refine tv4 21 ?_
 refine oc 22 Tryz.func39 #[.slice sA x.2.length sC,.slice tA y.2.length tC] ?_
 refine HC.out.mono ?_
 rintro e w4 ⟨rfl,hb4⟩
 refine ⟨_,rfl,(st4 hb4 hJ0),fun hJ0=>?_⟩
 have HD4:=Y00 (J01 HD.out HD.out.size hb4)
 have HX1:=Y08 hx1
 clear hb4 hx1
 refine nm0 _ ?_
 refine pv 23 ?_
 refine pv 24 ?_
 refine dn0 ?_
 go_wp2_with fail
 exact ⟨⟨k+1,_,rfl,by go_num,by omega,⟨fun h=>⟨HLEN.out,HG.out.1 (Prod.ext HX1.out (of_decide_eq_true h))⟩,fun h=>HG.out.2 (fun he=>of_decide_eq_false h (by rw [he])),HD4.out⟩⟩,by simp [intOf];omega⟩
theorem Jlh (A B:Option Addr) (cA cB:Nat) (l m:List Msg) (w:World) (hl:kMs.C w A l.length l) (hm:kMs.C w B m.length m) :
  Calls Tryz.prog 24 #[.slice A l.length cA,.slice B m.length cB] w fun e w'=>e=.returned (.bool (decide (l=m)))∧Below w.heap.size w w':=by
 have HL:=Y00 hl
 have HM:=Y00 hm
 have hlm:=Kd.C_max hl
 have hmm:=Kd.C_max hm
 clear hl hm
 go_enter Tryz.func24,Tryz.ntmps24
 go_wp2_with fail
 go_loopw [5,6] (fun s i wr=>∃ (k:Nat) (b:Bool),s=.bool b∧i=.int .i64 k∧k≤l.length∧J08 ((b=true→l.length=m.length∧l.take k=m.take k)∧(b=false→l≠m)∧Below w.heap.size w wr)) (fun _ i _=>l.length - (intOf i).toNat)
 case atStart=>exact ⟨0,_,rfl,rfl,Nat.zero_le _,⟨fun h=>⟨by have:=eq_of_beq h;omega,by simp⟩,fun h he=>by subst he;simp at h,Y0f _ _⟩⟩
 obtain ⟨k,b,rfl,rfl,hk,hX⟩:=hrel
 cases b with
 | false =>
  have HF:=Y08 (hX.out.2.1 rfl)
  go_wp2_with fail
  go_ret
  exact ⟨by rw [Y0s HF.out];rfl,hX.out.2.2⟩
 | true=>?_
 have HT:=Y08 (hX.out.1 rfl)
 by_cases hlt:k<l.length
 rotate_left
 ·have hkE:¬ ((k:Int)<l.length):=by omega
  have HE:=Y08 (show l=m by
   have h:=HT.out.2
   rwa [Y0t (by omega),Y0t (by have:=HT.out.1;omega)] at h)
  go_wp2_with fail
  go_ret
  exact ⟨by rw [Y0r HE.out];rfl,hX.out.2.2⟩
 have hkm:k<m.length:=by have:=HT.out.1;omega
 have hkE:(k:Int)<l.length:=by omega
 have hkM:(k:Int)<m.length:=by omega
 have hk0:(0:Int)≤k:=by omega
 obtain ⟨ad,sA,sC,rfl,c1,e1,f1,d1,_⟩:=Jcp (Kd.c00 HL.out hX.out.2.2) hlt
 obtain ⟨ad2,tA,tC,rfl,c2,e2,f2,d2,_⟩:=Jcp (Kd.c00 HM.out hX.out.2.2) hkm
 have HG:=Y08 (show (l[k]=m[k]→l.take (k+1)=m.take (k+1))∧(l[k]≠m[k]→l≠m) from ⟨J59 hlt hkm HT.out.2,Jgh hlt hkm⟩)
 have HLEN:=Y08 HT.out.1
 clear HT
 generalize l[k]=x at *
 generalize m[k]=y at *
 clear hkm
 go_upto_region 5 with fail
 refine sr1 42 (fun w'=>w'.cell? (ad.add (k*3))=some (.int .i64 x.1.1)∧w'.cell? ⟨(ad.add (k*3)).block,(ad.add (k*3)).off+1,none⟩=some (.slice sA x.1.2.length sC)∧w'.cell? ⟨(ad.add (k*3)).block,(ad.add (k*3)).off+2,none⟩=some (.int .i64 x.2)∧w'.cell? (ad2.add (k*3))=some (.int .i64 y.1.1)∧w'.cell? ⟨(ad2.add (k*3)).block,(ad2.add (k*3)).off+1,none⟩=some (.slice tA y.1.2.length tC)∧w'.cell? ⟨(ad2.add (k*3)).block,(ad2.add (k*3)).off+2,none⟩=some (.int .i64 y.2)) [] ⟨c1,e1,f1,c2,e2,f2⟩ fun hJ0=>?_
 have HD:=Y00 (J05 hX.out.2.2)
 have HDW:=Y00 (J05 (Y0f wr.heap.size wr))
 generalize wr.drew=wd at *
 have HC:=Y08 (J73 sA tA sC tC x.1.2 y.1.2 wd (Kd.c00 d1 HDW.out) (Kd.c00 d2 HDW.out))
 refine pv 0 ?_
 refine pv 1 ?_
 refine pv 2 ?_
 refine pv 3 ?_
 refine tv6 4 ?_
 refine pv 5 ?_
 refine pv 6 ?_
 refine pv 7 ?_
 refine pv 8 ?_
 refine tv6 9 ?_
 cases hn:decide (x.2=y.2)
 ·have hnb:(x.2 == y.2)=false:=by simpa using hn
  have HNE:=Y08 (HG.out.2 (fun h=>of_decide_eq_false hn (by rw [h])))
  refine pv 10 ?_
  refine pv 11 ?_
  refine uv 12 ?_
  refine uv 13 ?_
  refine uv 14 ?_
  refine uv 15 ?_
  refine uv 16 ?_
  refine uv 17 ?_
  refine uv 18 ?_
  refine uv 19 ?_
  refine uv 20 ?_
  refine uv 21 ?_
  refine uv 22 ?_
  refine uv 23 ?_
  refine uv 24 ?_
  refine pv 25 ?_
  refine pv 26 ?_
  refine uv 27 ?_
  refine uv 28 ?_
  refine uv 29 ?_
  refine uv 30 ?_
  refine uv 31 ?_
  refine uv 32 ?_
  refine uv 33 ?_
  refine uv 34 ?_
  refine uv 35 ?_
  refine uv 36 ?_
  refine uv 37 ?_
  refine uv 38 ?_
  refine uv 39 ?_
  refine pv 40 ?_
  refine pv 41 ?_
  refine dn0 ?_
  go_wp2_with fail
  exact ⟨⟨k+1,_,rfl,by go_num,by omega,⟨fun h=>absurd h (by simp),fun _=>HNE.out,HD.out⟩⟩,by simp [intOf];omega⟩
 skip
 have hnb:(x.2 == y.2)=true:=by simpa using hn
 have hx1:=of_decide_eq_true hn
 refine pv 10 ?_
 refine pv 11 ?_
 refine pv 12 ?_
 refine pv 13 ?_
 refine pv 14 ?_
 refine pv 15 ?_
 refine pv 16 ?_
 refine tv6 17 ?_
 refine pv 18 ?_
 refine pv 19 ?_
 refine pv 20 ?_
 refine pv 21 ?_
 refine pv 22 ?_
 refine tv6 23 ?_
 cases hn2:decide (x.1.1=y.1.1)
 ·have hnb2:(x.1.1 == y.1.1)=false:=by simpa using hn2
  have HNE:=Y08 (HG.out.2 (fun h=>of_decide_eq_false hn2 (by rw [h])))
  refine pv 24 ?_
  refine pv 25 ?_
  refine pv 26 ?_
  refine uv 27 ?_
  refine uv 28 ?_
  refine uv 29 ?_
  refine uv 30 ?_
  refine uv 31 ?_
  refine uv 32 ?_
  refine uv 33 ?_
  refine uv 34 ?_
  refine uv 35 ?_
  refine uv 36 ?_
  refine uv 37 ?_
  refine uv 38 ?_
  refine uv 39 ?_
  refine pv 40 ?_
  refine pv 41 ?_
  refine dn0 ?_
  go_wp2_with fail
  exact ⟨⟨k+1,_,rfl,by go_num,by omega,⟨fun h=>absurd h (by simp),fun _=>HNE.out,HD.out⟩⟩,by simp [intOf];omega⟩
 skip
 have hnb2:(x.1.1 == y.1.1)=true:=by simpa using hn2
 have hx2:=of_decide_eq_true hn2
 refine pv 24 ?_
 refine pv 25 ?_
 refine pv 26 ?_
 refine pv 27 ?_
 refine pv 28 ?_
 refine pv 29 ?_
 refine pv 30 ?_
 refine pv 31 ?_
 refine tv6 32 ?_
 refine pv 33 ?_
 refine pv 34 ?_
 refine pv 35 ?_
 refine pv 36 ?_
 refine pv 37 ?_
 refine tv6 38 ?_
 refine oc 39 Tryz.func39 #[.slice sA x.1.2.length sC,.slice tA y.1.2.length tC] ?_
 refine HC.out.mono ?_
 rintro e w4 ⟨rfl,hb4⟩
 refine ⟨_,rfl,(st6 hb4 hJ0),fun hJ0=>?_⟩
 have HD4:=Y00 (J01 HD.out HD.out.size hb4)
 have HX1:=Y08 (Y07 hx1 hx2)
 clear hb4 hx1 hx2
 refine nm0 _ ?_
 refine pv 40 ?_
 refine pv 41 ?_
 refine dn0 ?_
 go_wp2_with fail
 exact ⟨⟨k+1,_,rfl,by go_num,by omega,⟨fun h=>⟨HLEN.out,HG.out.1 (Prod.ext (Prod.ext HX1.out.2 (of_decide_eq_true h)) HX1.out.1)⟩,fun h=>HG.out.2 (fun he=>of_decide_eq_false h (by rw [he])),HD4.out⟩⟩,by simp [intOf];omega⟩
theorem Jag (n:Int) (A:Option Addr) (len cap:Nat) (w:World):Calls Tryz.prog 41 #[.int .i64 n,.slice A len cap] w fun e w'=>e=.returned (.agg #[.int .i64 n,.slice A len cap])∧Below w.heap.size w w':=by
 go_enter Tryz.func41,Tryz.ntmps41
 go_wp2_with fail
 exact bodyPost_ret (v:=.agg #[.int .i64 n,.slice A len cap]) (by simp [results,Tryz.results41,go_sem]) rfl ⟨rfl,J02 _ _⟩
theorem Jp3 (a b:Int) (A:Option Addr) (len cap:Nat) (w:World):Calls Tryz.prog 74 #[.int .i64 a,.int .i64 b,.slice A len cap] w fun e w'=>e=.returned (.agg #[.int .i64 a,.int .i64 b,.slice A len cap])∧Below w.heap.size w w':=by
 go_enter Tryz.func74,Tryz.ntmps74
 go_wp2_with fail
 exact bodyPost_ret (v:=.agg #[.int .i64 a,.int .i64 b,.slice A len cap]) (by simp [results,Tryz.results74,go_sem]) rfl ⟨rfl,J02 _ _⟩
def Lits {α:Type} (d:Kd α) (w:World):List α→List (List Value)→Prop
 | [],[]=>True
 | x::xs,c::cs=>d.K w x c∧Lits d w xs cs
 | _,_=>False
theorem Lits.at_ {α:Type} {d:Kd α} {w:World} : ∀ {xs:List α} {css:List (List Value)},Lits d w xs css→∀ (j:Nat) (p:α),xs[j]?=some p→∃ c,d.K w p c∧∀ (i:Nat) (u:Value),c[i]?=some u→css.flatten[j*d.sz+i]?=some u
 | [],[],_,j,p,hj=>by simp at hj
 | x::xs,c::cs,h,0,p,hj=>by
  simp at hj;subst hj
  refine ⟨c,h.1,fun i u hu=>?_⟩
  rw [Nat.zero_mul,Nat.zero_add,List.flatten_cons,Y0a (by
   have:=(Y0h.1 hu).1;exact this)]
  exact hu
 | x::xs,c::cs,h,j+1,p,hj=>by
  obtain ⟨c',h1,h2⟩:=h.2.at_ j p (by simpa using hj)
  refine ⟨c',h1,fun i u hu=>?_⟩
  have hl:=d.K_len h.1
  rw [List.flatten_cons,Y09 (by rw [hl,Nat.succ_mul];omega),show (j+1)*d.sz+i - c.length=j*d.sz+i by rw [hl,Nat.succ_mul];omega]
  exact h2 i u hu
theorem Jah {α:Type} {d:Kd α} {w:World} {g t:Nat} {xs:List α} (css:List (List Value)) (hb:w.heap[g]?=some (.cells css.flatten.toArray t (0,0))) (hl:Lits d w xs css) (hm:xs.length≤1000000):d.C w (some ⟨g,0,none⟩) xs.length xs:=by
 refine ⟨rfl,by omega,fun _=>⟨_,rfl,fun j p hj=>?_⟩⟩
 obtain ⟨c,h2,h3⟩:=hl.at_ j p hj
 refine ⟨c,d.K_len h2,h2,fun i u hu=>?_⟩
 rw [Addr.add_lit,J03 hb,Nat.zero_add]
 simpa using h3 i u hu
theorem J2r {w:World} {g t:Nat} {a b:Int} (hb:w.heap[g]?=some (.cells #[.int .i64 a,.int .i64 b] t (0,0))):kI.C w (some ⟨g,0,none⟩) 2 [a,b] :=
 Jah (xs:=[a,b]) [[.int .i64 a],[.int .i64 b]] hb ⟨rfl,rfl,trivial⟩ (by simp)
theorem K_li {w:World} {g:Nat} {l:List Int} {n c:Nat} (h:kI.C w (some ⟨g,0,none⟩) n l) (hn:n=l.length) (hc:n≤c):kLI.K w l [.slice (some ⟨g,0,none⟩) n c]:=by subst hn;exact ⟨_,_,rfl,hc,h⟩
def Mdl.planP:Plan:=⟨3,2,[(0,1,[0,0]),(1,2,[0,1]),(2,1,[0,0]),(1,0,[1,0])],2,[((0,[0,0]),0)]⟩
theorem Joh (w:World):Calls Tryz.prog 40 #[] w fun e w'=>∃ eA mA,e=.returned (J1q planP eA 4 mA 1)∧J1v w' planP eA mA∧Below w.heap.size w w':=by
 have HE:=fun a b A len cap w=>Y08 (Jp3 a b A len cap w)
 go_enter Tryz.func40,Tryz.ntmps40
 have hz1:(w.alloc (.cells #[.int .i64 0,.int .i64 0,.slice none 0 0,.int .i64 0,.slice none 0 0] 27)).heap.size=w.heap.size+1:=by simp
 have hp0:(w.alloc (.cells #[.int .i64 0,.int .i64 0,.slice none 0 0,.int .i64 0,.slice none 0 0] 27)).heap[w.heap.size]?=some (.cells #[.int .i64 0,.int .i64 0,.slice none 0 0,.int .i64 0,.slice none 0 0] 27 (0,0)):=Y0c w _
 have HB0:=Y00 (Y07 (J02 w (.cells #[.int .i64 0,.int .i64 0,.slice none 0 0,.int .i64 0,.slice none 0 0] 27)) hp0)
 clear hp0
 go_upto_region 1 with fail
 generalize w.alloc (.cells #[.int .i64 0,.int .i64 0,.slice none 0 0,.int .i64 0,.slice none 0 0] 27)=v0 at *
 clear hz1
 go_wp2_with fail
 have bN0:=J02 v0 (.cells #[.int .i64 0,.int .i64 0] 3)
 have hI0:=Y0c v0 (.cells #[.int .i64 0,.int .i64 0] 3)
 refine (HE 0 1 _ 2 2 _).out.mono ?_
 rintro e v1 ⟨rfl,hc0⟩
 have HB1:=Y00 (Y07 (J01 (J01 HB0.out.1 HB0.out.1.size bN0) (J01 HB0.out.1 HB0.out.1.size bN0).size hc0) (Y07 (J04 (J04 HB0.out.2 bN0) hc0) (J04 hI0 hc0)))
 generalize v0.heap.size=g0 at *
 clear bN0 hI0 hc0 HB0
 go_wp2_with fail
 have bN1:=J02 v1 (.cells #[.int .i64 0,.int .i64 1] 3)
 have hI1:=Y0c v1 (.cells #[.int .i64 0,.int .i64 1] 3)
 refine (HE 1 2 _ 2 2 _).out.mono ?_
 rintro e v2 ⟨rfl,hc1⟩
 have HB2:=Y00 (Y07 (J01 (J01 HB1.out.1 HB1.out.1.size bN1) (J01 HB1.out.1 HB1.out.1.size bN1).size hc1) (Y07 (J04 (J04 HB1.out.2.1 bN1) hc1) ( Y07 (J04 (J04 HB1.out.2.2 bN1) hc1) (J04 hI1 hc1))))
 generalize v1.heap.size=g1 at *
 clear bN1 hI1 hc1 HB1
 go_wp2_with fail
 have bN2:=J02 v2 (.cells #[.int .i64 0,.int .i64 0] 3)
 have hI2:=Y0c v2 (.cells #[.int .i64 0,.int .i64 0] 3)
 refine (HE 2 1 _ 2 2 _).out.mono ?_
 rintro e v3 ⟨rfl,hc2⟩
 have HB3:=Y00 (Y07 (J01 (J01 HB2.out.1 HB2.out.1.size bN2) (J01 HB2.out.1 HB2.out.1.size bN2).size hc2) (Y07 (J04 (J04 HB2.out.2.1 bN2) hc2) ( Y07 (J04 (J04 HB2.out.2.2.1 bN2) hc2) ( Y07 (J04 (J04 HB2.out.2.2.2 bN2) hc2) (J04 hI2 hc2)))))
 generalize v2.heap.size=g2 at *
 clear bN2 hI2 hc2 HB2
 go_wp2_with fail
 have bN3:=J02 v3 (.cells #[.int .i64 1,.int .i64 0] 3)
 have hI3:=Y0c v3 (.cells #[.int .i64 1,.int .i64 0] 3)
 refine (HE 1 0 _ 2 2 _).out.mono ?_
 rintro e v4 ⟨rfl,hc3⟩
 have HB4:=Y00 (Y07 (J01 (J01 HB3.out.1 HB3.out.1.size bN3) (J01 HB3.out.1 HB3.out.1.size bN3).size hc3) (Y07 (J04 (J04 HB3.out.2.1 bN3) hc3) ( Y07 (J04 (J04 HB3.out.2.2.1 bN3) hc3) ( Y07 (J04 (J04 HB3.out.2.2.2.1 bN3) hc3) ( Y07 (J04 (J04 HB3.out.2.2.2.2 bN3) hc3) (J04 hI3 hc3))))))
 generalize v3.heap.size=g3 at *
 clear bN3 hI3 hc3 HB3
 go_upto_region 2 with fail
 have bN4:=J02 v4 (.cells #[.int .i64 0,.int .i64 1,.slice (some ⟨g0,0,none⟩) 2 2,.int .i64 1,.int .i64 2,.slice (some ⟨g1,0,none⟩) 2 2,.int .i64 2,.int .i64 1,.slice (some ⟨g2,0,none⟩) 2 2,.int .i64 1,.int .i64 0,.slice (some ⟨g3,0,none⟩) 2 2] 129)
 have hE4:=Y0c v4 (.cells #[.int .i64 0,.int .i64 1,.slice (some ⟨g0,0,none⟩) 2 2,.int .i64 1,.int .i64 2,.slice (some ⟨g1,0,none⟩) 2 2,.int .i64 2,.int .i64 1,.slice (some ⟨g2,0,none⟩) 2 2,.int .i64 1,.int .i64 0,.slice (some ⟨g3,0,none⟩) 2 2] 129)
 have hz5:(v4.alloc (.cells #[.int .i64 0,.int .i64 1,.slice (some ⟨g0,0,none⟩) 2 2,.int .i64 1,.int .i64 2,.slice (some ⟨g1,0,none⟩) 2 2,.int .i64 2,.int .i64 1,.slice (some ⟨g2,0,none⟩) 2 2,.int .i64 1,.int .i64 0,.slice (some ⟨g3,0,none⟩) 2 2] 129)).heap.size=v4.heap.size+1:=by simp
 have bN5:=J02 (v4.alloc (.cells #[.int .i64 0,.int .i64 1,.slice (some ⟨g0,0,none⟩) 2 2,.int .i64 1,.int .i64 2,.slice (some ⟨g1,0,none⟩) 2 2,.int .i64 2,.int .i64 1,.slice (some ⟨g2,0,none⟩) 2 2,.int .i64 1,.int .i64 0,.slice (some ⟨g3,0,none⟩) 2 2] 129)) (.cells #[.int .i64 3,.int .i64 2,.slice (some ⟨v4.heap.size,0,none⟩) 4 4] 24)
 have hG5:=Y0c (v4.alloc (.cells #[.int .i64 0,.int .i64 1,.slice (some ⟨g0,0,none⟩) 2 2,.int .i64 1,.int .i64 2,.slice (some ⟨g1,0,none⟩) 2 2,.int .i64 2,.int .i64 1,.slice (some ⟨g2,0,none⟩) 2 2,.int .i64 1,.int .i64 0,.slice (some ⟨g3,0,none⟩) 2 2] 129)) (.cells #[.int .i64 3,.int .i64 2,.slice (some ⟨v4.heap.size,0,none⟩) 4 4] 24)
 rw [hz5] at hG5
 have hb45:=J01 bN4 bN4.size bN5
 have HB5:=Y00 (Y07 (J01 HB4.out.1 HB4.out.1.size hb45) (Y07 (J04 HB4.out.2.1 hb45) (Y07 (J04 HB4.out.2.2.1 hb45) (Y07 (J04 HB4.out.2.2.2.1 hb45) (Y07 (J04 HB4.out.2.2.2.2.1 hb45) (Y07 (J04 HB4.out.2.2.2.2.2 hb45) (J04 hE4 bN5)))))))
 obtain ⟨c0,c1,c2⟩:=bc3 hG5
 clear bN4 hE4 hz5 bN5 hG5 hb45 HB4
 generalize (v4.alloc (.cells #[.int .i64 0,.int .i64 1,.slice (some ⟨g0,0,none⟩) 2 2,.int .i64 1,.int .i64 2,.slice (some ⟨g1,0,none⟩) 2 2,.int .i64 2,.int .i64 1,.slice (some ⟨g2,0,none⟩) 2 2,.int .i64 1,.int .i64 0,.slice (some ⟨g3,0,none⟩) 2 2] 129)).alloc (.cells #[.int .i64 3,.int .i64 2,.slice (some ⟨v4.heap.size,0,none⟩) 4 4] 24)=v5 at *
 generalize v4.heap.size=eb at *
 refine sr1 7 (fun V=>V.cell? ⟨eb+1,0,none⟩=some (.int .i64 3)∧V.cell? ⟨eb+1,1,none⟩=some (.int .i64 2)∧V.cell? ⟨eb+1,2,none⟩=some (.slice (some ⟨eb,0,none⟩) 4 4)) [6] ⟨c0,c1,c2⟩ fun hJ0=>?_
 have HD:=Y00 (J05 (Y0f v5.heap.size v5))
 have HSH:=Y08 (fun V (hb:Below v5.heap.size v5 V)=>(Y07 (J00 hb c0) (Y07 (J00 hb c1) (J00 hb c2))))
 clear c0 c1 c2
 generalize v5.drew=wd at *
 refine tv3 0 ?_
 refine ov 1 fun K hK=>?_
 refine va0 ?_
 have bN6:=J02 wd (.cells #[.int .i64 0,.int .i64 0] 3)
 have hI6:=Y0c wd (.cells #[.int .i64 0,.int .i64 0] 3)
 have hB6:=J01 HD.out HD.out.size bN6
 refine hK.out _ _ (HSH.out _ hB6) (fun hJ0=>?_)
 clear hK K
 refine nm0 _ ?_
 refine ov 2 fun K hK=>?_
 refine gs0 Tryz.func41 #[.int .i64 0,.slice (some ⟨wd.heap.size,0,none⟩) 2 2] ?_
 refine (Jag 0 (some ⟨wd.heap.size,0,none⟩) 2 2 _).mono ?_
 rintro e v7 ⟨rfl,hb7⟩
 have hB7:=J01 hB6 hB6.size hb7
 have HI7:=Y00 (Y07 hB7 (J04 hI6 hb7))
 refine ⟨_,rfl,hK.out _ _ (HSH.out _ hB7) (fun hJ0=>?_)⟩
 clear hK K
 refine nm0 _ ?_
 clear bN6 hI6 hB6 hb7 hB7
 generalize wd.heap.size=ib at *
 refine pv 3 ?_
 refine ov 4 fun K hK=>?_
 refine va0 ?_
 have bN8:=J02 v7 (.cells #[.int .i64 0,.slice (some ⟨ib,0,none⟩) 2 2,.int .i64 0] 77)
 have hM8:=Y0c v7 (.cells #[.int .i64 0,.slice (some ⟨ib,0,none⟩) 2 2,.int .i64 0] 77)
 have hB8:=J01 HI7.out.1 HI7.out.1.size bN8
 have HI8:=Y00 (Y07 hB8 (Y07 (J04 HI7.out.2 bN8) hM8))
 refine hK.out _ _ (HSH.out _ hB8) (fun hJ0=>?_)
 clear hK K
 refine nm0 _ ?_
 clear bN8 hM8 HI7
 generalize v7.alloc (.cells #[.int .i64 0,.slice (some ⟨ib,0,none⟩) 2 2,.int .i64 0] 77)=v8 at *
 generalize v7.heap.size=sb at *
 refine pv 5 ?_
 have HB8:=Y00 (Y07 (J01 HB5.out.1 HB5.out.1.size hB8) (Y07 (J04 HB5.out.2.1 hB8) (Y07 (J04 HB5.out.2.2.1 hB8) (Y07 (J04 HB5.out.2.2.2.1 hB8) (Y07 (J04 HB5.out.2.2.2.2.1 hB8) (Y07 (J04 HB5.out.2.2.2.2.2.1 hB8) (J04 HB5.out.2.2.2.2.2.2 hB8)))))))
 clear hB8
 obtain ⟨z0,z1,z2,z3,z4⟩:=bc5 HB8.out.2.1
 obtain ⟨y0,y1,y2,y3,y4⟩:=bf5 HB8.out.2.1
 refine la0 6 (bs 7 127) (N:=none) fun K hK=>?_
 refine sk0 ?_
 refine hK.out _ _ ?_
 clear hK K hJ0
 refine dn0 ?_
 have hfin:=J0d (J0d (J0d (J0d (J0d HB8.out.2.1 0 (.int .i64 3) rfl) 1 (.int .i64 2) rfl) 2 (.slice (some ⟨eb,0,none⟩) 4 4) rfl) 3 (.int .i64 2) rfl) 4 (.slice (some ⟨sb,0,none⟩) 1 1) rfl
 have hg:=J0e w.heap.size [.int .i64 3,.int .i64 2,.slice (some ⟨eb,0,none⟩) 4 4,.int .i64 2,.slice (some ⟨sb,0,none⟩) 1 1] 0 v8
 simp only [World.setCells] at hg
 generalize ((((v8.setCell ⟨w.heap.size,0,none⟩ (.int .i64 3)).setCell ⟨w.heap.size,1,none⟩ (.int .i64 2)).setCell ⟨w.heap.size,2,none⟩ (.slice (some ⟨eb,0,none⟩) 4 4)).setCell ⟨w.heap.size,3,none⟩ (.int .i64 2)).setCell ⟨w.heap.size,4,none⟩ (.slice (some ⟨sb,0,none⟩) 1 1)=vF at *
 have hk:Kept v8 vF (fun b=>b=w.heap.size):=⟨hg.size,fun i hi hn=>hg.block i hi (fun he=>hn (by injection he))⟩
 have hwt:J0m v8 w.heap.size 27:=⟨_,HB8.out.2.1⟩
 have hne:∀ {b t:Nat} {cs:Array Value},v8.heap[b]?=some (.cells cs t (0,0))→(27 == t)=false→¬ b=w.heap.size:=fun hb ht he=>not_typed hwt ht (he ▸ ⟨_,hb⟩)
 have k0:=J2r (J0f HB8.out.2.2.1 hk (hne HB8.out.2.2.1 rfl))
 have k1:=J2r (J0f HB8.out.2.2.2.1 hk (hne HB8.out.2.2.2.1 rfl))
 have k2:=J2r (J0f HB8.out.2.2.2.2.1 hk (hne HB8.out.2.2.2.2.1 rfl))
 have k3:=J2r (J0f HB8.out.2.2.2.2.2.1 hk (hne HB8.out.2.2.2.2.2.1 rfl))
 have kE0:=J0f HB8.out.2.2.2.2.2.2 hk (hne HB8.out.2.2.2.2.2.2 rfl)
 have k4:=J2r (J0f HI8.out.2.1 hk (hne HI8.out.2.1 rfl))
 have kM0:=J0f HI8.out.2.2 hk (hne HI8.out.2.2 rfl)
 have hP:J1v vF planP (some ⟨eb,0,none⟩) (some ⟨sb,0,none⟩):=⟨Jah (xs:=planP.E) [[.int .i64 0,.int .i64 1,.slice (some ⟨g0,0,none⟩) 2 2],[.int .i64 1,.int .i64 2,.slice (some ⟨g1,0,none⟩) 2 2],[.int .i64 2,.int .i64 1,.slice (some ⟨g2,0,none⟩) 2 2],[.int .i64 1,.int .i64 0,.slice (some ⟨g3,0,none⟩) 2 2]] kE0
   ⟨⟨_,_,rfl,rfl,_,_,rfl,rfl,K_li k0 rfl (Y0e _)⟩,⟨_,_,rfl,rfl,_,_,rfl,rfl,K_li k1 rfl (Y0e _)⟩,⟨_,_,rfl,rfl,_,_,rfl,rfl,K_li k2 rfl (Y0e _)⟩,⟨_,_,rfl,rfl,_,_,rfl,rfl,K_li k3 rfl (Y0e _)⟩,trivial⟩ (by decide),
  Jah (xs:=planP.start) [[.int .i64 0,.slice (some ⟨ib,0,none⟩) 2 2,.int .i64 0]] kM0 ⟨⟨_,_,rfl,⟨_,_,rfl,rfl,K_li k4 rfl (Y0e _)⟩,rfl⟩,trivial⟩ (by decide)⟩
 have hB:Below w.heap.size w vF:=J0k HB8.out.1 hg (Y0e _)
 obtain ⟨p0,p1,p2,p3,p4⟩:=bc5 hfin
 have HF:=Y08 (Y07 hP hB)
 clear hfin hg hk hwt hne k0 k1 k2 k3 kE0 k4 kM0 hP hB z0 z1 z2 z3 z4 y0 y1 y2 y3 y4
 go_wp2_with fail
 exact bodyPost_ret (v:=J1q planP (some ⟨eb,0,none⟩) 4 (some ⟨sb,0,none⟩) 1) (by simp [results,Tryz.results40,go_sem,p0,p1,p2,p3,p4];rfl) rfl ⟨_,_,rfl,HF.out⟩
end Go.Proofs.YtbkfnmgkcgnifaaGreat
namespace Go.Proofs.YtbkfnmgkcgnifaaGreat.Mdl
theorem Joz:checkP planP=0:=by kernel_rfl
theorem Jsb:J7v planP.N planP.Wd planP.E 0 2=.ok [(0,1,0)]:=by kernel_rfl
theorem Jsa:J7v planP.N planP.Wd planP.E 2 0=.ok [(1,0,0)]:=by kernel_rfl
theorem ex_t:J3w planP [] 0=.ok [[(0,0,0)],[(0,0,0)],[(0,1,0)]]:=by kernel_rfl
theorem Jsg:J2d planP [] 1 0=.ok [[],[],[]]:=by kernel_rfl
theorem Jsf:J2d planP [] 1 1=.ok [[(0,0,0)],[(0,0,0)],[(0,1,0)]]:=by kernel_rfl
theorem ex_r:runX planP [0,2,0,1]=.ok (3,3,2):=by kernel_rfl
theorem ex_l:J2l planP [0,2,0,1] 2 1=.ok [((0,[0,0]),1),((1,[0,0]),-1),((2,[0,1]),1)]:=by kernel_rfl
theorem ex_h:J71 planP [0,2,0,1] 2 0=.ok [(2,[0,1])]:=by kernel_rfl
theorem Jse:Jb5 planP [] 1 (2,[5,1])=.ok 2:=by kernel_rfl
theorem Jsd:Jb5 planP [] 0 (2,[5,1])=.ok 1:=by kernel_rfl
theorem Jsc:Jb5 planP [] 1 (2,[5,0])=.ok 0:=by kernel_rfl
end Go.Proofs.YtbkfnmgkcgnifaaGreat.Mdl
namespace Go.Proofs.YtbkfnmgkcgnifaaGreat
open Go.RowKit Go.Shelf W1 W2 Mdl
def Al:List (World→Prop)→World→Prop
 | [],_=>True
 | P::Ps,w=>(P w∧∀ u u',P u→Below u.heap.size u u'→P u')∧Al Ps w
theorem Al.up:∀ {Ps:List (World→Prop)} {w w':World},Al Ps w→Below w.heap.size w w'→Al Ps w'
 | [],_,_,_,_=>trivial
 | _::_,_,_,h,hb=>⟨⟨h.1.2 _ _ h.1.1 hb,h.1.2⟩,h.2.up hb⟩
theorem Al.start (w:World):Al [fun u=>Below w.heap.size w u] w:=⟨⟨Y0f _ _,fun _ _ h hb=>J01 h h.size hb⟩,trivial⟩
theorem Al.row {Ps:List (World→Prop)} {w:World} (h:Al Ps w) {α:Type} {d:Kd α} {A:Option Addr} {n:Nat} {xs:List α} (hr:d.C w A n xs):Al ((fun u=>d.C u A n xs)::Ps) w:=⟨⟨hr,fun _ _ h hb=>Kd.c00 h hb⟩,h⟩
theorem Al.blk {Ps:List (World→Prop)} {w:World} (h:Al Ps w) {g:Nat} {o:Obj} (hr:w.heap[g]?=some o):Al ((fun u=>u.heap[g]?=some o)::Ps) w:=⟨⟨hr,fun _ _ h hb=>J04 h hb⟩,h⟩
theorem Al.plan {Ps:List (World→Prop)} {w:World} (h:Al Ps w) {p:Plan} {eA mA:Option Addr} (hr:J1v w p eA mA):Al ((fun u=>J1v u p eA mA)::Ps) w:=⟨⟨hr,fun _ _ h hb=>h.below hb⟩,h⟩
theorem Al.new {Ps:List (World→Prop)} {w:World} (h:Al Ps w) (o:Obj) {b:Nat} (hz:w.heap.size=b):Al ((fun u=>u.heap[b]?=some o)::Ps) (w.alloc o):=by
 subst hz
 exact (h.up (J02 w o)).blk (Y0c w o)
theorem Jbj {α β:Type} {d:Kd β} {t:Nat} {f:List α→List β} {r:Except Int (List α)} {l:List α} {m:List β} {P:Program} {fn:FuncId} {args:Array Value} {w:World} (hr:r=.ok l) (hm:f l=m)
  (h:Calls P fn args w fun e w'=>∃ v,e=.returned (.tuple #[v,.int .i64 (J1f r).2])∧d.R t w' w.heap.size (fun _=>True) v (f (J1f r).1)∧Below w.heap.size w w') :
  Calls P fn args w fun e w'=>∃ A c,e=.returned (.tuple #[.slice A m.length c,.int .i64 0])∧d.C w' A m.length m∧m.length≤c∧Below w.heap.size w w':=by
 refine h.mono ?_
 rintro e w' ⟨v,rfl,h1,hb⟩
 subst hr hm
 obtain ⟨A,c,rfl,hl,hC⟩:=Kd.c09 h1
 exact ⟨A,c,rfl,hC,hl,hb⟩
theorem K_sl {α:Type} {d:Kd α} {e:Nat} {w:World} {g n c:Nat} {l:List α} (h:d.C w (some ⟨g,0,none⟩) n l) (hn:n=l.length) (hc:n≤c):(Kd.slice e d).K w l [.slice (some ⟨g,0,none⟩) n c]:=by subst hn;exact ⟨_,_,rfl,hc,h⟩
theorem Jby {w:World} {g g' t t':Nat} {a b:Int} (h:w.heap[g]?=some (.cells #[.slice (some ⟨g',0,none⟩) 2 2] t (0,0))) (h':w.heap[g']?=some (.cells #[.int .i64 a,.int .i64 b] t' (0,0))):kLI.C w (some ⟨g,0,none⟩) 1 [[a,b]] :=
 Jah (xs:=[[a,b]]) [[.slice (some ⟨g',0,none⟩) 2 2]] h ⟨K_sl (J2r h') rfl (Y0e _),trivial⟩ (by simp)
section
variable (A B:Option Addr) (cA cB:Nat) (w:World)
theorem J74 (l:List (List Int)) (hl:kLI.C w A l.length l) (hm:kLI.C w B l.length l):Calls Tryz.prog 10 #[.slice A l.length cA,.slice B l.length cB] w fun e w'=>e=.returned (.bool true)∧Below w.heap.size w w' :=
 (J7z A B cA cB l l w hl hm).mono fun e w' h=>⟨by rw [h.1,Y0r rfl],h.2⟩
theorem J4l (l:List (List (List Int))) (hl:kLLI.C w A l.length l) (hm:kLLI.C w B l.length l):Calls Tryz.prog 17 #[.slice A l.length cA,.slice B l.length cB] w fun e w'=>e=.returned (.bool true)∧Below w.heap.size w w' :=
 (Jl6 A B cA cB l l w hl hm).mono fun e w' h=>⟨by rw [h.1,Y0r rfl],h.2⟩
theorem Jdj (l:List (Int × List Int)) (hl:kMk.C w A l.length l) (hm:kMk.C w B l.length l):Calls Tryz.prog 25 #[.slice A l.length cA,.slice B l.length cB] w fun e w'=>e=.returned (.bool true)∧Below w.heap.size w w' :=
 (Jkz A B cA cB l l w hl hm).mono fun e w' h=>⟨by rw [h.1,Y0r rfl],h.2⟩
theorem Jci (l:List Msg) (hl:kMs.C w A l.length l) (hm:kMs.C w B l.length l):Calls Tryz.prog 24 #[.slice A l.length cA,.slice B l.length cB] w fun e w'=>e=.returned (.bool true)∧Below w.heap.size w w' :=
 (Jlh A B cA cB l l w hl hm).mono fun e w' h=>⟨by rw [h.1,Y0r rfl],h.2⟩
end
theorem Tryz.infoLLI:(Tryz.prog.info? 28).map (fun i=>(i.zero,i.size,i.bytes))=some (some (.slice none 0 0),1,24):=by kernel_rfl
theorem Ji0 (m:Nat) (h:m≤8):∀ W:World,(Instr.makeSlice 38 (.int .i64 (m:Int)) (.int .i64 (m:Int))).run Tryz.prog W=.ok (.slice (some ⟨W.heap.size,0,none⟩) m m) (W.alloc (.cells (madeCells #[.slice none 0 0] m) 28)) :=
 J8p 38 28 _ 24 Tryz.underlying38 Tryz.infoLLI rfl (by decide) m (by omega)
theorem Js2 {w:World} {g m t:Nat} (h:w.heap[g]?=some (.cells (madeCells #[.slice none 0 0] m) t (0,0))) (hm:m≤8):kLLI.C w (some ⟨g,0,none⟩) m (List.replicate m []):=by
 refine ⟨by simp,by omega,fun _=>⟨_,rfl,fun j p hj=>?_⟩⟩
 obtain ⟨h1,rfl⟩:=Y0h.1 hj
 rw [List.getElem_replicate]
 rw [Y0j] at h1
 refine ⟨[.slice none 0 0],rfl,⟨none,0,rfl,Y0e _,Kd.C_nil kLI w⟩,fun i u hu=>?_⟩
 rw [Addr.add_lit,J03 h,Nat.zero_add]
 cases i with
 | succ i=>simp at hu
 | zero=>rw [show kLLI.sz=1 from rfl,Nat.mul_one,Nat.add_zero,Jg9 h1];exact hu
theorem Jpn (d:Nat) (a b c x y z:Int) (w:World):(Op.equalIn (d+3) 50 (.agg #[.int .i64 a,.int .i64 b,.int .i64 c]) (.agg #[.int .i64 x,.int .i64 y,.int .i64 z])).run Tryz.prog w=.ok ((a == x)&&((b == y)&&(c == z))) w:=by
 refine Jpo Tryz.underlying50 (by kernel_rfl) ?_
 refine Jf0 (a:=.int .i64 a) (b:=.int .i64 x) (by rfl) (by kernel_rfl) (by kernel_rfl) (Jgt _ _ _ _) ?_
 refine Jf0 (a:=.int .i64 b) (b:=.int .i64 y) (by rfl) (by kernel_rfl) (by kernel_rfl) (Jgt _ _ _ _) ?_
 exact Jjr (a:=.int .i64 c) (b:=.int .i64 z) (by rfl) (by kernel_rfl) (by kernel_rfl) (Jgt _ _ _ _)
theorem Jr5 (a b c x y z:Int) (w:World):(binOp .neq 50 (.agg #[.int .i64 a,.int .i64 b,.int .i64 c]) (.agg #[.int .i64 x,.int .i64 y,.int .i64 z])).run Tryz.prog w=.ok (.bool (!((a == x)&&((b == y)&&(c == z))))) w:=by
 have h:=run_neq_struct (P:=Tryz.prog) (w:=w) 50 #[.int .i64 a,.int .i64 b,.int .i64 c] #[.int .i64 x,.int .i64 y,.int .i64 z]
 rw [h,Jpn 9997 a b c x y z w];rfl
theorem Jrf (a b c x y z:Int) (w:World):(binOp .eql 50 (.agg #[.int .i64 a,.int .i64 b,.int .i64 c]) (.agg #[.int .i64 x,.int .i64 y,.int .i64 z])).run Tryz.prog w=.ok (.bool ((a == x)&&((b == y)&&(c == z)))) w:=by
 have h:=run_eql_struct (P:=Tryz.prog) (w:=w) 50 #[.int .i64 a,.int .i64 b,.int .i64 c] #[.int .i64 x,.int .i64 y,.int .i64 z]
 rw [h,Jpn 9997 a b c x y z w];rfl
namespace Mdl
def Jfj (n many:Int):Int:=if many<1 then 0 else if n.tmod many<0 then n.tmod many+many else n.tmod many
def leTo (s t:List Int) (n:Nat):Bool:=(List.range n).all fun k=>decide (s.getD k 0≤t.getD k 0)
def leL (s t:List Int):Bool:=leTo s t s.length
theorem Jpb {p:Nat→Bool} {k:Nat} (h:(List.range k).all p=true) (e:p k=true):(List.range (k+1)).all p=true:=by rw [List.range_succ,List.all_append,h];simp [e]
theorem Jpc {p:Nat→Bool} {k n:Nat} (hk:k<n) (e:p k=false):(List.range n).all p=false:=by
 rw [List.all_eq_false];exact ⟨k,Y12.2 hk,by simp [e]⟩
end Mdl
theorem Jnz (n many:Int) (w:World) (h1:1≤many) (h2:many≤1000000000000000):Calls Tryz.prog 110 #[.int .i64 n,.int .i64 many] w fun e w'=>e=.returned (.int .i64 (Jfj n many))∧w=w':=by
 have hmod:=Int.tmod_lt_of_pos n (show 0<many by omega)
 have hlow:=Int.lt_tmod_of_pos n (show 0<many by omega)
 by_cases h0:n.tmod many<0
 ·have HT:=Y08 (show Jfj n many=w64 (n.tmod many+many) by unfold Jfj;rw [if_neg (by omega),if_pos h0,J25 (by omega) (by omega)])
  have h1':¬ many<1:=by omega
  have hz:¬ many=0:=by omega
  clear hmod hlow
  go_enter Tryz.func110,Tryz.ntmps110
  go_wp2
  go_ret
  exact ⟨J2k (by rw [HT.out,J2u]),rfl⟩
 have HT:=Y08 (show Jfj n many=n.tmod many by unfold Jfj;rw [if_neg (by omega),if_neg h0])
 have h1':¬ many<1:=by omega
 have hz:¬ many=0:=by omega
 clear hmod hlow
 go_enter Tryz.func110,Tryz.ntmps110
 go_wp2
 go_ret
 exact ⟨J2k HT.out.symm,rfl⟩
theorem Jra (A B:Option Addr) (cA cB:Nat) (l m:List Int) (w:World) (hl:kI.C w A l.length l) (hm:kI.C w B m.length m) (hlen:l.length=m.length) :
  Calls Tryz.prog 97 #[.slice A l.length cA,.slice B m.length cB] w fun e w'=>e=.returned (.bool (leL l m))∧Below w.heap.size w w':=by
 have HL:=Y00 hl
 have HM:=Y00 hm
 have hlm:=Kd.C_max hl
 have hmm:=Kd.C_max hm
 clear hl hm
 go_enter Tryz.func97,Tryz.ntmps97
 go_wp2_with fail
 go_loopw [5] (fun i wr=>∃ k:Nat,i=.int .i64 k∧k≤l.length∧J08 (leTo l m k=true∧Below w.heap.size w wr)) (fun i _=>l.length - (intOf i).toNat)
 case atStart=>exact ⟨0,rfl,Nat.zero_le _,⟨rfl,Y0f _ _⟩⟩
 obtain ⟨k,rfl,hk,hX⟩:=hrel
 by_cases hlt:k<l.length
 rotate_left
 ·have hkE:¬ ((k:Int)<l.length):=by omega
  have HE:=Y08 (show leL l m=true by
   have h:=hX.out.1
   rw [show k=l.length by omega] at h
   exact h)
  go_wp2_with fail
  go_ret
  exact ⟨by rw [HE.out];rfl,hX.out.2⟩
 have hkm:k<m.length:=by omega
 have hkE:(k:Int)<l.length:=by omega
 have hkM:(k:Int)<m.length:=by omega
 have hk0:(0:Int)≤k:=by omega
 obtain ⟨ad,rfl,c1⟩:=at_int (Kd.c00 HL.out hX.out.2) hlt
 obtain ⟨ad2,rfl,c2⟩:=at_int (Kd.c00 HM.out hX.out.2) hkm
 have HG:=Y08 (show (l[k]≤m[k]→leTo l m (k+1)=true)∧(¬ l[k]≤m[k]→leL l m=false) from by
  have e1:l.getD k 0=l[k]:=by rw [Y01,Y05 hlt];rfl
  have e2:m.getD k 0=m[k]:=by rw [Y01,Y05 hkm];rfl
  exact ⟨fun h=>Jpb hX.out.1 (by rw [e1,e2];exact Y0r h),fun h=>Jpc (p:=fun k=>decide (l.getD k 0≤m.getD k 0)) hlt (by rw [e1,e2];exact Y0s h)⟩)
 generalize l[k]=x at *
 generalize m[k]=y at *
 clear hkm
 go_upto_region 4 with fail
 refine sr1 9 (fun w'=>w'.cell? (ad.add k)=some (.int .i64 x)∧w'.cell? (ad2.add k)=some (.int .i64 y)) [] ⟨c1,c2⟩ fun hJ0=>?_
 have HD:=Y00 (J05 hX.out.2)
 generalize wr.drew=wd at *
 refine pv 0 ?_
 refine pv 1 ?_
 refine pv 2 ?_
 refine tv2 3 ?_
 refine pv 4 ?_
 refine pv 5 ?_
 refine pv 6 ?_
 refine tv2 7 ?_
 by_cases hxy:x≤y
 ·have hf:decide (y<x)=false:=by simp;omega
  refine pv 8 ?_
  refine dn0 ?_
  go_wp2_with fail
  exact ⟨⟨k+1,by go_num,by omega,⟨HG.out.1 hxy,HD.out⟩⟩,by simp [intOf];omega⟩
 skip
 have hf:y<x:=by omega
 refine pv 8 ?_
 refine dn0 ?_
 go_wp2_with fail
 go_ret
 exact ⟨by rw [HG.out.2 hf];rfl,HD.out⟩
end Go.Proofs.YtbkfnmgkcgnifaaGreat
namespace Go.Proofs.YtbkfnmgkcgnifaaGreat.Mdl
def LeT (a b:Tm):Prop:=a.1≤b.1∧a.2.1≤b.2.1∧a.2.2≤b.2.2
theorem J9q {a b:Tm} : leT a b=true↔LeT a b:=by simp [leT,LeT,and_assoc]
theorem LeT.refl (a:Tm):LeT a a:=⟨Int.le_refl _,Int.le_refl _,Int.le_refl _⟩
theorem LeT.trans {a b c:Tm} (h:LeT a b) (k:LeT b c):LeT a c:=⟨Int.le_trans h.1 k.1,Int.le_trans h.2.1 k.2.1,Int.le_trans h.2.2 k.2.2⟩
theorem LeT.anti {a b:Tm} (h:LeT a b) (k:LeT b a):a=b:=Prod.ext (Int.le_antisymm h.1 k.1) (Prod.ext (Int.le_antisymm h.2.1 k.2.1) (Int.le_antisymm h.2.2 k.2.2))
def addT (a b:Tm):Tm:=(a.1+b.1,a.2.1+b.2.1,a.2.2+b.2.2)
def TmIn (B:Int) (t:Tm):Prop:=(0≤t.1∧t.1≤B)∧(0≤t.2.1∧t.2.1≤B)∧(0≤t.2.2∧t.2.2≤B)
theorem TmIn.mono {B C:Int} {t:Tm} (h:TmIn B t) (hB:B≤C):TmIn C t:=by unfold TmIn at *;omega
theorem J8s {a b:Tm} {B C:Int} (ha:TmIn B a) (hb:TmIn C b) (hB:B+C≤1000000000):J0l a b=addT a b∧TmIn (B+C) (addT a b):=by
 unfold TmIn at *
 refine ⟨?_,by simp only [addT];omega⟩
 simp only [J0l,addT]
 rw [J25 (by omega) (by omega),J25 (by omega) (by omega),J25 (by omega) (by omega)]
theorem J7y:∀ (d out:List Tm) (x:Tm),x ∈ d.foldl J3f out→x ∈ out∨x ∈ d
 | [],_,_,h=>.inl h
 | t::d,out,x,h=>by
  rcases J7y d (J3f out t) x h with h | h
  ·unfold J3f at h
   split at h
   ·exact .inl h
   rcases List.mem_append.1 h with h | h
   ·exact .inl h
   rw [List.mem_singleton.1 h];exact .inr List.mem_cons_self
  exact .inr (List.mem_cons_of_mem _ h)
theorem J4o:∀ (d out:List Tm) (x:Tm),x ∈ out→x ∈ d.foldl J3f out
 | [],_,_,h=>h
 | t::d,out,x,h=>J4o d (J3f out t) x (by unfold J3f;split;exact h;exact List.mem_append_left _ h)
theorem J6g:∀ (d out:List Tm) (y:Tm),y ∈ d→∃ x ∈ d.foldl J3f out,LeT x y
 | t::d,out,y,h=>by
  rcases List.mem_cons.1 h with h | h
  ·subst h
   by_cases hc:out.any (fun o=>leT o y)=true
   ·obtain ⟨o,ho,hl⟩:=List.any_eq_true.1 hc
    exact ⟨o,J4o d (J3f out y) o (by unfold J3f;rw [if_pos hc];exact ho),J9q.1 hl⟩
   exact ⟨y,J4o d (J3f out y) y (by unfold J3f;rw [if_neg hc];simp),LeT.refl _⟩
  exact J6g d (J3f out t) y h
def Jls (l:List Tm):Prop:=l.Pairwise (fun a b=>¬ LeT a b∧¬ LeT b a)
theorem Jr9 {a b:Tm} (h:LeT a b):cmpT a b≤0:=by
 rw [Jcj];unfold LeT at h;omega
theorem J43:∀ (d out:List Tm),Jls out→J54 (out++d)→Jls (d.foldl J3f out)∧J54 (d.foldl J3f out)
 | [],out,h,hs=>⟨h,by simpa using hs⟩
 | t::d,out,h,hs=>by
  have hs2:=List.pairwise_append.1 hs
  rw [List.foldl_cons]
  by_cases hc:out.any (fun o=>leT o t)=true
  ·rw [show J3f out t=out by unfold J3f;rw [if_pos hc]]
   exact J43 d out h (List.pairwise_append.2 ⟨hs2.1,(List.pairwise_cons.1 hs2.2.1).2,fun a ha b hb=>hs2.2.2 a ha b (List.mem_cons_of_mem _ hb)⟩)
  rw [show J3f out t=out++[t] by unfold J3f;rw [if_neg hc]]
  refine J43 d _ (List.pairwise_append.2 ⟨h,List.pairwise_singleton _ _,fun a ha b hb=>?_⟩) (by simpa using hs)
  rw [List.mem_singleton.1 hb]
  refine ⟨fun hl=>hc (List.any_eq_true.2 ⟨a,ha,J9q.2 hl⟩),fun hl=>?_⟩
  have h1:=Jr9 hl
  have h2:=hs2.2.2 a ha t List.mem_cons_self
  rw [J32] at h1;omega
theorem J3r (l:List Tm):J54 (J1c (J2w l))∧∀ x,x ∈ J1c (J2w l)↔x ∈ l:=by
 obtain ⟨s1,p1⟩:=J2a ordT (l:=l) (fun _ _=>trivial)
 exact ⟨J53 _ s1,fun x=>(J77 _ _).trans p1.mem_iff⟩
theorem J5n {l:List Tm} {x:Tm} (h:x ∈ J0p l):x ∈ l:=by
 rcases J7y _ _ _ h with h | h
 ·cases h
 exact ((J3r l).2 x).1 h
theorem J40 {l:List Tm} {y:Tm} (h:y ∈ l):∃ x ∈ J0p l,LeT x y:=J6g _ _ _ (((J3r l).2 y).2 h)
theorem J52 (l:List Tm):Jls (J0p l)∧J54 (J0p l):=J43 _ [] List.Pairwise.nil (by simpa using (J3r l).1)
theorem Jfc:∀ {l:List Tm},Jls l→∀ {x y:Tm},x ∈ l→y ∈ l→LeT x y→x=y
 | a::l,h,x,y,hx,hy,hl=>by
  have h1:=List.pairwise_cons.1 h
  rcases List.mem_cons.1 hx with hx | hx<;>rcases List.mem_cons.1 hy with hy | hy
  ·rw [hx,hy]
  ·exact absurd (hx ▸ hl) (h1.1 y hy).1
  ·exact absurd (hy ▸ hl) (h1.1 x hx).2
  exact Jfc h1.2 hx hy hl
theorem Jgp {l:List Tm} {x y:Tm} (hx:x ∈ J0p l) (hy:y ∈ J0p l) (h:LeT x y):x=y:=Jfc (J52 l).1 hx hy h
def J4u (E:List Ed) (b:Int):Int→List Ed→Prop
 | a,[]=>a=b
 | a,e::P=>e ∈ E∧e.1=a∧J4u E b e.2.1 P
def sumW:List Ed→Tm
 | []=>(0,0,0)
 | e::P=>addT (tmOf e.2.2) (sumW P)
def sumS (s:Tm) (P:List Ed):Tm:=P.foldl (fun s e=>J0l s (tmOf e.2.2)) s
def Free:List Bool→Nat→List Ed→Prop
 | _,_,[]=>True
 | on,n,e::P=>(on.set n true).getD e.2.1.toNat false=false∧Free (on.set n true) e.2.1.toNat P
theorem J4u.append {E:List Ed} {b c:Int} : ∀ {P:List Ed} {a:Int} {Q:List Ed},J4u E b a P→J4u E c b Q→J4u E c a (P++Q)
 | [],_,_,h,k=>by cases h;exact k
 | _::_,_,_,h,k=>⟨h.1,h.2.1,h.2.2.append k⟩
theorem J7a (s:Tm):addT s (0,0,0)=s:=by simp [addT]
theorem J6i (s:Tm):addT (0,0,0) s=s:=by simp [addT]
theorem Je2 (a b c:Tm):addT (addT a b) c=addT a (addT b c):=by simp [addT,Int.add_assoc]
theorem J5z:∀ (P Q:List Ed),sumW (P++Q)=addT (sumW P) (sumW Q)
 | [],Q=>(J6i _).symm
 | e::P,Q=>by simp only [List.cons_append,sumW,J5z P Q,Je2]
def EdIn (N:Int) (E:List Ed):Prop:=∀ e ∈ E,(0≤e.1∧e.1<N)∧(0≤e.2.1∧e.2.1<N)∧TmIn 100 (tmOf e.2.2)
theorem J3p {E:List Ed} {b:Int} : ∀ {P:List Ed} {a:Int},J4u E b a P→∀ e ∈ P,e ∈ E
 | _::P,_,h,e,he=>by
  rcases List.mem_cons.1 he with he | he
  ·rw [he];exact h.1
  exact J3p h.2.2 e he
theorem Jbb {E:List Ed} {N:Int} (hE:EdIn N E):∀ {P:List Ed},(∀ e ∈ P,e ∈ E)→TmIn (100*P.length) (sumW P)
 | [],_=>by simp [TmIn,sumW]
 | e::P,h=>by
  have h1:=(hE e (h e List.mem_cons_self)).2.2
  have h2:=Jbb hE (P:=P) (fun x hx=>h x (List.mem_cons_of_mem _ hx))
  unfold TmIn at *
  simp only [sumW,addT,List.length_cons]
  omega
theorem Jeb {E:List Ed} {N:Int} (hE:EdIn N E):∀ {P:List Ed} {s:Tm} {B:Int},(∀ e ∈ P,e ∈ E)→TmIn B s→B+100*P.length≤1000000→sumS s P=addT s (sumW P)
 | [],s,B,_,_,_=>(J7a s).symm
 | e::P,s,B,h,hs,hB=>by
  rw [List.length_cons] at hB
  obtain ⟨e1,e2⟩:=J8s hs (hE e (h e List.mem_cons_self)).2.2 (by omega)
  have:=Jeb hE (P:=P) (s:=J0l s (tmOf e.2.2)) (B:=B+100) (fun x hx=>h x (List.mem_cons_of_mem _ hx)) (by rw [e1];exact e2) (by omega)
  show sumS (J0l s (tmOf e.2.2)) P=_
  rw [this,e1,Je2];rfl
theorem Jjo {start:Int} {n:Nat} {sum:Tm} {on1:List Bool} {rec} {K:Nat} {S:Ed→Nat→Tm→Prop} {E:List Ed}
  (hrec:∀ e ∈ E,e.1=(n:Int)→on1.getD e.2.1.toNat false=false→∀ r x,r.length=K→rec e.2.1.toNat (J0l sum (tmOf e.2.2)) r on1=some x→x.length=K∧∀ v,v<K→∀ t,t ∈ x.getD v []↔t ∈ r.getD v []∨S e v t) :
  ∀ (F:List Ed) (r r':List (List Tm)),(∀ e ∈ F,e ∈ E)→r.length=K→F.foldl (J3l start n sum on1 rec) (some r)=some r'→r'.length=K∧∀ v,v<K→∀ t,t ∈ r'.getD v []↔t ∈ r.getD v []∨∃ e ∈ F,e.1=(n:Int)∧on1.getD e.2.1.toNat false=false∧S e v t
 | [],r,r',_,hr,he=>by cases he;exact ⟨hr,fun v _ t=>by simp⟩
 | e::F,r,r',hF,hr,he=>by
  rw [List.foldl_cons] at he
  cases hx:J3l start n sum on1 rec (some r) e with
  | none=>rw [hx,J5l] at he;cases he
  | some x=>?_
  rw [hx] at he
  simp only [J3l,Option.bind_some] at hx
  have ih:=fun hxl=>Jjo hrec F x r' (fun e he=>hF e (List.mem_cons_of_mem _ he)) hxl he
  split at hx
  ·rename_i hc
   split at hx
   ·cases hx
   cases hx
   obtain ⟨h1,h2⟩:=ih hr
   refine ⟨h1,fun v hv t=>(h2 v hv t).trans ?_⟩
   constructor
   ·rintro (h | ⟨e',he',h⟩)
    ·exact .inl h
    exact .inr ⟨e',List.mem_cons_of_mem _ he',h⟩
   rintro (h | ⟨e',he',h1,h2,h3⟩)
   ·exact .inl h
   rcases List.mem_cons.1 he' with he' | he'
   ·subst he'
    rcases hc with hc | hc
    ·exact absurd h1 hc
    rw [h2] at hc;cases hc
   exact .inr ⟨e',he',h1,h2,h3⟩
  rename_i hc
  have hc1:e.1=(n:Int):=Classical.byContradiction fun h=>hc (.inl h)
  have hc2:on1.getD e.2.1.toNat false=false:=by
   cases h:on1.getD e.2.1.toNat false with
   | true=>exact absurd (.inr h) hc
   | false=>rfl
  obtain ⟨g1,g2⟩:=hrec e (hF e List.mem_cons_self) hc1 hc2 r x hr hx
  obtain ⟨h1,h2⟩:=ih g1
  refine ⟨h1,fun v hv t=>(h2 v hv t).trans ?_⟩
  rw [g2 v hv t]
  constructor
  ·rintro ((h | h) | ⟨e',he',h⟩)
   ·exact .inl h
   ·exact .inr ⟨e,List.mem_cons_self,hc1,hc2,h⟩
   exact .inr ⟨e',List.mem_cons_of_mem _ he',h⟩
  rintro (h | ⟨e',he',h1,h2,h3⟩)
  ·exact .inl (.inl h)
  rcases List.mem_cons.1 he' with he' | he'
  ·subst he';exact .inl (.inr h3)
  exact .inr ⟨e',he',h1,h2,h3⟩
theorem Jjd {E:List Ed} {start:Int} {K:Nat} (hE:∀ e ∈ E,0≤e.2.1∧e.2.1.toNat<K):∀ (f n:Nat) (sum:Tm) (rows:List (List Tm)) (on:List Bool) (rows':List (List Tm)),rows.length=K→n<K→J4e E start f n sum rows on=some rows' →
  rows'.length=K∧∀ v,v<K→∀ t,t ∈ rows'.getD v []↔t ∈ rows.getD v []∨∃ P,P.length<f∧J4u E (v:Int) (n:Int) P∧Free on n P∧sumS sum P=t
 | 0,n,sum,rows,on,rows',hr,hn,he=>by
  simp only [J4e] at he;cases he
  exact ⟨hr,fun v _ t=>⟨.inl,fun h=>h.elim id (fun ⟨P,hP,_⟩=>absurd hP (by omega))⟩⟩
 | f+1,n,sum,rows,on,rows',hr,hn,he=>by
  simp only [J4e] at he
  obtain ⟨h1,h2⟩:=Jjo (K:=K) (E:=E) (S:=fun e v t=>∃ P,P.length<f∧J4u E (v:Int) e.2.1 P∧Free (on.set n true) e.2.1.toNat P∧sumS (J0l sum (tmOf e.2.2)) P=t)
   (fun e he h0 ho r x hr hx=>by
    obtain ⟨a,b⟩:=Jjd hE f _ _ r _ x hr (hE e he).2 hx
    refine ⟨a,fun v hv t=>(b v hv t).trans ?_⟩
    rw [Int.toNat_of_nonneg (hE e he).1]) E _ rows' (fun _ h=>h) (by rw [List.length_set];exact hr) he
  refine ⟨h1,fun v hv t=>(h2 v hv t).trans ?_⟩
  have hset:t ∈ (rows.set n (rows.getD n []++[sum])).getD v []↔t ∈ rows.getD v []∨(v=n∧sum=t):=by
   by_cases hvn:v=n
   ·subst hvn
    rw [J0o _ _ _ _ (by omega),List.mem_append,List.mem_singleton]
    exact ⟨fun h=>h.imp id (fun h=>⟨rfl,h.symm⟩),fun h=>h.imp id (fun h=>h.2.symm)⟩
   rw [getD_set_ne _ _ _ (Ne.symm hvn)]
   exact ⟨.inl,fun h=>h.elim id (fun h=>absurd h.1 hvn)⟩
  rw [hset]
  constructor
  ·rintro ((h | ⟨rfl,rfl⟩) | ⟨e,he,h0,ho,P,hP,hw,hf,hs⟩)
   ·exact .inl h
   ·exact .inr ⟨[],by simp,rfl,trivial,rfl⟩
   exact .inr ⟨e::P,by rw [List.length_cons];omega,⟨he,h0,hw⟩,⟨ho,hf⟩,hs⟩
  rintro (h | ⟨P,hP,hw,hf,hs⟩)
  ·exact .inl (.inl h)
  cases P with
  | cons e P =>
   exact .inr ⟨e,hw.1,hw.2.1,hf.1,P,by rw [List.length_cons] at hP;omega,hw.2.2,hf.2,hs⟩
  | nil=>?_
  have hw:(n:Int)=v:=hw
  exact .inl (.inr ⟨by omega,hs⟩)
def tgts (P:List Ed):List Int:=P.map (·.2.1)
theorem Jm5 {E:List Ed} {N:Int} (hE:EdIn N E) {e:Ed} (he:e ∈ E) {Y P:List Ed} (h:LeT (sumW Y) (sumW P)):LeT (sumW (e::Y)) (sumW (e::P))∧LeT (sumW Y) (sumW (e::P)):=by
 have:=(hE e he).2.2
 unfold TmIn at this
 unfold LeT at *
 simp only [sumW,addT]
 omega
theorem Jlz {E:List Ed} {N:Int} (hE:EdIn N E) {b a:Int} : ∀ (P:List Ed) (n:Int),J4u E b n P→a ∈ n::tgts P→(n::tgts P).Nodup→∃ Y,J4u E b a Y∧(a::tgts Y).Nodup∧LeT (sumW Y) (sumW P)
 | [],n,h,ha,hn=>by
  rcases List.mem_cons.1 ha with ha | ha
  ·subst ha;exact ⟨[],h,hn,LeT.refl _⟩
  cases ha
 | e::P,n,h,ha,hn=>by
  rcases List.mem_cons.1 ha with ha | ha
  ·subst ha;exact ⟨_,h,hn,LeT.refl _⟩
  obtain ⟨Y,h1,h2,h3⟩:=Jlz hE P e.2.1 h.2.2 ha (List.nodup_cons.1 hn).2
  exact ⟨Y,h1,h2,(Jm5 hE h.1 h3).2⟩
theorem J9e {E:List Ed} {N:Int} (hE:EdIn N E) {b:Int} : ∀ (P:List Ed) (a:Int),J4u E b a P→∃ Y,J4u E b a Y∧(a::tgts Y).Nodup∧LeT (sumW Y) (sumW P)
 | [],a,h=>⟨[],h,by simp [tgts],LeT.refl _⟩
 | e::P,a,h=>by
  obtain ⟨Y,h1,h2,h3⟩:=J9e hE P e.2.1 h.2.2
  by_cases ha:a ∈ e.2.1::tgts Y
  ·obtain ⟨Z,g1,g2,g3⟩:=Jlz hE Y e.2.1 h1 ha h2
   exact ⟨Z,g1,g2,(Jm5 hE h.1 (g3.trans h3)).2⟩
  exact ⟨e::Y,⟨h.1,h.2.1,h1⟩,List.nodup_cons.2 ⟨ha,h2⟩,(Jm5 hE h.1 h3).1⟩
theorem J8u:∀ (N:Nat) (l:List Int),l.Nodup→(∀ x ∈ l,0≤x∧x<N)→l.length≤N
 | 0,[],_,_=>Nat.le_refl _
 | 0,x::l,_,h=>by have:=h x List.mem_cons_self;omega
 | N+1,l,hn,h=>by
  by_cases hm:(N:Int) ∈ l
  ·have h1:=List.length_erase_of_mem hm
   have h2:=J8u N (l.erase (N:Int)) (hn.erase _) (fun x hx=>by
    have h3:=(List.Nodup.mem_erase_iff hn).1 hx
    have:=h x h3.2
    have:=h3.1
    omega)
   omega
  have:=J8u N l hn (fun x hx=>by
   have h1:=h x hx
   have:x≠N:=fun he=>hm (he ▸ hx)
   omega)
  omega
theorem Ji6 {E:List Ed} {N:Int} (hE:EdIn N E) {b:Int} : ∀ (P:List Ed) (n:Int) (on:List Bool),0≤n→J4u E b n P→(n::tgts P).Nodup→(∀ x ∈ tgts P,on.getD x.toNat false=false)→Free on n.toNat P
 | [],_,_,_,_,_,_=>trivial
 | e::P,n,on,h0,h,hn,ho=>by
  have hp:=List.nodup_cons.1 hn
  have hset:∀ x ∈ tgts (e::P),(on.set n.toNat true).getD x.toNat false=false:=fun x hx=>by
   have hne:n≠x:=fun he=>hp.1 (he ▸ hx)
   have h1:=ho x hx
   have hx0:0≤x:=by
    obtain ⟨e',he',rfl⟩:=List.mem_map.1 hx
    exact (hE e' (J3p h e' he')).2.1.1
   rw [getD_set_ne _ _ _ (show n.toNat≠x.toNat by omega)]
   exact h1
  exact ⟨hset _ List.mem_cons_self,Ji6 hE P e.2.1 _ (hE e h.1).2.1.1 h.2.2 hp.2 (fun x hx=>hset x (List.mem_cons_of_mem _ hx))⟩
theorem Jam {E:List Ed} {b:Int} : ∀ {P:List Ed} {a:Int},J4u E b a P→P≠[]→∃ X e,P=X++[e]∧J4u E e.1 a X∧e ∈ E∧e.2.1=b
 | [e],a,h,_=>⟨[],e,rfl,h.2.1.symm,h.1,h.2.2⟩
 | e::e2::P,a,h,_=>by
  obtain ⟨X,x,h1,h2,h3,h4⟩:=Jam h.2.2 (by simp)
  exact ⟨e::X,x,by rw [h1];rfl,⟨h.1,h.2.1,h2⟩,h3,h4⟩
theorem Jjf {α β:Type} {f:α→Option β} : ∀ {l:List α} {r:List β},l.mapM f=some r→∀ (i:Nat) (x:α),l[i]?=some x→∃ y,r[i]?=some y∧f x=some y
 | [],r,h,i,x,hi=>by simp at hi
 | a::l,r,h,i,x,hi=>by
  rw [List.mapM_cons] at h
  cases hx:f a with
  | none=>rw [hx] at h;cases h
  | some y=>?_
  cases hl:l.mapM f with
  | none=>rw [hx,hl] at h;cases h
  | some ys=>?_
  rw [hx,hl] at h
  injection h with h
  subst h
  cases i with
  | succ i=>simpa using Jjf hl i x (by simpa using hi)
  | zero=>simp at hi;subst hi;exact ⟨y,rfl,hx⟩
theorem J3k {N Wd:Int} {E:List Ed} (h:∀ e ∈ E,J1l N Wd e=true) (hW:Wd≤3):EdIn N E:=fun e he=>by
 have h1:=h e he
 simp only [J1l,Bool.and_eq_true,decide_eq_true_eq] at h1
 obtain ⟨h1,h2,h3,h4⟩:=h1
 refine ⟨h1,h2,?_⟩
 unfold J42 at h4
 simp only [Bool.not_eq_true',List.any_eq_false] at h4
 have hk:∀ k,0≤e.2.2.getD k 0∧e.2.2.getD k 0≤100:=fun k=>by
  rw [List.getD_eq_getElem?_getD]
  cases hg:e.2.2[k]? with
  | none=>simp
  | some x=>?_
  have:=h4 x (List.mem_of_getElem? hg)
  simp only [outB,Bool.or_eq_true,decide_eq_true_eq,not_or] at this
  simp only [Option.getD_some];omega
 exact ⟨hk 0,hk 1,hk 2⟩
theorem Jpi {N Wd:Int} {E:List Ed} {ways:Ways} (h:openedP N Wd E=some ways) {a b:Int} (ha:0≤a∧a<N) (hb:0≤b∧b<N) :
  ∃ l,J7p ways a b.toNat=J0p l∧∀ t,t ∈ l↔∃ P,P.length<N.toNat∧J4u E b a P∧Free (List.replicate N.toNat false) a.toNat P∧sumW P=t:=by
 obtain ⟨⟨h1,h8,_,h3,h16⟩,he,hm⟩:=opened_ok h
 have hE:=J3k he h3
 obtain ⟨y,hy,hf⟩:=Jjf hm a.toNat a.toNat (by rw [List.getElem?_range (by omega)])
 unfold fromP at hf
 obtain ⟨rows,hw,hr⟩:=Option.map_eq_some_iff.1 hf
 obtain ⟨g1,g2⟩:=Jjd (K:=N.toNat) (fun e h=>by have:=(hE e h).2.1;omega) _ _ _ _ _ _ (by simp) (by omega) hw
 refine ⟨rows.getD b.toNat [],?_,fun t=>(g2 b.toNat (by omega) t).trans ?_⟩
 ·unfold J7p
  rw [List.getD_eq_getElem?_getD (l:=ways),hy,Option.getD_some,← hr,List.getD_eq_getElem?_getD,List.getElem?_map,List.getElem?_eq_getElem (by omega:b.toNat<rows.length),List.getD_eq_getElem?_getD,List.getElem?_eq_getElem (by omega:b.toNat<rows.length)]
  rfl
 have hrep:(List.replicate N.toNat ([]:List Tm)).getD b.toNat []=[]:=by
  rw [List.getD_eq_getElem?_getD,List.getElem?_replicate];split<;>rfl
 rw [hrep,Int.toNat_of_nonneg ha.1,Int.toNat_of_nonneg hb.1]
 constructor
 ·rintro (h | ⟨P,hP,hw,hf,hs⟩)
  ·cases h
  refine ⟨P,hP,hw,hf,?_⟩
  rw [Jeb hE (B:=0) (J3p hw) (by simp [TmIn]) (by omega),J6i] at hs
  exact hs
 rintro ⟨P,hP,hw,hf,hs⟩
 refine .inr ⟨P,hP,hw,hf,?_⟩
 rw [Jeb hE (B:=0) (J3p hw) (by simp [TmIn]) (by omega),J6i]
 exact hs
theorem Jff {N Wd:Int} {E:List Ed} {ways:Ways} (h:openedP N Wd E=some ways) {a b:Int} (ha:0≤a∧a<N) (hb:0≤b∧b<N) {P:List Ed} (hw:J4u E b a P):∃ t ∈ J7p ways a b.toNat,LeT t (sumW P):=by
 obtain ⟨l,h1,h2⟩:=Jpi h ha hb
 obtain ⟨⟨g1,g8,_,g3,g16⟩,he,_⟩:=opened_ok h
 have hE:=J3k he g3
 obtain ⟨Y,k1,k2,k3⟩:=J9e hE P a hw
 have hin:∀ x ∈ a::tgts Y,0≤x∧x<(N.toNat:Int):=fun x hx=>by
  rcases List.mem_cons.1 hx with hx | hx
  ·omega
  obtain ⟨e,he,rfl⟩:=List.mem_map.1 hx
  have:=(hE e (J3p k1 e he)).2.1
  omega
 have hlen:=J8u N.toNat _ k2 hin
 rw [List.length_cons,tgts,List.length_map] at hlen
 have hfree:=Ji6 hE Y a (List.replicate N.toNat false) ha.1 k1 k2 (fun x hx=>by
  rw [List.getD_eq_getElem?_getD,List.getElem?_replicate];split<;>rfl)
 obtain ⟨t,ht,hle⟩:=J40 ((h2 (sumW Y)).2 ⟨Y,by omega,k1,hfree,rfl⟩)
 exact ⟨t,by rw [h1];exact ht,hle.trans k3⟩
def dn:Note→Mk→Int
 | [],_=>0
 | e::n,x=>(if e.1=x then e.2 else 0)+dn n x
def dsum:List Note→Mk→Int
 | [],_=>0
 | p::q,x=>dn p x+dsum q x
def rsum:List (List Note)→Mk→Int
 | [],_=>0
 | q::r,x=>dsum q x+rsum r x
def gsum:List Led→Mk→Int
 | [],_=>0
 | L::l,x=>getL L x+gsum l x
theorem Jh0:∀ (a b:Note) (x:Mk),dn (a++b) x=dn a x+dn b x
 | [],b,x=>by simp [dn]
 | e::a,b,x=>by simp only [List.cons_append,dn,Jh0 a b x];omega
theorem Jch:∀ (a b:List Note) (x:Mk),dsum (a++b) x=dsum a x+dsum b x
 | [],b,x=>by simp [dsum]
 | e::a,b,x=>by simp only [List.cons_append,dsum,Jch a b x];omega
theorem Jiu (q:List Note) (x:Mk):∀ (r:List (List Note)) (k:Nat),k<r.length→rsum (r.set k q) x+dsum (r.getD k []) x=rsum r x+dsum q x
 | p::r,0,_=>by simp [rsum];omega
 | p::r,k+1,h=>by
  have:=Jiu q x r k (by simpa using h)
  simp only [List.set_cons_succ,rsum,List.getD_cons_succ];omega
theorem Jax (L:Led) (x:Mk):∀ (r:List Led) (k:Nat),k<r.length→gsum (r.set k L) x+getL (r.getD k []) x=gsum r x+getL L x
 | p::r,0,_=>by simp [gsum];omega
 | p::r,k+1,h=>by
  have:=Jax L x r k (by simpa using h)
  simp only [List.set_cons_succ,gsum,List.getD_cons_succ];omega
theorem J4k (e:Mk × Int) (L:Led) (x:Mk):getL (e::L) x=if e.1=x then e.2 else getL L x:=by
 unfold getL
 split
 ·rename_i h;rw [List.find?_cons_of_pos (by simpa using h)];rfl
 rename_i h;rw [List.find?_cons_of_neg (by simpa using h)]
theorem J67 {m x:Mk} (h:x≠m):∀ L:Led,getL (L.filter (fun e=>!(e.1 == m))) x=getL L x
 | []=>rfl
 | y::L=>by
  by_cases hy:y.1=m
  ·rw [List.filter_cons_of_neg (by simpa using hy),J67 h L,J4k,if_neg (by rw [hy];exact Ne.symm h)]
  rw [List.filter_cons_of_pos (by simpa using hy),J4k,J4k,J67 h L]
theorem Jjl (m:Mk) (s:Int) (x:Mk):∀ {L:Led},(∀ e ∈ L,e.1≠m)→getL (insK m s L) x=if x=m then s else getL L x
 | [],_=>by
  rw [show insK m s []=[(m,s)] from rfl,J4k]
  by_cases h:x=m
  ·subst h;simp
  rw [if_neg (Ne.symm h),if_neg h]
 | y::L,hL=>by
  have hy:=hL y Y03
  have ih:=Jjl m s x (L:=L) (fun e he=>hL e (Y04 _ he))
  unfold insK
  split
  ·rw [J4k,ih,J4k]
   by_cases h:x=m
   ·subst h;rw [if_neg hy,if_pos rfl,if_pos rfl]
   rw [if_neg h,if_neg h]
  rw [J4k]
  by_cases h:x=m
  ·subst h;simp
  rw [if_neg (Ne.symm h),if_neg h]
theorem J3b (L:Led) (m:Mk) (n:Int) (x:Mk):getL (J0j L m n) x=if x=m then w64 (getL L m+n) else getL L x:=by
 unfold J0j
 split
 ·rename_i h0
  by_cases h:x=m
  ·subst h;rw [J3z Jhz,if_pos rfl,h0]
  rw [J67 h,if_neg h]
 rw [Jjl m _ x Jhz]
 by_cases h:x=m
 ·rw [if_pos h,if_pos h]
 rw [if_neg h,if_neg h,J67 h]
theorem Jjs {L:Led} (m:Mk) (n:Int) (h:∀ e ∈ L,e.2≠0):∀ e ∈ J0j L m n,e.2≠0:=by
 intro e he
 unfold J0j at he
 split at he
 ·exact h e (List.mem_filter.1 he).1
 rename_i h0
 rcases List.mem_cons.1 ((J1g _ _ _).mem_iff.1 he) with he | he
 ·rw [he];exact h0
 exact h e (List.mem_filter.1 he).1
theorem Jhv:∀ (note:Note) {L:Led},(∀ e ∈ L,e.2≠0)→∀ e ∈ J2h L note,e.2≠0
 | [],_,h=>h
 | x::note,_,h=>Jhv note (Jjs x.1 x.2 h)
theorem Jc8:∀ (note:Note) (L:Led) (B:Int),(∀ x,-B≤getL L x∧getL L x≤B)→(∀ e ∈ note,-1≤e.2∧e.2≤1)→B+note.length≤1000000→∀ x,getL (J2h L note) x=getL L x+dn note x
 | [],L,B,_,_,_,x=>by simp [dn,J2h]
 | e::note,L,B,hL,hn,hB,x=>by
  rw [Y0z] at hB
  have he:=hn e Y03
  have hm:=hL e.1
  have hw:w64 (getL L e.1+e.2)=getL L e.1+e.2:=J25 (by omega) (by omega)
  have hg:∀ y,getL (J0j L e.1 e.2) y=getL L y+(if e.1=y then e.2 else 0):=fun y=>by
   rw [J3b,hw]
   by_cases h:y=e.1
   ·subst h;simp
   rw [if_neg h,if_neg (Ne.symm h)];omega
  have ih:=Jc8 note (J0j L e.1 e.2) (B+1) (fun y=>by
   rw [hg y]
   have:=hL y
   split<;>omega) (fun y hy=>hn y (Y04 _ hy)) (by omega) x
  show getL (J2h (J0j L e.1 e.2) note) x=_
  rw [ih,hg x,dn];omega
theorem J8b {L:Led} (h:Pos L) (m:Mk):0≤getL L m∧getL L m≤cnt L:=by
 by_cases hm:m ∈ L.map (·.1)
 ·have:=Ji4 h hm;omega
 rw [J3z (fun e he hk=>hm (List.mem_map.2 ⟨e,he,hk⟩))];omega
theorem Jew:∀ {has:List Led},(∀ L ∈ has,Pos L)→∀ x,0≤gsum has x∧gsum has x≤msgs has
 | [],_,x=>by simp [gsum,msgs]
 | L::l,h,x=>by
  have h1:=J8b (h L Y03) x
  have h2:=Jew (has:=l) (fun L hL=>h L (Y04 _ hL)) x
  have e:msgs (L::l)=cnt L+msgs l:=by simp [msgs]
  simp only [gsum];omega
theorem Jn9:∀ {has:List Led},(∀ L ∈ has,Pos L)→∀ {x} {L},L ∈ has→getL L x≤gsum has x
 | K::l,h,x,L,hL=>by
  have h1:=J8b (h K Y03) x
  have hl:∀ L ∈ l,Pos L:=fun L hL=>h L (Y04 _ hL)
  simp only [gsum]
  rcases List.mem_cons.1 hL with hL | hL
  ·rw [hL];have:=(Jew hl x).1;omega
  have:=Jn9 hl (x:=x) hL;omega
theorem Jri:∀ {note:Note},(∀ e ∈ note,-1≤e.2∧e.2≤1)→∀ x,- (note.length:Int)≤dn note x∧dn note x≤note.length
 | [],_,x=>by simp [dn]
 | e::n,h,x=>by
  have h1:=h e Y03
  have h2:=Jri (note:=n) (fun e he=>h e (Y04 _ he)) x
  simp only [dn,Y0z]
  split<;>omega
theorem Jng:∀ {q:List Note},(∀ p ∈ q,∀ e ∈ p,-1≤e.2∧e.2≤1)→∀ x,- (((q.map List.length).sum:Nat):Int)≤dsum q x∧dsum q x≤((q.map List.length).sum:Nat)
 | [],_,x=>by simp [dsum]
 | e::n,h,x=>by
  have h1:=Jri (h e Y03) x
  have h2:=Jng (q:=n) (fun e he=>h e (Y04 _ he)) x
  simp only [dsum,List.map_cons,List.sum_cons]
  omega
theorem Jmk:∀ {r:List (List Note)},(∀ q ∈ r,∀ p ∈ q,∀ e ∈ p,-1≤e.2∧e.2≤1)→∀ x,- ((J7r r:Nat):Int)≤rsum r x∧rsum r x≤(J7r r:Nat)
 | [],_,x=>by simp [rsum,J7r]
 | e::n,h,x=>by
  have h1:=Jng (h e Y03) x
  have h2:=Jmk (r:=n) (fun e he=>h e (Y04 _ he)) x
  have e:J7r (e::n)=(e.map List.length).sum+J7r n:=by simp [J7r]
  simp only [rsum]
  omega
def MkIn (N c:Int) (m:Mk):Prop:=J1k N m∧TmIn c m.2
theorem MkIn.mono {N c d:Int} {m:Mk} (h:MkIn N c m) (hc:c≤d):MkIn N d m:=⟨h.1,h.2.mono hc⟩
def Jrz (E:List Ed) (m m':Mk):Prop:=∃ d ∈ E,d.1=m.1∧m'=(d.2.1,addT m.2 (tmOf d.2.2))
def J56 (E:List Ed) (N c:Int) (note:Note):Prop:=∃ m rest,note=(m,-1)::rest∧MkIn N c m∧∀ e ∈ rest,e.2=1∧Jrz E m e.1∧MkIn N c e.1
theorem J56.mono {E:List Ed} {N c d:Int} {note:Note} (h:J56 E N c note) (hc:c≤d):J56 E N d note:=by
 obtain ⟨m,rest,h1,h2,h3⟩:=h
 exact ⟨m,rest,h1,h2.mono hc,fun e he=>⟨(h3 e he).1,(h3 e he).2.1,(h3 e he).2.2.mono hc⟩⟩
theorem J56.one {E:List Ed} {N c:Int} {note:Note} (h:J56 E N c note):∀ e ∈ note,-1≤e.2∧e.2≤1:=by
 obtain ⟨m,rest,rfl,h2,h3⟩:=h
 intro e he
 rcases List.mem_cons.1 he with he | he
 ·subst he;exact ⟨Int.le_refl _,show (-1:Int)≤1 by decide⟩
 have:=(h3 e he).1;omega
theorem J56.mem {E:List Ed} {N c:Int} {note:Note} (h:J56 E N c note):∀ e ∈ note,MkIn N c e.1:=by
 obtain ⟨m,rest,rfl,h2,h3⟩:=h
 intro e he
 rcases List.mem_cons.1 he with he | he
 ·rw [he];exact h2
 exact (h3 e he).2.2
def cB (script:List Int):Int:=1100000 - 100*script.length
theorem Jnj (s:List Int):cB s≤cB s.tail:=by unfold cB;rw [List.length_tail];omega
theorem Jp6 {s:List Int} (h:s≠[]):cB s+100=cB s.tail:=by
 have:=List.length_pos_iff.2 h
 unfold cB;rw [List.length_tail];omega
theorem Jp7 (s:List Int):cB s≤1100000:=by unfold cB;omega
structure WK (E:List Ed) (N:Int) (m:Mk) (has0:List Led) (ms0:Nat) (sent0:Int) (sl0:Nat) (s:WS):Prop where
 acc:∀ x,gsum s.has x=gsum has0 x+dn s.note x
 note:J56 E N (cB s.script) s.note∧s.note.head?=some (m,-1)
 hasT:∀ L ∈ s.has,∀ e ∈ L,MkIn N (cB s.script) e.1
 msg:(msgs s.has:Int)=ms0+(s.sent - sent0)
 snt:sent0≤s.sent∧s.sent+s.script.length≤sent0+sl0
theorem Jnd {E:List Ed} {N:Int} (hE:EdIn N E) {W:Nat} {m:Mk} {has0:List Led} {ms0 sl0:Nat} {sent0:Int} (hs0:0≤sent0∧sent0≤100000) (hms:ms0+sl0≤100000) {s:WS} {e:Ed} (he:e ∈ E) (hi:J2g W N s.has) (h:WK E N m has0 ms0 sent0 sl0 s):WK E N m has0 ms0 sent0 sl0 (J20 W m s e)∧J2g W N (J20 W m s e).has:=by
 have hsn:=h.snt
 have hmg:=h.msg
 refine ⟨?_,(Jcf hi (by omega) (hE e he).2.1).has⟩
 unfold J20
 split
 ·rename_i hem
  have hct:=Jnj s.script
  split
  ·exact ⟨h.acc,⟨h.note.1.mono hct,h.note.2⟩,fun L hL e he=>(h.hasT L hL e he).mono hct,h.msg,h.snt.1,by simp only [List.length_tail];omega⟩
  rename_i h0
  have hr:=J3q s.script (show (1:Int)≤(W:Int)+1 by omega)
  have hne:s.script≠[]:=fun hs=>by rw [hs] at h0;exact h0 (Jja _)
  have hlp:=List.length_pos_iff.2 hne
  have hj:(numP s.script ((W:Int)+1) - 1).toNat<s.has.length:=by rw [hi.len];omega
  generalize (numP s.script ((W:Int)+1) - 1).toNat=j at *
  have hP:=hi.pos _ (J0i hj [])
  have hle:=J1d hj
  obtain ⟨hnu,hhd⟩:=h.note
  obtain ⟨m1,rest,hn,hm1,hrest⟩:=hnu
  have hmm:m1=m:=by rw [hn] at hhd;simp at hhd;exact hhd
  subst hmm
  obtain ⟨hpl,hpi⟩:=J8s hm1.2 (hE e he).2.2 (by have:=Jp7 s.script;omega)
  rw [Jp6 hne] at hpi
  rw [hpl]
  have hm':MkIn N (cB s.script.tail) (e.2.1,addT m1.2 (tmOf e.2.2)):=⟨(hE e he).2.1,hpi⟩
  have hed:Jrz E m1 (e.2.1,addT m1.2 (tmOf e.2.2)):=⟨e,he,hem,rfl⟩
  generalize (e.2.1,addT m1.2 (tmOf e.2.2))=m' at *
  obtain ⟨g1,g2⟩:=hP.enter1 m' (by omega)
  have hms2:=J51 (J0j (s.has.getD j []) m' 1) hj
  have hb:=J8b hP m'
  have hw:w64 (getL (s.has.getD j []) m'+1)=getL (s.has.getD j []) m'+1:=J25 (by omega) (by omega)
  have hws:w64 (s.sent+1)=s.sent+1:=J25 (by omega) (by omega)
  refine ⟨fun x=>?_,⟨⟨m1,rest++[(m',1)],by simp only;rw [hn];rfl,hm1.mono hct,fun x hx=>?_⟩,by simp only;rw [hn];rfl⟩,fun L hL x hx=>?_,?_,?_,?_⟩
  ·have h1:=Jax (J0j (s.has.getD j []) m' 1) x s.has j hj
   have h2:=h.acc x
   simp only
   rw [Jh0]
   rw [J3b,hw] at h1
   by_cases hx:x=m'
   ·subst hx
    rw [if_pos rfl] at h1
    simp only [dn,if_pos];omega
   rw [if_neg hx] at h1
   simp only [dn,if_neg (Ne.symm hx)];omega
  ·rcases Y0m.1 hx with hx | hx
   ·obtain ⟨a,b,c⟩:=hrest x hx
    exact ⟨a,b,c.mono hct⟩
   rw [Y11.1 hx];exact ⟨rfl,hed,hm'⟩
  ·rcases List.mem_or_eq_of_mem_set hL with hL | rfl
   ·exact (h.hasT L hL x hx).mono hct
   rcases J1j hx with hx | hx
   ·rw [hx];exact hm'
   exact (h.hasT _ (J0i hj []) x hx).mono hct
  ·simp only;rw [hws];omega
  ·simp only;rw [hws];omega
  simp only [List.length_tail];rw [hws];omega
 exact h
theorem Jgn {E:List Ed} {N:Int} (hE:EdIn N E) {W:Nat} {m:Mk} {has0:List Led} {ms0 sl0:Nat} {sent0:Int} (hs0:0≤sent0∧sent0≤100000) (hms:ms0+sl0≤100000):∀ (F:List Ed) (s:WS),(∀ e ∈ F,e ∈ E)→J2g W N s.has→WK E N m has0 ms0 sent0 sl0 s→WK E N m has0 ms0 sent0 sl0 (F.foldl (J20 W m) s)
 | [],_,_,_,h=>h
 | e::F,s,hF,hi,h=>by
  obtain ⟨h1,h2⟩:=Jnd hE hs0 hms (hF e Y03) hi h
  exact Jgn hE hs0 hms F _ (fun x hx=>hF x (Y04 _ hx)) h2 h1
theorem Jbu {P:Note→Prop} {ns:List (List (List Note))} {i k:Nat} {q:List Note} (h:∀ r ∈ ns,∀ q ∈ r,∀ note ∈ q,P note) (hq:∀ note ∈ q,P note) (hi:i<ns.length):∀ r ∈ putQ ns i k q,∀ q ∈ r,∀ note ∈ q,P note:=by
 intro r hr p hp
 simp only [putQ] at hr
 rcases List.mem_or_eq_of_mem_set hr with hr | rfl
 ·exact h r hr p hp
 rcases List.mem_or_eq_of_mem_set hp with hp | rfl
 ·exact h _ (J0i hi []) p hp
 exact hq
theorem J9k {P:Note→Prop} {ns:List (List (List Note))} {i k:Nat} (h:∀ r ∈ ns,∀ q ∈ r,∀ note ∈ q,P note):∀ note ∈ qOf ns i k,P note:=by
 intro note hn
 unfold qOf at hn
 by_cases hi:i<ns.length
 ·by_cases hk:k<(ns.getD i []).length
  ·exact h _ (J0i hi []) _ (J0i hk []) note hn
  rw [Y01 (l:=ns.getD i []),Y0w (by omega)] at hn
  cases hn
 rw [Y01 (l:=ns),Y0w (by omega)] at hn
 simp at hn
theorem Jg0 {ns:List (List (List Note))} {i k:Nat} (q:List Note) {W:Nat} (h:ns.length=W∧∀ r ∈ ns,r.length=W) (hi:i<W) (hk:k<W) (x:Mk):rsum ((putQ ns i k q).getD i []) x+dsum (qOf ns i k) x=rsum (ns.getD i []) x+dsum q x:=by
 have e:(putQ ns i k q).getD i []=(ns.getD i []).set k q:=by unfold putQ;exact J0o _ _ _ _ (by rw [h.1];exact hi)
 rw [e]
 exact Jiu q x _ k (by rw [h.2 _ (J0i (by rw [h.1];exact hi) [])];exact hk)
structure Jsq (P:Note→Prop) (W i:Nat) (note:Note) (n:Nat) (ns ns':List (List (List Note))):Prop where
 len:ns'.length=W∧∀ r ∈ ns',r.length=W
 tot:J5c ns'+(if i<n then 1 else 0)=J5c ns+n
 row:∀ j x,rsum (ns'.getD j []) x=rsum (ns.getD j []) x+(if j<n∧j≠i then dn note x else 0)
 mem:∀ r ∈ ns',∀ q ∈ r,∀ p ∈ q,P p
theorem J8o {P:Note→Prop} {W i:Nat} {note:Note} {ns:List (List (List Note))} (hi:i<W) (h:ns.length=W∧∀ r ∈ ns,r.length=W) (hn:∀ r ∈ ns,∀ q ∈ r,∀ p ∈ q,P p) (hx:P note) :
  ∀ n,n≤W→Jsq P W i note n ns ((List.range n).foldl (J0y i note) ns)
 | 0,_=>⟨h,by simp,fun j x=>by simp,hn⟩
 | n+1,hW=>by
  have ih:=J8o hi h hn hx n (by omega)
  rw [List.range_succ,List.foldl_append]
  generalize (List.range n).foldl (J0y i note) ns=ns1 at *
  simp only [List.foldl_cons,List.foldl_nil]
  unfold J0y
  by_cases hni:n=i
  ·subst hni
   rw [if_pos rfl]
   refine ⟨ih.len,?_,fun j x=>?_,ih.mem⟩
   ·have:=ih.tot
    rw [if_neg (by omega)] at this
    rw [if_pos (by omega)];omega
   rw [ih.row j x]
   by_cases hj:j<n∧j≠n
   ·rw [if_pos hj,if_pos ⟨by omega,hj.2⟩]
   rw [if_neg hj,if_neg (by omega)]
  rw [if_neg hni]
  have hq:(ns1.getD n []).getD i []=qOf ns1 n i:=rfl
  rw [hq]
  refine ⟨Jek ih.len (by omega),?_,fun j x=>?_,Jbu ih.mem (fun p hp=>?_) (by rw [ih.len.1];omega)⟩
  ·have h1:=J7f (qOf ns1 n i++[note]) ih.len (show n<W by omega) hi
   rw [Y02,Y10] at h1
   have:=ih.tot
   by_cases hin:i<n
   ·rw [if_pos hin] at this;rw [if_pos (by omega)];omega
   rw [if_neg hin] at this;rw [if_neg (by omega)];omega
  ·by_cases hj:n=j
   ·subst hj
    have h1:=Jg0 (qOf ns1 n i++[note]) ih.len (show n<W by omega) hi x
    rw [Jch] at h1
    have:=ih.row n x
    rw [if_neg (by omega)] at this
    rw [if_pos ⟨by omega,hni⟩]
    simp only [dsum] at h1
    omega
   rw [J63 _ hj,ih.row j x]
   by_cases hj2:j<n∧j≠i
   ·rw [if_pos hj2,if_pos ⟨by omega,hj2.2⟩]
   rw [if_neg hj2,if_neg (by omega)]
  rcases Y0m.1 hp with hp | hp
  ·exact J9k ih.mem p hp
  rw [Y11.1 hp];exact hx
structure Know (E:List Ed) (N:Int) (W:Nat) (n0 s0:Int) (st:St):Prop where
 hasT:∀ L ∈ st.has,∀ e ∈ L,MkIn N (cB st.script) e.1
 noteU:∀ r ∈ st.notes,∀ q ∈ r,∀ p ∈ q,J56 E N (cB st.script) p
 ledT:∀ L ∈ st.led,∀ e ∈ L,MkIn N (cB st.script) e.1∧e.2≠0
 acc:∀ i,i<W→∀ x,getL (st.ledOf i) x+rsum (st.notes.getD i []) x=gsum st.has x
 pos:0≤st.works∧0≤st.nts∧0≤st.sent
 steps:st.works+st.nts+phi st≤1232
 sent:st.sent+st.script.length≤s0
 made:st.works+msgs st.has=n0+st.sent
 told:st.nts+J5c st.notes=st.works*(W - 1)
structure Jpe (E:List Ed) (N:Int) (W:Nat) (st st':St):Prop where
 led:∀ i,i<W→(∀ x,getL (st'.ledOf i) x=getL (st.ledOf i) x)∨∃ p,J56 E N 1100000 p∧∀ x,getL (st'.ledOf i) x=getL (st.ledOf i) x+dn p x
 has:(∀ x,gsum st'.has x=gsum st.has x)∨∃ p m,J56 E N 1100000 p∧p.head?=some (m,-1)∧0<gsum st.has m∧∀ x,gsum st'.has x=gsum st.has x+dn p x
 one:st'.works+st'.nts=st.works+st.nts+1
theorem Jpl {E:List Ed} {N:Int} {W:Nat} {n0 s0:Int} {st:St} (h:Know E N W n0 s0 st) (hr:Reach W N st) {i:Nat} (hi:i<W) (x:Mk):-1000≤getL (st.ledOf i) x∧getL (st.ledOf i) x≤1000:=by
 have h1:=h.acc i hi x
 have h2:=Jew hr.inv.has.pos x
 have h3:=Jmk (r:=st.notes.getD i []) (fun q hq p hp=>(h.noteU _ (J0i (by rw [hr.inv.nlen.1];exact hi) []) q hq p hp).one) x
 have h4:=hr.phi
 have h5:=hr.psi i hi
 unfold phi at h4
 unfold psi at h5
 omega
theorem Jor {st:St} {W:Nat} {N:Int} (hr:Reach W N st) {i k:Nat} {note:Note} {q:List Note} (hi:i<W) (hk:k<W) (hq:st.queue i k=note::q):note.length≤616:=by
 have h5:=hr.psi i hi
 have h1:=J4b (fun q:List Note=>(q.map List.length).sum) [] (st.notes.getD i []) k (by rw [hr.inv.nlen.2 _ (J0i (by rw [hr.inv.nlen.1];exact hi) [])];exact hk)
 have e:(st.notes.getD i []).getD k []=note::q:=hq
 rw [e] at h1
 simp only [List.map_cons,List.sum_cons] at h1
 unfold psi J7r at h5
 omega
theorem Jlw {E:List Ed} {N:Int} {W:Nat} {n0 s0:Int} {st:St} (hE:EdIn N E) (hW4:W≤4) (h:Know E N W n0 s0 st) (hr:Reach W N st) (hs0:s0≤300) {i:Nat} {m:Mk} (hi:i<W) (hm:∃ v,(m,v) ∈ st.hasOf i) (hph:phi (J33 E W st i m)<phi st):Know E N W n0 s0 (J33 E W st i m)∧Jpe E N W st (J33 E W st i m):=by
 obtain ⟨v,hv⟩:=hm
 have hil:i<st.has.length:=by rw [hr.inv.has.len];exact hi
 have hmem:=J0i hil ([]:Led)
 have hle:=J1d hil
 have hp4:=hr.phi
 unfold phi at hp4
 have hst:=h.steps
 obtain ⟨hp1,hp2,hp3⟩:=h.pos
 have hsent:=h.sent
 have hP:Pos (st.has.getD i []):=hr.inv.has.pos _ hmem
 have hv:(m,v) ∈ st.has.getD i []:=hv
 obtain ⟨g1,g2⟩:=hP.enterN hv (by omega)
 have hms:=J51 (J0j (st.has.getD i []) m (-1)) hil
 have hgm:getL (st.has.getD i []) m=v:=J2e hP.nodup hv
 have hv1:=hP.pos _ hv
 have hbd:=J8b hP m
 have hmk:MkIn N (cB st.script) m:=h.hasT _ hmem _ hv
 have hGm:0<gsum st.has m:=by
  have:=Jn9 hr.inv.has.pos (x:=m) hmem
  omega
 have hh0:J2g W N (st.has.set i (J0j (st.has.getD i []) m (-1))):=hr.inv.has.set i g1 (fun x hx=>by
  rcases J1j hx with hx | hx
  ·rw [hx];exact hmk.1
  exact hr.inv.has.node _ hmem x hx)
 have hw:w64 (getL (st.has.getD i []) m+-1)=getL (st.has.getD i []) m+-1:=J25 (by omega) (by omega)
 have hwk:WK E N m st.has (msgs (st.has.set i (J0j (st.has.getD i []) m (-1)))) st.sent st.script.length ⟨st.has.set i (J0j (st.has.getD i []) m (-1)),st.script,st.sent,[(m,-1)]⟩:=by
  refine ⟨fun x=>?_,⟨⟨m,[],rfl,hmk,fun e he=>by cases he⟩,rfl⟩,fun L hL x hx=>?_,by simp,Int.le_refl _,Int.le_refl _⟩
  ·have h1:=Jax (J0j (st.has.getD i []) m (-1)) x st.has i hil
   rw [J3b,hw] at h1
   by_cases hx:x=m
   ·subst hx
    rw [if_pos rfl] at h1
    simp only [dn,if_pos];omega
   rw [if_neg hx] at h1
   simp only [dn,if_neg (Ne.symm hx)];omega
  rcases List.mem_or_eq_of_mem_set hL with hL | rfl
  ·exact h.hasT L hL x hx
  rcases J1j hx with hx | hx
  ·rw [hx];exact hmk
  exact h.hasT _ hmem x hx
 have hk:=Jgn hE (W:=W) ⟨hp3,by omega⟩ (by omega) E _ (fun _ h=>h) hh0 hwk
 have eW:E.foldl (J20 W m) ⟨st.has.set i (J0j (st.has.getD i []) m (-1)),st.script,st.sent,[(m,-1)]⟩=J4w E W st i m:=rfl
 rw [eW] at hk
 have e1:(J33 E W st i m).has=(J4w E W st i m).has:=rfl
 have e2:(J33 E W st i m).script=(J4w E W st i m).script:=rfl
 have e3:(J33 E W st i m).sent=(J4w E W st i m).sent:=rfl
 have e4:(J33 E W st i m).led=st.led.set i (J2h (st.ledOf i) (J4w E W st i m).note):=rfl
 have e5:(J33 E W st i m).notes=(List.range W).foldl (J0y i (J4w E W st i m).note) st.notes:=rfl
 have e6:(J33 E W st i m).works=w64 (st.works+1):=rfl
 have e7:(J33 E W st i m).nts=st.nts:=rfl
 generalize J33 E W st i m=st' at *
 generalize J4w E W st i m=s at *
 have hws:st'.works=st.works+1:=by rw [e6];exact J25 (by omega) (by omega)
 have hsl:cB st.script≤cB s.script:=by
  have:=hk.snt
  unfold cB;omega
 have hnl:s.note.length≤1000:=by
  obtain ⟨⟨m1,rest,hn,_,hrest⟩,_⟩:=hk.note
  have hone:∀ (r:Note),(∀ e ∈ r,e.2=1)→True:=fun _ _=>trivial
  have hI:=(Jez (W:=W) (N:=N) (m:=m) E ⟨st.has.set i (J0j (st.has.getD i []) m (-1)),st.script,st.sent,[(m,-1)]⟩ hh0 (by simp only;omega) (fun e he=>(hE e he).2.1)).ent
  rw [show E.foldl (J20 W m) ⟨st.has.set i (J0j (st.has.getD i []) m (-1)),st.script,st.sent,[(m,-1)]⟩=s from eW] at hI
  simp only [Y10] at hI
  omega
 have hone:=hk.note.1.one
 have hread:=Jc8 s.note (st.ledOf i) 1000 (Jpl h hr hi) hone (by omega)
 have hpk:=J8o (P:=J56 E N (cB s.script)) (note:=s.note) hi hr.inv.nlen (fun r hr q hq p hp=>(h.noteU r hr q hq p hp).mono hsl) hk.note.1 W (Y0e _)
 rw [← e5] at hpk
 have hled:∀ j,j<W→st'.ledOf j=if j=i then J2h (st.ledOf i) s.note else st.ledOf j:=fun j _=>by
  simp only [St.ledOf] at *
  rw [e4]
  exact J8y hr.inv.llen hi _
 have htot:=hpk.tot
 rw [if_pos hi] at htot
 have hmade:=h.made
 have htold:=h.told
 have hmsg:=hk.msg
 have hsnt:=hk.snt
 refine ⟨⟨?_,?_,?_,fun j hj x=>?_,?_,?_,?_,?_,?_⟩,⟨fun j hj=>?_,.inr ⟨s.note,m,hk.note.1.mono (Jp7 _),hk.note.2,hGm,fun x=>by rw [e1];exact hk.acc x⟩,by rw [hws,e7];omega⟩⟩
 ·rw [e1,e2];exact hk.hasT
 ·rw [e2];exact hpk.mem
 ·rw [e2,e4]
  intro L hL e he
  rcases List.mem_or_eq_of_mem_set hL with hL | rfl
  ·exact ⟨(h.ledT L hL e he).1.mono hsl,(h.ledT L hL e he).2⟩
  have hmi:=J0i (l:=st.led) (i:=i) (by rw [hr.inv.llen];exact hi) []
  refine ⟨?_,Jhv _ (fun e he=>(h.ledT _ hmi e he).2) e he⟩
  rcases J6v _ _ he with ⟨y,hy,hk2⟩ | he
  ·rw [hk2];exact hk.note.1.mem y hy
  exact (h.ledT _ hmi e he).1.mono hsl
 ·have h1:=h.acc j hj x
  rw [hled j hj,hpk.row j x,e1,hk.acc x]
  by_cases hji:j=i
  ·subst hji
   rw [if_pos rfl,hread x,if_neg (by omega)];omega
  rw [if_neg hji,if_pos ⟨hj,hji⟩];omega
 ·rw [hws,e7,e3];omega
 ·rw [hws,e7];omega
 ·rw [e3,e2];omega
 ·rw [hws,e1,e3]
  omega
 ·rw [hws,e7]
  have:(st.works+1)*((W:Int) - 1)=st.works*((W:Int) - 1)+((W:Int) - 1):=by rw [Int.add_mul,Int.one_mul]
  rw [this,← htold]
  omega
 rw [hled j hj]
 by_cases hji:j=i
 ·subst hji
  rw [if_pos rfl]
  exact .inr ⟨s.note,hk.note.1.mono (Jp7 _),hread⟩
 rw [if_neg hji]
 exact .inl fun _=>rfl
theorem Jm3 {E:List Ed} {N:Int} {W:Nat} {n0 s0:Int} {st:St} (h:Know E N W n0 s0 st) (hr:Reach W N st) {i k:Nat} (hi:i<W) (hk:k<W) (hq:st.queue i k≠[]) (hph:phi (J9g st i k)<phi st):Know E N W n0 s0 (J9g st i k)∧Jpe E N W st (J9g st i k):=by
 obtain ⟨hp1,hp2,hp3⟩:=h.pos
 have hst:=h.steps
 have hp4:=hr.phi
 have htold:=h.told
 cases hqq:st.queue i k with
 | nil=>exact absurd hqq hq
 | cons note q=>?_
 have hq2:qOf st.notes i k=note::q:=hqq
 have hnu:∀ p ∈ note::q,J56 E N (cB st.script) p:=by
  rw [← hq2];exact J9k h.noteU
 have hn:=hnu note Y03
 have et:J9g st i k={ st with led:=st.led.set i (J2h (st.ledOf i) note),notes:=putQ st.notes i k q,nts:=w64 (st.nts+1) }:=by
  unfold J9g;rw [hqq];rfl
 rw [et] at hph ⊢
 have hws:w64 (st.nts+1)=st.nts+1:=J25 (by omega) (by omega)
 rw [hws] at hph ⊢
 have hread:=Jc8 note (st.ledOf i) 1000 (Jpl h hr hi) hn.one (by have:=Jor hr hi hk hqq;omega)
 have hled:∀ j,(st.led.set i (J2h (st.ledOf i) note)).getD j []=if j=i then J2h (st.ledOf i) note else st.ledOf j:=fun j=>J8y hr.inv.llen hi _
 refine ⟨⟨h.hasT,Jbu h.noteU (fun p hp=>hnu p (Y04 _ hp)) (by rw [hr.inv.nlen.1];exact hi),fun L hL e he=>?_,fun j hj x=>?_,⟨hp1,by simp only;omega,hp3⟩,by simp only;omega,h.sent,h.made,?_⟩,⟨fun j hj=>?_,.inl fun _=>rfl,by simp only;omega⟩⟩
 ·rcases List.mem_or_eq_of_mem_set hL with hL | rfl
  ·exact h.ledT L hL e he
  have hmi:=J0i (l:=st.led) (i:=i) (by rw [hr.inv.llen];exact hi) []
  refine ⟨?_,Jhv _ (fun e he=>(h.ledT _ hmi e he).2) e he⟩
  rcases J6v _ _ he with ⟨y,hy,hk2⟩ | he
  ·rw [hk2];exact hn.mem y hy
  exact (h.ledT _ hmi e he).1
 ·have h1:=h.acc j hj x
  show getL ((st.led.set i (J2h (st.ledOf i) note)).getD j []) x+rsum ((putQ st.notes i k q).getD j []) x=gsum st.has x
  rw [hled j]
  by_cases hji:j=i
  ·subst hji
   have h2:=Jg0 q hr.inv.nlen hi hk x
   rw [hq2] at h2
   simp only [dsum] at h2
   rw [if_pos rfl,hread x];omega
  rw [if_neg hji,J63 _ (Ne.symm hji)];exact h1
 ·have h1:=J7f q hr.inv.nlen hi hk
  rw [hq2,Y0z] at h1
  simp only;omega
 show (∀ x,getL ((st.led.set i (J2h (st.ledOf i) note)).getD j []) x=_)∨∃ p,_∧∀ x,getL ((st.led.set i (J2h (st.ledOf i) note)).getD j []) x=_
 rw [hled j]
 by_cases hji:j=i
 ·subst hji
  rw [if_pos rfl]
  exact .inr ⟨note,hn.mono (Jp7 _),hread⟩
 rw [if_neg hji]
 exact .inl fun _=>rfl
theorem Jm8 {E:List Ed} {N:Int} {W:Nat} {n0 s0:Int} {st st':St} (hE:EdIn N E) (hW:W≤4) (h:Know E N W n0 s0 st) (hr:Reach W N st) (hs0:s0≤300) (hs:J2j E W st=some st'):Know E N W n0 s0 st'∧Jpe E N W st st':=by
 have hto:∀ e ∈ E,0≤e.2.1∧e.2.1<N:=fun e he=>(hE e he).2.1
 unfold J2j at hs
 cases hm:J28 W st with
 | nil=>rw [hm] at hs;cases hs
 | cons a l=>?_
 rw [hm] at hs
 simp only [Option.some.injEq] at hs
 generalize hmv:(a::l).getD (numP st.script ((l.length:Int)+1)).toNat a=mv at *
 have hmem:mv ∈ J28 W st:=by rw [hm];exact J49 Y03 hmv
 have hok:=(J6w hmem).script st.script.tail
 have hct:=Jnj st.script
 have hph2:phi { st with script:=st.script.tail }≤phi st:=by simp only [phi,List.length_tail];omega
 have h2:Know E N W n0 s0 { st with script:=st.script.tail }:=⟨fun L hL e he=>(h.hasT L hL e he).mono hct,fun r hr q hq p hp=>(h.noteU r hr q hq p hp).mono hct,fun L hL e he=>⟨(h.ledT L hL e he).1.mono hct,(h.ledT L hL e he).2⟩,h.acc,h.pos,by have:=h.steps;simp only;omega,by have:=h.sent;simp only [List.length_tail];omega,h.made,h.told⟩
 have hr2:Reach W N { st with script:=st.script.tail }:=⟨⟨hr.inv.has,hr.inv.llen,hr.inv.nlen,hr.inv.ledN,hr.inv.noteN⟩,by have:=hr.phi;omega,fun i hi=>Nat.le_trans (by simp only [psi,List.length_tail,St.ledOf];omega) (hr.psi i hi)⟩
 have hmi:=(Jg7 (E:=E) hr2.inv hW hto (by have:=hr2.phi;omega) hok).phi
 have key:Know E N W n0 s0 (Jkv E W { st with script:=st.script.tail } mv)∧Jpe E N W { st with script:=st.script.tail } (Jkv E W { st with script:=st.script.tail } mv):=by
  cases mv with
  | take i k=>exact Jm3 h2 hr2 hok.1 hok.2.1 hok.2.2 hmi
  | work i m=>exact Jlw hE hW h2 hr2 hs0 hok.1 hok.2 hmi
 rw [hs] at key
 exact ⟨key.1,key.2.led,key.2.has,key.2.one⟩
theorem Jd8 {W:Nat} {N:Int} : ∀ (ms:List Msg) (L:Led) (has:List Led),J2g W N has→msgs has+ms.length≤1000→(∀ m ∈ ms,J1k N (J0v m)∧m.2.toNat<W)→(∀ x,getL L x=gsum has x) →
  ∀ x,getL (ms.foldl (fun L m=>J0j L (J0v m) 1) L) x=gsum (ms.foldl J2c has) x
 | [],_,_,_,_,_,h=>h
 | m::ms,L,has,hi,hc,hm,h=>by
  obtain ⟨hn,hw⟩:=hm m Y03
  have hl:m.2.toNat<has.length:=by rw [hi.len];exact hw
  have hle:=J1d hl
  rw [Y0z] at hc
  have hP:=hi.pos _ (J0i hl [])
  obtain ⟨g1,g2⟩:=hP.enter1 (J0v m) (by omega)
  have hms:=J51 (J0j (has.getD m.2.toNat []) (J0v m) 1) hl
  have h2:J2g W N (J2c has m):=hi.set _ g1 (fun e he=>by
   rcases J1j he with he | he
   ·rw [he];exact hn
   exact hi.node _ (J0i hl []) e he)
  have e2:msgs (J2c has m)=msgs has+1:=by unfold J2c;omega
  have hb:=J8b hP (J0v m)
  have hg:=Jew hi.pos (J0v m)
  refine Jd8 ms _ _ h2 (by omega) (fun x hx=>hm x (Y04 _ hx)) (fun x=>?_)
  have h3:=Jax (J0j (has.getD m.2.toNat []) (J0v m) 1) x has m.2.toNat hl
  have h4:=h x
  have h5:=h (J0v m)
  rw [J3b] at h3 ⊢
  show _=gsum (has.set _ _) x
  by_cases hx:x=J0v m
  ·subst hx
   rw [if_pos rfl,J25 (by omega) (by omega)] at h3 ⊢
   omega
  rw [if_neg hx] at h3 ⊢
  omega
theorem Joo {N Wd workers:Int} {m:Msg} (h:J3g N Wd workers m=true):TmIn 1048576 (J0v m).2:=by
 simp only [J3g,Y0x,Y0y] at h
 obtain ⟨_,_,h4,_⟩:=h
 unfold J42 at h4
 simp only [Bool.not_eq_true',List.any_eq_false] at h4
 have hk:∀ k,0≤m.1.2.getD k 0∧m.1.2.getD k 0≤1048576:=fun k=>by
  rw [Y01]
  cases hg:m.1.2[k]? with
  | none=>simp
  | some x=>?_
  have:=h4 x (List.mem_of_getElem? hg)
  simp only [outB,Bool.or_eq_true,Y0y,not_or] at this
  simp only [Option.getD_some];omega
 exact ⟨hk 0,hk 1,hk 2⟩
theorem J6n:∀ (ms:List Msg) (L:Led) {P:Mk→Prop},(∀ e ∈ L,P e.1∧e.2≠0)→(∀ m ∈ ms,P (J0v m))→∀ e ∈ ms.foldl (fun L m=>J0j L (J0v m) 1) L,P e.1∧e.2≠0
 | [],_,_,h,_=>h
 | m::ms,L,P,h,hm=>J6n ms _ (fun e he=>⟨by
   rcases J1j he with he | he
   ·rw [he];exact hm m Y03
   exact (h e he).1,Jjs _ _ (fun e he=>(h e he).2) e he⟩) (fun x hx=>hm x (Y04 _ hx))
theorem J6o:∀ (ms:List Msg) (has:List Led) {P:Mk→Prop},(∀ L ∈ has,∀ e ∈ L,P e.1)→(∀ m ∈ ms,P (J0v m))→∀ L ∈ ms.foldl J2c has,∀ e ∈ L,P e.1
 | [],_,_,h,_=>h
 | m::ms,has,P,h,hm=>J6o ms _ (fun L hL e he=>by
   unfold J2c at hL
   rcases List.mem_or_eq_of_mem_set hL with hL | rfl
   ·exact h L hL e he
   rcases J1j he with he | he
   ·rw [he];exact hm m Y03
   by_cases hi:m.2.toNat<has.length
   ·exact h _ (J0i hi []) e he
   rw [Y01,Y0w (by omega)] at he;cases he) (fun x hx=>hm x (Y04 _ hx))
theorem Joc (W:Nat) (x:Mk):rsum (List.replicate W []) x=0:=by
 induction W with
 | zero=>rfl
 | succ n ih=>rw [List.replicate_succ];simp only [rsum,dsum,ih];rfl
theorem Jow (W:Nat) (x:Mk):gsum (List.replicate W []) x=0:=by
 induction W with
 | zero=>rfl
 | succ n ih=>rw [List.replicate_succ];simp only [gsum,ih];rfl
theorem Jlq {p:Plan} {ways:Ways} {script:List Int} {W:Nat} (h:J0t p=some ways) (hs:script.length≤300) (hW:p.workers=W):Know p.E p.N W p.start.length script.length (J0s W p.start script):=by
 have hR:=J8d h hs hW
 obtain ⟨_,⟨h1,h4,h8⟩,hm⟩:=J5d h
 have hc:(1048576:Int)≤cB script:=by unfold cB;omega
 have hin:∀ m ∈ p.start,MkIn p.N (cB script) (J0v m):=fun m hx=>⟨J5f (hm m hx),(Joo (hm m hx)).mono hc⟩
 have h0:J2g W p.N (List.replicate W []):=⟨by simp,fun L hL=>by rw [List.eq_of_mem_replicate hL];exact ⟨List.nodup_nil,fun e he=>by cases he⟩,fun L hL=>by rw [List.eq_of_mem_replicate hL];exact fun e he=>by cases he⟩
 have hm0:msgs (List.replicate W ([]:Led))=0:=J46 _ _ (fun L hL=>by rw [List.eq_of_mem_replicate hL];rfl)
 have hb:=J6p p.start _ h0 (by omega) (fun m hx=>⟨J5f (hm m hx),by have:=J8v (hm m hx);omega⟩)
 have hq0:J5c (List.replicate W (List.replicate W []))=0:=J46 _ _ (fun r hr=>by rw [List.eq_of_mem_replicate hr];exact J46 _ _ (fun q hq=>by rw [List.eq_of_mem_replicate hq];rfl))
 refine ⟨?_,fun r hr q hq p hp=>?_,fun L hL=>?_,fun i hi x=>?_,⟨Int.le_refl _,Int.le_refl _,Int.le_refl _⟩,?_,?_,?_,?_⟩
 ·exact J6o _ _ (fun L hL e he=>by rw [List.eq_of_mem_replicate hL] at he;cases he) hin
 ·rw [List.eq_of_mem_replicate (show r ∈ List.replicate W (List.replicate W []) from hr)] at hq
  rw [List.eq_of_mem_replicate hq] at hp
  cases hp
 ·rw [List.eq_of_mem_replicate (show L ∈ List.replicate W (J17 p.start) from hL)]
  exact J6n _ _ (fun e he=>by cases he) hin
 ·have e1:(J0s W p.start script).ledOf i=J17 p.start:=by
   show (List.replicate W (J17 p.start)).getD i []=_
   rw [Y01,List.getElem?_replicate,if_pos hi];rfl
  have e2:(J0s W p.start script).notes.getD i []=List.replicate W []:=by
   show (List.replicate W (List.replicate W [])).getD i []=_
   rw [Y01,List.getElem?_replicate,if_pos hi];rfl
  rw [e1,e2,Joc,Int.add_zero]
  exact Jd8 _ _ _ h0 (by omega) (fun m hx=>⟨J5f (hm m hx),by have:=J8v (hm m hx);omega⟩) (fun x=>by rw [Jow];rfl) x
 ·have:=hR.phi
  show (0:Int)+0+_≤1232
  omega
 ·show (0:Int)+_≤_
  simp [J0s]
 ·show (0:Int)+_=_+0
  have:msgs (J0s W p.start script).has=0+p.start.length:=by rw [← hm0];exact hb.2
  omega
 show (0:Int)+(J5c (List.replicate W (List.replicate W [])):Nat)=0*_
 rw [hq0,Int.zero_mul];rfl
end Go.Proofs.YtbkfnmgkcgnifaaGreat.Mdl
namespace Go.Proofs.YtbkfnmgkcgnifaaGreat
open Go.RowKit Go.Shelf W1 W2 Mdl
namespace Mdl
def inL (B:Int) (l:List Int):Prop:=∀ x ∈ l,0≤x∧x≤B
theorem Jpk {B:Int} : ∀ {l:List Int},inL B l→0≤l.sum∧l.sum≤B*l.length
 | [],_=>by simp
 | x::l,h=>by
  have h1:=h x Y03
  have h2:=Jpk (l:=l) (fun y hy=>h y (Y04 _ hy))
  rw [List.sum_cons,Y0z]
  have:B*((l.length:Int)+1)=B*l.length+B:=by rw [Int.mul_add,Int.mul_one]
  refine ⟨by omega,?_⟩
  rw [show ((l.length+1:Nat):Int)=(l.length:Int)+1 by omega,this];omega
end Mdl
theorem Jpx (A:Option Addr) (c:Nat) (l:List Int) (w:World) (hl:kI.C w A l.length l) (hin:inL 1000000 l) (hn:l.length≤1000) :
  Calls Tryz.prog 95 #[.slice A l.length c] w fun e w'=>e=.returned (.int .i64 l.sum)∧w=w':=by
 have HIN:=Y08 hin
 have HL:=Y00 hl
 clear hin hl
 go_enter Tryz.func95,Tryz.ntmps95
 go_wp2_with fail
 go_loopw [3,4] (fun s i wr=>∃ k:Nat,s=.int .i64 (l.take k).sum∧i=.int .i64 k∧k≤l.length∧wr=w) (fun _ i _=>l.length - (intOf i).toNat)
 case atStart=>exact ⟨0,rfl,rfl,Nat.zero_le _,rfl⟩
 obtain ⟨k,rfl,rfl,hk,rfl⟩:=hrel
 by_cases hlt:k<l.length
 ·have hkE:(k:Int)<l.length:=by omega
  have hk0:(0:Int)≤k:=by omega
  obtain ⟨ad,rfl,c1⟩:=at_int HL.out hlt
  have hs:=Jpk (l:=l.take k) (B:=1000000) (fun x hx=>HIN.out x (List.mem_of_mem_take hx))
  rw [Y0o] at hs
  have hx:=HIN.out _ (Y0l hlt)
  have HS:=Y08 (show (l.take (k+1)).sum=(l.take k).sum+l[k] by rw [Y0u hlt,List.sum_append];simp)
  have hw:wrap64 ((l.take k).sum+l[k])=(l.take k).sum+l[k]:=by rw [J2u,J25 (by omega) (by omega)]
  generalize (l.take k).sum=s at *
  generalize l[k]=x at *
  clear hs hx
  go_wp2_with fail
  exact ⟨⟨k+1,by rw [HS.out,hw],by go_num,by omega,trivial⟩,by simp [intOf];omega⟩
 have hkE:¬ ((k:Int)<l.length):=by omega
 have HE:=Y08 (show (l.take k).sum=l.sum by rw [Y0t (by omega)])
 go_wp2_with fail
 go_ret
 exact ⟨by rw [← HE.out];rfl,rfl⟩
end Go.Proofs.YtbkfnmgkcgnifaaGreat
namespace Go.Proofs.YtbkfnmgkcgnifaaGreat.Mdl
def stAt (p:Plan) (script:List Int) (n:Nat):St:=J24 p.E p.workers.toNat n (J0s p.workers.toNat p.start script)
theorem J5i (E:List Ed) (W:Nat):∀ (n:Nat) (st:St),J24 E W (n+1) st=match J2j E W (J24 E W n st) with
  | none=>J24 E W n st
  | some st'=>st'
 | 0,st=>by
  show J24 E W 1 st=match J2j E W st with | none=>st | some st'=>st'
  unfold J24
  cases J2j E W st<;>rfl
 | n+1,st=>by
  conv=>lhs;unfold J24
  conv=>rhs;unfold J24
  cases hs:J2j E W st with
  | some st'=>exact J5i E W n st'
  | none=>simp only [hs]
structure Here (p:Plan) (script:List Int) (st:St):Prop where
 reach:Reach p.workers.toNat p.N st
 know:Know p.E p.N p.workers.toNat p.start.length script.length st
theorem Jj5 {L:Led} (hn:(L.map (·.1)).Nodup) {m:Mk} : m ∈ posL L↔0<getL L m:=by
 unfold posL
 constructor
 ·intro h
  obtain ⟨e,he,rfl⟩:=List.mem_map.1 h
  obtain ⟨h1,h2⟩:=List.mem_filter.1 he
  rw [J2e (v:=e.2) hn h1]
  simpa using h2
 intro h
 by_cases hk:∀ e ∈ L,e.1≠m
 ·rw [J3z hk] at h;omega
 obtain ⟨e,he⟩:=Classical.not_forall.1 hk
 obtain ⟨h1,h2⟩:=Classical.not_imp.1 he
 have h2:e.1=m:=Classical.byContradiction h2
 subst h2
 rw [J2e (v:=e.2) hn h1] at h
 exact List.mem_map.2 ⟨e,List.mem_filter.2 ⟨h1,by simpa using h⟩,rfl⟩
abbrev numF (wd:Nat) (f:List (List Tm)):List (List (List Int)):=f.map (List.map (J0g wd))
theorem Jmr (wd:Nat) (t:Tm) (k:Nat):(J0g wd t).getD k 0=if k<wd then [t.1,t.2.1,t.2.2].getD k 0 else 0:=by
 unfold J0g
 rw [Y01,List.getElem?_take]
 split<;>simp
theorem J7g (wd:Nat) (f:List (List Tm)) (k:Nat):(numF wd f).getD k []=(f.getD k []).map (J0g wd):=by
 rw [Y01,List.getElem?_map,Y01]
 cases f[k]?<;>rfl
structure AllM (P:Mk→Prop) (st:St):Prop where
 has:∀ L ∈ st.has,∀ e ∈ L,P e.1
 led:∀ L ∈ st.led,∀ e ∈ L,P e.1
 notes:∀ r ∈ st.notes,∀ q ∈ r,∀ p ∈ q,∀ e ∈ p,P e.1
theorem Jn3 {P:Mk→Prop} {L:Led} (h:∀ e ∈ L,P e.1) {note:Note} (hn:∀ e ∈ note,P e.1):∀ e ∈ J2h L note,P e.1:=fun e he=>by
 rcases J6v _ _ he with ⟨x,hx,hk⟩ | he
 ·rw [hk];exact hn x hx
 exact h e he
theorem J85 {P:Mk→Prop} {ls:List Led} (h:∀ L ∈ ls,∀ e ∈ L,P e.1) {i:Nat} {L:Led} (hL:∀ e ∈ L,P e.1):∀ M ∈ ls.set i L,∀ e ∈ M,P e.1:=fun M hM=>by
 rcases List.mem_or_eq_of_mem_set hM with hM | rfl
 ·exact h M hM
 exact hL
theorem Jc7 {P:Mk→Prop} {ls:List Led} (h:∀ L ∈ ls,∀ e ∈ L,P e.1) (i:Nat):∀ e ∈ ls.getD i [],P e.1:=by
 by_cases hi:i<ls.length
 ·exact h _ (J0i hi [])
 rw [Y01,Y0w (by omega)]
 intro e he;cases he
theorem J5p {P:Mk→Prop} {L:Led} (h:∀ e ∈ L,P e.1) {m:Mk} (hm:P m) (n:Int):∀ e ∈ J0j L m n,P e.1:=fun e he=>by
 rcases J1j he with he | he
 ·rw [he];exact hm
 exact h e he
theorem Jay {P:Mk→Prop} {W:Nat} {m:Mk} (hm:P m):∀ (E:List Ed),(∀ m e,P m→e ∈ E→P (e.2.1,J0l m.2 (tmOf e.2.2)))→∀ s:WS,(∀ L ∈ s.has,∀ e ∈ L,P e.1)→(∀ e ∈ s.note,P e.1)→(∀ L ∈ (E.foldl (J20 W m) s).has,∀ e ∈ L,P e.1)∧∀ e ∈ (E.foldl (J20 W m) s).note,P e.1
 | [],_,s,h1,h2=>⟨h1,h2⟩
 | e::E,hE,s,h1,h2=>by
  refine Jay hm E (fun m x hp hx=>hE m x hp (Y04 _ hx)) (J20 W m s e) ?_ ?_
  ·unfold J20
   split
   ·split
    ·exact h1
    exact J85 h1 (J5p (Jc7 h1 _) (hE m e hm Y03) 1)
   exact h1
  unfold J20
  split
  ·split
   ·exact h2
   intro x hx
   rcases Y0m.1 hx with hx | hx
   ·exact h2 x hx
   rw [Y11.1 hx];exact hE m e hm Y03
  exact h2
theorem Jo6 {P:Mk→Prop} {E:List Ed} {W:Nat} {N:Int} {st st':St} (hE:∀ m e,P m→e ∈ E→P (e.2.1,J0l m.2 (tmOf e.2.2))) (hr:Reach W N st) (h:AllM P st) (hs:J2j E W st=some st'):AllM P st':=by
 unfold J2j at hs
 cases hm:J28 W st with
 | nil=>rw [hm] at hs;cases hs
 | cons a l=>?_
 rw [hm] at hs
 simp only [Option.some.injEq] at hs
 generalize hmv:(a::l).getD (numP st.script ((l.length:Int)+1)).toNat a=mv at *
 have hmem:mv ∈ J28 W st:=by rw [hm];exact J49 Y03 hmv
 have hok:=J6w hmem
 subst hs
 cases mv with
 | work i m =>
  obtain ⟨hi,v,hv⟩:=hok
  have hi:i<W:=hi
  have hPm:P m:=Jc7 h.has i _ hv
  obtain ⟨f1,f2⟩:=Jay (W:=W) hPm E hE ⟨st.has.set i (J0j (st.hasOf i) m (-1)),st.script.tail,st.sent,[(m,-1)]⟩ (J85 h.has (J5p (Jc7 h.has i) hPm (-1))) (fun e he=>by rw [Y11.1 he];exact hPm)
  have hp:=J8o (P:=fun p=>∀ e ∈ p,P e.1) (note:=(J4w E W { st with script:=st.script.tail } i m).note) hi hr.inv.nlen h.notes f2 W (Y0e _)
  exact ⟨f1,J85 h.led (Jn3 (Jc7 h.led i) f2),hp.mem⟩
 | take i k=>?_
 obtain ⟨hi,hk,hq⟩:=hok
 have hnil:st.notes.length=W:=hr.inv.nlen.1
 have hq2:=J9k (i:=i) (k:=k) h.notes
 have hhd:∀ e ∈ (st.queue i k).headD [],P e.1:=by
  cases hqq:st.queue i k with
  | cons n q=>exact hq2 n (by show n ∈ st.queue i k;rw [hqq];exact Y03)
  | nil=>intro e he;cases he
 exact ⟨h.has,J85 h.led (Jn3 (Jc7 h.led i) hhd),Jbu h.notes (fun p hp=>hq2 p (List.mem_of_mem_tail hp)) (by rw [hnil];exact hi)⟩
def ZW (wd:Nat) (t:Tm):Prop:=(wd≤2→t.2.2=0)∧(wd≤1→t.2.1=0)
theorem Jd6 {wd:Nat} {l:List Int} (h:l.length=wd):ZW wd (tmOf l):=by
 refine ⟨fun h2=>?_,fun h1=>?_⟩
 ·show l.getD 2 0=0
  rw [Y01,Y0w (by omega)];rfl
 show l.getD 1 0=0
 rw [Y01,Y0w (by omega)];rfl
theorem Jcs {wd:Nat} {a b:Tm} (ha:ZW wd a) (hb:ZW wd b):ZW wd (J0l a b):=by
 refine ⟨fun h=>?_,fun h=>?_⟩
 ·show w64 (a.2.2+b.2.2)=0
  rw [ha.1 h,hb.1 h];rfl
 show w64 (a.2.1+b.2.1)=0
 rw [ha.2 h,hb.2 h];rfl
theorem Jqd {wd:Nat} (hw:wd≤3) (hw1:1≤wd) {a:Tm} {l:List Int} (hl:l.length=wd) (hz:ZW wd a):leL (J0g wd a) l=leT a (tmOf l):=by
 have key:(leL (J0g wd a) l=true↔leT a (tmOf l)=true):=by
  rw [J9q]
  unfold leL leTo
  rw [List.all_eq_true,J0u a hw]
  have hg:∀ k,k<wd→(J0g wd a).getD k 0=[a.1,a.2.1,a.2.2].getD k 0:=fun k hk=>by rw [Jmr,if_pos hk]
  have hzl:=Jd6 hl
  constructor
  ·intro h
   have hk:∀ k,k<wd→[a.1,a.2.1,a.2.2].getD k 0≤l.getD k 0:=fun k hk=>by
    have:=h k (Y12.2 hk)
    rw [hg k hk] at this
    simpa using this
   refine ⟨hk 0 (by omega),?_,?_⟩
   ·by_cases h1:wd≤1
    ·rw [hz.2 h1,hzl.2 h1];exact Int.le_refl _
    exact hk 1 (by omega)
   by_cases h2:wd≤2
   ·rw [hz.1 h2,hzl.1 h2];exact Int.le_refl _
   exact hk 2 (by omega)
  intro h k hk
  have hk:=Y12.1 hk
  rw [hg k hk]
  match k,hk with
  | 0,_=>exact Y0r h.1
  | 1,_=>exact Y0r h.2.1
  | 2,_=>exact Y0r h.2.2
  | k+3,hk=>omega
 cases h1:leL (J0g wd a) l<;>cases h2:leT a (tmOf l)<;>simp_all
def J2z:List Int→List Int→Bool
 | a::l,b::m=>if a=b then J2z l m else decide (a<b)
 | _,_=>false
def insP (x:List Int):Bool→List (List Int)→List (List Int)
 | done,[]=>if done then [] else [x]
 | done,y::r=>if (!done&&J2z x y)=true then x::y::insP x true r else y::insP x (done || decide (x=y)) r
def J1r (l:List (List Int)):List (List Int):=l.foldl (fun out x=>insP x false out) []
def Ji2 (s:List (List Int)) (i:Nat):Bool:=(List.range s.length).all fun k=>k == i || !leL (s.getD k []) (s.getD i [])
def J76 (l:List (List Int)):List (List Int):=((List.range (J1r l).length).filter (Ji2 (J1r l))).map fun i=>(J1r l).getD i []
theorem J5j (x:List Int):∀ r:List (List Int),insP x true r=r
 | []=>rfl
 | y::r=>by simp [insP,J5j x r]
theorem Jj9 {wd:Nat} (hw:wd≤3) (hw1:1≤wd) {a b:Tm} (ha:ZW wd a) (hb:ZW wd b) (h:J0g wd a=J0g wd b):a=b:=by
 obtain ⟨a0,a1,a2⟩:=a
 obtain ⟨b0,b1,b2⟩:=b
 unfold ZW at ha hb
 obtain rfl | rfl | rfl:wd=1∨wd=2∨wd=3:=by omega
 ·simp [J0g] at h ha hb;simp [h,ha,hb]
 ·simp [J0g] at h ha hb;simp [h,ha,hb]
 simp [J0g] at h;simp [h]
theorem Jq8 {wd:Nat} (hw:wd≤3) (hw1:1≤wd) {a b:Tm} (ha:ZW wd a) (hb:ZW wd b):decide (J0g wd a=J0g wd b)=decide (a=b) :=
 decide_eq_decide.2 ⟨Jj9 hw hw1 ha hb,fun h=>by rw [h]⟩
theorem J9t {wd:Nat} (hw:wd≤3) (hw1:1≤wd) {a b:Tm} (ha:ZW wd a) (hb:ZW wd b):J2z (J0g wd a) (J0g wd b)=true↔cmpT a b<0:=by
 have h1:cmpT a b<0↔¬ cmpT b a≤0:=by rw [J32];omega
 rw [h1,Jcj]
 obtain ⟨a0,a1,a2⟩:=a
 obtain ⟨b0,b1,b2⟩:=b
 unfold ZW at ha hb
 obtain rfl | rfl | rfl:wd=1∨wd=2∨wd=3:=by omega
 all_goals
  simp [J0g,J2z] at ha hb ⊢
  (repeat' split)<;>(try simp)<;>omega
theorem Jq7 {wd:Nat} (hw:wd≤3) (hw1:1≤wd) {a b:Tm} (ha:ZW wd a) (hb:ZW wd b):leL (J0g wd a) (J0g wd b)=leT a b:=by
 rw [Jqd hw hw1 (J0u b hw) ha]
 congr 1
 obtain ⟨b0,b1,b2⟩:=b
 unfold ZW at hb
 obtain rfl | rfl | rfl:wd=1∨wd=2∨wd=3:=by omega
 all_goals simp [J0g,tmOf] at hb ⊢;try simp [hb]
theorem Jgf {wd:Nat} (hw:wd≤3) (hw1:1≤wd) {x:Tm} (hx:ZW wd x):∀ (o:List Tm),J54 o→(∀ y ∈ o,ZW wd y)→∃ o',insP (J0g wd x) false (o.map (J0g wd))=o'.map (J0g wd)∧J54 o'∧∀ z,z ∈ o'↔z=x∨z ∈ o
 | [],_,_=>⟨[x],by simp [insP],List.pairwise_singleton _ _,fun z=>by simp⟩
 | y::r,hs,hz=>by
  have hp:=List.pairwise_cons.1 hs
  have hy:=hz y Y03
  by_cases hf:cmpT x y<0
  ·refine ⟨x::y::r,?_,List.pairwise_cons.2 ⟨fun z hz=>?_,hs⟩,fun z=>by simp⟩
   ·simp only [List.map_cons,insP,Bool.not_false,Bool.true_and]
    rw [if_pos ((J9t hw hw1 hx hy).2 hf),J5j]
   rcases List.mem_cons.1 hz with hz | hz
   ·rw [hz];exact hf
   have:=hp.1 z hz
   exact J5q (Int.le_of_lt hf) this
  have hff:¬ J2z (J0g wd x) (J0g wd y)=true:=fun h=>hf ((J9t hw hw1 hx hy).1 h)
  by_cases he:x=y
  ·subst he
   refine ⟨x::r,?_,hs,fun z=>by simp⟩
   simp only [List.map_cons,insP,Bool.not_false,Bool.true_and]
   rw [if_neg hff]
   simp [J5j]
  obtain ⟨o',h1,h2,h3⟩:=Jgf hw hw1 hx r hp.2 (fun z h=>hz z (Y04 _ h))
  refine ⟨y::o',?_,List.pairwise_cons.2 ⟨fun z hz=>?_,h2⟩,fun z=>?_⟩
  ·simp only [List.map_cons,insP,Bool.not_false,Bool.true_and]
   rw [if_neg hff,Jq8 hw hw1 hx hy,Y0s he,Bool.false_or,h1]
  ·rcases (h3 z).1 hz with hz | hz
   ·subst hz
    have h1:¬ cmpT z y=0:=fun h=>he (J2o.1 h)
    have h2:=J32 z y
    omega
   exact hp.1 z hz
  rw [List.mem_cons,h3,List.mem_cons]
  constructor
  ·rintro (h | h | h)
   ·exact .inr (.inl h)
   ·exact .inl h
   exact .inr (.inr h)
  rintro (h | h | h)
  ·exact .inr (.inl h)
  ·exact .inl h
  exact .inr (.inr h)
theorem Jbg {wd:Nat} (hw:wd≤3) (hw1:1≤wd):∀ (l o:List Tm),(∀ x ∈ l,ZW wd x)→J54 o→(∀ y ∈ o,ZW wd y)→∃ o',(l.map (J0g wd)).foldl (fun out x=>insP x false out) (o.map (J0g wd))=o'.map (J0g wd)∧J54 o'∧∀ z,z ∈ o'↔z ∈ l∨z ∈ o
 | [],o,_,hs,_=>⟨o,rfl,hs,fun z=>by simp⟩
 | x::l,o,hl,hs,ho=>by
  obtain ⟨o1,h1,h2,h3⟩:=Jgf hw hw1 (hl x Y03) o hs ho
  obtain ⟨o2,g1,g2,g3⟩:=Jbg hw hw1 l o1 (fun z h=>hl z (Y04 _ h)) h2 (fun y hy=>by
   rcases (h3 y).1 hy with h | h
   ·rw [h];exact hl x Y03
   exact ho y h)
  refine ⟨o2,?_,g2,fun z=>?_⟩
  ·rw [List.map_cons,List.foldl_cons,h1,g1]
  rw [g3,h3,List.mem_cons]
  constructor
  ·rintro (h | h | h)
   ·exact .inl (.inr h)
   ·exact .inl (.inl h)
   exact .inr h
  rintro ((h | h) | h)
  ·exact .inr (.inl h)
  ·exact .inl h
  exact .inr (.inr h)
theorem Jke {wd:Nat} (hw:wd≤3) (hw1:1≤wd) {l:List Tm} (hl:∀ x ∈ l,ZW wd x):J1r (l.map (J0g wd))=(J1c (J2w l)).map (J0g wd):=by
 obtain ⟨o,h1,h2,h3⟩:=Jbg hw hw1 l [] hl List.Pairwise.nil (by simp)
 unfold J1r
 rw [show ([]:List (List Int))=([]:List Tm).map (J0g wd) from rfl,h1]
 congr 1
 exact J3h h2 (J3r l).1 (fun x=>by rw [h3,(J3r l).2];simp)
def minT (s:List Tm) (i:Nat):Bool:=(List.range s.length).all fun k=>k == i || !leT (s.getD k (0,0,0)) (s.getD i (0,0,0))
theorem Jex {α β:Type} (f:α→β) (l:List α) {i:Nat} (h:i<l.length) (d:α) (e:β):(l.map f).getD i e=f (l.getD i d):=by
 rw [Y01,List.getElem?_map,Y05 h,Y01,Y05 h];rfl
theorem Jey {α:Type} {l:List α} {i:Nat} (h:i<l.length) (d:α):l.getD i d ∈ l:=by
 rw [Y01,Y05 h];exact Y0l h
theorem Jbc {s:List Tm} (hs:J54 s) {i j:Nat} (hj:j<s.length) (hij:i<j):cmpT (s.getD i (0,0,0)) (s.getD j (0,0,0))<0:=by
 have:=List.pairwise_iff_getElem.1 hs i j (by omega) hj hij
 rwa [Y01,Y05 (by omega),Y01,Y05 hj]
theorem Jkb {s:List Tm} (hs:J54 s) {i j:Nat} (hi:i<s.length) (hj:j<s.length) (h:s.getD i (0,0,0)=s.getD j (0,0,0)):i=j:=by
 rcases Nat.lt_trichotomy i j with hij | hij | hij
 ·have:=Jbc hs hj hij
  rw [h,J2o.2 rfl] at this;omega
 ·exact hij
 have:=Jbc hs hi hij
 rw [h,J2o.2 rfl] at this;omega
theorem Jgz {wd:Nat} (hw:wd≤3) (hw1:1≤wd) {l:List Tm} (hl:∀ x ∈ l,ZW wd x):J76 (l.map (J0g wd))=(J0p l).map (J0g wd):=by
 obtain ⟨hs,hm⟩:=J3r l
 have hz:∀ x ∈ J1c (J2w l),ZW wd x:=fun x hx=>hl x ((hm x).1 hx)
 unfold J76
 rw [Jke hw hw1 hl,Y0g]
 have hk:∀ i,i<(J1c (J2w l)).length→Ji2 ((J1c (J2w l)).map (J0g wd)) i=minT (J1c (J2w l)) i:=fun i hi=>by
  unfold Ji2 minT
  rw [Y0g]
  rw [Bool.eq_iff_iff,List.all_eq_true,List.all_eq_true]
  refine forall_congr' fun k=>forall_congr' fun hk=>?_
  have hk:=Y12.1 hk
  rw [Jex _ _ hk (0,0,0),Jex _ _ hi (0,0,0),Jq7 hw hw1 (hz _ (Jey hk _)) (hz _ (Jey hi _))]
 rw [List.filter_congr (fun i hi=>hk i (Y12.1 hi))]
 have he:(List.map (fun i=>((J1c (J2w l)).map (J0g wd)).getD i []) ((List.range (J1c (J2w l)).length).filter (minT (J1c (J2w l)))))=(((List.range (J1c (J2w l)).length).filter (minT (J1c (J2w l)))).map (fun i=>(J1c (J2w l)).getD i (0,0,0))).map (J0g wd):=by
  rw [List.map_map]
  refine List.map_congr_left (fun i hi=>?_)
  exact Jex _ _ (Y12.1 (List.mem_filter.1 hi).1) (0,0,0) []
 rw [he]
 congr 1
 refine J3h ?_ (J52 l).2 (fun x=>?_)
 ·refine List.pairwise_map.2 ?_
  refine List.Pairwise.imp_of_mem (R:=(·<·)) (fun {i j} hi hj hij=>?_) (List.Pairwise.filter _ List.pairwise_lt_range)
  exact Jbc hs (Y12.1 (List.mem_filter.1 hj).1) hij
 constructor
 ·intro hx
  obtain ⟨i,hi,rfl⟩:=List.mem_map.1 hx
  obtain ⟨hi,hmi⟩:=List.mem_filter.1 hi
  have hi:=Y12.1 hi
  obtain ⟨y,hy,hle⟩:=J40 ((hm _).1 (Jey hi (0,0,0)))
  obtain ⟨k,hk,hky⟩:=List.getElem_of_mem ((hm y).2 (J5n hy))
  have h1:=List.all_eq_true.1 hmi k (Y12.2 hk)
  rw [show (J1c (J2w l)).getD k (0,0,0)=y by rw [Y01,Y05 hk];exact hky,J9q.2 hle] at h1
  have:k=i:=by simpa using h1
  subst this
  rw [Y01,Y05 hk]
  exact hky ▸ hy
 intro hx
 obtain ⟨i,hi,hix⟩:=List.getElem_of_mem ((hm x).2 (J5n hx))
 refine List.mem_map.2 ⟨i,List.mem_filter.2 ⟨Y12.2 hi,?_⟩,by rw [Y01,Y05 hi];exact hix⟩
 refine List.all_eq_true.2 (fun k hk=>?_)
 have hk:=Y12.1 hk
 rw [show (J1c (J2w l)).getD i (0,0,0)=x by rw [Y01,Y05 hi];exact hix]
 by_cases hki:k=i
 ·simp [hki]
 cases hle:leT ((J1c (J2w l)).getD k (0,0,0)) x with
 | false=>simp
 | true=>?_
 obtain ⟨y,hy,h2⟩:=J40 ((hm _).1 (Jey hk (0,0,0)))
 have h3:=Jgp hy hx (h2.trans (J9q.1 hle))
 subst h3
 have h4:=LeT.anti h2 (J9q.1 hle)
 exact absurd (Jkb hs hk hi (by rw [← h4,Y01,Y05 hi];exact hix.symm)) hki
def colS (N f t:Nat) (way:List Bool) (k:Nat):List Bool:=way.set (k*N+t) (way.getD (k*N+t) false || way.getD (k*N+f) false)
def wayS (N:Nat) (way:List Bool) (e:Ed):List Bool :=
 if 0<e.2.2.sum then way else (List.range N).foldl (colS N e.1.toNat e.2.1.toNat) (way.set (e.1.toNat*N+e.2.1.toNat) true)
def wayR (N:Nat) (E:List Ed):Nat→List Bool
 | 0=>List.replicate (N*N) false
 | n+1=>E.foldl (wayS N) (wayR N E n)
def J98 (N:Nat) (E:List Ed):Bool:=(List.range N).any fun n=>(wayR N E N).getD (n*N+n) false
theorem Jjj {N a b:Nat} (ha:a<N) (hb:b<N):a*N+b<N*N:=by
 have:(a+1)*N≤N*N:=Nat.mul_le_mul_right N ha
 rw [Nat.succ_mul] at this;omega
theorem Jeu {N a b c d:Nat} (hb:b<N) (hd:d<N) (h:a*N+b=c*N+d):a=c∧b=d:=by
 have h1:(a*N+b) / N=a:=by rw [Nat.mul_comm,Nat.mul_add_div (by omega),Nat.div_eq_of_lt hb,Nat.add_zero]
 have h2:(c*N+d) / N=c:=by rw [Nat.mul_comm,Nat.mul_add_div (by omega),Nat.div_eq_of_lt hd,Nat.add_zero]
 have hac:a=c:=by rw [← h1,h,h2]
 subst hac
 exact ⟨rfl,by omega⟩
theorem J3c {α:Type} (l:List α) {i:Nat} (j:Nat) (x d:α) (h:i<l.length):(l.set i x).getD j d=if i=j then x else l.getD j d:=by
 split
 ·rename_i hij;subst hij;exact J0o l i x d h
 rename_i hij;exact getD_set_ne l x d hij
theorem Jjv {N f t:Nat} (hf:f<N) (ht:t<N) (way:List Bool) (hl:way.length=N*N):∀ n,n≤N→((List.range n).foldl (colS N f t) way).length=N*N ∧
  ∀ a b,a<N→b<N→((List.range n).foldl (colS N f t) way).getD (a*N+b) false=if a<n∧b=t then (way.getD (a*N+t) false || way.getD (a*N+f) false) else way.getD (a*N+b) false
 | 0,_=>⟨hl,fun a b _ _=>by simp⟩
 | n+1,hn=>by
  obtain ⟨h1,h2⟩:=Jjv hf ht way hl n (by omega)
  rw [List.range_succ,List.foldl_append]
  simp only [List.foldl_cons,List.foldl_nil]
  generalize (List.range n).foldl (colS N f t) way=cur at h1 h2 ⊢
  refine ⟨by rw [colS,Y0q];exact h1,fun a b ha hb=>?_⟩
  rw [colS,J3c _ _ _ _ (by rw [h1];exact Jjj (by omega) ht),h2 n t (by omega) ht,h2 n f (by omega) hf,h2 a b ha hb]
  rw [if_neg (show ¬ (n<n∧t=t) by omega),if_neg (show ¬ (n<n∧f=t) by omega)]
  by_cases h:a=n∧b=t
  ·obtain ⟨rfl,rfl⟩:=h
   rw [if_pos rfl,if_pos ⟨by omega,rfl⟩]
  have hne:¬ n*N+t=a*N+b:=fun he=>h (by
   have:=Jeu ht hb he
   exact ⟨this.1.symm,this.2.symm⟩)
  rw [if_neg hne]
  by_cases h3:a<n∧b=t
  ·rw [if_pos h3,if_pos ⟨by omega,h3.2⟩]
  rw [if_neg h3,if_neg (fun h4=>by omega)]
theorem Jfg {N:Nat} {e:Ed} (hf:e.1.toNat<N) (ht:e.2.1.toNat<N) (hz:¬ 0<e.2.2.sum) {way:List Bool} (hl:way.length=N*N):(wayS N way e).length=N*N ∧
  ∀ a b,a<N→b<N→((wayS N way e).getD (a*N+b) false=true↔way.getD (a*N+b) false=true∨(b=e.2.1.toNat∧(a=e.1.toNat∨way.getD (a*N+e.1.toNat) false=true))):=by
 rw [wayS,if_neg hz]
 generalize e.1.toNat=f at *
 generalize e.2.1.toNat=t at *
 obtain ⟨h1,h2⟩:=Jjv hf ht (way.set (f*N+t) true) (by rw [Y0q];exact hl) N (Y0e _)
 refine ⟨h1,fun a b ha hb=>?_⟩
 have hin:=Jjj hf ht
 rw [h2 a b ha hb,J3c _ _ _ _ (by rw [hl];exact hin),J3c _ _ _ _ (by rw [hl];exact hin),J3c _ _ _ _ (by rw [hl];exact hin)]
 by_cases hbt:b=t
 ·subst hbt
  rw [if_pos ⟨ha,rfl⟩]
  by_cases haf:a=f
  ·subst haf;simp
  have hne:¬ f*N+b=a*N+b:=fun he=>haf (Jeu hb hb he).1.symm
  rw [if_neg hne]
  have hne2:¬ f*N+b=a*N+f:=fun he=>haf (Jeu hb hf he).1.symm
  rw [if_neg hne2]
  simp [haf]
 rw [if_neg (fun h=>hbt h.2)]
 have hne:¬ f*N+t=a*N+b:=fun he=>hbt (Jeu ht hb he).2.symm
 rw [if_neg hne]
 simp [hbt]
def ZWay (E:List Ed) (a b:Int) (P:List Ed):Prop:=P≠[]∧J4u E b a P∧∀ e ∈ P,¬ 0<e.2.2.sum
def J57 (N:Nat) (E:List Ed):Prop:=∀ e ∈ E,(0≤e.1∧e.1.toNat<N)∧(0≤e.2.1∧e.2.1.toNat<N)
theorem Je8 {N:Nat} {E:List Ed} (hE:J57 N E) {way:List Bool} (hl:way.length=N*N):∀ (F:List Ed) (cur:List Bool),(∀ e ∈ F,e ∈ E)→cur.length=N*N →
  (∀ a b,a<N→b<N→way.getD (a*N+b) false=true→cur.getD (a*N+b) false=true) →
  (∀ a b,a<N→b<N→cur.getD (a*N+b) false=true→∃ P,ZWay E a b P) →
  (F.foldl (wayS N) cur).length=N*N∧(∀ a b,a<N→b<N→way.getD (a*N+b) false=true→(F.foldl (wayS N) cur).getD (a*N+b) false=true) ∧
  (∀ a b,a<N→b<N→(F.foldl (wayS N) cur).getD (a*N+b) false=true→∃ P,ZWay E a b P) ∧
  ∀ e ∈ F,¬ 0<e.2.2.sum→∀ a,a<N→a=e.1.toNat∨way.getD (a*N+e.1.toNat) false=true→(F.foldl (wayS N) cur).getD (a*N+e.2.1.toNat) false=true
 | [],cur,_,hc,h1,h2=>⟨hc,h1,h2,fun e he=>by cases he⟩
 | e::F,cur,hF,hc,h1,h2=>by
  obtain ⟨⟨hf0,hf⟩,ht0,ht⟩:=hE e (hF e Y03)
  rw [List.foldl_cons]
  by_cases hz:0<e.2.2.sum
  ·rw [show wayS N cur e=cur by rw [wayS,if_pos hz]]
   obtain ⟨g1,g2,g3,g4⟩:=Je8 hE hl F cur (fun x hx=>hF x (Y04 _ hx)) hc h1 h2
   refine ⟨g1,g2,g3,fun x hx hxz a ha hor=>?_⟩
   rcases List.mem_cons.1 hx with hx | hx
   ·subst hx;exact absurd hz hxz
   exact g4 x hx hxz a ha hor
  obtain ⟨k1,k2⟩:=Jfg hf ht hz hc
  have hmono:∀ (G:List Ed) (c1:List Bool),(∀ x ∈ G,x ∈ E)→c1.length=N*N→∀ a b,a<N→b<N→c1.getD (a*N+b) false=true→(G.foldl (wayS N) c1).getD (a*N+b) false=true:=by
   intro G
   induction G with
   | nil=>intro c1 _ _ a b _ _ h;exact h
   | cons x G ih =>
    intro c1 hG hc1 a b ha hb h
    obtain ⟨⟨_,xf⟩,_,xt⟩:=hE x (hG x Y03)
    rw [List.foldl_cons]
    by_cases hxz:0<x.2.2.sum
    ·rw [show wayS N c1 x=c1 by rw [wayS,if_pos hxz]]
     exact ih c1 (fun y hy=>hG y (Y04 _ hy)) hc1 a b ha hb h
    obtain ⟨m1,m2⟩:=Jfg xf xt hxz hc1
    exact ih _ (fun y hy=>hG y (Y04 _ hy)) m1 a b ha hb ((m2 a b ha hb).2 (.inl h))
  obtain ⟨g1,g2,g3,g4⟩:=Je8 hE hl F (wayS N cur e) (fun x hx=>hF x (Y04 _ hx)) k1
   (fun a b ha hb h=>(k2 a b ha hb).2 (.inl (h1 a b ha hb h)))
   (fun a b ha hb h=>by
    rcases (k2 a b ha hb).1 h with h | ⟨hbt,h⟩
    ·exact h2 a b ha hb h
    have hbE:e.2.1=(b:Int):=by omega
    rcases h with h | h
    ·exact ⟨[e],by simp,⟨hF e Y03,by omega,hbE⟩,fun x hx=>by rw [Y11.1 hx];exact hz⟩
    obtain ⟨P,p1,p2,p3⟩:=h2 a _ ha hf h
    rw [Y0k hf0] at p2
    refine ⟨P++[e],by simp,p2.append ⟨hF e Y03,rfl,hbE⟩,fun x hx=>?_⟩
    rcases Y0m.1 hx with hx | hx
    ·exact p3 x hx
    rw [Y11.1 hx];exact hz)
  refine ⟨g1,g2,g3,fun x hx hxz a ha hor=>?_⟩
  rcases List.mem_cons.1 hx with hx | hx
  ·subst hx
   exact hmono F _ (fun y hy=>hF y (Y04 _ hy)) k1 a _ ha ht ((k2 a _ ha ht).2 (.inr ⟨rfl,hor.imp id (h1 a _ ha hf)⟩))
  exact g4 x hx hxz a ha hor
theorem Jfh {N:Nat} {E:List Ed} (hE:J57 N E):∀ n,(wayR N E n).length=N*N∧(∀ a b,a<N→b<N→(wayR N E n).getD (a*N+b) false=true→∃ P,ZWay E a b P) ∧
  ∀ (P:List Ed) (a b:Nat),a<N→b<N→ZWay E a b P→P.length≤n→(wayR N E n).getD (a*N+b) false=true
 | 0=>by
  refine ⟨by simp [wayR],fun a b ha hb h=>?_,fun P a b _ _ h hl=>absurd (List.length_eq_zero_iff.1 (Nat.le_zero.1 hl)) h.1⟩
  rw [wayR,Y01,List.getElem?_replicate,if_pos (Jjj ha hb)] at h;cases h
 | n+1=>by
  obtain ⟨h1,h2,h3⟩:=Jfh hE n
  obtain ⟨g1,g2,g3,g4⟩:=Je8 hE h1 E _ (fun _ h=>h) h1 (fun _ _ _ _ h=>h) h2
  refine ⟨g1,g3,fun P a b ha hb hz hl=>?_⟩
  obtain ⟨X,e,rfl,hX,heE,heb⟩:=Jam hz.2.1 hz.1
  obtain ⟨⟨hf0,hf⟩,ht0,ht⟩:=hE e heE
  have hez:=hz.2.2 e (by simp)
  have hbt:b=e.2.1.toNat:=by omega
  subst hbt
  refine g4 e heE hez a ha ?_
  cases X with
  | nil =>
   have hX:(a:Int)=e.1:=hX
   left;omega
  | cons x X=>?_
  right
  refine h3 (x::X) a _ ha hf ⟨by simp,by rw [Y0k hf0];exact hX,fun y hy=>hz.2.2 y (List.mem_append_left _ hy)⟩ ?_
  rw [Y02] at hl;simp at hl ⊢;omega
theorem Jlt {l:List Int} (h:∀ x ∈ l,0≤x) (hs:¬ 0<l.sum):∀ x ∈ l,x=0:=by
 induction l with
 | nil=>intro x hx;cases hx
 | cons a l ih =>
  have h1:0≤l.sum:=by
   clear hs ih
   induction l with
   | nil=>simp
   | cons b l ih2 =>
    have:=ih2 (fun x hx=>h x (by
     rcases List.mem_cons.1 hx with hx | hx
     ·rw [hx];exact Y03
     exact Y04 _ (Y04 _ hx)))
    have:=h b (by simp)
    simp only [List.sum_cons];omega
  have h2:=h a Y03
  rw [List.sum_cons] at hs
  intro x hx
  rcases List.mem_cons.1 hx with hx | hx
  ·omega
  exact ih (fun y hy=>h y (Y04 _ hy)) (by omega) x hx
theorem J75 {N Wd:Int} {e:Ed} (h:J1l N Wd e=true):(e.2.2.length:Int)=Wd∧∀ x ∈ e.2.2,0≤x∧x≤100:=by
 simp only [J1l,Y0x,Y0y] at h
 obtain ⟨_,_,h3,h4⟩:=h
 refine ⟨h3,fun x hx=>?_⟩
 unfold J42 at h4
 simp only [Bool.not_eq_true',List.any_eq_false] at h4
 have:=h4 x hx
 simp only [outB,Bool.or_eq_true,Y0y,not_or] at this
 omega
theorem Jgw {N Wd:Int} {e:Ed} (h:J1l N Wd e=true) (hW:Wd≤3):¬ 0<e.2.2.sum↔tmOf e.2.2=(0,0,0):=by
 obtain ⟨h1,h2⟩:=J75 h
 constructor
 ·intro hs
  have hz:=Jlt (fun x hx=>(h2 x hx).1) hs
  have hk:∀ k,e.2.2.getD k 0=0:=fun k=>by
   rw [Y01]
   cases hg:e.2.2[k]? with
   | some x=>exact hz x (List.mem_of_getElem? hg)
   | none=>rfl
  unfold tmOf;rw [hk,hk,hk]
 intro ht
 have hall:∀ x ∈ e.2.2,x=0:=fun x hx=>by
  obtain ⟨k,hk,rfl⟩:=List.getElem_of_mem hx
  unfold tmOf at ht
  simp only [Prod.mk.injEq] at ht
  have hg:e.2.2.getD k 0=e.2.2[k]:=by rw [Y01,Y05 hk];rfl
  rw [← hg]
  obtain rfl | rfl | rfl:k=0∨k=1∨k=2:=by omega
  ·exact ht.1
  ·exact ht.2.1
  exact ht.2.2
 have:e.2.2.sum=0:=by
  generalize e.2.2=l at hall
  induction l with
  | nil=>rfl
  | cons a l ih=>rw [List.sum_cons,ih (fun x hx=>hall x (Y04 _ hx)),hall a Y03];rfl
 omega
theorem Jba {N Wd:Int} {E:List Ed} (hok:∀ e ∈ E,J1l N Wd e=true) (hW:Wd≤3):∀ {P:List Ed},(∀ e ∈ P,e ∈ E)→((∀ e ∈ P,¬ 0<e.2.2.sum)↔LeT (sumW P) (0,0,0))
 | [],_=>by simp [sumW,LeT]
 | e::P,h=>by
  have he:=hok e (h e Y03)
  have hE:=J3k hok hW
  have h1:=(hE e (h e Y03)).2.2
  have h2:=Jbb hE (P:=P) (fun x hx=>h x (Y04 _ hx))
  have ih:=Jba hok hW (P:=P) (fun x hx=>h x (Y04 _ hx))
  have hz:=Jgw he hW
  constructor
  ·intro ha
   have e1:=hz.1 (ha e Y03)
   have e2:=ih.1 (fun x hx=>ha x (Y04 _ hx))
   simp only [sumW];rw [e1,J6i];exact e2
  intro hs x hx
  have:tmOf e.2.2=(0,0,0)∧LeT (sumW P) (0,0,0):=by
   unfold TmIn at h1 h2
   simp only [sumW,LeT,addT] at hs ⊢
   refine ⟨?_,by omega⟩
   rw [Prod.ext_iff,Prod.ext_iff]
   simp only
   omega
  rcases List.mem_cons.1 hx with hx | hx
  ·rw [hx];exact hz.2 this.1
  exact ih.2 this.2 x hx
theorem J90 {start:Int} {n:Nat} {sum:Tm} {on1:List Bool} {rec} {C:Ed→Prop} {E:List Ed} (hC:∀ e ∈ E,∀ r,J3l start n sum on1 rec (some r) e=none↔C e) :
  ∀ (F:List Ed) (r:List (List Tm)),(∀ e ∈ F,e ∈ E)→(F.foldl (J3l start n sum on1 rec) (some r)=none↔∃ e ∈ F,C e)
 | [],r,_=>by simp
 | e::F,r,hF=>by
  rw [List.foldl_cons]
  have he:=hC e (hF e Y03) r
  cases hx:J3l start n sum on1 rec (some r) e with
  | none=>rw [J5l];exact ⟨fun _=>⟨e,Y03,he.1 hx⟩,fun _=>rfl⟩
  | some x=>?_
  rw [J90 hC F x (fun y hy=>hF y (Y04 _ hy))]
  have hn:¬ C e:=fun h=>by rw [he.2 h] at hx;cases hx
  constructor
  ·rintro ⟨y,hy,h⟩;exact ⟨y,Y04 _ hy,h⟩
  rintro ⟨y,hy,h⟩
  rcases List.mem_cons.1 hy with hy | hy
  ·subst hy;exact absurd h hn
  exact ⟨y,hy,h⟩
theorem Jfi {E:List Ed} {start:Int} (h0:0≤start) (hE:∀ e ∈ E,0≤e.2.1):∀ (f n:Nat) (sum:Tm) (rows:List (List Tm)) (on:List Bool),(on.set n true).getD start.toNat false=true →
  (J4e E start f n sum rows on=none↔∃ P,P.length<f∧∃ e ∈ E,J4u E e.1 n P∧Free on n P∧e.2.1=start∧J0l (sumS sum P) (tmOf e.2.2)=(0,0,0))
 | 0,n,sum,rows,on,_=>by
  simp only [J4e]
  exact ⟨fun h=>(nomatch h),fun ⟨P,hP,_⟩=>absurd hP (by omega)⟩
 | f+1,n,sum,rows,on,hst=>by
  simp only [J4e]
  rw [J90 (E:=E) (C:=fun e=>e.1=(n:Int)∧(((on.set n true).getD e.2.1.toNat false=true∧e.2.1=start∧J0l sum (tmOf e.2.2)=(0,0,0)) ∨
   ((on.set n true).getD e.2.1.toNat false=false∧∃ P,P.length<f∧∃ e' ∈ E,J4u E e'.1 e.2.1 P∧Free (on.set n true) e.2.1.toNat P∧e'.2.1=start∧J0l (sumS (J0l sum (tmOf e.2.2)) P) (tmOf e'.2.2)=(0,0,0)))) ?_ E _ (fun _ h=>h)]
  ·constructor
   ·rintro ⟨e,he,h1,h | ⟨h2,P,hP,e',he',g1,g2,g3,g4⟩⟩
    ·exact ⟨[],by simp,e,he,h1.symm,trivial,h.2.1,h.2.2⟩
    exact ⟨e::P,by simp;omega,e',he',⟨he,h1,g1⟩,⟨h2,g2⟩,g3,g4⟩
   rintro ⟨P,hP,e',he',g1,g2,g3,g4⟩
   cases P with
   | cons e P=>exact ⟨e,g1.1,g1.2.1,.inr ⟨g2.1,P,by simp at hP;omega,e',he',g1.2.2,g2.2,g3,g4⟩⟩
   | nil=>?_
   have g1:(n:Int)=e'.1:=g1
   exact ⟨e',he',g1.symm,.inl ⟨by rw [g3];exact hst,g3,g4⟩⟩
  intro e he r
  simp only [J3l,Option.bind_some]
  have hst':((on.set n true).set e.2.1.toNat true).getD start.toNat false=true:=by
   rcases J68 (on.set n true) e.2.1.toNat start.toNat true false with h | h
   ·exact h
   rw [h];exact hst
  have ih:=Jfi h0 hE f e.2.1.toNat (J0l sum (tmOf e.2.2)) r (on.set n true) hst'
  rw [Y0k (hE e he)] at ih
  by_cases h1:e.1=(n:Int)
  rotate_left
  ·rw [if_pos (.inl h1),if_neg (fun h=>h1 h.1)]
   exact ⟨fun h=>(nomatch h),fun h=>absurd h.1 h1⟩
  cases h2:(on.set n true).getD e.2.1.toNat false with
  | false =>
   rw [if_neg (by rintro (h | h);exact h h1;cases h),ih]
   constructor
   ·intro h;exact ⟨h1,.inr ⟨rfl,h⟩⟩
   rintro ⟨_,⟨h3,_⟩ | ⟨_,h3⟩⟩
   ·cases h3
   exact h3
  | true=>?_
  rw [if_pos (.inr rfl)]
  constructor
  ·intro h
   split at h
   ·rename_i hc;exact ⟨h1,.inl ⟨rfl,hc.2⟩⟩
   cases h
  rintro ⟨_,⟨_,h3⟩ | ⟨h3,_⟩⟩
  ·rw [if_pos ⟨h1,h3⟩]
  cases h3
theorem J8x {α β:Type} {f:α→Option β} : ∀ {l:List α},l.mapM f=none↔∃ x ∈ l,f x=none
 | []=>by simp
 | a::l=>by
  rw [List.mapM_cons]
  have ih:=J8x (f:=f) (l:=l)
  cases hx:f a with
  | none=>simp [hx]
  | some y=>?_
  cases hl:l.mapM f with
  | none =>
   obtain ⟨x,h1,h2⟩:=ih.1 hl
   exact ⟨fun _=>⟨x,Y04 _ h1,h2⟩,fun _=>rfl⟩
  | some ys=>?_
  constructor
  ·intro h;cases h
  rintro ⟨x,h1,h2⟩
  rcases List.mem_cons.1 h1 with h1 | h1
  ·subst h1;rw [hx] at h2;cases h2
  rw [ih.2 ⟨x,h1,h2⟩] at hl;cases hl
theorem Jie {N Wd:Int} {E:List Ed} (hh:J7x N Wd E.length) (hok:∀ e ∈ E,J1l N Wd e=true):J98 N.toNat E=true↔(List.range N.toNat).mapM (fromP E N.toNat)=none:=by
 obtain ⟨h1,h8,_,h3,h16⟩:=hh
 have hE:=J3k hok h3
 have hN:J57 N.toNat E:=fun e he=>by have:=hE e he;omega
 obtain ⟨w1,w2,w3⟩:=Jfh hN N.toNat
 rw [J8x]
 have hfrom:∀ a,a<N.toNat→(fromP E N.toNat a=none↔∃ P,P.length<N.toNat∧∃ e ∈ E,J4u E e.1 a P∧Free (List.replicate N.toNat false) a P∧e.2.1=(a:Int)∧J0l (sumS (0,0,0) P) (tmOf e.2.2)=(0,0,0)):=fun a ha=>by
  unfold fromP
  rw [Option.map_eq_none_iff]
  exact Jfi (by omega) (fun e he=>(hE e he).2.1.1) N.toNat a (0,0,0) _ _ (by rw [Y06];exact J0o _ _ _ _ (by simp [ha]))
 have hsum:∀ (P:List Ed),P.length<N.toNat→(∀ e ∈ P,e ∈ E)→∀ e ∈ E,J0l (sumS (0,0,0) P) (tmOf e.2.2)=addT (sumW P) (tmOf e.2.2):=fun P hP hin e he=>by
  have k1:=Jbb hE hin
  rw [Jeb hE (B:=0) hin (by simp [TmIn]) (by omega),J6i]
  exact (J8s (C:=100) k1 (hE e he).2.2 (by omega)).1
 constructor
 ·intro h
  obtain ⟨a,ha,hw⟩:=List.any_eq_true.1 h
  have ha:=Y12.1 ha
  obtain ⟨P,p1,p2,p3⟩:=w2 a a ha ha hw
  refine ⟨a,Y12.2 ha,(hfrom a ha).2 ?_⟩
  obtain ⟨X,e,rfl,hX,heE,hea⟩:=Jam p2 p1
  obtain ⟨Y,y1,y2,y3⟩:=J9e hE X a hX
  have hXz:LeT (sumW X) (0,0,0):=(Jba hok h3 (J3p hX)).1 (fun x hx=>p3 x (List.mem_append_left _ hx))
  have hYz:=y3.trans hXz
  have hin:∀ x ∈ (a:Int)::tgts Y,0≤x∧x<(N.toNat:Int):=fun x hx=>by
   rcases List.mem_cons.1 hx with hx | hx
   ·omega
   obtain ⟨e,he,rfl⟩:=List.mem_map.1 hx
   have:=(hE e (J3p y1 e he)).2.1
   omega
  have hlen:=J8u N.toNat _ y2 hin
  rw [Y0z,tgts,Y0g] at hlen
  have hfree:=Ji6 hE Y a (List.replicate N.toNat false) (by omega) y1 y2 (fun x hx=>by
   rw [Y01,List.getElem?_replicate];split<;>rfl)
  rw [Y06] at hfree
  refine ⟨Y,by omega,e,heE,y1,hfree,hea,?_⟩
  rw [hsum Y (by omega) (J3p y1) e heE,(Jgw (hok e heE) h3).1 (p3 e (by simp)),J7a]
  have h5:=Jbb hE (J3p y1)
  have h6:(sumW Y).1≤0∧(sumW Y).2.1≤0∧(sumW Y).2.2≤0:=hYz
  unfold TmIn at h5
  rw [Prod.ext_iff,Prod.ext_iff];simp only;omega
 rintro ⟨a,ha,hf⟩
 have ha:=Y12.1 ha
 obtain ⟨P,hP,e,he,g1,_,g3,g4⟩:=(hfrom a ha).1 hf
 rw [hsum P hP (J3p g1) e he] at g4
 refine List.any_eq_true.2 ⟨a,Y12.2 ha,w3 (P++[e]) a a ha ha ⟨by simp,g1.append ⟨he,rfl,g3⟩,?_⟩ (by simp;omega)⟩
 have hin:∀ x ∈ P++[e],x ∈ E:=fun x hx=>by
  rcases Y0m.1 hx with hx | hx
  ·exact J3p g1 x hx
  rw [Y11.1 hx];exact he
 refine (Jba hok h3 hin).2 ?_
 rw [J5z]
 simp only [sumW,J7a]
 rw [g4];exact LeT.refl _
def J3a (N Wd:Int) (E:List Ed):Bool:=decide (J7x N Wd E.length)&&(E.all (J1l N Wd)&&!J98 N.toNat E)
theorem Jdq {N Wd:Int} {E:List Ed} : openedP N Wd E=none↔J3a N Wd E=false:=by
 unfold openedP J3a
 by_cases hh:J7x N Wd E.length
 ·by_cases hok:E.all (J1l N Wd)=true
  ·rw [if_pos ⟨hh,hok⟩,Y0r hh,hok,← Jie hh (fun e he=>List.all_eq_true.1 hok e he)]
   simp
  rw [if_neg (fun h=>hok h.2)]
  simp [hok]
 rw [if_neg (fun h=>hh h.1),Y0s hh];simp
def J1b (rows:List (List Tm)) (e:Ed):List (List Tm):=rows.set e.2.1.toNat (J0p (rows.getD e.2.1.toNat []++(rows.getD e.1.toNat []).map (fun t=>addT t (tmOf e.2.2))))
def J3e (N:Nat) (E:List Ed) (a:Nat):Nat→List (List Tm)
 | 0=>(List.replicate N []).set a [(0,0,0)]
 | n+1=>E.foldl J1b (J3e N E a n)
structure J6h (N:Nat) (E:List Ed) (a S:Nat) (rows:List (List Tm)):Prop where
 len:rows.length=N
 sound:∀ b,b<N→∀ t ∈ rows.getD b [],∃ P,P.length≤S∧J4u E b a P∧sumW P=t
 apart:∀ b,b<N→Jls (rows.getD b [])∧J54 (rows.getD b [])
def Cov (N:Nat) (E:List Ed) (a n:Nat) (rows:List (List Tm)):Prop:=∀ (P:List Ed) (b:Nat),b<N→P.length≤n→J4u E b a P→∃ t ∈ rows.getD b [],LeT t (sumW P)
theorem J6h.step {N:Nat} {E:List Ed} (hE:J57 N E) {a S:Nat} {rows:List (List Tm)} (h:J6h N E a S rows) {e:Ed} (he:e ∈ E):J6h N E a (S+1) (J1b rows e)∧∀ b,b<N→∀ t ∈ rows.getD b [],∃ s ∈ (J1b rows e).getD b [],LeT s t:=by
 obtain ⟨⟨f0,hf⟩,t0,ht⟩:=hE e he
 have hget:∀ b,b<N→(J1b rows e).getD b []=if e.2.1.toNat=b then J0p (rows.getD e.2.1.toNat []++(rows.getD e.1.toNat []).map (fun t=>addT t (tmOf e.2.2))) else rows.getD b []:=fun b hb=>by
  unfold J1b
  rw [J3c _ _ _ _ (by rw [h.len];exact ht)]
 refine ⟨⟨by unfold J1b;rw [Y0q];exact h.len,fun b hb t hm=>?_,fun b hb=>?_⟩,fun b hb t hm=>?_⟩
 ·rw [hget b hb] at hm
  split at hm
  ·rename_i hbe
   rcases Y0m.1 (J5n hm) with hm | hm
   ·rw [hbe] at hm
    obtain ⟨P,h1,h2⟩:=h.sound b hb t hm
    exact ⟨P,by omega,h2⟩
   obtain ⟨s,hs,rfl⟩:=List.mem_map.1 hm
   obtain ⟨P,h1,h2,h3⟩:=h.sound _ hf s hs
   refine ⟨P++[e],by simp;omega,?_,by rw [J5z,h3];simp [sumW,J7a]⟩
   rw [Y0k f0] at h2
   exact h2.append ⟨he,rfl,show e.2.1=(b:Int) by omega⟩
  obtain ⟨P,h1,h2⟩:=h.sound b hb t hm
  exact ⟨P,by omega,h2⟩
 ·rw [hget b hb]
  split
  ·exact J52 _
  exact h.apart b hb
 rw [hget b hb]
 split
 ·rename_i hbe
  exact J40 (List.mem_append_left _ (by rw [hbe];exact hm))
 exact ⟨t,hm,LeT.refl _⟩
theorem Jin {N:Nat} {E:List Ed} (hE:J57 N E) {a:Nat} : ∀ (F:List Ed) (rows:List (List Tm)) (S:Nat),(∀ e ∈ F,e ∈ E)→J6h N E a S rows →
  J6h N E a (S+F.length) (F.foldl J1b rows)∧(∀ b,b<N→∀ t ∈ rows.getD b [],∃ s ∈ (F.foldl J1b rows).getD b [],LeT s t) ∧
  ∀ e ∈ F,∀ t ∈ rows.getD e.1.toNat [],∃ s ∈ (F.foldl J1b rows).getD e.2.1.toNat [],LeT s (addT t (tmOf e.2.2))
 | [],rows,S,_,h=>⟨h,fun b _ t ht=>⟨t,ht,LeT.refl _⟩,fun e he=>by cases he⟩
 | e::F,rows,S,hF,h=>by
  obtain ⟨h1,h2⟩:=h.step hE (hF e Y03)
  obtain ⟨g1,g2,g3⟩:=Jin hE F _ (S+1) (fun x hx=>hF x (Y04 _ hx)) h1
  rw [List.foldl_cons]
  refine ⟨by rw [show S+(e::F).length=S+1+F.length by simp;omega];exact g1,fun b hb t ht=>?_,fun x hx t ht=>?_⟩
  ·obtain ⟨s,hs,hl⟩:=h2 b hb t ht
   obtain ⟨u,hu,hl2⟩:=g2 b hb s hs
   exact ⟨u,hu,hl2.trans hl⟩
  rcases List.mem_cons.1 hx with hx | hx
  ·subst hx
   obtain ⟨⟨_,hf⟩,_,htn⟩:=hE x (hF x Y03)
   have hm:addT t (tmOf x.2.2) ∈ rows.getD x.2.1.toNat []++(rows.getD x.1.toNat []).map (fun t=>addT t (tmOf x.2.2)):=List.mem_append_right _ (List.mem_map.2 ⟨t,ht,rfl⟩)
   obtain ⟨s,hs,hl⟩:=J40 hm
   have hs':s ∈ (J1b rows x).getD x.2.1.toNat []:=by
    unfold J1b
    rw [J0o _ _ _ _ (by rw [h.len];exact htn)];exact hs
   obtain ⟨u,hu,hl2⟩:=g2 _ htn s hs'
   exact ⟨u,hu,hl2.trans hl⟩
  obtain ⟨⟨_,hf⟩,_,_⟩:=hE x (hF x (Y04 _ hx))
  obtain ⟨s,hs,hl⟩:=h2 _ hf t ht
  obtain ⟨u,hu,hl2⟩:=g3 x hx s hs
  exact ⟨u,hu,hl2.trans (by unfold LeT addT at *;simp only;omega)⟩
theorem J8h {N:Nat} {E:List Ed} (hE:J57 N E) {a:Nat} (ha:a<N):∀ n,J6h N E a (n*E.length) (J3e N E a n)∧Cov N E a n (J3e N E a n)
 | 0=>by
  have hg:∀ b,b<N→((List.replicate N ([]:List Tm)).set a [(0,0,0)]).getD b []=if a=b then [(0,0,0)] else []:=fun b hb=>by
   rw [J3c _ _ _ _ (by simpa using ha),Y01,List.getElem?_replicate,if_pos hb];rfl
  refine ⟨⟨by simp [J3e],fun b hb t ht=>?_,fun b hb=>?_⟩,fun P b hb hP hw=>?_⟩
  ·rw [J3e,hg b hb] at ht
   split at ht
   ·rename_i hab
    rw [Y11.1 ht]
    exact ⟨[],by simp,by show (a:Int)=b;omega,rfl⟩
   cases ht
  ·rw [J3e,hg b hb]
   split
   ·exact ⟨List.pairwise_singleton _ _,List.pairwise_singleton _ _⟩
   exact ⟨List.Pairwise.nil,List.Pairwise.nil⟩
  have:=List.length_eq_zero_iff.1 (Nat.le_zero.1 hP)
  subst this
  have hw:(a:Int)=b:=hw
  rw [J3e,hg b hb,if_pos (by omega)]
  exact ⟨_,Y11.2 rfl,LeT.refl _⟩
 | n+1=>by
  obtain ⟨h1,h2⟩:=J8h hE ha n
  obtain ⟨g1,g2,g3⟩:=Jin hE E _ _ (fun _ h=>h) h1
  refine ⟨by rw [Nat.succ_mul];exact g1,fun P b hb hP hw=>?_⟩
  by_cases hp:P=[]
  ·subst hp
   obtain ⟨t,ht,hl⟩:=h2 [] b hb (by simp) hw
   obtain ⟨s,hs,hl2⟩:=g2 b hb t ht
   exact ⟨s,hs,hl2.trans hl⟩
  obtain ⟨X,e,rfl,hX,he,heb⟩:=Jam hw hp
  obtain ⟨⟨f0,hf⟩,t0,htn⟩:=hE e he
  obtain ⟨t,ht,hl⟩:=h2 X e.1.toNat hf (by simp at hP;omega) (by rw [Y0k f0];exact hX)
  obtain ⟨s,hs,hl2⟩:=g3 e he t ht
  rw [show e.2.1.toNat=b by omega] at hs
  refine ⟨s,hs,hl2.trans ?_⟩
  rw [J5z]
  simp only [sumW,J7a]
  unfold LeT addT at *;simp only;omega
theorem Jo3 {N Wd:Int} {E:List Ed} {ways:Ways} (h:openedP N Wd E=some ways) {a b:Nat} (ha:a<N.toNat) (hb:b<N.toNat):(J3e N.toNat E a N.toNat).getD b []=J7p ways a b:=by
 obtain ⟨⟨g1,g8,_,g3,g16⟩,he,_⟩:=opened_ok h
 have hE:=J3k he g3
 have hN:J57 N.toNat E:=fun e he=>by have:=hE e he;omega
 obtain ⟨h1,h2⟩:=J8h hN ha N.toNat
 obtain ⟨l,w1,w2⟩:=Jpi h (a:=a) (b:=b) (by omega) (by omega)
 rw [Y06] at w1 w2
 have hap:=J52 l
 refine J3h (h1.apart b hb).2 (by rw [w1];exact hap.2) (fun t=>⟨fun ht=>?_,fun ht=>?_⟩)
 ·obtain ⟨P,p1,p2,p3⟩:=h1.sound b hb t ht
  obtain ⟨s,hs,hl⟩:=Jff h (a:=a) (b:=b) (by omega) (by omega) p2
  rw [Y06] at hs
  rw [w1] at hs
  obtain ⟨Q,q1,q2,_,q3⟩:=(w2 s).1 (J5n hs)
  obtain ⟨u,hu,hl2⟩:=h2 Q b hb (by omega) q2
  rw [p3] at hl
  rw [q3] at hl2
  have:=Jfc (h1.apart b hb).1 hu ht (hl2.trans hl)
  subst this
  rw [LeT.anti hl2 hl,w1];exact hs
 rw [w1] at ht
 obtain ⟨Q,q1,q2,_,q3⟩:=(w2 t).1 (J5n ht)
 obtain ⟨u,hu,hl2⟩:=h2 Q b hb (by omega) q2
 rw [q3] at hl2
 obtain ⟨P,p1,p2,p3⟩:=h1.sound b hb u hu
 obtain ⟨s,hs,hl⟩:=Jff h (a:=a) (b:=b) (by omega) (by omega) p2
 rw [Y06] at hs
 rw [w1] at hs
 rw [p3] at hl
 have:=Jgp hs ht (hl.trans hl2)
 subst this
 rw [LeT.anti hl hl2];exact hu
theorem Jnm {l:List Tm} (h:Jls l) (hin:∀ t ∈ l,TmIn 12800 t):l.length≤163865601:=by
 have hn:(l.map (fun t:Tm=>t.1*12801+t.2.1)).Nodup:=by
  refine List.pairwise_map.2 (List.Pairwise.imp_of_mem (fun {t u} ht hu hap=>?_) h)
  have h1:=hin t ht
  have h2:=hin u hu
  unfold TmIn at h1 h2
  unfold LeT at hap
  intro he
  have h3:t.1=u.1∧t.2.1=u.2.1:=by omega
  omega
 have:=J8u 163865601 _ hn (fun x hx=>by
  obtain ⟨t,ht,rfl⟩:=List.mem_map.1 hx
  have h1:=hin t ht
  unfold TmIn at h1
  omega)
 rwa [Y0g] at this
theorem Jpt {wd:Nat} {a b:Tm} (ha:ZW wd a) (hb:ZW wd b):ZW wd (addT a b) :=
 ⟨fun h=>by show a.2.2+b.2.2=0;rw [ha.1 h,hb.1 h];rfl,fun h=>by show a.2.1+b.2.1=0;rw [ha.2 h,hb.2 h];rfl⟩
theorem Jps {wd:Nat} {E:List Ed} (hE:∀ e ∈ E,e.2.2.length=wd):∀ {P:List Ed},(∀ e ∈ P,e ∈ E)→ZW wd (sumW P)
 | [],_=>⟨fun _=>rfl,fun _=>rfl⟩
 | e::P,h=>Jpt (Jd6 (hE e (h e Y03))) (Jps hE (P:=P) (fun x hx=>h x (Y04 _ hx)))
theorem J6h.facts {N:Nat} {Nd Wd:Int} {E:List Ed} {a S:Nat} {rows:List (List Tm)} (h:J6h N E a S rows) (hok:∀ e ∈ E,J1l Nd Wd e=true) (hW:Wd≤3) (hS:S≤128) {b:Nat} (hb:b<N) :
  (rows.getD b []).length≤163865601∧∀ t ∈ rows.getD b [],ZW Wd.toNat t∧TmIn 12800 t:=by
 have hall:∀ t ∈ rows.getD b [],ZW Wd.toNat t∧TmIn 12800 t:=fun t ht=>by
  obtain ⟨P,p1,p2,rfl⟩:=h.sound b hb t ht
  exact ⟨Jps (fun e he=>by have:=(J75 (hok e he)).1;omega) (J3p p2),(Jbb (J3k hok hW) (J3p p2)).mono (by omega)⟩
 exact ⟨Jnm (h.apart b hb).1 (fun t ht=>(hall t ht).2),hall⟩
theorem Jhy {wd:Nat} {l:List Int} (h:l.length=wd) (hw:wd≤3):J0g wd (tmOf l)=l:=by
 subst h
 match l,hw with
 | [],_=>rfl
 | [a],_=>rfl
 | [a,b],_=>rfl
 | [a,b,c],_=>rfl
 | _::_::_::_::_,h=>simp at h
end Go.Proofs.YtbkfnmgkcgnifaaGreat.Mdl
namespace Go.Proofs.YtbkfnmgkcgnifaaGreat
open Go.RowKit Go.Shelf W1 W2 Mdl
theorem Jqn {α:Type} {d:Kd α} {e base n c:Nat} {wd V:World} {A:Option Addr} {xs:List α} (h:d.R e wd base (fun _=>True) (.slice A n c) xs) (hb:Below wd.heap.size wd V):J19 (d.M V base (fun q=>q<wd.heap.size)) d.sz V A n xs:=by
 have h2:=Kd.c01 (Kd.c06 (Kd.c05 h) (fun k hk=>hk.2.2.1)) hb
 obtain ⟨A',c',he,hl,hr⟩:=J55.reads h2.2
 injection he with e1 e2 e3
 subst e1 e2
 exact hr.imp_ (Y0f _ _) (fun _ _ hp=>d.M_mono (fun k hk=>hk.1) hp)
theorem Jcu {α:Type} (d:Kd α) (e base:Nat) (W:World) (hb:base≤W.heap.size):d.R e (W.alloc (.cells #[] e)) base (fun _=>True) (.slice (some ⟨W.heap.size,0,none⟩) 0 0) [] :=
 Kd.c04 (base:=W.heap.size) ⟨fun _ _=>trivial,[],World.ownsRow_made W #[] 0 (Y0e _) (Nat.zero_le _) (Nat.zero_mul _).symm,Reps.none _ _⟩ hb
namespace Mdl
theorem Jgs:∀ {l m:List Int} {k:Nat} (hl:k<l.length) (hm:k<m.length),l.take k=m.take k→l[k]≠m[k]→J2z l m=decide (l[k]<m[k])
 | a::l,b::m,0,_,_,_,h=>by
  have h:a≠b:=h
  rw [J2z,if_neg h];rfl
 | a::l,b::m,k+1,hl,hm,h,hn=>by
  rw [List.take_succ_cons,List.take_succ_cons] at h
  injection h with h1 h2
  rw [J2z,if_pos h1]
  exact Jgs (by simpa using hl) (by simpa using hm) h2 (by simpa using hn)
theorem Jcb:∀ l:List Int,J2z l l=false
 | []=>rfl
 | a::l=>by rw [J2z,if_pos rfl];exact Jcb l
def J3y (n low high:Int):Bool:=decide (low≤n)&&decide (n≤high)
theorem J22 {n low high:Int} : J3y n low high=true↔low≤n∧n≤high:=by simp [J3y]
def J9o (l:List Int) (many most:Int):Bool:=decide ((l.length:Int)=many)&&l.all fun x=>J3y x 0 most
theorem Ja9 {l:List Int} {many most:Int} : J9o l many most=(decide ((l.length:Int)=many)&&J42 most l):=by
 unfold J9o J42
 congr 1
 rw [Bool.eq_iff_iff]
 simp only [List.all_eq_true,Bool.not_eq_true',List.any_eq_false,J22,outB,Bool.or_eq_true,Y0y,not_or,Int.not_lt]
end Mdl
theorem J14 (n low high:Int) (w:World):Calls Tryz.prog 12 #[.int .i64 n,.int .i64 low,.int .i64 high] w fun e w'=>e=.returned (.bool (J3y n low high))∧w=w':=by
 by_cases h1:low≤n
 ·by_cases h2:n≤high
  ·have HT:=Y08 (J22.2 ⟨h1,h2⟩)
   go_enter Tryz.func12,Tryz.ntmps12
   go_wp2
   go_ret
   exact ⟨by rw [HT.out];rfl,rfl⟩
  have HT:=Y08 (show J3y n low high=false by rw [← Bool.not_eq_true,J22];omega)
  have hd:decide (n≤high)=false:=Y0s h2
  go_enter Tryz.func12,Tryz.ntmps12
  go_wp2
  go_ret
  exact ⟨by rw [HT.out];rfl,rfl⟩
 have HT:=Y08 (show J3y n low high=false by rw [← Bool.not_eq_true,J22];omega)
 have hd:decide (low≤n)=false:=Y0s h1
 go_enter Tryz.func12,Tryz.ntmps12
 go_wp2
 go_ret
 exact ⟨by rw [HT.out];rfl,rfl⟩
theorem J3x (A:Option Addr) (cA:Nat) (l:List Int) (many most:Int) (w:World) (hl:kI.C w A l.length l) :
  Calls Tryz.prog 38 #[.slice A l.length cA,.int .i64 many,.int .i64 most] w fun e w'=>e=.returned (.bool (J9o l many most))∧w=w':=by
 have HL:=Y00 hl
 have hlm:=Kd.C_max hl
 clear hl
 go_enter Tryz.func38,Tryz.ntmps38
 go_wp2_with fail
 go_loopw [7,8] (fun s i wr=>∃ (k:Nat) (b:Bool),s=.bool b∧i=.int .i64 k∧k≤l.length∧w=wr∧J08 ((b=true→(l.length:Int)=many∧((l.take k).all fun x=>J3y x 0 most)=true)∧(b=false→J9o l many most=false))) (fun _ i _=>l.length - (intOf i).toNat)
 case atStart=>exact ⟨0,_,rfl,rfl,Nat.zero_le _,rfl,⟨fun h=>⟨by simpa using h,by simp⟩,fun h=>by unfold J9o;rw [show decide ((l.length:Int)=many)=false by simpa using h];rfl⟩⟩
 obtain ⟨k,b,rfl,rfl,hk,rfl,hX⟩:=hrel
 cases b with
 | false =>
  have HF:=Y08 (hX.out.2 rfl)
  go_wp2_with fail
  go_ret
  exact ⟨by rw [HF.out];rfl,rfl⟩
 | true=>?_
 have HT:=Y08 (hX.out.1 rfl)
 by_cases hlt:k<l.length
 ·have hkE:(k:Int)<l.length:=by omega
  have hk0:(0:Int)≤k:=by omega
  obtain ⟨ad,rfl,c1⟩:=at_int HL.out hlt
  have HG:=Y08 (show (J3y l[k] 0 most=true→((l.take (k+1)).all fun x=>J3y x 0 most)=true)∧(J3y l[k] 0 most=false→J9o l many most=false) from
   ⟨fun h=>by rw [Y0u hlt,List.all_append,HT.out.2];simp [h],fun h=>by
    unfold J9o
    rw [show (l.all fun x=>J3y x 0 most)=false from by
     rw [List.all_eq_false];exact ⟨_,Y0l hlt,by simp [h]⟩,Bool.and_false]⟩)
  have HM:=Y08 HT.out.1
  clear HT hX
  generalize l[k]=x at *
  go_wp2_with fail
  refine (J14 x 0 most _).mono ?_
  rintro e w' ⟨rfl,rfl⟩
  go_wp2_with fail
  exact ⟨⟨k+1,_,rfl,by go_num,by omega,trivial,⟨fun h=>⟨HM.out,HG.out.1 h⟩,fun h=>HG.out.2 h⟩⟩,by simp [intOf];omega⟩
 have hkE:¬ ((k:Int)<l.length):=by omega
 have HE:=Y08 (show J9o l many most=true by
  have h:=HT.out
  rw [Y0t (by omega)] at h
  unfold J9o;rw [Y0r h.1,h.2];rfl)
 go_wp2_with fail
 go_ret
 exact ⟨by rw [HE.out];rfl,rfl⟩
theorem Jgr (A B:Option Addr) (cA cB:Nat) (l m:List Int) (w:World) (hl:kI.C w A l.length l) (hm:kI.C w B m.length m) (hlen:l.length=m.length) :
  Calls Tryz.prog 112 #[.slice A l.length cA,.slice B m.length cB] w fun e w'=>e=.returned (.bool (J2z l m))∧Below w.heap.size w w':=by
 have HL:=Y00 hl
 have HM:=Y00 hm
 have hlm:=Kd.C_max hl
 have hmm:=Kd.C_max hm
 have HLEN:=Y08 hlen
 clear hl hm hlen
 go_enter Tryz.func112,Tryz.ntmps112
 go_wp2_with fail
 go_loopw [5] (fun i wr=>∃ k:Nat,i=.int .i64 k∧k≤l.length∧J08 (l.take k=m.take k∧Below w.heap.size w wr)) (fun i _=>l.length - (intOf i).toNat)
 case atStart=>exact ⟨0,rfl,Nat.zero_le _,⟨rfl,Y0f _ _⟩⟩
 obtain ⟨k,rfl,hk,hX⟩:=hrel
 by_cases hlt:k<l.length
 rotate_left
 ·have hkE:¬ ((k:Int)<l.length):=by omega
  have HE:=Y08 (show J2z l m=false by
   have h:=hX.out.1
   rw [Y0t (by omega),Y0t (by have:=HLEN.out;omega)] at h
   rw [h];exact Jcb m)
  go_wp2_with fail
  go_ret
  exact ⟨by rw [HE.out];rfl,hX.out.2⟩
 have hkm:k<m.length:=by have:=HLEN.out;omega
 have hkE:(k:Int)<l.length:=by omega
 have hkM:(k:Int)<m.length:=by omega
 have hk0:(0:Int)≤k:=by omega
 obtain ⟨ad,rfl,c1⟩:=at_int (Kd.c00 HL.out hX.out.2) hlt
 obtain ⟨ad2,rfl,c2⟩:=at_int (Kd.c00 HM.out hX.out.2) hkm
 have HG:=Y08 (show (l[k]=m[k]→l.take (k+1)=m.take (k+1))∧(l[k]≠m[k]→J2z l m=decide (l[k]<m[k])) from ⟨J59 hlt hkm hX.out.1,Jgs hlt hkm hX.out.1⟩)
 generalize l[k]=x at *
 generalize m[k]=y at *
 clear hkm
 go_upto_region 4 with fail
 refine sr1 9 (fun w'=>w'.cell? (ad.add k)=some (.int .i64 x)∧w'.cell? (ad2.add k)=some (.int .i64 y)) [] ⟨c1,c2⟩ fun hJ0=>?_
 have HD:=Y00 (J05 hX.out.2)
 have HDW:=Y00 (J05 (Y0f wr.heap.size wr))
 generalize wr.drew=wd at *
 refine pv 0 ?_
 refine pv 1 ?_
 refine pv 2 ?_
 refine tv2 3 ?_
 refine pv 4 ?_
 refine pv 5 ?_
 refine pv 6 ?_
 refine tv2 7 ?_
 by_cases hxy:x=y
 ·have hf:(x != y)=false:=by simpa using hxy
  have HXY:=Y08 hxy
  clear hxy
  refine pv 8 ?_
  refine dn0 ?_
  go_wp2_with fail
  exact ⟨⟨k+1,by go_num,by omega,⟨HG.out.1 HXY.out,HD.out⟩⟩,by simp [intOf];omega⟩
 skip
 have hf:(x != y)=true:=by simpa using hxy
 have HXY:=Y08 hxy
 clear hxy
 refine pv 8 ?_
 refine dn0 ?_
 go_upto_region 5 with fail
 refine sr1 10 (fun w'=>w'.cell? (ad.add k)=some (.int .i64 x)∧w'.cell? (ad2.add k)=some (.int .i64 y)) [] ⟨J00 HDW.out c1,J00 HDW.out c2⟩ fun hJ0=>?_
 have HD2:=Y00 (J05 HD.out)
 generalize wd.drew=we at *
 refine pv 0 ?_
 refine pv 1 ?_
 refine pv 2 ?_
 refine tv2 3 ?_
 refine pv 4 ?_
 refine pv 5 ?_
 refine pv 6 ?_
 refine tv2 7 ?_
 refine pv 8 ?_
 refine pv 9 ?_
 refine dn0 ?_
 go_wp2_with fail
 go_ret
 exact ⟨by rw [HG.out.2 HXY.out];rfl,HD2.out⟩
theorem Jh1 (A:Option Addr) (c:Nat) (l:List Int) (w:World) (hl:kI.C w A l.length l) (hn:l.length≤1000) :
  Calls Tryz.prog 113 #[.slice A l.length c] w fun e w'=>∃ v,e=.returned v∧kI.R 3 w' w.heap.size (fun _=>True) v l∧Below w.heap.size w w':=by
 have HL:=Y00 hl
 clear hl
 go_enter Tryz.func113,Tryz.ntmps113
 go_wp2_with (at_builtin;go_must (refine Kd.R_append_rows kI (Rr:=kI.K (w.alloc (.cells #[] 3))) (w0:=w) w.heap.size rfl (.tmp 3) (.tmp 4) _ 3 (.int .i64 0) 8 rfl Tryz.underlying36 Tryz.infoInt rfl (by decide) (by decide) _ [] l _ _ _ (fun _=>True) (fun _=>False) rfl rfl ⟨fun _ _=>trivial,[],World.ownsRow_made w #[] 0 (Y0e _) (Nat.zero_le _) rfl,Reps.none _ _⟩ (Kd.c00 HL.out (J02 w _)) (fun _ _ h=>h) (fun _ h=>h.elim) (fun _ _=>trivial) (J02 w _) (J02 w _).size (by simp;omega) ?_);intro v6 w6 hR6 hb6 hg6 hat6)
 go_ret
 exact ⟨_,rfl,hR6,hb6⟩
namespace Mdl
def J48:List Int→List Int→List Int
 | a::l,b::m=>w64 (a+b)::J48 l m
 | _,_=>[]
theorem Jdg:∀ {l m:List Int} {k:Nat} (hl:k<l.length) (hm:k<m.length),J48 (l.take (k+1)) (m.take (k+1))=J48 (l.take k) (m.take k)++[w64 (l[k]+m[k])]
 | a::l,b::m,0,_,_=>by simp [J48]
 | a::l,b::m,k+1,hl,hm=>by
  simp only [List.take_succ_cons,J48,List.cons_append,List.getElem_cons_succ]
  rw [Jdg (by simpa using hl) (by simpa using hm)]
theorem J8r:∀ {l m:List Int},l.length=m.length→(J48 l m).length=l.length
 | [],[],_=>rfl
 | a::l,b::m,h=>by simp only [J48,Y0z];rw [J8r (by simpa using h)]
theorem J9m {wd:Nat} (hw:wd≤3) (a b:Tm):J48 (J0g wd a) (J0g wd b)=J0g wd (J0l a b):=by
 obtain rfl | rfl | rfl | rfl:wd=0∨wd=1∨wd=2∨wd=3:=by omega
 all_goals simp [J48,J0g,J0l]
end Mdl
theorem Jbe (A B:Option Addr) (cA cB:Nat) (l m:List Int) (w:World) (hl:kI.C w A l.length l) (hm:kI.C w B m.length m) (hlen:l.length=m.length) (hn:l.length≤1000) :
  Calls Tryz.prog 72 #[.slice A l.length cA,.slice B m.length cB] w fun e w'=>∃ v,e=.returned v∧kI.R 3 w' w.heap.size (fun _=>True) v (J48 l m)∧Below w.heap.size w w':=by
 have HL:=Y00 hl
 have HM:=Y00 hm
 have HLEN:=Y08 hlen
 clear hl hm hlen
 go_enter Tryz.func72,Tryz.ntmps72
 go_wp2_with fail
 have HO:=Y00 (Y07 (Jcu kI 3 w.heap.size w (Y0e _)) (J02 w (.cells #[] 3)))
 generalize w.alloc (.cells #[] 3)=wz at *
 go_loopw [5,6] (fun o i wr=>∃ k:Nat,i=.int .i64 k∧k≤l.length∧J08 (kI.R 3 wr w.heap.size (fun _=>True) o (J48 (l.take k) (m.take k))∧Below w.heap.size w wr)) (fun _ i _=>l.length - (intOf i).toNat)
 case atStart=>exact ⟨0,rfl,Nat.zero_le _,⟨by simpa [J48] using HO.out.1,HO.out.2⟩⟩
 clear HO
 obtain ⟨k,rfl,hk,hX⟩:=hrel
 by_cases hlt:k<l.length
 rotate_left
 ·have hkE:¬ ((k:Int)<l.length):=by omega
  have hR:=hX.out.1
  have hb:=hX.out.2
  rw [Y0t (by omega),Y0t (by have:=HLEN.out;omega)] at hR
  obtain ⟨oA,oC,hoe⟩:=Kd.c02 hR
  have HR:=Y00 (Y07 (show _ from hR) hb)
  clear hR hb hX
  go_wp2_with fail
  go_ret
  subst hoe
  exact ⟨_,rfl,HR.out.1,HR.out.2⟩
 have hkm:k<m.length:=by have:=HLEN.out;omega
 have hkE:(k:Int)<l.length:=by omega
 have hkM:(k:Int)<m.length:=by omega
 have hk0:(0:Int)≤k:=by omega
 obtain ⟨ad,rfl,c1⟩:=at_int HL.out hlt
 obtain ⟨ad2,rfl,c2⟩:=at_int HM.out hkm
 have HS:=Y08 (Jdg hlt hkm)
 have HP:=Y08 (show (J48 (l.take k) (m.take k)).length≤1000 by rw [J8r (by have:=HLEN.out;rw [Y0o,Y0o];omega),Y0o];omega)
 generalize l[k]=x at *
 generalize m[k]=y at *
 generalize J48 (l.take k) (m.take k)=pre at *
 have HC:=Y00 (Y07 c1 c2)
 have c1:=J00 hX.out.2 c1
 have c2:=J00 hX.out.2 c2
 have hRo:=hX.out.1
 obtain ⟨oA,oC,hoe⟩:=Kd.c02 hRo
 generalize hpn:pre.length=pn at *
 subst hoe
 clear hkm hRo
 go_upto_region 5 with fail
 refine sr1 13 (fun w'=>w'.cell? (ad.add k)=some (.int .i64 x)∧w'.cell? (ad2.add k)=some (.int .i64 y)) [] ⟨c1,c2⟩ fun hJ0=>?_
 have HD:=Y00 (Y07 (Kd.c01 hX.out.1 (J05 (Y0f _ _))) (J05 hX.out.2))
 generalize wr.drew=wd at *
 clear c1 c2 hX
 refine pv 0 ?_
 refine pv 1 ?_
 refine pv 2 ?_
 refine pv 3 ?_
 refine tv2 4 ?_
 refine pv 5 ?_
 refine pv 6 ?_
 refine pv 7 ?_
 refine tv2 8 ?_
 refine pv 9 ?_
 simp only [Jc3,J2u]
 refine ov 10 fun K hK=>?_
 refine va0 ?_
 refine hK.out _ _ (st2 (J02 wd _) hJ0) (fun hJ0=>?_)
 clear hK K
 refine nm0 _ ?_
 refine ov 11 fun K hK=>?_
 refine Kd.R_append_step kI (w0:=w) w.heap.size (by rfl) (.tmp 14) (.tmp 24) 36 3 (.int .i64 0) 8 rfl Tryz.underlying36 Tryz.infoInt rfl (by decide) (by decide) (.slice oA pn oC) pre (w64 (x+y)) [.int .i64 (w64 (x+y))] (fun _=>True) (fun k=>some k≠(Value.slice oA pn oC).ownBlock) rfl rfl rfl (fun _ h=>⟨trivial,h⟩) (fun _ _=>trivial) HD.out.1 HD.out.2 HD.out.2.size (by have:=HP.out;omega) ?_
 intro v6 w6 hR6 hb6 hg6 hat6
 refine hK.out _ _ (st2 hb6 HC.out) (fun hJ0=>?_)
 clear hK K
 refine nm0 _ ?_
 have HS6:=Y00 (show kI.R 3 w6 w.heap.size (fun _=>True) v6 (J48 (l.take (k+1)) (m.take (k+1)))∧Below w.heap.size w w6 from ⟨by rw [HS.out];exact hR6,hb6⟩)
 clear hR6 hb6 hg6 hat6 hJ0
 refine pv 12 ?_
 refine dn0 ?_
 go_wp2_with fail
 exact ⟨⟨k+1,by go_num,by omega,HS6⟩,by simp [intOf];omega⟩
structure J1o (w0 w2 wr:World) (v:Value) (xs:List (List Int)):Prop where
 rows:kLI.R 36 wr w0.heap.size (fun _=>True) v xs
 own:∀ b,v.ownBlock=some b→w2.heap.size≤b
 below:Below w2.heap.size w2 wr
 base:Below w0.heap.size w0 w2
theorem J1o.down {w0 w2 wr:World} {v:Value} {xs:List (List Int)} (h:J1o w0 w2 wr v xs):Below w0.heap.size w0 wr:=J01 h.base h.base.size h.below
theorem J1o.up {w0 w2 wr w1:World} {v:Value} {xs:List (List Int)} (h:J1o w0 w2 wr v xs) (hb:Below wr.heap.size wr w1):J1o w0 w2 w1 v xs:=⟨Kd.c01 h.rows hb,h.own,J01 h.below h.below.size hb,h.base⟩
theorem J1o.start {w0 w2:World} (hb:Below w0.heap.size w0 w2):J1o w0 w2 (w2.alloc (.cells #[] 36)) (.slice (some ⟨w2.heap.size,0,none⟩) 0 0) [] :=
 ⟨Jcu kLI 36 w0.heap.size w2 hb.size,fun b h=>by simp only [Value.ownBlock,Option.some.injEq] at h;omega,J02 w2 _,hb⟩
theorem J1o.slice {w0 w2 wr:World} {v:Value} {xs:List (List Int)} (h:J1o w0 w2 wr v xs):∃ A c,v=.slice A xs.length c:=Kd.c02 h.rows
theorem J1o.M {w0 W:World} {v u:Value} {xs:List (List Int)} {x:List Int} (h:kLI.R 36 W w0.heap.size (fun _=>True) v xs) (hp:kI.R 3 W w0.heap.size (fun _=>True) u x):kLI.M W w0.heap.size (fun k=>True∧some k≠v.ownBlock) x [u]:=by
 refine ⟨u,rfl,Kd.c06 (Kd.c05 hp) (fun k hk=>⟨trivial,fun he=>?_⟩)⟩
 obtain ⟨_,_,_,q,hq,hc⟩:=hk
 obtain ⟨inner,ho⟩:=Kd.R_own h
 have ht:=c07 ho k he.symm
 obtain ⟨c1,h1⟩:=hc
 obtain ⟨c2,h2⟩:=ht
 rw [h1] at h2
 injection h2 with h2
 injection h2 with _ h2
 have hq:q=3:=by
  rcases List.mem_cons.1 hq with hq | hq
  ·exact hq
  cases hq
 rw [hq] at h2;exact absurd h2 (by decide)
theorem J1o.more {w0 w2 W w1:World} {v v1:Value} {xs ys:List (List Int)} (h:J1o w0 w2 W v xs) (hR:kLI.R 36 w1 w0.heap.size (fun _=>True) v1 ys) (hg:W.grownBy w1 v.ownBlock) (hat:v1.ownBlock=v.ownBlock∨∃ b,v1.ownBlock=some b∧W.heap.size≤b):J1o w0 w2 w1 v1 ys :=
 ⟨hR,fun b hb=>by
  rcases hat with hat | ⟨c,hc,hle⟩
  ·exact h.own b (hat ▸ hb)
  ·rw [hb] at hc;injection hc with hc;subst hc;exact Nat.le_trans h.below.size hle,
  h.below.grown hg h.below.size (fun q hq=>h.own q hq),h.base⟩
section
variable {ops:Array Oper} {Q:Exit→Act→World→Prop} {o:Oper} {rest:List Oper} {a:Act} {w0 w2 W:World} {v u:Value} {xs:List (List Int)} {x:List Int} {Kc:Act→World→Prop}
theorem J1o.app (h:J1o w0 w2 W v xs) (hp:kI.R 3 W w0.heap.size (fun _=>True) u x) (hl:xs.length≤1000000000000) (s y:Operand) (hgd:o.guard=none)
  (ho:o.op=.call { callee:=.builtin .append,args:=#[s,y],argTypes:=#[28,28] }) (hs:a.eval s=v) (hx:a.eval y=.slice (some ⟨W.heap.size,0,none⟩) 1 1)
  (k:∀ v1 w1,J1o w0 w2 w1 v1 (xs++[x])→wpList Tryz.prog ops Q rest (a.put o.dst v1) w1):wpList Tryz.prog ops Q (o::rest) a (W.alloc (.cells #[u] 36)) :=
 Kd.R_append kLI (w0:=w0) w0.heap.size hgd s y 28 36 (.slice none 0 0) 24 ho Tryz.underlying28 Tryz.infoInts rfl (by decide) (by decide) v xs x [u] (fun _=>True) (fun k=>True∧some k≠v.ownBlock) hs hx (J1o.M h.rows hp) (fun _ h=>h) (fun _ _=>trivial) h.rows h.down h.down.size (by omega)
  (fun v1 w1 hR _ hg hat=>k v1 w1 (h.more hR hg hat))
theorem J1o.appS (h:J1o w0 w2 W v xs) (hp:kI.R 3 W w0.heap.size (fun _=>True) u x) (hl:xs.length≤1000000000000) (s y:Operand) (hw:Region.wanted o (yielded ops a.tmps)=true)
  (ho:o.op=.call { callee:=.builtin .append,args:=#[s,y],argTypes:=#[28,28] }) (hs:a.eval s=v) (hx:a.eval y=.slice (some ⟨W.heap.size,0,none⟩) 1 1)
  (k:∀ v1 w1,J1o w0 w2 w1 v1 (xs++[x])→W.grownBy w1 v.ownBlock→Kc (a.put o.dst v1) w1):if Region.wanted o (yielded ops a.tmps)=true then Oper.wp Tryz.prog o a (W.alloc (.cells #[u] 36)) Kc Q else Kc (a.put o.dst undef) (W.alloc (.cells #[u] 36)) :=
 Kd.R_append_step kLI (w0:=w0) w0.heap.size hw s y 28 36 (.slice none 0 0) 24 ho Tryz.underlying28 Tryz.infoInts rfl (by decide) (by decide) v xs x [u] (fun _=>True) (fun k=>True∧some k≠v.ownBlock) hs hx (J1o.M h.rows hp) (fun _ h=>h) (fun _ _=>trivial) h.rows h.down h.down.size (by omega)
  (fun v1 w1 hR _ hg hat=>k v1 w1 (h.more hR hg hat) hg)
end
theorem Joq {w:World} {base:Nat} {A:Option Addr} {c:Nat} {xs:List (List Int)} (h:kLI.R 36 w base (fun _=>True) (.slice A xs.length c) xs) {k:Nat} (hk:k<xs.length) :
  ∃ g sA sC,A=some ⟨g,0,none⟩∧w.cell? ⟨g,k,none⟩=some (.slice sA xs[k].length sC)∧w.frozen? ⟨g,k,none⟩=false∧kI.R 3 w base (fun _=>True) (.slice sA xs[k].length sC) xs[k]:=by
 obtain ⟨g,cap,he,_⟩:=Kd.R_form h (by omega)
 injection he with e1 e2 e3
 subst e1 e3
 obtain ⟨cs,hcl,hM,hcc,hfr⟩:=Kd.R_elem h [] (k:Int) (by omega) (by omega)
 rw [Y06] at hM hcc hfr
 rw [Y01,Y05 hk] at hM
 obtain ⟨u,rfl,hR⟩:=hM
 obtain ⟨sA,sC,rfl⟩:=Kd.c02 hR
 have h1:=hcc 0 _ rfl
 have h2:=hfr 0
 rw [show kLI.sz=1 from rfl,Nat.mul_one,Nat.add_zero] at h1
 rw [show kLI.sz=1 from rfl,Nat.mul_one,Nat.add_zero] at h2
 exact ⟨g,sA,sC,rfl,h1,h2,Kd.c06 hR (fun _ _=>trivial)⟩
namespace Mdl
theorem Jn6 (x:List Int) (b:Bool) (y:List Int) (r:List (List Int)):insP x b (y::r)=(if (!b&&J2z x y)=true then [x] else [])++y::insP x (b || J2z x y || decide (x=y)) r:=by
 cases b with
 | true=>simp [insP]
 | false=>?_
 cases hf:J2z x y with
 | false=>simp [insP,hf]
 | true=>simp [insP,hf]
theorem Jfp (l:List (List Int)) {k:Nat} (hk:k<l.length):J1r (l.take (k+1))=insP l[k] false (J1r (l.take k)):=by
 unfold J1r
 exact J1m (fun out x=>insP x false out) [] l hk
theorem Jet (x:List Int):∀ (b:Bool) (r:List (List Int)),(insP x b r).length≤r.length+1
 | b,[]=>by unfold insP;split<;>simp
 | b,y::r=>by
  have h1:=Jet x (b || decide (x=y)) r
  have h2:=Jet x true r
  rw [J5j] at h2
  unfold insP
  split
  ·rw [J5j];simp
  simp at h1 ⊢;omega
theorem J84:∀ (l:List (List Int)) (o:List (List Int)),(l.foldl (fun out x=>insP x false out) o).length≤o.length+l.length
 | [],o=>by simp
 | x::l,o=>by
  have h1:=Jet x false o
  have h2:=J84 l (insP x false o)
  simp only [List.foldl_cons,Y0z];omega
theorem Jji (x:List Int):∀ (b:Bool) (r:List (List Int)),∀ z ∈ insP x b r,z=x∨z ∈ r
 | b,[],z,h=>by
  unfold insP at h
  split at h
  ·cases h
  exact .inl (Y11.1 h)
 | b,y::r,z,h=>by
  unfold insP at h
  split at h
  ·rw [J5j] at h
   rcases List.mem_cons.1 h with h | h
   ·exact .inl h
   exact .inr h
  rcases List.mem_cons.1 h with h | h
  ·rw [h];exact .inr Y03
  rcases Jji x _ r z h with h | h
  ·exact .inl h
  exact .inr (Y04 _ h)
theorem J83:∀ (l o:List (List Int)),∀ z ∈ l.foldl (fun out x=>insP x false out) o,z ∈ l∨z ∈ o
 | [],o,z,h=>.inr h
 | x::l,o,z,h=>by
  rcases J83 l _ z h with h | h
  ·exact .inl (Y04 _ h)
  rcases Jji x false o z h with h | h
  ·rw [h];exact .inl Y03
  exact .inr h
end Mdl
theorem Jhl (A:Option Addr) (cA wd:Nat) (l:List (List Int)) (w:World) (hl:kLI.C w A l.length l) (hall:∀ x ∈ l,x.length=wd) (hwd:wd≤1000) (hn:l.length≤900000000000) :
  Calls Tryz.prog 96 #[.slice A l.length cA] w fun e w'=>∃ v,e=.returned v∧kLI.R 36 w' w.heap.size (fun _=>True) v (J1r l)∧Below w.heap.size w w':=by
 have HL:=Y00 hl
 have hlm:=Kd.C_max hl
 have HALL:=Y08 hall
 have HWD:=Y08 hwd
 clear hl hall hwd
 go_enter Tryz.func96,Tryz.ntmps96
 go_wp2_with fail
 have HO:=Y00 (J1o.start (Y0f w.heap.size w))
 generalize w.alloc (.cells #[] 36)=wz at *
 go_loopw [3,4] (fun o i wr=>∃ k:Nat,i=.int .i64 k∧k≤l.length∧J08 (kLI.R 36 wr w.heap.size (fun _=>True) o (J1r (l.take k))∧Below w.heap.size w wr)) (fun _ i _=>l.length - (intOf i).toNat)
 case atStart=>exact ⟨0,rfl,Nat.zero_le _,⟨HO.out.rows,HO.out.down⟩⟩
 clear HO
 obtain ⟨k,rfl,hk,hX⟩:=hrel
 by_cases hlt:k<l.length
 rotate_left
 ·have hkE:¬ ((k:Int)<l.length):=by omega
  have HR:=Y00 (show kLI.R 36 wr w.heap.size (fun _=>True) u3 (J1r l)∧Below w.heap.size w wr from ⟨by have h:=hX.out.1;rwa [Y0t (by omega)] at h,hX.out.2⟩)
  obtain ⟨oA,oC,hoe⟩:=Kd.c02 HR.out.1
  subst hoe
  clear hX
  go_wp2_with fail
  go_ret
  exact ⟨_,rfl,HR.out.1,HR.out.2⟩
 have hkE:(k:Int)<l.length:=by omega
 have hk0:(0:Int)≤k:=by omega
 obtain ⟨ad,sA,sC,rfl,c1,d1,_⟩:=Jqx HL.out hlt
 have HS:=Y08 (Jfp l hlt)
 have HLK:=Y08 (HALL.out _ (Y0l hlt))
 have HP:=Y08 (show ∀ z ∈ J1r (l.take k),z.length=wd from fun z hz=>HALL.out z (by rcases J83 (l.take k) [] z hz with h | h;exact List.mem_of_mem_take h;cases h))
 have hol:(J1r (l.take k)).length≤l.length:=by have:=J84 (l.take k) [];rw [Y0o] at this;simp at this;unfold J1r;omega
 have HD1:=Y00 d1
 have HC1:=Y00 c1
 clear d1 c1
 generalize l[k]=x at *
 generalize J1r (l.take k)=o at *
 obtain ⟨oA,oC,hoe⟩:=Kd.c02 hX.out.1
 subst hoe
 have hom:(o.length:Int)≤900000000000:=by omega
 go_wp2_with fail
 have HN:=Y00 (J1o.start (w0:=w) hX.out.2)
 generalize wr.alloc (.cells #[] 36)=wn at *
 generalize wr=wo at *
 go_loopw [5,6,7] (fun nx d j wr=>∃ (m:Nat) (b:Bool) (pre:List (List Int)),d=.bool b∧j=.int .i64 m∧m≤o.length∧J08 (J1o w wo wr nx pre)∧Hid (insP x false o=pre++insP x b (o.drop m)∧pre.length≤m+b.toNat)) (fun _ _ j _=>o.length - (intOf j).toNat)
 case atStart=>exact ⟨0,false,[],rfl,rfl,Nat.zero_le _,HN,Y08 ⟨by simp,by simp⟩⟩
 clear HN
 obtain ⟨m,b,pre,rfl,rfl,hm,hY,HE⟩:=hrel
 by_cases hmt:m<o.length
 rotate_left
 ·have hmE:¬ ((m:Int)<o.length):=by omega
  have HEQ:=Y08 (show insP x false o=pre++insP x b [] by have h:=HE.out.1;rwa [List.drop_of_length_le (by omega)] at h)
  obtain ⟨nA,nC,hne⟩:=J1o.slice hY.out
  have hpl:=HE.out.2
  generalize hpn:pre.length=pn at *
  subst hne
  have HPN:=Y08 hpn
  have HLE:=Y08 hpl
  clear hpn hpl HE
  cases b with
  | true =>
   have HR:=Y00 (show kLI.R 36 wr w.heap.size (fun _=>True) (.slice nA pn nC) (J1r (l.take (k+1)))∧Below w.heap.size w wr from ⟨by rw [HS.out,HEQ.out];simpa [insP] using hY.out.rows,hY.out.down⟩)
   go_wp2_with fail
   exact ⟨⟨k+1,by go_num,by omega,HR⟩,by simp [intOf];omega⟩
  | false=>?_
  have c1:=J00 hY.out.down HC1.out
  go_wp2_with fail
  refine (Jh1 sA sC x wr (Kd.c00 HD1.out hY.out.down) (by rw [HLK.out];exact HWD.out)).mono ?_
  rintro e w8 ⟨z5,rfl,hR5,hb5⟩
  obtain ⟨A5,c5,rfl⟩:=Kd.c02 hR5
  have HR5:=Y00 (Kd.c04 hR5 hY.out.down.size)
  have H8:=Y00 (hY.out.up hb5)
  clear hR5 hb5 c1
  go_wp2_with (at_builtin;go_must (refine J1o.app H8.out HR5.out (by rw [HPN.out];have:pn≤m+1:=Nat.le_trans HLE.out (Nat.add_le_add_left (Bool.toNat_le _) m);omega) (.tmp 64) (.tmp 70) rfl rfl rfl rfl ?_;intro u9 w9 hN9;have H9:=Y00 hN9;clear hN9))
  have HR:=Y00 (show kLI.R 36 w9 w.heap.size (fun _=>True) u9 (J1r (l.take (k+1)))∧Below w.heap.size w w9 from ⟨by rw [HS.out,HEQ.out];simpa [insP] using H9.out.rows,H9.out.down⟩)
  exact ⟨⟨k+1,by go_num,by omega,HR⟩,by simp [intOf];omega⟩
 have hmE:(m:Int)<o.length:=by omega
 have hm0:(0:Int)≤m:=by omega
 obtain ⟨g,yA,yC,rfl,c2,_,d2⟩:=Joq hX.out.1 hmt
 have HD2:=Y00 d2
 clear d2
 have HYL:=Y08 (HP.out _ (Y0l hmt))
 have HDR:=Y08 (show o.drop m=o[m]::o.drop (m+1) from List.drop_eq_getElem_cons hmt)
 have HC2:=Y00 c2
 clear c2
 generalize o[m]=y at *
 have HXY:=Y08 (show x.length=y.length by rw [HLK.out,HYL.out])
 have c1:=J00 hY.out.down HC1.out
 have c2:=J00 hY.out.below HC2.out
 have HE2:=Y08 (show insP x false o=pre++((if (!b&&J2z x y)=true then [x] else [])++y::insP x (b || J2z x y || decide (x=y)) (o.drop (m+1))) by rw [← Jn6,← HDR.out];exact HE.out.1)
 obtain ⟨nA,nC,hne⟩:=J1o.slice hY.out
 have hpl:=HE.out.2
 generalize hpn:pre.length=pn at *
 subst hne
 have HPN:=Y08 hpn
 have HLE:=Y08 hpl
 clear hpn hpl HE HDR
 cases b with
 | true =>
  go_upto_region 9 with fail
  refine sr1 13 (fun V=>V.cell? (ad.add k)=some (.slice sA x.length sC)∧V.cell? ⟨g,m,none⟩=some (.slice yA y.length yC)) [] ⟨c1,c2⟩ fun hJ0=>?_
  have Q1:=Y00 (hY.out.up (J05 (Y0f _ _)))
  clear c1 c2
  generalize wr.drew=v1 at *
  refine pv 0 ?_
  refine pv 1 ?_
  refine pv 2 ?_
  refine uv 3 ?_
  refine uv 4 ?_
  refine uv 5 ?_
  refine uv 6 ?_
  refine uv 7 ?_
  refine uv 8 ?_
  refine uv 9 ?_
  refine uv 10 ?_
  refine uv 11 ?_
  refine pv 12 ?_
  refine dn0 ?_
  obtain ⟨c1,c2⟩:=hJ0
  go_upto_region 11 with fail
  refine sr1 13 (fun V=>V.cell? (ad.add k)=some (.slice sA x.length sC)∧V.cell? ⟨g,m,none⟩=some (.slice yA y.length yC)) [] ⟨c1,c2⟩ fun hJ0=>?_
  have Q2:=Y00 (Q1.out.up (J05 (Y0f _ _)))
  clear Q1
  clear c1 c2
  generalize v1.drew=v2 at *
  refine pv 0 ?_
  refine pv 1 ?_
  refine uv 2 ?_
  refine uv 3 ?_
  refine uv 4 ?_
  refine uv 5 ?_
  refine uv 6 ?_
  refine uv 7 ?_
  refine uv 8 ?_
  refine uv 9 ?_
  refine uv 10 ?_
  refine pv 11 ?_
  refine pv 12 ?_
  refine dn0 ?_
  obtain ⟨c1,c2⟩:=hJ0
  go_wp2_with (at_builtin;go_must (refine J1o.app Q2.out (Kd.c01 HD2.out Q2.out.below) (by rw [HPN.out];have:pn≤m+1:=Nat.le_trans HLE.out (Nat.add_le_add_left (Bool.toNat_le _) m);omega) (.tmp 55) (.tmp 60) rfl rfl rfl rfl ?_;intro u6 w6 hN6;have H6:=Y00 hN6;clear hN6))
  exact ⟨⟨m+1,true,pre++[y],rfl,by go_num,by omega,H6,Y08 ⟨by rw [HE2.out];simp,by rw [Y02,HPN.out];have:pn≤m+1:=HLE.out;simp;omega⟩⟩,by simp [intOf];omega⟩
 | false=>?_
 go_upto_region 9 with fail
 refine sr1 13 (fun V=>V.cell? (ad.add k)=some (.slice sA x.length sC)∧V.cell? ⟨g,m,none⟩=some (.slice yA y.length yC)) [] ⟨c1,c2⟩ fun hJ0=>?_
 have Q3:=Y00 (hY.out.up (J05 (Y0f _ _)))
 clear c1 c2
 generalize wr.drew=v3 at *
 refine pv 0 ?_
 refine pv 1 ?_
 refine pv 2 ?_
 refine pv 3 ?_
 refine pv 4 ?_
 refine pv 5 ?_
 refine tv2 6 ?_
 refine pv 7 ?_
 refine pv 8 ?_
 refine pv 9 ?_
 refine tv2 10 ?_
 have HC:=Y08 (Jgr sA yA sC yC x y v3 (Kd.c00 HD1.out Q3.out.down) (Kd.c03 (Kd.c01 HD2.out Q3.out.below)).2.2 HXY.out)
 refine oc 11 Tryz.func112 #[.slice sA x.length sC,.slice yA y.length yC] ?_
 refine HC.out.mono ?_
 rintro e v4 ⟨rfl,hb⟩
 clear HC
 have Q4:=Y00 (Q3.out.up hb)
 clear Q3
 refine ⟨_,rfl,(st2 hb hJ0),fun hJ0=>?_⟩
 clear hb
 refine nm0 _ ?_
 cases hf:J2z x y
 ·skip
  rw [hf] at HE2
  have HF:=Y08 hf
  clear hf
  refine pv 12 ?_
  refine dn0 ?_
  obtain ⟨c1,c2⟩:=hJ0
  go_upto_region 11 with fail
  refine sr1 13 (fun V=>V.cell? (ad.add k)=some (.slice sA x.length sC)∧V.cell? ⟨g,m,none⟩=some (.slice yA y.length yC)) [] ⟨c1,c2⟩ fun hJ0=>?_
  have Q5:=Y00 (Q4.out.up (J05 (Y0f _ _)))
  clear Q4
  clear c1 c2
  generalize v4.drew=v5 at *
  refine pv 0 ?_
  refine pv 1 ?_
  refine pv 2 ?_
  refine pv 3 ?_
  refine pv 4 ?_
  refine tv2 5 ?_
  refine pv 6 ?_
  refine pv 7 ?_
  refine pv 8 ?_
  refine tv2 9 ?_
  have HC:=Y08 (J73 sA yA sC yC x y v5 (Kd.c00 HD1.out Q5.out.down) (Kd.c03 (Kd.c01 HD2.out Q5.out.below)).2.2)
  refine oc 10 Tryz.func39 #[.slice sA x.length sC,.slice yA y.length yC] ?_
  refine HC.out.mono ?_
  rintro e v6 ⟨rfl,hb⟩
  clear HC
  have Q6:=Y00 (Q5.out.up hb)
  clear Q5
  refine ⟨_,rfl,(st2 hb hJ0),fun hJ0=>?_⟩
  clear hb
  refine nm0 _ ?_
  refine pv 11 ?_
  refine pv 12 ?_
  refine dn0 ?_
  obtain ⟨c1,c2⟩:=hJ0
  go_wp2_with (at_builtin;go_must (refine J1o.app Q6.out (Kd.c01 HD2.out Q6.out.below) (by rw [HPN.out];have:pn≤m+1:=Nat.le_trans HLE.out (Nat.add_le_add_left (Bool.toNat_le _) m);omega) (.tmp 55) (.tmp 60) rfl rfl rfl rfl ?_;intro u6 w6 hN6;have H6:=Y00 hN6;clear hN6))
  exact ⟨⟨m+1,(decide (x=y)),pre++[y],rfl,by go_num,by omega,H6,Y08 ⟨by rw [HE2.out];simp,by rw [Y02,HPN.out];have:pn≤m+0:=HLE.out;simp;omega⟩⟩,by simp [intOf];omega⟩
 skip
 rw [hf] at HE2
 have HF:=Y08 hf
 clear hf
 refine pv 12 ?_
 refine dn0 ?_
 obtain ⟨c1,c2⟩:=hJ0
 go_wp2_with fail
 refine (Jh1 sA sC x v4 (Kd.c00 HD1.out Q4.out.down) (by rw [HLK.out];exact HWD.out)).mono ?_
 rintro e v7 ⟨z5,rfl,hR5,hb5⟩
 obtain ⟨A5,c5,rfl⟩:=Kd.c02 hR5
 have HR5:=Y00 (Y07 (Kd.c04 hR5 Q4.out.down.size) hb5)
 have Q7:=Y00 (Q4.out.up hb5)
 clear Q4
 clear hR5 hb5 c1 c2
 have c1:=J00 Q7.out.down HC1.out
 have c2:=J00 Q7.out.below HC2.out
 go_upto_region 11 with (at_builtin;go_must (refine J1o.app Q7.out HR5.out.1 (by rw [HPN.out];have:pn≤m+1:=Nat.le_trans HLE.out (Nat.add_le_add_left (Bool.toNat_le _) m);omega) (.tmp 35) (.tmp 41) rfl rfl rfl rfl ?_;intro u7 w7 hN7;have H7:=Y00 hN7;clear hN7;obtain ⟨mA,mC,hme⟩:=J1o.slice H7.out;have HQL:=Y08 (show (pre++[x]).length≤m+1 by rw [Y02,HPN.out];have:pn≤m+0:=HLE.out;simp;omega);generalize hqn:(pre++[x]).length=qn at *;have HQN:=Y08 hqn;clear hqn;subst hme))
 clear c1 c2
 have c1:=J00 H7.out.down HC1.out
 have c2:=J00 H7.out.below HC2.out
 refine sr1 13 (fun V=>V.cell? (ad.add k)=some (.slice sA x.length sC)∧V.cell? ⟨g,m,none⟩=some (.slice yA y.length yC)) [] ⟨c1,c2⟩ fun hJ0=>?_
 have Q8:=Y00 (H7.out.up (J05 (Y0f _ _)))
 clear H7
 clear c1 c2
 generalize w7.drew=v8 at *
 refine pv 0 ?_
 refine pv 1 ?_
 refine uv 2 ?_
 refine uv 3 ?_
 refine uv 4 ?_
 refine uv 5 ?_
 refine uv 6 ?_
 refine uv 7 ?_
 refine uv 8 ?_
 refine uv 9 ?_
 refine uv 10 ?_
 refine pv 11 ?_
 refine pv 12 ?_
 refine dn0 ?_
 obtain ⟨c1,c2⟩:=hJ0
 go_wp2_with (at_builtin;go_must (refine J1o.app Q8.out (Kd.c01 HD2.out Q8.out.below) (by rw [HQN.out];have:=HQL.out;omega) (.tmp 55) (.tmp 60) rfl rfl rfl rfl ?_;intro u6 w6 hN6;have H6:=Y00 hN6;clear hN6))
 exact ⟨⟨m+1,true,(pre++[x])++[y],rfl,by go_num,by omega,H6,Y08 ⟨by rw [HE2.out];simp,by rw [Y02,HQN.out];have:=HQL.out;simp;omega⟩⟩,by simp [intOf];omega⟩
namespace Mdl
def Jdm (s:List (List Int)) (i n:Nat):Bool:=(List.range n).all fun k=>k == i || !leL (s.getD k []) (s.getD i [])
theorem Ji1 (s:List (List Int)) (i m:Nat):Jdm s i (m+1)=(Jdm s i m&&(m == i || !leL (s.getD m []) (s.getD i []))):=by
 unfold Jdm;rw [List.range_succ,List.all_append];simp
def Jd2 (s:List (List Int)) (n:Nat):List (List Int):=((List.range n).filter (Ji2 s)).map fun i=>s.getD i []
theorem Jle (s:List (List Int)) (k:Nat):Jd2 s (k+1)=Jd2 s k++if Ji2 s k=true then [s.getD k []] else []:=by
 unfold Jd2;rw [List.range_succ,List.filter_append,List.map_append]
 congr 1
 by_cases h:Ji2 s k=true
 ·simp [h]
 simp [h]
theorem Jnf (s:List (List Int)) (k:Nat):(Jd2 s k).length≤k:=by
 unfold Jd2;rw [Y0g]
 exact Nat.le_trans (List.length_filter_le _ _) (by simp)
end Mdl
theorem Jef (A:Option Addr) (cA wd:Nat) (l:List (List Int)) (w:World) (hl:kLI.C w A l.length l) (hall:∀ x ∈ l,x.length=wd) (hwd:wd≤1000) (hn:l.length≤900000000000) :
  Calls Tryz.prog 73 #[.slice A l.length cA] w fun e w'=>∃ v,e=.returned v∧kLI.R 36 w' w.heap.size (fun _=>True) v (J76 l)∧Below w.heap.size w w':=by
 have HL:=Y00 hl
 have HALL:=Y08 hall
 have HWD:=Y08 hwd
 clear hl hall hwd
 go_enter Tryz.func73,Tryz.ntmps73
 go_wp2_with fail
 refine (Jhl A cA wd l w HL.out HALL.out HWD.out hn).mono ?_
 rintro e w1 ⟨z,rfl,hR,hb⟩
 have HZ:=Y08 (show ∀ z ∈ J1r l,z.length=wd from fun z hz=>HALL.out z (by rcases J83 l [] z hz with h | h;exact h;cases h))
 have hsl:(J1r l).length≤900000000000:=by have:=J84 l [];simp at this;unfold J1r;omega
 have HG:=Y08 (show Jd2 (J1r l) (J1r l).length=J76 l from rfl)
 generalize J1r l=s at *
 obtain ⟨sA0,sC0,rfl⟩:=Kd.c02 hR
 have HS:=Y00 hR
 have HB1:=Y00 hb
 clear hR hb HL HALL
 go_wp2_with fail
 have HO:=Y00 (J1o.start (w0:=w) HB1.out)
 generalize w1.alloc (.cells #[] 36)=wz at *
 go_loopw [3,4] (fun o i wr=>∃ k:Nat,i=.int .i64 k∧k≤s.length∧J08 (J1o w w1 wr o (Jd2 s k))) (fun _ i _=>s.length - (intOf i).toNat)
 case atStart=>exact ⟨0,rfl,Nat.zero_le _,HO⟩
 clear HO
 obtain ⟨k,rfl,hk,hX⟩:=hrel
 by_cases hlt:k<s.length
 rotate_left
 ·have hkE:¬ ((k:Int)<s.length):=by omega
  have HR:=Y00 (show J1o w w1 wr u3 (J76 l) from by rw [← HG.out];have h:=hX.out;rwa [show k=s.length by omega] at h)
  obtain ⟨oA,oC,hoe⟩:=J1o.slice HR.out
  subst hoe
  clear hX
  go_wp2_with fail
  go_ret
  exact ⟨_,rfl,HR.out.rows,HR.out.down⟩
 have hkE:(k:Int)<s.length:=by omega
 have hk0:(0:Int)≤k:=by omega
 obtain ⟨g,sA,sC,rfl,c1,_,d1⟩:=Joq HS.out hlt
 have HC1:=Y00 c1
 have HD1:=Y00 d1
 clear c1 d1
 have HXL:=Y08 (HZ.out _ (Y0l hlt))
 have HEX:=Y08 (show s.getD k []=s[k] by rw [Y01,Y05 hlt];rfl)
 generalize s[k]=x at *
 have HES:=Y08 (Jle s k)
 have HEL:=Y08 (Jnf s k)
 obtain ⟨oA,oC,hoe⟩:=J1o.slice hX.out
 generalize hon:(Jd2 s k).length=on at *
 have HON:=Y08 hon
 clear hon
 subst hoe
 go_wp2_with fail
 generalize wr=wo at *
 go_loopw [5,6] (fun d j wx=>∃ (m:Nat) (b:Bool),d=.bool b∧j=.int .i64 m∧m≤s.length∧J08 (Below wo.heap.size wo wx)∧Hid (Jdm s k m=b)) (fun _ j _=>s.length - (intOf j).toNat)
 case atStart=>exact ⟨0,true,rfl,rfl,Nat.zero_le _,⟨Y0f _ _⟩,Y08 rfl⟩
 obtain ⟨m,b,rfl,rfl,hm,hY,HE⟩:=hrel
 by_cases hmt:m<s.length
 rotate_left
 ·have hmE:¬ ((m:Int)<s.length):=by omega
  have HKR:=Y08 (show Ji2 s k=b by rw [← HE.out,show m=s.length by omega];rfl)
  clear HE
  cases b with
  | false =>
   have HR:=Y00 (show J1o w w1 wr (.slice oA on oC) (Jd2 s (k+1)) from by rw [HES.out,HKR.out];simpa using hX.out.up hY.out)
   go_wp2_with fail
   exact ⟨⟨k+1,by go_num,by omega,HR⟩,by simp [intOf];omega⟩
  | true=>?_
  have c1:=J00 (J01 hX.out.below hX.out.below.size hY.out) HC1.out
  have H8:=Y00 (hX.out.up hY.out)
  go_wp2_with (at_builtin;go_must (refine J1o.app H8.out (Kd.c01 HD1.out H8.out.below) (by rw [HON.out];have:=HEL.out;omega) (.tmp 41) (.tmp 46) rfl rfl rfl rfl ?_;intro u9 w9 hN9;have H9:=Y00 hN9;clear hN9))
  have HR:=Y00 (show J1o w w1 w9 u9 (Jd2 s (k+1)) from by rw [HES.out,HKR.out,HEX.out];simpa using H9.out)
  exact ⟨⟨k+1,by go_num,by omega,HR⟩,by simp [intOf];omega⟩
 have hmE:(m:Int)<s.length:=by omega
 have hm0:(0:Int)≤m:=by omega
 obtain ⟨g2,yA,yC,hge,c2,_,d2⟩:=Joq HS.out hmt
 injection hge with hge
 injection hge with hge
 subst hge
 have c1:=J00 (J01 hX.out.below hX.out.below.size hY.out) HC1.out
 have c2:=J00 (J01 hX.out.below hX.out.below.size hY.out) c2
 have HD2:=Y00 d2
 clear d2
 have HYL:=Y08 (HZ.out _ (Y0l hmt))
 have HK:=Y08 (show Jdm s k (m+1)=(Jdm s k m&&(m == k || !leL s[m] x)) by rw [Ji1,HEX.out,show s.getD m []=s[m] by rw [Y01,Y05 hmt];rfl])
 generalize s[m]=y at *
 cases b with
 | false =>
  go_upto_region 10 with fail
  refine sr1 19 (fun V=>V.cell? ⟨g,m,none⟩=some (.slice yA y.length yC)∧V.cell? ⟨g,k,none⟩=some (.slice sA x.length sC)) [] ⟨c2,c1⟩ fun hJ0=>?_
  have Q1:=Y00 (J01 hY.out hY.out.size (J05 (Y0f _ _)))
  clear c1 c2
  generalize wr.drew=v1 at *
  refine pv 0 ?_
  refine pv 1 ?_
  refine uv 2 ?_
  refine uv 3 ?_
  refine uv 4 ?_
  refine uv 5 ?_
  refine uv 6 ?_
  refine uv 7 ?_
  refine uv 8 ?_
  refine uv 9 ?_
  refine uv 10 ?_
  refine uv 11 ?_
  refine uv 12 ?_
  refine uv 13 ?_
  refine uv 14 ?_
  refine uv 15 ?_
  refine uv 16 ?_
  refine pv 17 ?_
  refine pv 18 ?_
  refine dn0 ?_
  clear hJ0
  go_wp2_with fail
  exact ⟨⟨m+1,_,rfl,by go_num,by omega,Q1,Y08 (by rw [HK.out,HE.out];rfl)⟩,by simp [intOf];omega⟩
 | true=>?_
 go_upto_region 10 with fail
 refine sr1 19 (fun V=>V.cell? ⟨g,m,none⟩=some (.slice yA y.length yC)∧V.cell? ⟨g,k,none⟩=some (.slice sA x.length sC)) [] ⟨c2,c1⟩ fun hJ0=>?_
 have Q2:=Y00 (J01 hY.out hY.out.size (J05 (Y0f _ _)))
 clear c1 c2
 generalize wr.drew=v2 at *
 refine pv 0 ?_
 refine pv 1 ?_
 refine pv 2 ?_
 refine pv 3 ?_
 by_cases hmk:m=k
 ·have hq:((m:Int) == (k:Int))=true:=by simp [hmk]
  have HMK:=Y08 hmk
  clear hmk
  refine pv 4 ?_
  refine pv 5 ?_
  refine uv 6 ?_
  refine uv 7 ?_
  refine uv 8 ?_
  refine uv 9 ?_
  refine uv 10 ?_
  refine uv 11 ?_
  refine uv 12 ?_
  refine uv 13 ?_
  refine uv 14 ?_
  refine uv 15 ?_
  refine pv 16 ?_
  refine pv 17 ?_
  refine pv 18 ?_
  refine dn0 ?_
  clear hJ0
  go_wp2_with fail
  exact ⟨⟨m+1,_,rfl,by go_num,by omega,Q2,Y08 (by rw [HK.out,HE.out,HMK.out];simp)⟩,by simp [intOf];omega⟩
 skip
 have hq:((m:Int) == (k:Int))=false:=by simp;omega
 have HMK:=Y08 (show (m == k)=false by simp;omega)
 clear hmk
 refine pv 4 ?_
 refine pv 5 ?_
 refine pv 6 ?_
 refine pv 7 ?_
 refine pv 8 ?_
 refine tv2 9 ?_
 refine pv 10 ?_
 refine pv 11 ?_
 refine pv 12 ?_
 refine tv2 13 ?_
 have HC:=Y08 (Jra yA sA yC sC y x v2 (Kd.c03 (Kd.c01 HD2.out (J01 hX.out.below hX.out.below.size Q2.out))).2.2 (Kd.c03 (Kd.c01 HD1.out (J01 hX.out.below hX.out.below.size Q2.out))).2.2 (by rw [HYL.out,HXL.out]))
 refine oc 14 Tryz.func97 #[.slice yA y.length yC,.slice sA x.length sC] ?_
 refine HC.out.mono ?_
 rintro e v3 ⟨rfl,hb⟩
 clear HC
 have Q3:=Y00 (J01 Q2.out Q2.out.size hb)
 clear Q2
 refine ⟨_,rfl,(st2 hb hJ0),fun hJ0=>?_⟩
 clear hb
 refine nm0 _ ?_
 refine pv 15 ?_
 refine pv 16 ?_
 refine pv 17 ?_
 refine pv 18 ?_
 refine dn0 ?_
 clear hJ0
 go_wp2_with fail
 exact ⟨⟨m+1,_,rfl,by go_num,by omega,Q3,Y08 (by rw [HK.out,HE.out,HMK.out];simp)⟩,by simp [intOf];omega⟩
theorem Joa {n:Nat} (h:n≤8):n*n≤64:=Nat.mul_le_mul h h
theorem J99 {W:World} {g n cap k base:Nat} {xs:List Bool} (HO:Kd.bool.R 4 W base (fun _=>True) (.slice (some ⟨g,0,none⟩) n cap) xs) (hk:k<n) (b:Bool) :
  W.cell? ⟨g,k,none⟩=some (.bool (xs.getD k false))∧W.frozen? ⟨g,k,none⟩=false∧Kd.bool.R 4 (W.setCell ⟨g,k,none⟩ (.bool b)) base (fun _=>True) (.slice (some ⟨g,0,none⟩) n cap) (xs.set k b)∧W.grownBy (W.setCell ⟨g,k,none⟩ (.bool b)) (some g):=by
 obtain ⟨c,hcl,hM,hcc,hfr⟩:=Kd.R_elem HO false (k:Int) (by omega) (by omega)
 rw [Y06] at hM hcc hfr
 have hM:c=[.bool (xs.getD k false)]:=hM
 subst hM
 have hs:=Kd.R_seg HO (k:Int) (by omega) (by omega) (j:=0) (seg:=[.bool b]) (x':=b) (okp:=fun _=>False) hcl (by rw [Y06];exact hcc) (Y0e 1) rfl (fun _ h=>h.elim)
 rw [Y06,show Kd.bool.sz=1 from rfl,Nat.mul_one,Nat.add_zero] at hs
 have h1:=hcc 0 _ rfl
 have h2:=hfr 0
 rw [show Kd.bool.sz=1 from rfl,Nat.mul_one,Nat.add_zero] at h1 h2
 exact ⟨h1,h2,hs⟩
theorem Jou {n f t:Nat} (hn:n≤8) (hf:f<n) (ht:t<n):∃ x y:Nat,wrap64 ((f:Int)*(n:Int))=(x:Int)∧wrap64 ((x:Int)+(t:Int))=(y:Int)∧y=f*n+t∧y<n*n:=by
 have h1:=Jjj hf ht
 have h2:=Joa hn
 have h3:(f:Int)*(n:Int)=((f*n:Nat):Int):=by simp
 refine ⟨f*n,f*n+t,?_,?_,rfl,h1⟩
 ·rw [h3,J2u]
  generalize f*n=q at *
  generalize n*n=r at *
  exact J25 (by omega) (by omega)
 rw [J2u]
 generalize f*n=q at *
 generalize n*n=r at *
 rw [J25 (by omega) (by omega)];omega
theorem Jr1 {W:World} {g n cap base:Nat} {xs:List Bool} (HO:Kd.bool.R 4 W base (fun _=>True) (.slice (some ⟨g,0,none⟩) n cap) xs) (h:W.heap.size=g):False:=by
 obtain ⟨inner,ho⟩:=Kd.R_own HO
 have:=Jdh ho g (by simp [Value.ownBlock])
 omega
theorem Jfr (n:Nat) (Wd:Int) (E:List Ed) (eA:Option Addr) (eC:Nat) (w:World) (hE:kE.C w eA E.length E) (hn1:1≤n) (hn8:n≤8) (hW3:Wd≤3) (hok:∀ e ∈ E,J1l n Wd e=true) (hnd:J57 n E) :
  Calls Tryz.prog 71 #[.agg #[.int .i64 (n:Int),.int .i64 Wd,.slice eA E.length eC]] w fun e w'=>e=.returned (.bool (J98 n E))∧Below w.heap.size w w':=by
 have HE:=Y00 hE
 have HOK:=Y08 (Y07 hok hnd)
 have hEm:=Kd.C_max hE
 clear hE hok hnd
 go_enter Tryz.func71,Tryz.ntmps71
 go_upto_region 1 with fail
 have hzb:=J02 w (.cells #[.int .i64 (n:Int),.int .i64 Wd,.slice eA E.length eC] 24)
 have hgb:=Y0c w (.cells #[.int .i64 (n:Int),.int .i64 Wd,.slice eA E.length eC] 24)
 have g0:(w.alloc (.cells #[.int .i64 (n:Int),.int .i64 Wd,.slice eA E.length eC] 24)).cell? ⟨w.heap.size,0,none⟩=some (.int .i64 (n:Int)):=(J03 hgb 0).trans rfl
 have g2:(w.alloc (.cells #[.int .i64 (n:Int),.int .i64 Wd,.slice eA E.length eC] 24)).cell? ⟨w.heap.size,2,none⟩=some (.slice eA E.length eC):=(J03 hgb 2).trans rfl
 obtain ⟨m,hm⟩:∃ m:Nat,m=n*n:=⟨_,rfl⟩
 have hmm:wrap64 ((n:Int)*(n:Int))=(m:Int):=by rw [J2u,J25 (by have:=Joa hn8;omega) (by have:=Joa hn8;omega),hm];simp
 have hm64:m≤64:=by have:=Joa hn8;omega
 have hmp:0<m:=by rw [hm];exact Nat.mul_pos hn1 hn1
 have HB1:=Y00 (Y07 hzb hgb)
 generalize w.alloc (.cells #[.int .i64 (n:Int),.int .i64 Wd,.slice eA E.length eC] 24)=w1 at *
 have HMD:=Y08 hm
 clear hm hzb hgb
 go_wp2_with (at_make;rw [hmm];go_must (refine Kd.R_make Kd.bool (w0:=w1) w1.heap.size 4 rfl (N:=14) rfl _ _ _ rfl m rfl rfl Tryz.underlying167 _ 1 Tryz.infoBool rfl (by decide) (by decide) false (ok:=fun _=>True) (okp:=fun _=>False) rfl (fun _ h=>h.elim) trivial (by omega) (by omega) (Y0f w1.heap.size w1) (Y0e w1.heap.size) ?_;intro v7 w2 hR7 hb7 hg7 hown7;obtain ⟨g,cw,hv7,hgb,-,-⟩:=Kd.R_form hR7 (by simp;omega);rw [Y06,Y0j] at hv7;subst hv7;rw [Y06] at hR7;have HW:=Y00 (Y07 hR7 hb7);have HGE:=Y08 hgb;clear hR7 hb7 hg7 hown7 hgb))
 clear hmm
 go_loopw [4] (fun i wr=>∃ q:Nat,i=.int .i64 q∧q≤n∧J08 (Kd.bool.R 4 wr w1.heap.size (fun _=>True) (.slice (some ⟨g,0,none⟩) m cw) (wayR n E q)∧Below w1.heap.size w1 wr)) (fun i _=>n - (intOf i).toNat)
 case atStart=>exact ⟨0,rfl,Nat.zero_le _,⟨by rw [wayR,← HMD.out];exact HW.out.1,HW.out.2⟩⟩
 clear HW
 obtain ⟨q,rfl,hq,hX⟩:=hrel
 by_cases hqt:q<n
 rotate_left
 ·have hqE:¬ ((q:Int)<n):=by omega
  have HF:=Y00 (show Kd.bool.R 4 wr w1.heap.size (fun _=>True) (.slice (some ⟨g,0,none⟩) m cw) (wayR n E n)∧Below w1.heap.size w1 wr from ⟨by have h:=hX.out.1;rwa [show q=n by omega] at h,hX.out.2⟩)
  have HCI:=Y08 (show J98 n E=(List.range n).any (fun q=>(wayR n E n).getD (q*n+q) false) from rfl)
  generalize wayR n E n=fin at *
  have HG:=Y08 (Y07 g0 g2)
  clear hX g0 g2
  have g0:=J00 HF.out.2 HG.out.1
  go_wp2_with fail
  generalize wr=wo at *
  go_loopw [8] (fun i wx=>∃ k:Nat,i=.int .i64 k∧k≤n∧wo=wx∧Hid ((List.range k).any (fun q=>fin.getD (q*n+q) false)=false)) (fun i _=>n - (intOf i).toNat)
  case atStart=>exact ⟨0,rfl,Nat.zero_le _,rfl,Y08 rfl⟩
  obtain ⟨k,rfl,hk,rfl,hA⟩:=hrel
  by_cases hkt:k<n
  rotate_left
  ·have hkE:¬ ((k:Int)<n):=by omega
   have HS:=Y08 (show J98 n E=false from by rw [HCI.out];have h:=hA.out;rwa [show k=n by omega] at h)
   go_wp2_with fail
   go_ret
   exact ⟨by rw [HS.out];rfl,J01 HB1.out.1 HB1.out.1.size HF.out.2⟩
  have hkE:(k:Int)<n:=by omega
  obtain ⟨x,y,hw1,hw2,hy,hyn⟩:=Jou hn8 hkt hkt
  have hy2:y<m:=by rw [HMD.out];exact hyn
  have hym:(y:Int)<(m:Int):=Int.ofNat_lt.2 hy2
  have hy0:(0:Int)≤(y:Int):=Int.natCast_nonneg y
  have HY:=Y08 hy
  clear hy hyn
  obtain ⟨z1,-,-,-⟩:=J99 HF.out.1 (k:=y) hy2 true
  cases hf:fin.getD y false
  ·rw [hf] at z1
   have HS:=Y08 (show (List.range (k+1)).any (fun q=>fin.getD (q*n+q) false)=false from by rw [List.range_succ,List.any_append,hA.out];simp only [List.any_cons,List.any_nil,Bool.or_false,Bool.false_or];rw [← HY.out];exact hf)
   clear hf
   go_wp2_with fail
   clear hw1 hw2
   exact ⟨⟨k+1,by go_num,by omega,trivial,HS⟩,by simp [intOf];omega⟩
  rw [hf] at z1
  have HS:=Y08 (show J98 n E=true from by rw [HCI.out];exact List.any_eq_true.2 ⟨k,Y12.2 hkt,by rw [← HY.out];exact hf⟩)
  clear hf
  go_wp2_with fail
  go_ret
  exact ⟨by rw [HS.out];rfl,J01 HB1.out.1 HB1.out.1.size HF.out.2⟩
 have hqE:(q:Int)<n:=by omega
 have HG:=Y08 (Y07 g0 g2)
 have g0:=J00 hX.out.2 HG.out.1
 have HWR:=Y08 (show wayR n E (q+1)=E.foldl (wayS n) (wayR n E q) from rfl)
 generalize wayR n E q=way at *
 go_wp2_with fail
 generalize wr=wo at *
 go_loopw [5] (fun i wr=>∃ j:Nat,i=.int .i64 j∧j≤E.length∧J08 (Kd.bool.R 4 wr w1.heap.size (fun _=>True) (.slice (some ⟨g,0,none⟩) m cw) ((E.take j).foldl (wayS n) way)∧Below w1.heap.size w1 wr)) (fun i _=>E.length - (intOf i).toNat)
 case atStart=>exact ⟨0,rfl,Nat.zero_le _,⟨by simpa using hX.out.1,hX.out.2⟩⟩
 obtain ⟨j,rfl,hj,hY⟩:=hrel
 clear hX g0
 have g0:=J00 hY.out.2 HG.out.1
 have g2:=J00 hY.out.2 HG.out.2
 by_cases hjt:j<E.length
 rotate_left
 ·have hjE:¬ ((j:Int)<E.length):=by omega
  have HR:=Y00 (show Kd.bool.R 4 wr w1.heap.size (fun _=>True) (.slice (some ⟨g,0,none⟩) m cw) (wayR n E (q+1))∧Below w1.heap.size w1 wr from ⟨by rw [HWR.out];have h:=hY.out.1;rwa [Y0t (by omega)] at h,hY.out.2⟩)
  go_wp2_with fail
  exact ⟨⟨q+1,by go_num,by omega,HR⟩,by simp [intOf];omega⟩
 have hjE:(j:Int)<E.length:=by omega
 have hj0:(0:Int)≤j:=by omega
 obtain ⟨ad,sA,sC,rfl,he0,he1,he2,heL,heC⟩:=J8e (Kd.c00 HE.out (J01 HB1.out.1 HB1.out.1.size hY.out.2)) hjt
 have HEJ:=Y08 (show (E.take (j+1)).foldl (wayS n) way=wayS n ((E.take j).foldl (wayS n) way) E[j] from J1m (wayS n) way E hjt)
 have HJ:=Y08 (Y07 (HOK.out.1 _ (Y0l hjt)) (HOK.out.2 _ (Y0l hjt)))
 generalize E[j]=ee at *
 generalize (E.take j).foldl (wayS n) way=wy at *
 obtain ⟨a,b,add⟩:=ee
 obtain ⟨f,rfl⟩:∃ f:Nat,a=f:=⟨a.toNat,(Y0k HJ.out.2.1.1).symm⟩
 obtain ⟨t,rfl⟩:∃ t:Nat,b=t:=⟨b.toNat,(Y0k HJ.out.2.2.1).symm⟩
 have hfn:f<n:=by have:=HJ.out.2.1.2;simpa using this
 have htn:t<n:=by have:=HJ.out.2.2.2;simpa using this
 have HEG:=Y08 (J75 HJ.out.1)
 have HXC:=Y00 heL
 clear heC heL
 simp only at he0 he1 he2 HEG HXC
 go_upto_region 9 with fail
 obtain ⟨be,hbe⟩:∃ be,be=wr.heap.size:=⟨_,rfl⟩
 have HX:=Y00 (show Kd.bool.R 4 (wr.alloc (.cells #[.int .i64 (f:Int),.int .i64 (t:Int),.slice sA add.length sC] 129)) w1.heap.size (fun _=>True) (.slice (some ⟨g,0,none⟩) m cw) wy∧Below w1.heap.size w1 (wr.alloc (.cells #[.int .i64 (f:Int),.int .i64 (t:Int),.slice sA add.length sC] 129))∧(wr.alloc (.cells #[.int .i64 (f:Int),.int .i64 (t:Int),.slice sA add.length sC] 129)).heap[be]?=some (.cells #[.int .i64 (f:Int),.int .i64 (t:Int),.slice sA add.length sC] 129 (0,0))∧be≠g∧kI.C (wr.alloc (.cells #[.int .i64 (f:Int),.int .i64 (t:Int),.slice sA add.length sC] 129)) sA add.length add from ⟨Kd.c01 hY.out.1 (J02 wr _),J01 hY.out.2 hY.out.2.size (J02 wr _),by rw [hbe];exact Y0c wr _,by rw [hbe];exact fun he=>Jr1 hY.out.1 he,Kd.c00 HXC.out (J02 wr _)⟩)
 rw [← hbe]
 generalize wr.alloc (.cells #[.int .i64 (f:Int),.int .i64 (t:Int),.slice sA add.length sC] 129)=w3 at *
 clear hbe hY he0 he1 he2 HXC g0 g2
 have g0:=J00 HX.out.2.1 HG.out.1
 obtain ⟨e0,e1,e2⟩:=bc3 HX.out.2.2.1
 go_wp2_with fail
 refine (Jpx sA sC add _ HX.out.2.2.2.2 (fun x hx=>by have:=HEG.out.2 x hx;omega) (by have:=HEG.out.1;omega)).mono ?_
 rintro e w' ⟨rfl,rfl⟩
 by_cases hs:0<add.sum
 ·have HST:=Y08 (show wayS n wy ((f:Int),(t:Int),add)=wy from by rw [wayS,if_pos hs])
  have HR:=Y00 (Y07 HX.out.1 HX.out.2.1)
  clear HX
  go_wp2_with fail
  exact ⟨⟨j+1,by go_num,by omega,⟨by rw [HEJ.out,HST.out];exact HR.out.1,HR.out.2⟩⟩,by simp [intOf];omega⟩
 have HST:=Y08 (show wayS n wy ((f:Int),(t:Int),add)=(List.range n).foldl (colS n f t) (wy.set (f*n+t) true) from by rw [wayS,if_neg hs];simp)
 have hsd:decide (0<add.sum)=false:=Y0s hs
 skip
 obtain ⟨x,y,hw1,hw2,hy,hyn⟩:=Jou hn8 hfn htn
 have hy2:y<m:=by rw [HMD.out];exact hyn
 have hym:(y:Int)<(m:Int):=Int.ofNat_lt.2 hy2
 have hy0:(0:Int)≤(y:Int):=Int.natCast_nonneg y
 have HY:=Y08 hy
 clear hy hyn
 obtain ⟨z,zf,hR,hg⟩:=J99 HX.out.1 (k:=y) hy2 true
 have HP:=Y00 (Y07 hR hg)
 clear hR hg
 go_upto_region 11 with fail
 have HX2:=Y00 (show Kd.bool.R 4 (w3.setCell ⟨g,y,none⟩ (.bool true)) w1.heap.size (fun _=>True) (.slice (some ⟨g,0,none⟩) m cw) (wy.set y true)∧Below w1.heap.size w1 (w3.setCell ⟨g,y,none⟩ (.bool true))∧(w3.setCell ⟨g,y,none⟩ (.bool true)).heap[be]?=some (.cells #[.int .i64 (f:Int),.int .i64 (t:Int),.slice sA add.length sC] 129 (0,0)) from ⟨HP.out.1,HX.out.2.1.setCell (p:=⟨g,y,none⟩) HGE.out _,(HP.out.2.block be (J0q HX.out.2.2.1) (fun he=>HX.out.2.2.2.1 (by injection he))).trans HX.out.2.2.1⟩)
 have HBG:=Y08 HX.out.2.2.2.1
 clear HX HP z zf g0 e0 e1 e2 hw1 hw2 hym hy0 hy2
 generalize w3.setCell ⟨g,y,none⟩ (.bool true)=w4 at *
 have HST2:=Y08 (show wayS n wy ((f:Int),(t:Int),add)=(List.range n).foldl (colS n f t) (wy.set y true) from by rw [HY.out];exact HST.out)
 clear HST
 generalize wy.set y true=wz at *
 go_wp2_with fail
 go_loopw [7] (fun i wr=>∃ k:Nat,i=.int .i64 k∧k≤n∧J08 (Kd.bool.R 4 wr w1.heap.size (fun _=>True) (.slice (some ⟨g,0,none⟩) m cw) ((List.range k).foldl (colS n f t) wz)∧Below w1.heap.size w1 wr∧wr.heap[be]?=some (.cells #[.int .i64 (f:Int),.int .i64 (t:Int),.slice sA add.length sC] 129 (0,0)))) (fun i _=>n - (intOf i).toNat)
 case atStart=>exact ⟨0,rfl,Nat.zero_le _,HX2⟩
 clear HX2
 obtain ⟨k,rfl,hk,hV⟩:=hrel
 have g0:=J00 hV.out.2.1 HG.out.1
 obtain ⟨e0,e1,e2⟩:=bc3 hV.out.2.2
 clear e2
 by_cases hkt:k<n
 rotate_left
 ·have hkE:¬ ((k:Int)<n):=by omega
  have HR:=Y00 (show Kd.bool.R 4 wr w1.heap.size (fun _=>True) (.slice (some ⟨g,0,none⟩) m cw) ((E.take (j+1)).foldl (wayS n) way)∧Below w1.heap.size w1 wr from ⟨by rw [HEJ.out,HST2.out];have h:=hV.out.1;rwa [show k=n by omega] at h,hV.out.2.1⟩)
  go_wp2_with fail
  exact ⟨⟨j+1,by go_num,by omega,HR⟩,by simp [intOf];omega⟩
 have hkE:(k:Int)<n:=by omega
 have HC:=Y08 (show (List.range (k+1)).foldl (colS n f t) wz=colS n f t ((List.range k).foldl (colS n f t) wz) k from by rw [List.range_succ,List.foldl_append];rfl)
 generalize (List.range k).foldl (colS n f t) wz=wc at *
 obtain ⟨x,y,hw1,hw2,hy,hyn⟩:=Jou hn8 hkt htn
 obtain ⟨x',v,hv1,hv2,hv,hvn⟩:=Jou hn8 hkt hfn
 have hxx:x'=x:=Int.ofNat.inj (hv1.symm.trans hw1)
 subst hxx
 have HW1:=Y08 hw1
 have HW2:=Y08 hw2
 have HW3:=Y08 hv2
 have hy2:y<m:=by rw [HMD.out];exact hyn
 have hv3:v<m:=by rw [HMD.out];exact hvn
 have hym:(y:Int)<(m:Int):=Int.ofNat_lt.2 hy2
 have hy0:(0:Int)≤(y:Int):=Int.natCast_nonneg y
 have hvm:(v:Int)<(m:Int):=Int.ofNat_lt.2 hv3
 have hv0:(0:Int)≤(v:Int):=Int.natCast_nonneg v
 have HCS:=Y08 (show colS n f t wc k=wc.set y (wc.getD y false || wc.getD v false) from by rw [colS,hy,hv])
 clear hy hv hyn hvn hw1 hw2 hv1 hv2
 obtain ⟨z1,zf,-,-⟩:=J99 hV.out.1 (k:=y) hy2 true
 obtain ⟨z2,-,-,-⟩:=J99 hV.out.1 (k:=v) hv3 true
 obtain ⟨aa,haa⟩:∃ aa,wc.getD y false=aa:=⟨_,rfl⟩
 obtain ⟨cc,hcc⟩:∃ cc,wc.getD v false=cc:=⟨_,rfl⟩
 rw [haa] at z1
 rw [hcc] at z2
 have HCS:=Y08 (show colS n f t wc k=wc.set y (aa || cc) from by rw [HCS.out,haa,hcc])
 clear haa hcc
 go_upto_region 14 with fail
 refine sr1 32 (fun V=>V.cell? ⟨w.heap.size,0,none⟩=some (.int .i64 (n:Int))∧V.cell? ⟨be,0,none⟩=some (.int .i64 (f:Int))∧V.cell? ⟨be,1,none⟩=some (.int .i64 (t:Int))∧V.cell? ⟨g,y,none⟩=some (.bool aa)∧V.cell? ⟨g,v,none⟩=some (.bool cc)) [31] ⟨g0,e0,e1,z1,z2⟩ fun hJ0=>?_
 have HV:=Y00 (show Kd.bool.R 4 wr.drew w1.heap.size (fun _=>True) (.slice (some ⟨g,0,none⟩) m cw) wc∧Below w1.heap.size w1 wr.drew∧wr.drew.heap[be]?=some (.cells #[.int .i64 (f:Int),.int .i64 (t:Int),.slice sA add.length sC] 129 (0,0)) from ⟨Kd.c01 hV.out.1 (J05 (Y0f _ _)),J05 hV.out.2.1,J04 hV.out.2.2 (J05 (Y0f _ _))⟩)
 clear z1 z2 zf g0 e0 e1 hV
 generalize wr.drew=wd at *
 have HPUT:=fun b=>Y08 (J99 HV.out.1 (k:=y) hy2 b)
 refine pv 0 ?_
 refine pv 1 ?_
 refine pv 2 ?_
 refine tv5 3 ?_
 refine pv 4 ?_
 simp only [Jc3]
 rw [HW1.out]
 refine pv 5 ?_
 refine tv5 6 ?_
 refine pv 7 ?_
 simp only [Jc3]
 rw [HW2.out]
 refine pv 8 ?_
 refine pv 9 ?_
 refine pv 10 ?_
 refine tv5 11 ?_
 refine pv 12 ?_
 simp only [Jc3]
 rw [HW1.out]
 refine pv 13 ?_
 refine tv5 14 ?_
 refine pv 15 ?_
 simp only [Jc3]
 rw [HW2.out]
 refine pv 16 ?_
 refine tv5 17 ?_
 refine pv 18 ?_
 cases aa with
 | true =>
  refine uv 19 ?_
  refine uv 20 ?_
  refine uv 21 ?_
  refine uv 22 ?_
  refine uv 23 ?_
  refine uv 24 ?_
  refine uv 25 ?_
  refine uv 26 ?_
  refine uv 27 ?_
  refine uv 28 ?_
  refine pv 29 ?_
  refine pv 30 ?_
  obtain ⟨z1,zf,hR,hg⟩:=(HPUT (true)).out
  have HN:=Y00 (Y07 hR hg)
  clear hR hg
  refine la0 31 (bs 32 4294967295) (N:=none) fun K hK=>?_
  refine sk0 ?_
  refine hK.out _ _ ?_
  clear hK K hJ0
  refine dn0 ?_
  have HR:=Y00 (show Kd.bool.R 4 (wd.setCell ⟨g,y,none⟩ (.bool (true))) w1.heap.size (fun _=>True) (.slice (some ⟨g,0,none⟩) m cw) ((List.range (k+1)).foldl (colS n f t) wz)∧Below w1.heap.size w1 (wd.setCell ⟨g,y,none⟩ (.bool (true)))∧(wd.setCell ⟨g,y,none⟩ (.bool (true))).heap[be]?=some (.cells #[.int .i64 (f:Int),.int .i64 (t:Int),.slice sA add.length sC] 129 (0,0)) from ⟨by rw [HC.out,HCS.out];exact HN.out.1,HV.out.2.1.setCell (p:=⟨g,y,none⟩) HGE.out _,(HN.out.2.block be (J0q HV.out.2.2) (fun he=>HBG.out (by injection he))).trans HV.out.2.2⟩)
  clear z1 zf HN
  go_wp2_with fail
  exact ⟨⟨k+1,by go_num,by omega,HR⟩,by simp [intOf];omega⟩
 | false=>?_
 refine pv 19 ?_
 refine pv 20 ?_
 refine pv 21 ?_
 refine tv5 22 ?_
 refine pv 23 ?_
 simp only [Jc3]
 rw [HW1.out]
 refine pv 24 ?_
 refine tv5 25 ?_
 refine pv 26 ?_
 simp only [Jc3]
 rw [HW3.out]
 refine pv 27 ?_
 refine tv5 28 ?_
 refine pv 29 ?_
 refine pv 30 ?_
 obtain ⟨z1,zf,hR,hg⟩:=(HPUT (cc)).out
 have HN:=Y00 (Y07 hR hg)
 clear hR hg
 refine la0 31 (bs 32 4294967295) (N:=none) fun K hK=>?_
 refine sk0 ?_
 refine hK.out _ _ ?_
 clear hK K hJ0
 refine dn0 ?_
 have HR:=Y00 (show Kd.bool.R 4 (wd.setCell ⟨g,y,none⟩ (.bool (cc))) w1.heap.size (fun _=>True) (.slice (some ⟨g,0,none⟩) m cw) ((List.range (k+1)).foldl (colS n f t) wz)∧Below w1.heap.size w1 (wd.setCell ⟨g,y,none⟩ (.bool (cc)))∧(wd.setCell ⟨g,y,none⟩ (.bool (cc))).heap[be]?=some (.cells #[.int .i64 (f:Int),.int .i64 (t:Int),.slice sA add.length sC] 129 (0,0)) from ⟨by rw [HC.out,HCS.out];exact HN.out.1,HV.out.2.1.setCell (p:=⟨g,y,none⟩) HGE.out _,(HN.out.2.block be (J0q HV.out.2.2) (fun he=>HBG.out (by injection he))).trans HV.out.2.2⟩)
 clear z1 zf HN
 go_wp2_with fail
 exact ⟨⟨k+1,by go_num,by omega,HR⟩,by simp [intOf];omega⟩
namespace Mdl
theorem Jev {N Wd:Int} {E:List Ed} (h:¬ J7x N Wd E.length):J3a N Wd E=false:=by unfold J3a;rw [Y0s h];rfl
theorem Jc6 {N Wd:Int} {E:List Ed} {e:Ed} (he:e ∈ E) (h:J1l N Wd e=false):J3a N Wd E=false:=by
 unfold J3a
 rw [show E.all (J1l N Wd)=false from List.all_eq_false.2 ⟨e,he,by rw [h];simp⟩];simp
theorem Jau (a N:Int):J3y a 0 (N - 1)=decide (0≤a∧a<N):=by rw [Bool.eq_iff_iff,J22,Y0y];omega
theorem Jib {N Wd:Int} (e:Ed) (_:1≤N):J1l N Wd e=(J3y e.1 0 (N - 1)&&(J3y e.2.1 0 (N - 1)&&J9o e.2.2 Wd 100)):=by unfold J1l;rw [Jau,Jau,Ja9]
theorem Jks {N wk:Int} (Wd:Int) (m:Msg) (_:1≤N) (_:1≤wk):J3g N Wd wk m=(J3y m.1.1 0 (N - 1)&&(J9o m.1.2 Wd 1048576&&J3y m.2 0 (wk - 1))):=by
 unfold J3g
 rw [Jau,Jau,Ja9,show decide (0≤m.2∧m.2<wk)=(decide (0≤m.2)&&decide (m.2<wk)) from by simp [Bool.decide_and],Bool.and_assoc]
theorem Jl4 {N Wd:Int} {E:List Ed} (h:J3a N Wd E=true):1≤N∧N≤8∧1≤Wd∧Wd≤3:=by
 unfold J3a at h
 rw [Y0x,Y0y] at h
 exact ⟨h.1.1,h.1.2.1,h.1.2.2.1,h.1.2.2.2.1⟩
theorem J5r {p:Plan} (h:J3a p.N p.Wd p.E=false∨¬ Ja7 p.workers p.start.length∨∃ m ∈ p.start,J3g p.N p.Wd p.workers m=false):checkP p=1:=by
 have hn:J0t p=none:=by
  unfold J0t
  cases ho:openedP p.N p.Wd p.E with
  | none=>rfl
  | some ways=>?_
  simp only
  rw [if_neg]
  rintro ⟨h1,h2⟩
  rcases h with h | h | ⟨m,hm,h⟩
  ·rw [Jdq.2 h] at ho;cases ho
  ·exact h h1
  rw [List.all_eq_true.1 h2 m hm] at h;cases h
 unfold checkP;rw [hn]
theorem Jlj {p:Plan} (hg:J3a p.N p.Wd p.E=true) (hr:Ja7 p.workers p.start.length) (hm:∀ m ∈ p.start,J3g p.N p.Wd p.workers m=true):checkP p=0:=by
 have hn:∃ ways,J0t p=some ways:=by
  unfold J0t
  cases ho:openedP p.N p.Wd p.E with
  | some ways=>exact ⟨ways,by simp only;rw [if_pos ⟨hr,List.all_eq_true.2 hm⟩]⟩
  | none=>rw [Jdq.1 ho] at hg;cases hg
 obtain ⟨ways,hn⟩:=hn
 unfold checkP;rw [hn]
end Mdl
theorem J50 (N Wd:Int) (E:List Ed) (eA:Option Addr) (eC:Nat) (w:World) (hE:kE.C w eA E.length E) :
  Calls Tryz.prog 34 #[.agg #[.int .i64 N,.int .i64 Wd,.slice eA E.length eC]] w fun e w'=>e=.returned (.bool (J3a N Wd E))∧Below w.heap.size w w':=by
 have HE:=Y00 hE
 have hEm:=Kd.C_max hE
 clear hE
 have hzb:=J02 w (.cells #[.int .i64 N,.int .i64 Wd,.slice eA E.length eC] 24)
 have hgb:=Y0c w (.cells #[.int .i64 N,.int .i64 Wd,.slice eA E.length eC] 24)
 cases h1:J3y N 1 8 with
 | false =>
  have HF:=Y08 (show J3a N Wd E=false from Jev (fun hh=>by have:=(J22 (n:=N) (low:=1) (high:=8)).2 ⟨hh.1,hh.2.1⟩;rw [h1] at this;cases this))
  go_enter Tryz.func34,Tryz.ntmps34
  go_upto_region 1 with fail
  obtain ⟨g0,g1,g2⟩:=bc3 hgb
  have HB1:=Y00 (Y07 hzb hgb)
  generalize w.alloc (.cells #[.int .i64 N,.int .i64 Wd,.slice eA E.length eC] 24)=w1 at *
  clear hzb hgb
  go_wp2_with fail
  refine (J14 N 1 8 w1).mono ?_
  rintro e w' ⟨rfl,rfl⟩
  rw [h1]
  go_wp2_with fail
  go_ret
  exact ⟨by rw [HF.out];rfl,HB1.out.1⟩
 | true=>?_
 have HN:=Y08 (J22.1 h1)
 cases h2:J3y Wd 1 3 with
 | false =>
  have HF:=Y08 (show J3a N Wd E=false from Jev (fun hh=>by have:=(J22 (n:=Wd) (low:=1) (high:=3)).2 ⟨hh.2.2.1,hh.2.2.2.1⟩;rw [h2] at this;cases this))
  go_enter Tryz.func34,Tryz.ntmps34
  go_upto_region 1 with fail
  obtain ⟨g0,g1,g2⟩:=bc3 hgb
  have HB1:=Y00 (Y07 hzb hgb)
  generalize w.alloc (.cells #[.int .i64 N,.int .i64 Wd,.slice eA E.length eC] 24)=w1 at *
  clear hzb hgb
  go_wp2_with fail
  refine (J14 N 1 8 w1).mono ?_
  rintro e w' ⟨rfl,rfl⟩
  rw [h1]
  go_wp2_with fail
  refine (J14 Wd 1 3 w1).mono ?_
  rintro e w' ⟨rfl,rfl⟩
  rw [h2]
  go_wp2_with fail
  go_ret
  exact ⟨by rw [HF.out];rfl,HB1.out.1⟩
 | true=>?_
 have HWD:=Y08 (J22.1 h2)
 by_cases h3:(16:Int)<E.length
 ·have HF:=Y08 (show J3a N Wd E=false from Jev (fun hh=>by have:=hh.2.2.2.2;omega))
  go_enter Tryz.func34,Tryz.ntmps34
  go_upto_region 1 with fail
  obtain ⟨g0,g1,g2⟩:=bc3 hgb
  have HB1:=Y00 (Y07 hzb hgb)
  generalize w.alloc (.cells #[.int .i64 N,.int .i64 Wd,.slice eA E.length eC] 24)=w1 at *
  clear hzb hgb
  go_wp2_with fail
  refine (J14 N 1 8 w1).mono ?_
  rintro e w' ⟨rfl,rfl⟩
  rw [h1]
  go_wp2_with fail
  refine (J14 Wd 1 3 w1).mono ?_
  rintro e w' ⟨rfl,rfl⟩
  rw [h2]
  go_wp2_with fail
  go_ret
  exact ⟨by rw [HF.out];rfl,HB1.out.1⟩
 have HH:=Y08 (show J7x N Wd E.length from ⟨HN.out.1,HN.out.2,HWD.out.1,HWD.out.2,by omega⟩)
 have h3d:decide ((16:Int)<E.length)=false:=Y0s h3
 go_enter Tryz.func34,Tryz.ntmps34
 go_upto_region 1 with fail
 obtain ⟨g0,g1,g2⟩:=bc3 hgb
 have HB1:=Y00 (Y07 hzb hgb)
 generalize w.alloc (.cells #[.int .i64 N,.int .i64 Wd,.slice eA E.length eC] 24)=w1 at *
 clear hzb hgb
 go_wp2_with fail
 refine (J14 N 1 8 w1).mono ?_
 rintro e w' ⟨rfl,rfl⟩
 rw [h1]
 go_wp2_with fail
 refine (J14 Wd 1 3 w1).mono ?_
 rintro e w' ⟨rfl,rfl⟩
 rw [h2]
 go_wp2_with fail
 have HGC:=Y08 (Y07 g0 (Y07 g1 g2))
 have HN1:=Y08 (show wrap64 (N - 1)=N - 1 by have:=HN.out;rw [J2u,J25 (by omega) (by omega)])
 clear h1 h2 h3 h3d
 go_loopw [3] (fun i wr=>∃ k:Nat,i=.int .i64 k∧k≤E.length∧J08 (Below w1.heap.size w1 wr∧∀ e ∈ E.take k,J1l N Wd e=true)) (fun i _=>E.length - (intOf i).toNat)
 case atStart=>exact ⟨0,rfl,Nat.zero_le _,⟨Y0f _ _,by simp⟩⟩
 obtain ⟨k,rfl,hk,hX⟩:=hrel
 clear g0 g1 g2
 have g2:=J00 hX.out.1 HGC.out.2.2
 by_cases hkt:k<E.length
 rotate_left
 ·have hkE:¬ ((k:Int)<E.length):=by omega
  have HA:=Y08 (show ∀ e ∈ E,J1l N Wd e=true from by have h:=hX.out.2;rwa [Y0t (by omega)] at h)
  have g0:=J00 hX.out.1 HGC.out.1
  have g1:=J00 hX.out.1 HGC.out.2.1
  obtain ⟨n,rfl⟩:∃ n:Nat,N=n:=⟨N.toNat,(Y0k (by have:=HN.out;omega)).symm⟩
  have HC:=Y08 (show J3a n Wd E=!J98 n E by unfold J3a;rw [Y0r HH.out,List.all_eq_true.2 HA.out,Y06];rfl)
  have HXX:=Y00 hX.out.1
  clear hX
  go_wp2_with fail
  refine (Jfr n Wd E eA eC wr (Kd.c00 HE.out (J01 HB1.out.1 HB1.out.1.size HXX.out)) (by have:=HN.out;omega) (by have:=HN.out;omega) HWD.out.2 HA.out (fun e he=>by have:=J3k HA.out HWD.out.2 e he;omega)).mono ?_
  rintro e w9 ⟨rfl,hb9⟩
  have HB9:=Y00 (J01 (J01 HB1.out.1 HB1.out.1.size HXX.out) (J01 HB1.out.1 HB1.out.1.size HXX.out).size hb9)
  clear hb9 g0 g1 g2
  go_wp2_with fail
  go_ret
  exact ⟨by rw [HC.out];simp,HB9.out⟩
 have hkE:(k:Int)<E.length:=by omega
 have hk0:(0:Int)≤k:=by omega
 obtain ⟨ad,sA,sC,rfl,he0,he1,he2,heL,heC⟩:=J8e (Kd.c00 HE.out (J01 HB1.out.1 HB1.out.1.size hX.out.1)) hkt
 have HK:=Y08 (Y07 (Y0u hkt) (Y0l hkt))
 generalize E[k]=ee at *
 have HOK:=Y08 (Jib (Wd:=Wd) ee HN.out.1)
 go_upto_region 7 with fail
 have HX:=Y00 (Y07 (J01 hX.out.1 hX.out.1.size (J02 wr (.cells #[.int .i64 ee.1,.int .i64 ee.2.1,.slice sA ee.2.2.length sC] 129))) (Y07 (Y0c wr (.cells #[.int .i64 ee.1,.int .i64 ee.2.1,.slice sA ee.2.2.length sC] 129)) (Y07 (Kd.c00 heL (J02 wr (.cells #[.int .i64 ee.1,.int .i64 ee.2.1,.slice sA ee.2.2.length sC] 129))) hX.out.2)))
 clear hX he0 he1 he2 heC heL g2
 generalize wr.alloc (.cells #[.int .i64 ee.1,.int .i64 ee.2.1,.slice sA ee.2.2.length sC] 129)=w2 at *
 generalize wr.heap.size=be at *
 have g0:=J00 HX.out.1 HGC.out.1
 have g1:=J00 HX.out.1 HGC.out.2.1
 obtain ⟨e0,e1,e2⟩:=bc3 HX.out.2.1
 have hN1:=HN1.out
 cases a1:J3y ee.1 0 (N - 1) with
 | false =>
  go_wp2_with fail
  refine (J14 ee.1 0 (N - 1) w2).mono ?_
  rintro e w' ⟨rfl,rfl⟩
  rw [a1]
  have HF:=Y08 (show J3a N Wd E=false from Jc6 HK.out.2 (by rw [HOK.out];rw [a1];rfl))
  go_wp2_with fail
  go_ret
  exact ⟨by rw [HF.out];rfl,J01 HB1.out.1 HB1.out.1.size HX.out.1⟩
 | true=>?_
 cases a2:J3y ee.2.1 0 (N - 1) with
 | false =>
  go_wp2_with fail
  refine (J14 ee.1 0 (N - 1) w2).mono ?_
  rintro e w' ⟨rfl,rfl⟩
  rw [a1]
  go_wp2_with fail
  refine (J14 ee.2.1 0 (N - 1) w2).mono ?_
  rintro e w' ⟨rfl,rfl⟩
  rw [a2]
  have HF:=Y08 (show J3a N Wd E=false from Jc6 HK.out.2 (by rw [HOK.out];rw [a1,a2];rfl))
  go_wp2_with fail
  go_ret
  exact ⟨by rw [HF.out];rfl,J01 HB1.out.1 HB1.out.1.size HX.out.1⟩
 | true=>?_
 cases a3:J9o ee.2.2 Wd 100 with
 | false =>
  go_wp2_with fail
  refine (J14 ee.1 0 (N - 1) w2).mono ?_
  rintro e w' ⟨rfl,rfl⟩
  rw [a1]
  go_wp2_with fail
  refine (J14 ee.2.1 0 (N - 1) w2).mono ?_
  rintro e w' ⟨rfl,rfl⟩
  rw [a2]
  go_wp2_with fail
  refine (J3x sA sC ee.2.2 Wd 100 w2 HX.out.2.2.1).mono ?_
  rintro e w' ⟨rfl,rfl⟩
  rw [a3]
  have HF:=Y08 (show J3a N Wd E=false from Jc6 HK.out.2 (by rw [HOK.out];rw [a1,a2,a3];rfl))
  go_wp2_with fail
  go_ret
  exact ⟨by rw [HF.out];rfl,J01 HB1.out.1 HB1.out.1.size HX.out.1⟩
 | true=>?_
 go_wp2_with fail
 refine (J14 ee.1 0 (N - 1) w2).mono ?_
 rintro e w' ⟨rfl,rfl⟩
 rw [a1]
 go_wp2_with fail
 refine (J14 ee.2.1 0 (N - 1) w2).mono ?_
 rintro e w' ⟨rfl,rfl⟩
 rw [a2]
 go_wp2_with fail
 refine (J3x sA sC ee.2.2 Wd 100 w2 HX.out.2.2.1).mono ?_
 rintro e w' ⟨rfl,rfl⟩
 rw [a3]
 have HEO:=Y08 (show J1l N Wd ee=true by rw [HOK.out,a1,a2,a3];rfl)
 have HR:=Y00 (show Below w1.heap.size w1 w2∧∀ e ∈ E.take (k+1),J1l N Wd e=true from ⟨HX.out.1,fun e he=>by rw [HK.out.1] at he;rcases Y0m.1 he with he | he;exact HX.out.2.2.2 e he;rw [Y11.1 he];exact HEO.out⟩)
 go_wp2_with fail
 clear hN1
 exact ⟨⟨k+1,by go_num,by omega,HR⟩,by simp [intOf];omega⟩
theorem Jkk (p:Plan) (eA mA:Option Addr) (eC mC:Nat) (w:World) (hp:J1v w p eA mA) :
  Calls Tryz.prog 9 #[J1q p eA eC mA mC] w fun e w'=>e=.returned (.int .i64 (checkP p))∧Below w.heap.size w w':=by
 have HP:=Y00 hp
 have hmm:=Kd.C_max hp.hS
 clear hp
 have hzb:=J02 w (.cells (pC p eA mA eC mC) 27)
 have hgb:=Y0c w (.cells (pC p eA mA eC mC) 27)
 simp only [J1q]
 cases hG:J3a p.N p.Wd p.E with
 | false =>
  have HF:=Y08 (show checkP p=1 from J5r (.inl hG))
  go_enter Tryz.func9,Tryz.ntmps9
  go_upto_region 1 with fail
  obtain ⟨g0,g1,g2,g3,g4⟩:=bc5 hgb
  have HB1:=Y00 (Y07 hzb hgb)
  generalize w.alloc (.cells (pC p eA mA eC mC) 27)=w1 at *
  clear hzb hgb
  go_wp2_with fail
  refine (J50 p.N p.Wd p.E eA eC w1 (Kd.c00 HP.out.hE HB1.out.1)).mono ?_
  rintro e w2 ⟨rfl,hb2⟩
  rw [hG]
  replace g0:=J00 hb2 g0
  replace g1:=J00 hb2 g1
  replace g2:=J00 hb2 g2
  replace g3:=J00 hb2 g3
  replace g4:=J00 hb2 g4
  have HB2:=Y00 (Y07 (J01 HB1.out.1 HB1.out.1.size hb2) (J04 HB1.out.2 hb2))
  clear hb2 HB1
  go_wp2_with fail
  go_ret
  exact ⟨by rw [HF.out];rfl,HB2.out.1⟩
 | true=>?_
 have HN:=Y08 (Jl4 hG)
 cases h2:J3y p.workers 1 4 with
 | false =>
  have HF:=Y08 (show checkP p=1 from J5r (.inr (.inl (fun hh=>by have:=(J22 (n:=p.workers) (low:=1) (high:=4)).2 ⟨hh.1,hh.2.1⟩;rw [h2] at this;cases this))))
  go_enter Tryz.func9,Tryz.ntmps9
  go_upto_region 1 with fail
  obtain ⟨g0,g1,g2,g3,g4⟩:=bc5 hgb
  have HB1:=Y00 (Y07 hzb hgb)
  generalize w.alloc (.cells (pC p eA mA eC mC) 27)=w1 at *
  clear hzb hgb
  go_wp2_with fail
  refine (J50 p.N p.Wd p.E eA eC w1 (Kd.c00 HP.out.hE HB1.out.1)).mono ?_
  rintro e w2 ⟨rfl,hb2⟩
  rw [hG]
  replace g0:=J00 hb2 g0
  replace g1:=J00 hb2 g1
  replace g2:=J00 hb2 g2
  replace g3:=J00 hb2 g3
  replace g4:=J00 hb2 g4
  have HB2:=Y00 (Y07 (J01 HB1.out.1 HB1.out.1.size hb2) (J04 HB1.out.2 hb2))
  clear hb2 HB1
  go_wp2_with fail
  refine (J14 p.workers 1 4 w2).mono ?_
  rintro e w' ⟨rfl,rfl⟩
  rw [h2]
  go_wp2_with fail
  go_ret
  exact ⟨by rw [HF.out];rfl,HB2.out.1⟩
 | true=>?_
 have HWK:=Y08 (J22.1 h2)
 by_cases h3:(8:Int)<p.start.length
 ·have HF:=Y08 (show checkP p=1 from J5r (.inr (.inl (fun hh=>by have:=hh.2.2;omega))))
  go_enter Tryz.func9,Tryz.ntmps9
  go_upto_region 1 with fail
  obtain ⟨g0,g1,g2,g3,g4⟩:=bc5 hgb
  have HB1:=Y00 (Y07 hzb hgb)
  generalize w.alloc (.cells (pC p eA mA eC mC) 27)=w1 at *
  clear hzb hgb
  go_wp2_with fail
  refine (J50 p.N p.Wd p.E eA eC w1 (Kd.c00 HP.out.hE HB1.out.1)).mono ?_
  rintro e w2 ⟨rfl,hb2⟩
  rw [hG]
  replace g0:=J00 hb2 g0
  replace g1:=J00 hb2 g1
  replace g2:=J00 hb2 g2
  replace g3:=J00 hb2 g3
  replace g4:=J00 hb2 g4
  have HB2:=Y00 (Y07 (J01 HB1.out.1 HB1.out.1.size hb2) (J04 HB1.out.2 hb2))
  clear hb2 HB1
  go_wp2_with fail
  refine (J14 p.workers 1 4 w2).mono ?_
  rintro e w' ⟨rfl,rfl⟩
  rw [h2]
  go_wp2_with fail
  go_ret
  exact ⟨by rw [HF.out];rfl,HB2.out.1⟩
 have HH:=Y08 (show Ja7 p.workers p.start.length from ⟨HWK.out.1,HWK.out.2,by omega⟩)
 have h3d:decide ((8:Int)<p.start.length)=false:=Y0s h3
 have HGG:=Y08 hG
 go_enter Tryz.func9,Tryz.ntmps9
 go_upto_region 1 with fail
 obtain ⟨g0,g1,g2,g3,g4⟩:=bc5 hgb
 have HB1:=Y00 (Y07 hzb hgb)
 generalize w.alloc (.cells (pC p eA mA eC mC) 27)=w1 at *
 clear hzb hgb
 go_wp2_with fail
 refine (J50 p.N p.Wd p.E eA eC w1 (Kd.c00 HP.out.hE HB1.out.1)).mono ?_
 rintro e w2 ⟨rfl,hb2⟩
 rw [hG]
 replace g0:=J00 hb2 g0
 replace g1:=J00 hb2 g1
 replace g2:=J00 hb2 g2
 replace g3:=J00 hb2 g3
 replace g4:=J00 hb2 g4
 have HB2:=Y00 (Y07 (J01 HB1.out.1 HB1.out.1.size hb2) (J04 HB1.out.2 hb2))
 clear hb2 HB1
 go_wp2_with fail
 refine (J14 p.workers 1 4 w2).mono ?_
 rintro e w' ⟨rfl,rfl⟩
 rw [h2]
 go_wp2_with fail
 have HGC:=Y08 (Y07 g0 (Y07 g1 (Y07 g2 (Y07 g3 g4))))
 clear g0 g1 g2 g3 g4 hG h2 h3 h3d
 have HN1:=Y08 (show wrap64 (p.N - 1)=p.N - 1 by have:=HN.out;rw [J2u,J25 (by omega) (by omega)])
 have HK1:=Y08 (show wrap64 (p.workers - 1)=p.workers - 1 by have:=HWK.out;rw [J2u,J25 (by omega) (by omega)])
 go_loopw [3] (fun i wr=>∃ k:Nat,i=.int .i64 k∧k≤p.start.length∧J08 (Below w2.heap.size w2 wr∧∀ m ∈ p.start.take k,J3g p.N p.Wd p.workers m=true)) (fun i _=>p.start.length - (intOf i).toNat)
 case atStart=>exact ⟨0,rfl,Nat.zero_le _,⟨Y0f _ _,by simp⟩⟩
 obtain ⟨k,rfl,hk,hX⟩:=hrel
 have g4:=J00 hX.out.1 HGC.out.2.2.2.2
 by_cases hkt:k<p.start.length
 rotate_left
 ·have hkE:¬ ((k:Int)<p.start.length):=by omega
  have HF:=Y08 (show checkP p=0 from Jlj HGG.out HH.out (by have h:=hX.out.2;rwa [Y0t (by omega)] at h))
  have HXX:=Y00 hX.out.1
  clear hX
  go_wp2_with fail
  go_ret
  exact ⟨by rw [HF.out];rfl,J01 HB2.out.1 HB2.out.1.size HXX.out⟩
 have hkE:(k:Int)<p.start.length:=by omega
 have hk0:(0:Int)≤k:=by omega
 obtain ⟨ad,sA,sC,hme,he0,he1,he2,heC,heL⟩:=Jcp (Kd.c00 HP.out.hS (J01 HB2.out.1 HB2.out.1.size hX.out.1)) hkt
 subst hme
 have HK:=Y08 (Y07 (Y0u hkt) (Y0l hkt))
 generalize p.start[k]=ee at *
 have HOK:=Y08 (Jks p.Wd ee HN.out.1 HWK.out.1)
 go_upto_region 7 with fail
 have HX:=Y00 (Y07 (J01 hX.out.1 hX.out.1.size (J02 wr (.cells #[.int .i64 ee.1.1,.slice sA ee.1.2.length sC,.int .i64 ee.2] 77))) (Y07 (Y0c wr (.cells #[.int .i64 ee.1.1,.slice sA ee.1.2.length sC,.int .i64 ee.2] 77)) (Y07 (Kd.c00 heC (J02 wr (.cells #[.int .i64 ee.1.1,.slice sA ee.1.2.length sC,.int .i64 ee.2] 77))) hX.out.2)))
 clear hX he0 he1 he2 heC heL g4
 generalize wr.alloc (.cells #[.int .i64 ee.1.1,.slice sA ee.1.2.length sC,.int .i64 ee.2] 77)=w3 at *
 generalize wr.heap.size=be at *
 have g0:=J00 HX.out.1 HGC.out.1
 have g1:=J00 HX.out.1 HGC.out.2.1
 have g3:=J00 HX.out.1 HGC.out.2.2.2.1
 obtain ⟨e0,e1,e2⟩:=bc3 HX.out.2.1
 have hN1:=HN1.out
 have hK1:=HK1.out
 cases a1:J3y ee.1.1 0 (p.N - 1) with
 | false =>
  go_wp2_with fail
  refine (J14 ee.1.1 0 (p.N - 1) w3).mono ?_
  rintro e w' ⟨rfl,rfl⟩
  rw [a1]
  have HF:=Y08 (show checkP p=1 from J5r (.inr (.inr ⟨_,HK.out.2,by rw [HOK.out];rw [a1];rfl⟩)))
  go_wp2_with fail
  go_ret
  exact ⟨by rw [HF.out];rfl,J01 HB2.out.1 HB2.out.1.size HX.out.1⟩
 | true=>?_
 cases a2:J9o ee.1.2 p.Wd 1048576 with
 | false =>
  go_wp2_with fail
  refine (J14 ee.1.1 0 (p.N - 1) w3).mono ?_
  rintro e w' ⟨rfl,rfl⟩
  rw [a1]
  go_wp2_with fail
  refine (J3x sA sC ee.1.2 p.Wd 1048576 w3 HX.out.2.2.1).mono ?_
  rintro e w' ⟨rfl,rfl⟩
  rw [a2]
  have HF:=Y08 (show checkP p=1 from J5r (.inr (.inr ⟨_,HK.out.2,by rw [HOK.out];rw [a1,a2];rfl⟩)))
  go_wp2_with fail
  go_ret
  exact ⟨by rw [HF.out];rfl,J01 HB2.out.1 HB2.out.1.size HX.out.1⟩
 | true=>?_
 cases a3:J3y ee.2 0 (p.workers - 1) with
 | false =>
  go_wp2_with fail
  refine (J14 ee.1.1 0 (p.N - 1) w3).mono ?_
  rintro e w' ⟨rfl,rfl⟩
  rw [a1]
  go_wp2_with fail
  refine (J3x sA sC ee.1.2 p.Wd 1048576 w3 HX.out.2.2.1).mono ?_
  rintro e w' ⟨rfl,rfl⟩
  rw [a2]
  go_wp2_with fail
  refine (J14 ee.2 0 (p.workers - 1) w3).mono ?_
  rintro e w' ⟨rfl,rfl⟩
  rw [a3]
  have HF:=Y08 (show checkP p=1 from J5r (.inr (.inr ⟨_,HK.out.2,by rw [HOK.out];rw [a1,a2,a3];rfl⟩)))
  go_wp2_with fail
  go_ret
  exact ⟨by rw [HF.out];rfl,J01 HB2.out.1 HB2.out.1.size HX.out.1⟩
 | true=>?_
 go_wp2_with fail
 refine (J14 ee.1.1 0 (p.N - 1) w3).mono ?_
 rintro e w' ⟨rfl,rfl⟩
 rw [a1]
 go_wp2_with fail
 refine (J3x sA sC ee.1.2 p.Wd 1048576 w3 HX.out.2.2.1).mono ?_
 rintro e w' ⟨rfl,rfl⟩
 rw [a2]
 go_wp2_with fail
 refine (J14 ee.2 0 (p.workers - 1) w3).mono ?_
 rintro e w' ⟨rfl,rfl⟩
 rw [a3]
 have HEO:=Y08 (show J3g p.N p.Wd p.workers ee=true by rw [HOK.out,a1,a2,a3];rfl)
 have HR:=Y00 (show Below w2.heap.size w2 w3∧∀ m ∈ p.start.take (k+1),J3g p.N p.Wd p.workers m=true from ⟨HX.out.1,fun e he=>by rw [HK.out.1] at he;rcases Y0m.1 he with he | he;exact HX.out.2.2.2 e he;rw [Y11.1 he];exact HEO.out⟩)
 go_wp2_with fail
 clear hN1 hK1
 exact ⟨⟨k+1,by go_num,by omega,HR⟩,by simp [intOf];omega⟩
end Go.Proofs.YtbkfnmgkcgnifaaGreat
