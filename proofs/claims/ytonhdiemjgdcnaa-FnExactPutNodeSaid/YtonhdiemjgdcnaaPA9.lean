import Derived.Test.YtonhdiemjgdcnaaPA8
set_option maxHeartbeats 64000000
set_option maxRecDepth 100000
set_option linter.unusedVariables false
set_option linter.unusedSimpArgs false
namespace Go.Proofs.Ytonhdiemjgdcnaa.PFnExactGivePage
open Go.RowKit Go.Proofs.YtonhdiemjgdcnaaW.PrintWords Go.Proofs.YtonhdiemjgdcnaaW.PrintLast Go.Proofs.YtonhdiemjgdcnaaW.PrintMore
attribute [local go_sem] zO zP zY zX zK zJ zQ zR
def slices_Index_int_int.l0:Nat→List Int→Int→Int→Int→Option (Int)
 |0,_,_,_,_=>none
 |k+1,x0,x1,x7,x8=>if x8<x7 then (if 0≤x8 then (if x8<(x0.length:Int) then (if x1=(rd x0 x8) then (some x8) else (slices_Index_int_int.l0 k x0 x1 x7 (wrap64 (x8+1)))) else (none)) else (none)) else (some (-1))
def slices_Index_int_int.f (k:Nat) (l0:List Int) (a1:Int):Option (Int):=slices_Index_int_int.l0 k l0 a1 (l0.length:Int) 0
theorem slices_Index_int_int.calls (k:Nat) (A0:Option Addr) (c0:Nat) (l0:List Int) (a1:Int) (r:Int) (w:World) (hr0:Kd.C (Kd.int .i64) w A0 l0.length l0) (hc0:l0.length≤c0) (h:slices_Index_int_int.f k l0 a1=some r):
  Calls Try.prog 141 #[.slice A0 l0.length c0,.int .i64 a1] w fun e w'=>e= .returned (.int .i64 r)∧Drawn0 w w':=by
 have HR0:=zz hr0
 have HC0:=zz hc0
 clear hr0 hc0
 have H:(slices_Index_int_int.l0 k l0 a1 (l0.length:Int) 0)=some r:=h
 clear h
 have H':=zz H
 clear H
 go_enter Try.func141,Try.ntmps141
 go_wp2
 go_loopg [8] k (fun kq v8 w'=>∃(x8_1:Int),v8= .int .i64 x8_1∧Z0 (slices_Index_int_int.l0 kq l0 a1 (l0.length:Int) x8_1=some r)∧Z0 (kq≤k)∧Drawn0 w w')
 case atStart=>exact ⟨(0),zq16,H',⟨Nat.le_refl _⟩,by repeat (first|exact Drawn0.refl _|apply Drawn0.step)⟩
 case round=>
  clear H'
  obtain ⟨x8_1,rfl,HA,HK1,⟨m1,rfl⟩⟩:=hrel
  cases gk with
  |zero=>exact absurd HA.out (by simp [slices_Index_int_int.l0])
  |succ k1=>
   have H:=HA.out
   clear HA
   simp only [slices_Index_int_int.l0] at H
   by_cases c3:x8_1<(l0.length:Int)
   ·rw [if_pos c3] at H
    have c3b0:=decide_eq_true c3
    clear c3
    by_cases c4:0≤x8_1
    ·rw [if_pos c4] at H
     have c4b0:=decide_eq_true c4
     clear c4
     by_cases c5:x8_1<(l0.length:Int)
     ·rw [if_pos c5] at H
      have c5b0:=decide_eq_true c5
      clear c5
      by_cases c6:a1=(rd l0 x8_1)
      ·rw [if_pos c6] at H
       have c6b0:(a1==(rd l0 x8_1))=true:=beq_iff_eq.mpr c6
       have c6b1:(a1 !=(rd l0 x8_1))=false:=bne_eq_false_iff_eq.mpr c6
       clear c6
       obtain rfl:=Option.some.inj H
       have p365:0≤(x8_1:Int):=of_decide_eq_true zq24
       have q365:x8_1<(l0.length:Int):=of_decide_eq_true zq24
       obtain ⟨ad365,e365,hx365_0⟩:=Kd.at_int HR0.out x8_1 p365 q365
       cases e365
       replace p365:=eq_true p365
       replace q365:=eq_true q365
       go_wp2
       go_ret
       exact ⟨zq16,by repeat (first|exact Drawn0.refl _|apply Drawn0.step)⟩
      ·rw [if_neg c6] at H
       have c6b0:(a1==(rd l0 x8_1))=false:=beq_eq_false_iff_ne.mpr c6
       have c6b1:(a1 !=(rd l0 x8_1))=true:=bne_iff_ne.mpr c6
       have H':=zz H
       clear H
       have p365:0≤(x8_1:Int):=of_decide_eq_true zq24
       have q365:x8_1<(l0.length:Int):=of_decide_eq_true zq24
       obtain ⟨ad365,e365,hx365_0⟩:=Kd.at_int HR0.out x8_1 p365 q365
       cases e365
       replace p365:=eq_true p365
       replace q365:=eq_true q365
       go_wp2
       go_roundg k1
       case measure=>have:=HK1.out;omega
       case rel=>exact ⟨(wrap64 (x8_1+1)),zq16,H',⟨zq95 HK1.out⟩,by repeat (first|exact Drawn0.refl _|apply Drawn0.step)⟩
     ·rw [if_neg c5] at H
      exact absurd H zq52
    ·rw [if_neg c4] at H
     exact absurd H zq52
   ·rw [if_neg c3] at H
    have c3b0:=decide_eq_false c3
    clear c3
    obtain rfl:=Option.some.inj H
    go_wp2
    go_ret
    exact ⟨zq16,by repeat (first|exact Drawn0.refl _|apply Drawn0.step)⟩
def slices_Contains_int_int.f (k:Nat) (l0:List Int) (a1:Int):Option (Bool):=(slices_Index_int_int.f k l0 a1).bind fun t366=>(some (decide (t366≥0)))
theorem slices_Contains_int_int.calls (k:Nat) (A0:Option Addr) (c0:Nat) (l0:List Int) (a1:Int) (r:Bool) (w:World) (hr0:Kd.C (Kd.int .i64) w A0 l0.length l0) (hc0:l0.length≤c0) (h:slices_Contains_int_int.f k l0 a1=some r):
  Calls Try.prog 97 #[.slice A0 l0.length c0,.int .i64 a1] w fun e w'=>e= .returned (.bool r)∧Drawn0 w w':=by
 have HR0:=zz hr0
 have HC0:=zz hc0
 clear hr0 hc0
 have H:((slices_Index_int_int.f k l0 a1).bind fun t366=>(some (decide (t366≥0))))=some r:=h
 clear h
 replace H:=Option.bind_eq_some_iff.mp H
 obtain ⟨t366,A30,H⟩:=H
 replace H:(some (decide (t366≥0)))=some r:=H
 have A3:=zz A30
 clear A30
 obtain rfl:=Option.some.inj H
 go_enter Try.func97,Try.ntmps97
 go_wp2_with (first|((with_reducible refine zo (f:=141) rfl ?_);refine zw (some 7) rfl rfl Try.func141 zq15 rfl #[.slice A0 l0.length c0,.int .i64 a1] rfl zq4 ?_;(with_reducible refine (slices_Index_int_int.calls k _ _ l0 a1 t366 _ ?side1 ?side2 A3.out).mono ?_);(case side1=>repeat (first|exact HR0.out|(with_reducible refine Kd.C_alloc ?_ _)|(with_reducible refine Kd.C_drewN ?_ _)|(with_reducible refine Kd.C_drew ?_)));(case side2=>exact HC0.out);rintro e w' ⟨rfl,⟨nd,rfl⟩⟩;refine ⟨_,rfl,?_⟩))
 go_ret
 exact ⟨zq16,by repeat (first|exact Drawn0.refl _|apply Drawn0.step)⟩
def lessB (a b:ByteArray):Bool:=Op.bytesLess a.toList b.toList
def Asc (l:List ByteArray):Prop:=∀j (h:j+1<l.length),lessB l[j] l[j+1]=true
def ascB (l:List ByteArray):Bool:=(List.range (l.length-1)).all fun j=>lessB (l.getD j ByteArray.empty) (l.getD (j+1) ByteArray.empty)
theorem ascB_iff (l:List ByteArray):ascB l=true↔Asc l:=by
 unfold ascB Asc
 rw [List.all_eq_true]
 constructor
 ·intro h j hj
  have:=h j zq134
  simpa [List.getD_eq_getElem?_getD,List.getElem?_eq_getElem hj,List.getElem?_eq_getElem (show j<l.length by omega)] using this
 ·intro h j hj
  have hj':j+1<l.length:=by simp at hj;omega
  simpa [List.getD_eq_getElem?_getD,List.getElem?_eq_getElem hj',List.getElem?_eq_getElem (show j<l.length by omega)] using h j hj'
def impl_ascending.f (l0:List ByteArray):Option Bool:=some (ascB l0)
theorem impl_ascending.calls (A0:Option Addr) (c0:Nat) (l0:List ByteArray) (r:Bool) (w:World) (hr0:Kd.C Kd.string w A0 l0.length l0) (hc0:l0.length≤c0) (h:impl_ascending.f l0=some r):
  Calls Try.prog 150 #[.slice A0 l0.length c0] w fun e w'=>e= .returned (.bool r)∧Below w.heap.size w w':=by
 have HR:=zz hr0
 have hbig:=hr0.2.1
 have hres:(Asc l0→r=true)∧(¬Asc l0→r=false):=by
  obtain rfl:=Option.some.inj h
  exact ⟨fun q=>(ascB_iff l0).2 q,fun q=>by cases hh:ascB l0 with|false=>rfl|true=>exact absurd ((ascB_iff l0).1 hh) q⟩
 have HF:=zz hres
 clear hr0 hc0 h hres
 go_enter Try.func150,Try.ntmps150
 go_wp2
 repeat (go_quiet (fail);try go_wp2)
 go_loopg [6] l0.length (fun gg s6 wr=>∃kk:Nat,kk≤l0.length∧l0.length-kk≤gg∧s6= .int .i64 kk∧Drawn0 w wr∧Z0 (∀j (hj:j+1<l0.length),j+1<kk→lessB l0[j] l0[j+1]=true))
 case atStart=>exact ⟨0,Nat.zero_le _,zq11,rfl,by repeat (first|exact Drawn0.refl _|apply Drawn0.step),⟨fun j hj h=>absurd h (Nat.not_lt_zero _)⟩⟩
 case round=>
  obtain ⟨kk,hkk,hg,rfl,⟨m1,rfl⟩,A1⟩:=hrel
  by_cases hlt:kk<l0.length
  ·have hltz:(kk:Int)<(l0.length:Int):=zq11
   obtain ⟨ad,rfl,hcell⟩:=Kd.at_string HR.out (kk:Int) zq11 hltz
   rw [zla _ _ _ hlt,Int.toNat_natCast] at hcell
   by_cases h0:kk=0
   ·subst h0
    go_wp2
    repeat (go_quiet (fail);try go_wp2)
    go_roundg (l0.length-1)
    case measure=>omega
    case rel=>exact ⟨1,zq11,zq11,by first|rfl|(simp;done),by repeat (first|exact Drawn0.refl _|apply Drawn0.step),⟨fun j hj h=>absurd h zq11⟩⟩
   ·obtain ⟨m,hm⟩:∃m,kk=m+1:=⟨kk-1,zq11⟩
    have hmlt:m<l0.length:=zq11
    have hmz:(m:Int)<(l0.length:Int):=zq11
    obtain ⟨ad',e',hcell'⟩:=Kd.at_string HR.out (m:Int) zq11 hmz
    obtain rfl:ad=ad':=by injection e'
    rw [zla _ _ _ hmlt,Int.toNat_natCast] at hcell'
    clear e'
    have hpos:decide ((0:Int)<(kk:Int))=true:=decide_eq_true zq11
    have hposN:decide (0<kk)=true:=decide_eq_true zq11
    have hw1:wrap64 ((kk:Int)-1)=(m:Int):=zq128
    have hw2:IntKind.i64.wrap ((kk:Int)-1)=(m:Int):=(zfa _).trans hw1
    obtain ⟨y,hy⟩:∃y,l0[kk]=y:=⟨_,rfl⟩
    obtain ⟨x,hx⟩:∃x,l0[m]=x:=⟨_,rfl⟩
    rw [hy] at hcell
    rw [hx] at hcell'
    have HYX:=zz (And.intro hy hx)
    clear hy hx
    have HM:=zz hm
    clear hm h0
    cases hless:Op.bytesLess x.toList y.toList with
    |true=>
     go_wp2
     repeat (go_quiet (fail);try go_wp2)
     have hw:wrap64 ((kk:Int)+1)=((kk+1:Nat):Int):=zq128
     go_roundg (l0.length-(kk+1))
     case measure=>omega
     case rel=>
      refine ⟨kk+1,zq11,zq11,zq130,by repeat (first|exact Drawn0.refl _|apply Drawn0.step),⟨fun j hj h=> ?_⟩⟩
      have:=HM.out
      by_cases e:j=m
      ·subst e
       subst this
       show Op.bytesLess _ _=true
       rw [HYX.out.1,HYX.out.2]
       exact hless
      ·exact A1.out j hj zq11
    |false=>
     go_wp2
     repeat (go_quiet (fail);try go_wp2)
     go_ret
     refine ⟨?_,Drawn0.below (by repeat (first|exact Drawn0.refl _|apply Drawn0.step))⟩
     rw [HF.out.2 (fun hA=>by
      have:=HM.out
      subst this
      have hq:=hA m hlt
      unfold lessB at hq
      rw [HYX.out.1,HYX.out.2,hless] at hq
      cases hq)]
     rfl
  ·have hltz:¬(kk:Int)<(l0.length:Int):=zq11
   have:kk=l0.length:=zq11
   subst this
   go_wp2
   repeat (go_quiet (fail);try go_wp2)
   go_ret
   refine ⟨?_,Drawn0.below (by repeat (first|exact Drawn0.refl _|apply Drawn0.step))⟩
   rw [HF.out.1 (fun j hj=>A1.out j hj hj)]
   rfl
theorem pred174 (most:Int) (B:Nat) (w:World) (hB:B<w.heap.size) (hcell:w.cell? ⟨B,0,none⟩=some (.int .i64 most)):
  PredB 174 #[.pointer (some ⟨B,0,none⟩)] Value.string (fun s=>decide ((s.size:Int)>most)) w:=fun W x hb=>by
 have hc:W.cell? ⟨B,0,none⟩=some (.int .i64 most):=(hb.cell (p:=⟨B,0,none⟩) hB).trans hcell
 show Calls Try.prog 174 #[.string x,.pointer (some ⟨B,0,none⟩)] W _
 go_enter Try.func174,Try.ntmps174
 go_wp2
 all_goals (go_ret;exact ⟨by simp_all,hb⟩)
theorem enters174:∀args w,(callFunc 174 args).run Try.prog w= .ok (.enter 174 args) w:=enters_of Try.func174 zq15 rfl
def impl_longer.f (l0:List ByteArray) (a1:Int):Option Bool:=some (l0.any fun s=>decide ((s.size:Int)>a1))
theorem impl_longer.calls (A0:Option Addr) (c0:Nat) (l0:List ByteArray) (a1:Int) (r:Bool) (w:World) (hr0:Kd.C Kd.string w A0 l0.length l0) (hc0:l0.length≤c0) (h:impl_longer.f l0 a1=some r):
  Calls Try.prog 151 #[.slice A0 l0.length c0,.int .i64 a1] w fun e w'=>e= .returned (.bool r)∧Below w.heap.size w w':=by
 obtain rfl:=Option.some.inj h
 have HI:=zz (zGa 174 #[.pointer (some ⟨w.heap.size,0,none⟩)] _ enters174 A0 c0 l0 (w.alloc (.cells #[.int .i64 a1] 3)) (Kd.C_below hr0 (zg (Below.refl _ _) _)) (pred174 a1 w.heap.size _ zq52 zq52))
 clear h hr0 hc0
 generalize (l0.any fun s=>decide ((s.size:Int)>a1))=r at HI ⊢
 go_enter Try.func151,Try.ntmps151
 go_wp2_with fail
 ((with_reducible refine HI.out.mono ?_);rintro e w' ⟨rfl,hb'⟩)
 go_wp2
 go_ret
 exact ⟨rfl,ze (zg (Below.refl w.heap.size w) _) hb'⟩
theorem bcell {W w1:World} (hb:Below W.heap.size W w1):(∀b o,b<W.heap.size→w1.cell? ⟨b,o,none⟩=W.cell? ⟨b,o,none⟩)∧(∀b o,b<W.heap.size→w1.frozen? ⟨b,o,none⟩=W.frozen? ⟨b,o,none⟩):=
 ⟨fun b o h=>hb.cell (p:=⟨b,o,none⟩) h,fun b o h=>hb.frozen (p:=⟨b,o,none⟩) h⟩
def BranchOk (keys vals:List ByteArray) (kids:List Int):Prop:=kids.length=keys.length∧vals.length=0∧∀i (h:i<kids.length),2≤kids[i]∧kids[i]≤39∧(kids.take i).contains kids[i]=false
theorem index_ev (l:List Int) (x:Int) (hbig:l.length≤9223372036854775807):∀(d i:Nat),i+d=l.length→(∀j (h:j<l.length),j<i→l[j]≠x)→
  ∃r:Int,slices_Index_int_int.l0 (d+1) l x (l.length:Int) (i:Int)=some r∧(l.contains x=decide (r≥0)):=by
 intro d
 induction d with
 |zero=>
  intro i hi hb
  refine ⟨-1,?_,?_⟩
  ·simp only [slices_Index_int_int.l0]
   rw [if_neg zq11]
  ·rw [show decide ((-1:Int)≥0)=false from rfl]
   rw [Bool.eq_false_iff]
   intro h
   rw [List.contains_iff_mem] at h
   obtain ⟨j,hj,rfl⟩:=List.getElem_of_mem h
   exact hb j hj zq11 rfl
 |succ d ih=>
  intro i hi hb
  have hlt:i<l.length:=zq11
  have hrd:rd l (i:Int)=l[i]:=by simp [rd,List.getD_eq_getElem?_getD,List.getElem?_eq_getElem hlt]
  by_cases hx:x=l[i]
  ·refine ⟨i,?_,?_⟩
   ·simp only [slices_Index_int_int.l0]
    rw [if_pos zq11,if_pos zq11,if_pos zq11,hrd,if_pos hx]
   ·rw [decide_eq_true (show (i:Int)≥0 by omega),List.contains_iff_mem,hx]
    exact List.getElem_mem hlt
  ·obtain ⟨r,hr,hc⟩:=ih (i+1) zq11 (fun j hj hji=>by
    by_cases e:j=i
    ·subst e;exact fun h=>hx h.symm
    ·exact hb j hj zq11)
   refine ⟨r,?_,hc⟩
   simp only [slices_Index_int_int.l0]
   rw [if_pos zq11,if_pos zq11,if_pos zq11,hrd,if_neg hx,show wrap64 ((i:Int)+1)=((i+1:Nat):Int) by unfold wrap64;omega]
   exact hr
theorem contains_ev (l:List Int) (x:Int) (b:Bool) (h:l.contains x=b) (hbig:l.length≤9223372036854775807):∃k,slices_Contains_int_int.f k l x=some b:=by
 obtain ⟨r,hr,hc⟩:=index_ev l x hbig l.length 0 zq11 (fun j hj h=>absurd h (Nat.not_lt_zero _))
 refine ⟨l.length+1,?_⟩
 unfold slices_Contains_int_int.f slices_Index_int_int.f
 have hr':slices_Index_int_int.l0 (l.length+1) l x (l.length:Int) 0=some r:=hr
 rw [hr',Option.bind_some,←hc,h]
theorem nodeOk_in (leaf:Bool) (A1:Option Addr) (c1:Nat) (keys:List ByteArray) (A2:Option Addr) (c2:Nat) (vals:List ByteArray) (A3:Option Addr) (c3:Nat) (kids:List Int) (w:World) (hr1:Kd.C Kd.string w A1 keys.length keys) (hc1:keys.length≤c1) (hr2:Kd.C Kd.string w A2 vals.length vals) (hc2:vals.length≤c2) (hr3:Kd.C (Kd.int .i64) w A3 kids.length kids) (hc3:kids.length≤c3) (hi:impl_in.f (keys.length:Int) 1 4=some false):
  Calls Try.prog 109 #[.agg #[.bool leaf,.slice A1 keys.length c1,.slice A2 vals.length c2,.slice A3 kids.length c3]] w fun e w'=>e= .returned (.bool false)∧Below w.heap.size w w':=by
 have HR1:=zz hr1
 have HR2:=zz hr2
 have HR3:=zz hr3
 have HC1:=zz hc1
 have HC2:=zz hc2
 have HC3:=zz hc3
 clear hr1 hr2 hr3 hc1 hc2 hc3
 have HI:=zz hi
 clear hi
 go_enter Try.func109,Try.ntmps109
 go_wp2_with fail
 ((with_reducible refine (impl_in.calls (keys.length:Int) 1 4 false _ HI.out).mono ?_);rintro e w1 ⟨rfl,nd1,rfl⟩)
 have HB1:=zz (show Below w.heap.size w _ from zd (zg (Below.refl w.heap.size w) (.cells #[.bool leaf,.slice A1 keys.length c1,.slice A2 vals.length c2,.slice A3 kids.length c3] 45)) nd1)
 have BK1:=zz (zf (zta w (.cells #[.bool leaf,.slice A1 keys.length c1,.slice A2 vals.length c2,.slice A3 kids.length c3] 45)) nd1)
 go_wp2
 go_ret
 exact ⟨rfl,HB1.out⟩
theorem nodeOk_asc (leaf:Bool) (A1:Option Addr) (c1:Nat) (keys:List ByteArray) (A2:Option Addr) (c2:Nat) (vals:List ByteArray) (A3:Option Addr) (c3:Nat) (kids:List Int) (w:World) (hr1:Kd.C Kd.string w A1 keys.length keys) (hc1:keys.length≤c1) (hr2:Kd.C Kd.string w A2 vals.length vals) (hc2:vals.length≤c2) (hr3:Kd.C (Kd.int .i64) w A3 kids.length kids) (hc3:kids.length≤c3) (hi:impl_in.f (keys.length:Int) 1 4=some true) (ha:impl_ascending.f keys=some false):
  Calls Try.prog 109 #[.agg #[.bool leaf,.slice A1 keys.length c1,.slice A2 vals.length c2,.slice A3 kids.length c3]] w fun e w'=>e= .returned (.bool false)∧Below w.heap.size w w':=by
 have HR1:=zz hr1
 have HR2:=zz hr2
 have HR3:=zz hr3
 have HC1:=zz hc1
 have HC2:=zz hc2
 have HC3:=zz hc3
 clear hr1 hr2 hr3 hc1 hc2 hc3
 have HI:=zz hi
 have HA:=zz ha
 clear hi ha
 go_enter Try.func109,Try.ntmps109
 go_wp2_with fail
 ((with_reducible refine (impl_in.calls (keys.length:Int) 1 4 true _ HI.out).mono ?_);rintro e w1 ⟨rfl,nd1,rfl⟩)
 have HB1:=zz (show Below w.heap.size w _ from zd (zg (Below.refl w.heap.size w) (.cells #[.bool leaf,.slice A1 keys.length c1,.slice A2 vals.length c2,.slice A3 kids.length c3] 45)) nd1)
 have BK1:=zz (zf (zta w (.cells #[.bool leaf,.slice A1 keys.length c1,.slice A2 vals.length c2,.slice A3 kids.length c3] 45)) nd1)
 go_wp2_with fail
 ((with_reducible refine (impl_ascending.calls A1 c1 keys false _ (Kd.C_below HR1.out HB1.out) HC1.out HA.out).mono ?_);rintro e w2 ⟨rfl,hb2⟩)
 obtain ⟨hcell2,hfr2⟩:=bcell hb2
 have hz2:w.heap.size<w2.heap.size:=zq116
 have HB2:=zz (ze HB1.out hb2)
 have BK2:=zz (zi BK1.out hb2)
 clear hb2
 go_wp2
 go_ret
 exact ⟨rfl,HB2.out⟩
theorem nodeOk_lng (leaf:Bool) (A1:Option Addr) (c1:Nat) (keys:List ByteArray) (A2:Option Addr) (c2:Nat) (vals:List ByteArray) (A3:Option Addr) (c3:Nat) (kids:List Int) (w:World) (hr1:Kd.C Kd.string w A1 keys.length keys) (hc1:keys.length≤c1) (hr2:Kd.C Kd.string w A2 vals.length vals) (hc2:vals.length≤c2) (hr3:Kd.C (Kd.int .i64) w A3 kids.length kids) (hc3:kids.length≤c3) (hi:impl_in.f (keys.length:Int) 1 4=some true) (ha:impl_ascending.f keys=some true) (hl:impl_longer.f keys 24=some true):
  Calls Try.prog 109 #[.agg #[.bool leaf,.slice A1 keys.length c1,.slice A2 vals.length c2,.slice A3 kids.length c3]] w fun e w'=>e= .returned (.bool false)∧Below w.heap.size w w':=by
 have HR1:=zz hr1
 have HR2:=zz hr2
 have HR3:=zz hr3
 have HC1:=zz hc1
 have HC2:=zz hc2
 have HC3:=zz hc3
 clear hr1 hr2 hr3 hc1 hc2 hc3
 have HI:=zz hi
 have HA:=zz ha
 have HL:=zz hl
 clear hi ha hl
 go_enter Try.func109,Try.ntmps109
 go_wp2_with fail
 ((with_reducible refine (impl_in.calls (keys.length:Int) 1 4 true _ HI.out).mono ?_);rintro e w1 ⟨rfl,nd1,rfl⟩)
 have HB1:=zz (show Below w.heap.size w _ from zd (zg (Below.refl w.heap.size w) (.cells #[.bool leaf,.slice A1 keys.length c1,.slice A2 vals.length c2,.slice A3 kids.length c3] 45)) nd1)
 have BK1:=zz (zf (zta w (.cells #[.bool leaf,.slice A1 keys.length c1,.slice A2 vals.length c2,.slice A3 kids.length c3] 45)) nd1)
 go_wp2_with fail
 ((with_reducible refine (impl_ascending.calls A1 c1 keys true _ (Kd.C_below HR1.out HB1.out) HC1.out HA.out).mono ?_);rintro e w2 ⟨rfl,hb2⟩)
 obtain ⟨hcell2,hfr2⟩:=bcell hb2
 have hz2:w.heap.size<w2.heap.size:=zq116
 have HB2:=zz (ze HB1.out hb2)
 have BK2:=zz (zi BK1.out hb2)
 clear hb2
 go_wp2_with fail
 ((with_reducible refine (impl_longer.calls A1 c1 keys 24 true _ (Kd.C_below HR1.out HB2.out) HC1.out HL.out).mono ?_);rintro e w3 ⟨rfl,hb3⟩)
 obtain ⟨hcell3,hfr3⟩:=bcell hb3
 have hz3:w.heap.size<w3.heap.size:=zq123
 have HB3:=zz (ze HB2.out hb3)
 have BK3:=zz (zi BK2.out hb3)
 clear hb3
 go_wp2
 go_ret
 exact ⟨rfl,HB3.out⟩
theorem nodeOk_leaf_len (leaf:Bool) (A1:Option Addr) (c1:Nat) (keys:List ByteArray) (A2:Option Addr) (c2:Nat) (vals:List ByteArray) (A3:Option Addr) (c3:Nat) (kids:List Int) (w:World) (hr1:Kd.C Kd.string w A1 keys.length keys) (hc1:keys.length≤c1) (hr2:Kd.C Kd.string w A2 vals.length vals) (hc2:vals.length≤c2) (hr3:Kd.C (Kd.int .i64) w A3 kids.length kids) (hc3:kids.length≤c3) (hi:impl_in.f (keys.length:Int) 1 4=some true) (ha:impl_ascending.f keys=some true) (hl:impl_longer.f keys 24=some false) (hn:¬vals.length=keys.length):
  Calls Try.prog 109 #[.agg #[.bool true,.slice A1 keys.length c1,.slice A2 vals.length c2,.slice A3 kids.length c3]] w fun e w'=>e= .returned (.bool false)∧Below w.heap.size w w':=by
 have HR1:=zz hr1
 have HR2:=zz hr2
 have HR3:=zz hr3
 have HC1:=zz hc1
 have HC2:=zz hc2
 have HC3:=zz hc3
 clear hr1 hr2 hr3 hc1 hc2 hc3
 have HI:=zz hi
 have HA:=zz ha
 have HL:=zz hl
 clear hi ha hl
 have hnz:¬((vals.length:Int)=(keys.length:Int)):=zq11
 have hnd:decide ((vals.length:Int)=(keys.length:Int))=false:=decide_eq_false hnz
 have hnb:((vals.length:Int)==(keys.length:Int))=false:=beq_eq_false_iff_ne.2 hnz
 go_enter Try.func109,Try.ntmps109
 go_wp2_with fail
 ((with_reducible refine (impl_in.calls (keys.length:Int) 1 4 true _ HI.out).mono ?_);rintro e w1 ⟨rfl,nd1,rfl⟩)
 have HB1:=zz (show Below w.heap.size w _ from zd (zg (Below.refl w.heap.size w) (.cells #[.bool true,.slice A1 keys.length c1,.slice A2 vals.length c2,.slice A3 kids.length c3] 45)) nd1)
 have BK1:=zz (zf (zta w (.cells #[.bool true,.slice A1 keys.length c1,.slice A2 vals.length c2,.slice A3 kids.length c3] 45)) nd1)
 go_wp2_with fail
 ((with_reducible refine (impl_ascending.calls A1 c1 keys true _ (Kd.C_below HR1.out HB1.out) HC1.out HA.out).mono ?_);rintro e w2 ⟨rfl,hb2⟩)
 obtain ⟨hcell2,hfr2⟩:=bcell hb2
 have hz2:w.heap.size<w2.heap.size:=zq116
 have HB2:=zz (ze HB1.out hb2)
 have BK2:=zz (zi BK1.out hb2)
 clear hb2
 go_wp2_with fail
 ((with_reducible refine (impl_longer.calls A1 c1 keys 24 false _ (Kd.C_below HR1.out HB2.out) HC1.out HL.out).mono ?_);rintro e w3 ⟨rfl,hb3⟩)
 obtain ⟨hcell3,hfr3⟩:=bcell hb3
 have hz3:w.heap.size<w3.heap.size:=zq123
 have HB3:=zz (ze HB2.out hb3)
 have BK3:=zz (zi BK2.out hb3)
 clear hb3
 go_wp2
 go_ret
 exact ⟨rfl,HB3.out⟩
theorem nodeOk_leaf_lng (leaf:Bool) (A1:Option Addr) (c1:Nat) (keys:List ByteArray) (A2:Option Addr) (c2:Nat) (vals:List ByteArray) (A3:Option Addr) (c3:Nat) (kids:List Int) (w:World) (hr1:Kd.C Kd.string w A1 keys.length keys) (hc1:keys.length≤c1) (hr2:Kd.C Kd.string w A2 vals.length vals) (hc2:vals.length≤c2) (hr3:Kd.C (Kd.int .i64) w A3 kids.length kids) (hc3:kids.length≤c3) (hi:impl_in.f (keys.length:Int) 1 4=some true) (ha:impl_ascending.f keys=some true) (hl:impl_longer.f keys 24=some false) (hn:vals.length=keys.length) (hl2:impl_longer.f vals 24=some true):
  Calls Try.prog 109 #[.agg #[.bool true,.slice A1 keys.length c1,.slice A2 vals.length c2,.slice A3 kids.length c3]] w fun e w'=>e= .returned (.bool false)∧Below w.heap.size w w':=by
 have HR1:=zz hr1
 have HR2:=zz hr2
 have HR3:=zz hr3
 have HC1:=zz hc1
 have HC2:=zz hc2
 have HC3:=zz hc3
 clear hr1 hr2 hr3 hc1 hc2 hc3
 have HI:=zz hi
 have HA:=zz ha
 have HL:=zz hl
 have HL2:=zz hl2
 clear hi ha hl hl2
 have HN:=zz hn
 have hnb:((vals.length:Int)==(keys.length:Int))=true:=beq_iff_eq.2 zq11
 clear hn
 go_enter Try.func109,Try.ntmps109
 go_wp2_with fail
 ((with_reducible refine (impl_in.calls (keys.length:Int) 1 4 true _ HI.out).mono ?_);rintro e w1 ⟨rfl,nd1,rfl⟩)
 have HB1:=zz (show Below w.heap.size w _ from zd (zg (Below.refl w.heap.size w) (.cells #[.bool true,.slice A1 keys.length c1,.slice A2 vals.length c2,.slice A3 kids.length c3] 45)) nd1)
 have BK1:=zz (zf (zta w (.cells #[.bool true,.slice A1 keys.length c1,.slice A2 vals.length c2,.slice A3 kids.length c3] 45)) nd1)
 go_wp2_with fail
 ((with_reducible refine (impl_ascending.calls A1 c1 keys true _ (Kd.C_below HR1.out HB1.out) HC1.out HA.out).mono ?_);rintro e w2 ⟨rfl,hb2⟩)
 obtain ⟨hcell2,hfr2⟩:=bcell hb2
 have hz2:w.heap.size<w2.heap.size:=zq116
 have HB2:=zz (ze HB1.out hb2)
 have BK2:=zz (zi BK1.out hb2)
 clear hb2
 go_wp2_with fail
 ((with_reducible refine (impl_longer.calls A1 c1 keys 24 false _ (Kd.C_below HR1.out HB2.out) HC1.out HL.out).mono ?_);rintro e w3 ⟨rfl,hb3⟩)
 obtain ⟨hcell3,hfr3⟩:=bcell hb3
 have hz3:w.heap.size<w3.heap.size:=zq123
 have HB3:=zz (ze HB2.out hb3)
 have BK3:=zz (zi BK2.out hb3)
 clear hb3
 go_wp2_with fail
 ((with_reducible refine (impl_longer.calls A2 c2 vals 24 true _ (Kd.C_below HR2.out HB3.out) HC2.out HL2.out).mono ?_);rintro e w4 ⟨rfl,hb4⟩)
 obtain ⟨hcell4,hfr4⟩:=bcell hb4
 have hz4:w.heap.size<w4.heap.size:=by have hh:=hb4.size;(try simp at hh);omega
 have HB4:=zz (ze HB3.out hb4)
 clear hb4
 go_wp2
 go_ret
 exact ⟨rfl,HB4.out⟩
theorem nodeOk_leaf (leaf:Bool) (A1:Option Addr) (c1:Nat) (keys:List ByteArray) (A2:Option Addr) (c2:Nat) (vals:List ByteArray) (A3:Option Addr) (c3:Nat) (kids:List Int) (w:World) (hr1:Kd.C Kd.string w A1 keys.length keys) (hc1:keys.length≤c1) (hr2:Kd.C Kd.string w A2 vals.length vals) (hc2:vals.length≤c2) (hr3:Kd.C (Kd.int .i64) w A3 kids.length kids) (hc3:kids.length≤c3) (hi:impl_in.f (keys.length:Int) 1 4=some true) (ha:impl_ascending.f keys=some true) (hl:impl_longer.f keys 24=some false) (hn:vals.length=keys.length) (hl2:impl_longer.f vals 24=some false) (r:Bool) (hk:decide (kids.length=0)=r):
  Calls Try.prog 109 #[.agg #[.bool true,.slice A1 keys.length c1,.slice A2 vals.length c2,.slice A3 kids.length c3]] w fun e w'=>e= .returned (.bool r)∧Below w.heap.size w w':=by
 have HR1:=zz hr1
 have HR2:=zz hr2
 have HR3:=zz hr3
 have HC1:=zz hc1
 have HC2:=zz hc2
 have HC3:=zz hc3
 clear hr1 hr2 hr3 hc1 hc2 hc3
 have HI:=zz hi
 have HA:=zz ha
 have HL:=zz hl
 have HL2:=zz hl2
 clear hi ha hl hl2
 have HN:=zz hn
 have HK:=zz hk
 have hnb:((vals.length:Int)==(keys.length:Int))=true:=beq_iff_eq.2 zq11
 have hkb:((kids.length:Int)==0)=r:=by rw [←hk];by_cases h:kids.length=0<;>simp [h]
 clear hn hk
 go_enter Try.func109,Try.ntmps109
 go_wp2_with fail
 ((with_reducible refine (impl_in.calls (keys.length:Int) 1 4 true _ HI.out).mono ?_);rintro e w1 ⟨rfl,nd1,rfl⟩)
 have HB1:=zz (show Below w.heap.size w _ from zd (zg (Below.refl w.heap.size w) (.cells #[.bool true,.slice A1 keys.length c1,.slice A2 vals.length c2,.slice A3 kids.length c3] 45)) nd1)
 have BK1:=zz (zf (zta w (.cells #[.bool true,.slice A1 keys.length c1,.slice A2 vals.length c2,.slice A3 kids.length c3] 45)) nd1)
 go_wp2_with fail
 ((with_reducible refine (impl_ascending.calls A1 c1 keys true _ (Kd.C_below HR1.out HB1.out) HC1.out HA.out).mono ?_);rintro e w2 ⟨rfl,hb2⟩)
 obtain ⟨hcell2,hfr2⟩:=bcell hb2
 have hz2:w.heap.size<w2.heap.size:=zq116
 have HB2:=zz (ze HB1.out hb2)
 have BK2:=zz (zi BK1.out hb2)
 clear hb2
 go_wp2_with fail
 ((with_reducible refine (impl_longer.calls A1 c1 keys 24 false _ (Kd.C_below HR1.out HB2.out) HC1.out HL.out).mono ?_);rintro e w3 ⟨rfl,hb3⟩)
 obtain ⟨hcell3,hfr3⟩:=bcell hb3
 have hz3:w.heap.size<w3.heap.size:=zq123
 have HB3:=zz (ze HB2.out hb3)
 have BK3:=zz (zi BK2.out hb3)
 clear hb3
 go_wp2_with fail
 ((with_reducible refine (impl_longer.calls A2 c2 vals 24 false _ (Kd.C_below HR2.out HB3.out) HC2.out HL2.out).mono ?_);rintro e w4 ⟨rfl,hb4⟩)
 obtain ⟨hcell4,hfr4⟩:=bcell hb4
 have hz4:w.heap.size<w4.heap.size:=by have hh:=hb4.size;(try simp at hh);omega
 have HB4:=zz (ze HB3.out hb4)
 clear hb4
 go_wp2
 go_ret
 exact ⟨by first|rfl|simp [hkb],HB4.out⟩
theorem nodeOk_branch (leaf:Bool) (A1:Option Addr) (c1:Nat) (keys:List ByteArray) (A2:Option Addr) (c2:Nat) (vals:List ByteArray) (A3:Option Addr) (c3:Nat) (kids:List Int) (w:World) (hr1:Kd.C Kd.string w A1 keys.length keys) (hc1:keys.length≤c1) (hr2:Kd.C Kd.string w A2 vals.length vals) (hc2:vals.length≤c2) (hr3:Kd.C (Kd.int .i64) w A3 kids.length kids) (hc3:kids.length≤c3) (hi:impl_in.f (keys.length:Int) 1 4=some true) (ha:impl_ascending.f keys=some true) (hl:impl_longer.f keys 24=some false) (r:Bool) (hf:(BranchOk keys vals kids→r=true)∧(¬BranchOk keys vals kids→r=false)):
  Calls Try.prog 109 #[.agg #[.bool false,.slice A1 keys.length c1,.slice A2 vals.length c2,.slice A3 kids.length c3]] w fun e w'=>e= .returned (.bool r)∧Below w.heap.size w w':=by
 have HR1:=zz hr1
 have HR2:=zz hr2
 have HR3:=zz hr3
 have HC1:=zz hc1
 have HC2:=zz hc2
 have HC3:=zz hc3
 clear hr1 hr2 hr3 hc1 hc2 hc3
 have HI:=zz hi
 have HA:=zz ha
 have HL:=zz hl
 have HF:=zz hf
 clear hi ha hl hf
 go_enter Try.func109,Try.ntmps109
 go_wp2_with fail
 ((with_reducible refine (impl_in.calls (keys.length:Int) 1 4 true _ HI.out).mono ?_);rintro e w1 ⟨rfl,nd1,rfl⟩)
 have HB1:=zz (show Below w.heap.size w _ from zd (zg (Below.refl w.heap.size w) (.cells #[.bool false,.slice A1 keys.length c1,.slice A2 vals.length c2,.slice A3 kids.length c3] 45)) nd1)
 have BK1:=zz (zf (zta w (.cells #[.bool false,.slice A1 keys.length c1,.slice A2 vals.length c2,.slice A3 kids.length c3] 45)) nd1)
 go_wp2_with fail
 ((with_reducible refine (impl_ascending.calls A1 c1 keys true _ (Kd.C_below HR1.out HB1.out) HC1.out HA.out).mono ?_);rintro e w2 ⟨rfl,hb2⟩)
 obtain ⟨hcell2,hfr2⟩:=bcell hb2
 have hz2:w.heap.size<w2.heap.size:=zq116
 have HB2:=zz (ze HB1.out hb2)
 have BK2:=zz (zi BK1.out hb2)
 clear hb2
 go_wp2_with fail
 ((with_reducible refine (impl_longer.calls A1 c1 keys 24 false _ (Kd.C_below HR1.out HB2.out) HC1.out HL.out).mono ?_);rintro e w3 ⟨rfl,hb3⟩)
 obtain ⟨hcell3,hfr3⟩:=bcell hb3
 have hz3:w.heap.size<w3.heap.size:=zq123
 have HB3:=zz (ze HB2.out hb3)
 have BK3:=zz (zi BK2.out hb3)
 clear hb3
 go_wp2_with fail
 go_loopg [45] kids.length (fun gg s45 wr=>∃kk:Nat,kk≤kids.length∧kids.length-kk≤gg∧s45= .int .i64 kk∧Z0 (Below w.heap.size w wr)∧Z0 (wr.heap[w.heap.size]?=some (.cells #[.bool false,.slice A1 keys.length c1,.slice A2 vals.length c2,.slice A3 kids.length c3] 45 (0,0)))∧Z0 (∀j (hj:j<kids.length),j<kk→2≤kids[j]∧kids[j]≤39∧(kids.take j).contains kids[j]=false))
 case atStart=>exact ⟨0,Nat.zero_le _,zq11,rfl,HB3,BK3,⟨fun j hj h=>absurd h (Nat.not_lt_zero _)⟩⟩
 case round=>
  obtain ⟨kk,hkk,hg,rfl,HB,BK,A⟩:=hrel
  have hcn0:wr.cell? ⟨w.heap.size,1,none⟩=some (.slice A1 keys.length c1):=(zb BK.out 1).trans rfl
  have hcn1:wr.cell? ⟨w.heap.size,2,none⟩=some (.slice A2 vals.length c2):=(zb BK.out 2).trans rfl
  have hcn2:wr.cell? ⟨w.heap.size,3,none⟩=some (.slice A3 kids.length c3):=(zb BK.out 3).trans rfl
  by_cases hlt:kk<kids.length
  ·have hltz:(kk:Int)<(kids.length:Int):=zq11
   obtain ⟨ad,rfl,hcell⟩:=Kd.at_int (Kd.C_below HR3.out HB.out) (kk:Int) zq11 hltz
   rw [Int.toNat_natCast] at hcell
   have hrd:rd kids (kk:Int)=kids[kk]:=by simp [rd,List.getD_eq_getElem?_getD,List.getElem?_eq_getElem hlt]
   obtain ⟨y,hy⟩:∃y,rd kids (kk:Int)=y:=⟨_,rfl⟩
   rw [hy] at hcell hrd
   have HY:=zz hrd
   clear hy hrd
   cases hin:decide (2≤y∧y≤39) with
   |false=>
    have HQ:=zz (show impl_in.f y 2 39=some false by
     unfold impl_in.f
     have:=of_decide_eq_false hin
     split
     ·congr 1;exact decide_eq_false zq11
     ·rfl)
    go_wp2_with fail
    ((with_reducible refine (impl_in.calls y 2 39 false _ HQ.out).mono ?_);rintro e w1 ⟨rfl,nd2,rfl⟩)
    go_wp2
    go_ret
    refine ⟨?_,zd HB.out nd2⟩
    rw [HF.out.2 (fun hP=>by
     have h1:=hP.2.2 kk hlt
     have:=of_decide_eq_false hin
     rw [HY.out] at this
     exact this ⟨h1.1,h1.2.1⟩)]
    rfl
   |true=>
    have HQ:=zz (show impl_in.f y 2 39=some true by
     unfold impl_in.f
     have:=of_decide_eq_true hin
     rw [if_pos (show y≥2 by omega)]
     congr 1;exact decide_eq_true zq11)
    cases hcon:(kids.take kk).contains y with
    |true=>
     obtain ⟨kf,hkf⟩:=contains_ev (kids.take kk) y true hcon (by rw [List.length_take];have:=(HR3.out).2.1;omega)
     have hlk:(kids.take kk).length=kk:=zq124
     have hcall:∀nd,Calls Try.prog 97 #[.slice (some ad) kk c3,.int .i64 y] (wr.drewN nd) fun e w'=>e= .returned (.bool true)∧Drawn0 (wr.drewN nd) w':=by
      intro nd
      have h:=slices_Contains_int_int.calls kf (some ad) c3 (kids.take kk) y true (wr.drewN nd) (Kd.C_take (Kd.C_below HR3.out (zd HB.out nd)) zq11) (by rw [hlk];have:=HC3.out;omega) hkf
      rw [hlk] at h
      exact h
     have HK:=zz hcall
     have HCON:=zz hcon
     have hle:kk≤c3:=zq95 HC3.out
     have hlez:(kk:Int)≤(c3:Int):=zq11
     clear hkf hlk hcall hcon
     go_wp2_with fail
     ((with_reducible refine (impl_in.calls y 2 39 true _ HQ.out).mono ?_);rintro e w1 ⟨rfl,nd2,rfl⟩)
     go_wp2_with fail
     ((with_reducible refine (HK.out nd2).mono ?_);rintro e w1 ⟨rfl,nd3,rfl⟩)
     go_wp2
     go_ret
     refine ⟨?_,zd HB.out _⟩
     rw [HF.out.2 (fun hP=>by
      have h1:=(hP.2.2 kk hlt).2.2
      rw [←HY.out,HCON.out] at h1
      cases h1)]
     rfl
    |false=>
     obtain ⟨kf,hkf⟩:=contains_ev (kids.take kk) y false hcon (by rw [List.length_take];have:=(HR3.out).2.1;omega)
     have hlk:(kids.take kk).length=kk:=zq124
     have hcall:∀nd,Calls Try.prog 97 #[.slice (some ad) kk c3,.int .i64 y] (wr.drewN nd) fun e w'=>e= .returned (.bool false)∧Drawn0 (wr.drewN nd) w':=by
      intro nd
      have h:=slices_Contains_int_int.calls kf (some ad) c3 (kids.take kk) y false (wr.drewN nd) (Kd.C_take (Kd.C_below HR3.out (zd HB.out nd)) zq11) (by rw [hlk];have:=HC3.out;omega) hkf
      rw [hlk] at h
      exact h
     have HK:=zz hcall
     have HCON:=zz hcon
     have hle:kk≤c3:=zq95 HC3.out
     have hlez:(kk:Int)≤(c3:Int):=zq11
     clear hkf hlk hcall hcon
     go_wp2_with fail
     ((with_reducible refine (impl_in.calls y 2 39 true _ HQ.out).mono ?_);rintro e w1 ⟨rfl,nd2,rfl⟩)
     go_wp2_with fail
     ((with_reducible refine (HK.out nd2).mono ?_);rintro e w1 ⟨rfl,nd3,rfl⟩)
     go_wp2
     have hw:wrap64 ((kk:Int)+1)=((kk+1:Nat):Int):=by have:=(HR3.out).2.1;unfold wrap64;omega
     go_roundg (kids.length-(kk+1))
     case measure=>omega
     case rel=>
      refine ⟨kk+1,zq11,zq11,zq130,⟨zd HB.out _⟩,⟨zf BK.out _⟩,⟨fun j hj hjk=> ?_⟩⟩
      by_cases e:j=kk
      ·subst e
       have:=of_decide_eq_true hin
       rw [←HY.out]
       exact ⟨this.1,this.2,HCON.out⟩
      ·exact A.out j hj zq11
  ·have hltz:¬(kk:Int)<(kids.length:Int):=zq11
   have:kk=kids.length:=zq11
   subst this
   by_cases hn:kids.length=keys.length
   ·have hnb:((kids.length:Int)==(keys.length:Int))=true:=beq_iff_eq.2 zq11
    have HN:=zz hn
    clear hn
    by_cases hv:vals.length=0
    ·have hvb:((vals.length:Int)==0)=true:=beq_iff_eq.2 zq11
     have hr1:r=true:=HF.out.1 ⟨HN.out,hv,fun i h=>A.out i h h⟩
     subst hr1
     have HV:=zz hv
     clear hv
     go_wp2
     go_ret
     exact ⟨by first|rfl|simp [HV.out,HN.out],HB.out⟩
    ·have hvb:((vals.length:Int)==0)=false:=beq_eq_false_iff_ne.2 zq11
     have hr1:r=false:=HF.out.2 (fun hP=>hv hP.2.1)
     subst hr1
     have HV:=zz hv
     go_wp2
     go_ret
     exact ⟨by first|rfl|simp [HV.out,HN.out],HB.out⟩
   ·have hnz:¬(kids.length:Int)=(keys.length:Int):=zq11
    have hnb:((kids.length:Int)==(keys.length:Int))=false:=beq_eq_false_iff_ne.2 hnz
    have hnd:decide ((kids.length:Int)=(keys.length:Int))=false:=decide_eq_false hnz
    have hr1:r=false:=HF.out.2 (fun hP=>hn hP.1)
    subst hr1
    have HN:=zz hn
    go_wp2
    go_ret
    exact ⟨by first|rfl|simp [HN.out],HB.out⟩
def branchB (keys vals:List ByteArray) (kids:List Int):Bool:=decide (kids.length=keys.length)&&decide (vals.length=0)&&(List.range kids.length).all fun i=>decide (2≤kids.getD i 0∧kids.getD i 0≤39)&& !((kids.take i).contains (kids.getD i 0))
theorem branchB_iff (keys vals:List ByteArray) (kids:List Int):branchB keys vals kids=true↔BranchOk keys vals kids:=by
 unfold branchB BranchOk
 simp only [Bool.and_eq_true,decide_eq_true_eq,List.all_eq_true,List.mem_range,Bool.not_eq_true',and_assoc]
 refine and_congr_right fun _=>and_congr_right fun _=> ?_
 constructor
 ·intro h i hi
  have:=h i hi
  simpa [List.getD_eq_getElem?_getD,List.getElem?_eq_getElem hi] using this
 ·intro h i hi
  simpa [List.getD_eq_getElem?_getD,List.getElem?_eq_getElem hi] using h i hi
def longB (l:List ByteArray):Bool:=l.any fun s=>decide ((s.size:Int)>24)
def nodeOkB (leaf:Bool) (keys vals:List ByteArray) (kids:List Int):Bool:=
 decide (1≤keys.length∧keys.length≤4)&&ascB keys&& !longB keys&&(if leaf=true then decide (vals.length=keys.length)&& !longB vals&&decide (kids.length=0) else branchB keys vals kids)
def impl_NodeOk.f (leaf:Bool) (keys vals:List ByteArray) (kids:List Int):Option Bool:=some (nodeOkB leaf keys vals kids)
theorem impl_NodeOk.calls (a0_0:Bool) (A0_1:Option Addr) (c0_1:Nat) (l0_1:List ByteArray) (A0_2:Option Addr) (c0_2:Nat) (l0_2:List ByteArray) (A0_3:Option Addr) (c0_3:Nat) (l0_3:List Int) (r:Bool) (w:World) (hr0_1:Kd.C Kd.string w A0_1 l0_1.length l0_1) (hc0_1:l0_1.length≤c0_1) (hr0_2:Kd.C Kd.string w A0_2 l0_2.length l0_2) (hc0_2:l0_2.length≤c0_2) (hr0_3:Kd.C (Kd.int .i64) w A0_3 l0_3.length l0_3) (hc0_3:l0_3.length≤c0_3) (h:impl_NodeOk.f a0_0 l0_1 l0_2 l0_3=some r):
  Calls Try.prog 109 #[.agg #[.bool a0_0,.slice A0_1 l0_1.length c0_1,.slice A0_2 l0_2.length c0_2,.slice A0_3 l0_3.length c0_3]] w fun e w'=>e= .returned (.bool r)∧Below w.heap.size w w':=by
 obtain rfl:=Option.some.inj h
 clear h
 have hI:∀b,decide (1≤l0_1.length∧l0_1.length≤4)=b→impl_in.f (l0_1.length:Int) 1 4=some b:=by
  intro b hb
  unfold impl_in.f
  subst hb
  by_cases h1:(l0_1.length:Int)≥1
  ·rw [if_pos h1]
   congr 1
   exact decide_eq_decide.2 ⟨fun _=>by omega,fun _=>by omega⟩
  ·rw [if_neg h1,decide_eq_false zq11]
 unfold nodeOkB
 cases b1:decide (1≤l0_1.length∧l0_1.length≤4) with
 |false=>exact nodeOk_in a0_0 A0_1 c0_1 l0_1 A0_2 c0_2 l0_2 A0_3 c0_3 l0_3 w hr0_1 hc0_1 hr0_2 hc0_2 hr0_3 hc0_3 (hI _ b1)
 |true=>
  have i1:=hI _ b1
  cases b2:ascB l0_1 with
  |false=>exact nodeOk_asc a0_0 A0_1 c0_1 l0_1 A0_2 c0_2 l0_2 A0_3 c0_3 l0_3 w hr0_1 hc0_1 hr0_2 hc0_2 hr0_3 hc0_3 i1 (congrArg some b2)
  |true=>
   cases b3:longB l0_1 with
   |true=>exact nodeOk_lng a0_0 A0_1 c0_1 l0_1 A0_2 c0_2 l0_2 A0_3 c0_3 l0_3 w hr0_1 hc0_1 hr0_2 hc0_2 hr0_3 hc0_3 i1 (congrArg some b2) (congrArg some b3)
   |false=>
    cases a0_0 with
    |true=>
     by_cases b4:l0_2.length=l0_1.length
     ·cases b5:longB l0_2 with
      |true=>
       have:=nodeOk_leaf_lng true A0_1 c0_1 l0_1 A0_2 c0_2 l0_2 A0_3 c0_3 l0_3 w hr0_1 hc0_1 hr0_2 hc0_2 hr0_3 hc0_3 i1 (congrArg some b2) (congrArg some b3) b4 (congrArg some b5)
       simpa [b4] using this
      |false=>
       have:=nodeOk_leaf true A0_1 c0_1 l0_1 A0_2 c0_2 l0_2 A0_3 c0_3 l0_3 w hr0_1 hc0_1 hr0_2 hc0_2 hr0_3 hc0_3 i1 (congrArg some b2) (congrArg some b3) b4 (congrArg some b5) _ rfl
       simpa [b4] using this
     ·have:=nodeOk_leaf_len true A0_1 c0_1 l0_1 A0_2 c0_2 l0_2 A0_3 c0_3 l0_3 w hr0_1 hc0_1 hr0_2 hc0_2 hr0_3 hc0_3 i1 (congrArg some b2) (congrArg some b3) b4
      simpa [b4] using this
    |false=>
     have:=nodeOk_branch false A0_1 c0_1 l0_1 A0_2 c0_2 l0_2 A0_3 c0_3 l0_3 w hr0_1 hc0_1 hr0_2 hc0_2 hr0_3 hc0_3 i1 (congrArg some b2) (congrArg some b3) (branchB l0_1 l0_2 l0_3)
      ⟨fun q=>(branchB_iff _ _ _).2 q,fun q=>by cases hh:branchB l0_1 l0_2 l0_3 with|false=>rfl|true=>exact absurd ((branchB_iff _ _ _).1 hh) q⟩
     simpa using this
def NCond (leaf:Bool) (keys vals:List ByteArray) (kids:List Int) (j:Nat):Prop:=
 (keys.getD j ByteArray.empty).size≤24∧(0<j→lessB (keys.getD (j-1) ByteArray.empty) (keys.getD j ByteArray.empty)=true)∧(leaf=true→(vals.getD j ByteArray.empty).size≤24)∧
  (leaf=false→2≤kids.getD j 0∧kids.getD j 0≤39∧∀q,q<j→kids.getD q 0≠kids.getD j 0)
def zSa (leaf:Bool) (keys vals:List ByteArray) (kids:List Int):Prop:=(1≤keys.length∧keys.length≤4)∧(leaf=true→vals.length=keys.length∧kids.length=0)∧(leaf=false→kids.length=keys.length∧vals.length=0)
instance (leaf:Bool) (keys vals:List ByteArray) (kids:List Int) (j:Nat):Decidable (NCond leaf keys vals kids j):=by unfold NCond;infer_instance
instance (leaf:Bool) (keys vals:List ByteArray) (kids:List Int):Decidable (zSa leaf keys vals kids):=by unfold zSa;infer_instance
def specB (leaf:Bool) (keys vals:List ByteArray) (kids:List Int):Bool:=decide (zSa leaf keys vals kids)&&(List.range keys.length).all fun j=>decide (NCond leaf keys vals kids j)
theorem specB_iff (leaf:Bool) (keys vals:List ByteArray) (kids:List Int):specB leaf keys vals kids=true↔zSa leaf keys vals kids∧∀j,j<keys.length→NCond leaf keys vals kids j:=by
 unfold specB
 rw [Bool.and_eq_true,decide_eq_true_eq,List.all_eq_true]
 refine and_congr Iff.rfl ⟨fun h j hj=>of_decide_eq_true (h j (List.mem_range.2 hj)),fun h j hj=>decide_eq_true (h j (List.mem_range.1 hj))⟩
def spec_NodeOk.f (_k:Nat) (leaf:Bool) (keys vals:List ByteArray) (kids:List Int):Option Bool:=some (specB leaf keys vals kids)
theorem no_r {r:Bool} {p:Prop} (h:r=true↔p) (hn:¬p):r=false:=by cases r;rfl;exact absurd (h.1 rfl) hn
theorem specNode_in (leaf:Bool) (A0_1:Option Addr) (c0_1:Nat) (keys:List ByteArray) (A0_2:Option Addr) (c0_2:Nat) (vals:List ByteArray) (A0_3:Option Addr) (c0_3:Nat) (kids:List Int) (r:Bool) (w:World) (hr0_1:Kd.C Kd.string w A0_1 keys.length keys) (hr0_2:Kd.C Kd.string w A0_2 vals.length vals) (hr0_3:Kd.C (Kd.int .i64) w A0_3 kids.length kids) (hx:¬(1≤keys.length∧keys.length≤4)) (hf:r=true↔zSa leaf keys vals kids∧∀j,j<keys.length→NCond leaf keys vals kids j):
  Calls Try.prog 105 #[.agg #[.bool leaf,.slice A0_1 keys.length c0_1,.slice A0_2 vals.length c0_2,.slice A0_3 kids.length c0_3]] w fun e w'=>e= .returned (.bool r)∧Below w.heap.size w w':=by
 have HR1:=zz hr0_1
 have HR2:=zz hr0_2
 have HR3:=zz hr0_3
 have HF:=zz hf
 clear hr0_1 hr0_2 hr0_3 hf
 have HIN:Z0 (spec_l01In.f (keys.length:Int) 1 4=some false):=⟨zq111⟩
 go_enter Try.func105,Try.ntmps105
 go_wp2_with fail
 ((with_reducible refine (spec_l01In.calls _ 1 4 false _ HIN.out).mono ?_);rintro e w1 ⟨rfl,⟨nd1,rfl⟩⟩)
 have hr:r=false:=no_r HF.out (fun h=>hx h.1.1)
 subst hr
 go_wp2
 go_ret
 exact ⟨rfl,zd (zg (Below.refl _ _) _) _⟩
theorem specNode_leaf_vals (A0_1:Option Addr) (c0_1:Nat) (keys:List ByteArray) (A0_2:Option Addr) (c0_2:Nat) (vals:List ByteArray) (A0_3:Option Addr) (c0_3:Nat) (kids:List Int) (r:Bool) (w:World) (hr0_1:Kd.C Kd.string w A0_1 keys.length keys) (hr0_2:Kd.C Kd.string w A0_2 vals.length vals) (hr0_3:Kd.C (Kd.int .i64) w A0_3 kids.length kids) (hx:1≤keys.length∧keys.length≤4) (hv:¬vals.length=keys.length) (hf:r=true↔zSa true keys vals kids∧∀j,j<keys.length→NCond true keys vals kids j):
  Calls Try.prog 105 #[.agg #[.bool true,.slice A0_1 keys.length c0_1,.slice A0_2 vals.length c0_2,.slice A0_3 kids.length c0_3]] w fun e w'=>e= .returned (.bool r)∧Below w.heap.size w w':=by
 have HR1:=zz hr0_1
 have HR2:=zz hr0_2
 have HR3:=zz hr0_3
 have HF:=zz hf
 clear hr0_1 hr0_2 hr0_3 hf
 have hz:¬(vals.length:Int)=(keys.length:Int):=zq11
 have hd:decide ((vals.length:Int)=(keys.length:Int))=false:=decide_eq_false hz
 have hb:((vals.length:Int)==(keys.length:Int))=false:=beq_eq_false_iff_ne.2 hz
 have hn:((vals.length:Int) !=(keys.length:Int))=true:=by simp [bne,hb]
 have HIN:Z0 (spec_l01In.f (keys.length:Int) 1 4=some true):=⟨zq94⟩
 go_enter Try.func105,Try.ntmps105
 go_wp2_with fail
 ((with_reducible refine (spec_l01In.calls _ 1 4 true _ HIN.out).mono ?_);rintro e w1 ⟨rfl,⟨nd1,rfl⟩⟩)
 have hr:r=false:=no_r HF.out (fun h=>hv (h.1.2.1 rfl).1)
 subst hr
 go_wp2
 go_ret
 exact ⟨rfl,zd (zg (Below.refl _ _) _) _⟩
theorem specNode_leaf_kids (A0_1:Option Addr) (c0_1:Nat) (keys:List ByteArray) (A0_2:Option Addr) (c0_2:Nat) (vals:List ByteArray) (A0_3:Option Addr) (c0_3:Nat) (kids:List Int) (r:Bool) (w:World) (hr0_1:Kd.C Kd.string w A0_1 keys.length keys) (hr0_2:Kd.C Kd.string w A0_2 vals.length vals) (hr0_3:Kd.C (Kd.int .i64) w A0_3 kids.length kids) (hx:1≤keys.length∧keys.length≤4) (hv:vals.length=keys.length) (hk:¬kids.length=0) (hf:r=true↔zSa true keys vals kids∧∀j,j<keys.length→NCond true keys vals kids j):
  Calls Try.prog 105 #[.agg #[.bool true,.slice A0_1 keys.length c0_1,.slice A0_2 vals.length c0_2,.slice A0_3 kids.length c0_3]] w fun e w'=>e= .returned (.bool r)∧Below w.heap.size w w':=by
 have HR1:=zz hr0_1
 have HR2:=zz hr0_2
 have HR3:=zz hr0_3
 have HF:=zz hf
 clear hr0_1 hr0_2 hr0_3 hf
 have hz1:(vals.length:Int)=(keys.length:Int):=zq11
 have hd1:decide ((vals.length:Int)=(keys.length:Int))=true:=decide_eq_true hz1
 have hb1:((vals.length:Int)==(keys.length:Int))=true:=beq_iff_eq.2 hz1
 have hn1:((vals.length:Int) !=(keys.length:Int))=false:=by simp [bne,hb1]
 have hz:¬(kids.length:Int)=0:=zq11
 have hd:decide ((kids.length:Int)=0)=false:=decide_eq_false hz
 have hb:((kids.length:Int)==0)=false:=beq_eq_false_iff_ne.2 hz
 have hn:((kids.length:Int) !=0)=true:=by simp [bne,hb]
 have HIN:Z0 (spec_l01In.f (keys.length:Int) 1 4=some true):=⟨zq94⟩
 go_enter Try.func105,Try.ntmps105
 go_wp2_with fail
 ((with_reducible refine (spec_l01In.calls _ 1 4 true _ HIN.out).mono ?_);rintro e w1 ⟨rfl,⟨nd1,rfl⟩⟩)
 have hr:r=false:=no_r HF.out (fun h=>hk (h.1.2.1 rfl).2)
 subst hr
 go_wp2
 go_ret
 exact ⟨rfl,zd (zg (Below.refl _ _) _) _⟩
theorem specNode_branch_kids (A0_1:Option Addr) (c0_1:Nat) (keys:List ByteArray) (A0_2:Option Addr) (c0_2:Nat) (vals:List ByteArray) (A0_3:Option Addr) (c0_3:Nat) (kids:List Int) (r:Bool) (w:World) (hr0_1:Kd.C Kd.string w A0_1 keys.length keys) (hr0_2:Kd.C Kd.string w A0_2 vals.length vals) (hr0_3:Kd.C (Kd.int .i64) w A0_3 kids.length kids) (hx:1≤keys.length∧keys.length≤4) (hv:¬kids.length=keys.length) (hf:r=true↔zSa false keys vals kids∧∀j,j<keys.length→NCond false keys vals kids j):
  Calls Try.prog 105 #[.agg #[.bool false,.slice A0_1 keys.length c0_1,.slice A0_2 vals.length c0_2,.slice A0_3 kids.length c0_3]] w fun e w'=>e= .returned (.bool r)∧Below w.heap.size w w':=by
 have HR1:=zz hr0_1
 have HR2:=zz hr0_2
 have HR3:=zz hr0_3
 have HF:=zz hf
 clear hr0_1 hr0_2 hr0_3 hf
 have hz:¬(kids.length:Int)=(keys.length:Int):=zq11
 have hd:decide ((kids.length:Int)=(keys.length:Int))=false:=decide_eq_false hz
 have hb:((kids.length:Int)==(keys.length:Int))=false:=beq_eq_false_iff_ne.2 hz
 have hn:((kids.length:Int) !=(keys.length:Int))=true:=by simp [bne,hb]
 have HIN:Z0 (spec_l01In.f (keys.length:Int) 1 4=some true):=⟨zq94⟩
 go_enter Try.func105,Try.ntmps105
 go_wp2_with fail
 ((with_reducible refine (spec_l01In.calls _ 1 4 true _ HIN.out).mono ?_);rintro e w1 ⟨rfl,⟨nd1,rfl⟩⟩)
 have hr:r=false:=no_r HF.out (fun h=>hv (h.1.2.2 rfl).1)
 subst hr
 go_wp2
 go_ret
 exact ⟨rfl,zd (zg (Below.refl _ _) _) _⟩
theorem specNode_branch_vals (A0_1:Option Addr) (c0_1:Nat) (keys:List ByteArray) (A0_2:Option Addr) (c0_2:Nat) (vals:List ByteArray) (A0_3:Option Addr) (c0_3:Nat) (kids:List Int) (r:Bool) (w:World) (hr0_1:Kd.C Kd.string w A0_1 keys.length keys) (hr0_2:Kd.C Kd.string w A0_2 vals.length vals) (hr0_3:Kd.C (Kd.int .i64) w A0_3 kids.length kids) (hx:1≤keys.length∧keys.length≤4) (hv:kids.length=keys.length) (hk:¬vals.length=0) (hf:r=true↔zSa false keys vals kids∧∀j,j<keys.length→NCond false keys vals kids j):
  Calls Try.prog 105 #[.agg #[.bool false,.slice A0_1 keys.length c0_1,.slice A0_2 vals.length c0_2,.slice A0_3 kids.length c0_3]] w fun e w'=>e= .returned (.bool r)∧Below w.heap.size w w':=by
 have HR1:=zz hr0_1
 have HR2:=zz hr0_2
 have HR3:=zz hr0_3
 have HF:=zz hf
 clear hr0_1 hr0_2 hr0_3 hf
 have hz1:(kids.length:Int)=(keys.length:Int):=zq11
 have hd1:decide ((kids.length:Int)=(keys.length:Int))=true:=decide_eq_true hz1
 have hb1:((kids.length:Int)==(keys.length:Int))=true:=beq_iff_eq.2 hz1
 have hn1:((kids.length:Int) !=(keys.length:Int))=false:=by simp [bne,hb1]
 have hz:¬(vals.length:Int)=0:=zq11
 have hd:decide ((vals.length:Int)=0)=false:=decide_eq_false hz
 have hb:((vals.length:Int)==0)=false:=beq_eq_false_iff_ne.2 hz
 have hn:((vals.length:Int) !=0)=true:=by simp [bne,hb]
 have HIN:Z0 (spec_l01In.f (keys.length:Int) 1 4=some true):=⟨zq94⟩
 go_enter Try.func105,Try.ntmps105
 go_wp2_with fail
 ((with_reducible refine (spec_l01In.calls _ 1 4 true _ HIN.out).mono ?_);rintro e w1 ⟨rfl,⟨nd1,rfl⟩⟩)
 have hr:r=false:=no_r HF.out (fun h=>hk (h.1.2.2 rfl).2)
 subst hr
 go_wp2
 go_ret
 exact ⟨rfl,zd (zg (Below.refl _ _) _) _⟩
theorem specNode_leaf (A0_1:Option Addr) (c0_1:Nat) (keys:List ByteArray) (A0_2:Option Addr) (c0_2:Nat) (vals:List ByteArray) (A0_3:Option Addr) (c0_3:Nat) (kids:List Int) (r:Bool) (w:World) (hr0_1:Kd.C Kd.string w A0_1 keys.length keys) (hr0_2:Kd.C Kd.string w A0_2 vals.length vals) (hr0_3:Kd.C (Kd.int .i64) w A0_3 kids.length kids) (hx:1≤keys.length∧keys.length≤4) (hv:vals.length=keys.length) (hk:kids.length=0) (hf:r=true↔zSa true keys vals kids∧∀j,j<keys.length→NCond true keys vals kids j):
  Calls Try.prog 105 #[.agg #[.bool true,.slice A0_1 keys.length c0_1,.slice A0_2 vals.length c0_2,.slice A0_3 kids.length c0_3]] w fun e w'=>e= .returned (.bool r)∧Below w.heap.size w w':=by
 have HR1:=zz hr0_1
 have HR2:=zz hr0_2
 have HR3:=zz hr0_3
 have HF:=zz hf
 clear hr0_1 hr0_2 hr0_3 hf
 have hz1:(vals.length:Int)=(keys.length:Int):=zq11
 have hd1:decide ((vals.length:Int)=(keys.length:Int))=true:=decide_eq_true hz1
 have hb1:((vals.length:Int)==(keys.length:Int))=true:=beq_iff_eq.2 hz1
 have hn1:((vals.length:Int) !=(keys.length:Int))=false:=by simp [bne,hb1]
 have hz:(kids.length:Int)=0:=zq11
 have hd:decide ((kids.length:Int)=0)=true:=decide_eq_true hz
 have hb:((kids.length:Int)==0)=true:=beq_iff_eq.2 hz
 have hn:((kids.length:Int) !=0)=false:=by simp [bne,hb]
 have HVE:=zz (And.intro hv hk)
 clear hz hz1 hv hk
 have HIN:Z0 (spec_l01In.f (keys.length:Int) 1 4=some true):=⟨zq94⟩
 go_enter Try.func105,Try.ntmps105
 go_wp2_with fail
 ((with_reducible refine (spec_l01In.calls _ 1 4 true _ HIN.out).mono ?_);rintro e w1 ⟨rfl,⟨nd1,rfl⟩⟩)
 go_wp2
 clear hd hb hn hd1 hb1 hn1
 go_loopg [4] keys.length (fun gg s4 wr=>∃i:Nat,i≤keys.length∧keys.length-i≤gg∧s4= .int .i64 i∧Z0 (∀j,j<i→NCond true keys vals kids j)∧Z0 (Below w.heap.size w wr)∧Z0 (wr.heap[w.heap.size]?=some (.cells #[.bool true,.slice A0_1 keys.length c0_1,.slice A0_2 vals.length c0_2,.slice A0_3 kids.length c0_3] 45 (0,0))))
 case atStart=>exact ⟨0,Nat.zero_le _,zq11,rfl,⟨fun j hj=>absurd hj (Nat.not_lt_zero _)⟩,⟨zd (zg (Below.refl _ _) _) _⟩,⟨zf (zta _ _) _⟩⟩
 case round=>
  obtain ⟨i,hi,hg,rfl,A,HB,BN⟩:=hrel
  have hb0:wr.cell? ⟨w.heap.size,0,none⟩=some (.bool true):=(zb BN.out 0).trans rfl
  by_cases hlt:i<keys.length
  ·have hltz:(i:Int)<(keys.length:Int):=zq11
   obtain ⟨ad,rfl,hc⟩:=Kd.at_string (Kd.C_below HR1.out HB.out) (i:Int) zq11 hltz
   rw [Int.toNat_natCast] at hc
   obtain ⟨x,hx⟩:∃x,zpa ByteArray.empty keys (i:Int)=x:=⟨_,rfl⟩
   rw [hx] at hc
   have HX:Z0 (keys.getD i ByteArray.empty=x):=⟨hx⟩
   clear hx
   obtain ⟨av,rfl,hcv⟩:=Kd.at_string (Kd.C_below HR2.out HB.out) (i:Int) zq11 (by have:=HVE.out;omega)
   rw [Int.toNat_natCast] at hcv
   obtain ⟨v,hv2⟩:∃v,zpa ByteArray.empty vals (i:Int)=v:=⟨_,rfl⟩
   rw [hv2] at hcv
   have HV:Z0 (vals.getD i ByteArray.empty=v):=⟨hv2⟩
   have hvlz:(i:Int)<(vals.length:Int):=by have:=HVE.out;omega
   clear hv2
   have hb2:wr.cell? ⟨w.heap.size,2,none⟩=some (.slice (some av) vals.length c0_2):=(zb BN.out 2).trans rfl
   have hb1:wr.cell? ⟨w.heap.size,1,none⟩=some (.slice (some ad) keys.length c0_1):=(zb BN.out 1).trans rfl
   by_cases h24:24<x.size
   ·have h24d:decide ((24:Int)<(x.size:Int))=true:=decide_eq_true zq11
    have hr:r=false:=no_r HF.out (fun h=>by have:=(h.2 i hlt).1;rw [HX.out] at this;omega)
    subst hr
    go_wp2
    repeat (go_quiet (fail);try go_wp2)
    go_ret
    exact ⟨rfl,Below.trans HB.out (Below.mono (Drawn0.below ⟨_,rfl⟩) HB.out.size)⟩
   ·have h24d:decide ((24:Int)<(x.size:Int))=false:=decide_eq_false zq11
    by_cases hi0:i=0
    ·have hi0z:¬(0:Int)<(i:Int):=zq11
     have hi0d:decide ((0:Int)<(i:Int))=false:=decide_eq_false hi0z
     have HI0:=zz hi0
     have hi0n:¬0<i:=zq11
     have hi0e:decide (0<i)=false:=decide_eq_false hi0n
     clear hi0
     by_cases hv24:24<v.size
     ·have hvd:decide ((24:Int)<(v.size:Int))=true:=decide_eq_true zq11
      have hr:r=false:=no_r HF.out (fun h=>by have:=(h.2 i hlt).2.2.1 rfl;rw [HV.out] at this;omega)
      subst hr
      go_wp2
      repeat (go_quiet (fail);try go_wp2)
      go_ret
      exact ⟨rfl,Below.trans HB.out (Below.mono (Drawn0.below ⟨_,rfl⟩) HB.out.size)⟩
     ·have hvd:decide ((24:Int)<(v.size:Int))=false:=decide_eq_false zq11
      go_wp2
      repeat (go_quiet (fail);try go_wp2)
      have HW:=zz (show wrap64 ((i:Int)+1)=((i+1:Nat):Int) by unfold wrap64;omega)
      go_roundg (keys.length-(i+1))
      case measure=>omega
      case rel=>exact ⟨i+1,zq11,zq11,zq112,⟨fun j hj=>by
        by_cases e:j=i
        ·subst e
         exact ⟨by rw [HX.out];omega,fun h=>absurd h (zq95 HI0.out),fun _=>by rw [HV.out];omega,(fun q=>by cases q)⟩
        ·exact A.out j zq11⟩,⟨Below.trans HB.out (Below.mono (Drawn0.below ⟨_,rfl⟩) HB.out.size)⟩,⟨zf BN.out _⟩⟩
    ·obtain ⟨m,hm⟩:∃m,i=m+1:=⟨i-1,zq11⟩
     have hmz:(m:Int)<(keys.length:Int):=zq11
     obtain ⟨ad',e',hcm⟩:=Kd.at_string (Kd.C_below HR1.out HB.out) (m:Int) zq11 hmz
     obtain rfl:ad=ad':=by injection e'
     rw [Int.toNat_natCast] at hcm
     obtain ⟨p,hp⟩:∃p,zpa ByteArray.empty keys (m:Int)=p:=⟨_,rfl⟩
     rw [hp] at hcm
     have HP:Z0 (keys.getD (i-1) ByteArray.empty=p):=⟨by rw [hm];exact hp⟩
     have hw1:wrap64 ((i:Int)-1)=(m:Int):=zq128
     have hw2:IntKind.i64.wrap ((i:Int)-1)=(m:Int):=(zfa _).trans hw1
     have hi0z:(0:Int)<(i:Int):=zq11
     have hi0n:0<i:=zq11
     have hi0e:decide (0<i)=true:=decide_eq_true hi0n
     have HM:=zz hm
     clear hp e' hm
     cases hls:Op.bytesLess p.toList x.toList with
     |false=>
      have hr:r=false:=no_r HF.out (fun h=>by have:=(h.2 i hlt).2.1 zq11;rw [HP.out,HX.out] at this;unfold lessB at this;rw [hls] at this;cases this)
      subst hr
      go_wp2
      repeat (go_quiet (fail);try go_wp2)
      go_ret
      exact ⟨rfl,Below.trans HB.out (Below.mono (Drawn0.below ⟨_,rfl⟩) HB.out.size)⟩
     |true=>
      have HLS:Z0 (lessB (keys.getD (i-1) ByteArray.empty) (keys.getD i ByteArray.empty)=true):=⟨by rw [HP.out,HX.out];exact hls⟩
      by_cases hv24:24<v.size
      ·have hvd:decide ((24:Int)<(v.size:Int))=true:=decide_eq_true zq11
       have hr:r=false:=no_r HF.out (fun h=>by have:=(h.2 i hlt).2.2.1 rfl;rw [HV.out] at this;omega)
       subst hr
       go_wp2
       repeat (go_quiet (fail);try go_wp2)
       go_ret
       exact ⟨rfl,Below.trans HB.out (Below.mono (Drawn0.below ⟨_,rfl⟩) HB.out.size)⟩
      ·have hvd:decide ((24:Int)<(v.size:Int))=false:=decide_eq_false zq11
       go_wp2
       repeat (go_quiet (fail);try go_wp2)
       have HW:=zz (show wrap64 ((i:Int)+1)=((i+1:Nat):Int) by clear hw1 hw2;unfold wrap64;omega)
       go_roundg (keys.length-(i+1))
       case measure=>omega
       case rel=>exact ⟨i+1,zq11,zq11,zq112,⟨fun j hj=>by
         by_cases e:j=i
         ·subst e
          exact ⟨by rw [HX.out];omega,fun _=>HLS.out,fun _=>by rw [HV.out];omega,(fun q=>by cases q)⟩
         ·exact A.out j zq11⟩,⟨Below.trans HB.out (Below.mono (Drawn0.below ⟨_,rfl⟩) HB.out.size)⟩,⟨zf BN.out _⟩⟩
  ·have hltz:¬(i:Int)<(keys.length:Int):=zq11
   have hr:r=true:=HF.out.2 ⟨⟨hx,fun _=>HVE.out,(fun q=>by cases q)⟩,fun j hj=>A.out j zq11⟩
   subst hr
   go_wp2
   go_ret
   exact ⟨rfl,HB.out⟩
theorem specNode_branch (A0_1:Option Addr) (c0_1:Nat) (keys:List ByteArray) (A0_2:Option Addr) (c0_2:Nat) (vals:List ByteArray) (A0_3:Option Addr) (c0_3:Nat) (kids:List Int) (r:Bool) (w:World) (hr0_1:Kd.C Kd.string w A0_1 keys.length keys) (hr0_2:Kd.C Kd.string w A0_2 vals.length vals) (hr0_3:Kd.C (Kd.int .i64) w A0_3 kids.length kids) (hx:1≤keys.length∧keys.length≤4) (hv:kids.length=keys.length) (hk:vals.length=0) (hf:r=true↔zSa false keys vals kids∧∀j,j<keys.length→NCond false keys vals kids j):
  Calls Try.prog 105 #[.agg #[.bool false,.slice A0_1 keys.length c0_1,.slice A0_2 vals.length c0_2,.slice A0_3 kids.length c0_3]] w fun e w'=>e= .returned (.bool r)∧Below w.heap.size w w':=by
 have HR1:=zz hr0_1
 have HR2:=zz hr0_2
 have HR3:=zz hr0_3
 have HF:=zz hf
 clear hr0_1 hr0_2 hr0_3 hf
 have hz1:(kids.length:Int)=(keys.length:Int):=zq11
 have hd1:decide ((kids.length:Int)=(keys.length:Int))=true:=decide_eq_true hz1
 have hb1:((kids.length:Int)==(keys.length:Int))=true:=beq_iff_eq.2 hz1
 have hn1:((kids.length:Int) !=(keys.length:Int))=false:=by simp [bne,hb1]
 have hz:(vals.length:Int)=0:=zq11
 have hd:decide ((vals.length:Int)=0)=true:=decide_eq_true hz
 have hb:((vals.length:Int)==0)=true:=beq_iff_eq.2 hz
 have hn:((vals.length:Int) !=0)=false:=by simp [bne,hb]
 have HVE:=zz (And.intro hv hk)
 clear hz hz1 hv hk
 have HIN:Z0 (spec_l01In.f (keys.length:Int) 1 4=some true):=⟨zq94⟩
 go_enter Try.func105,Try.ntmps105
 go_wp2_with fail
 ((with_reducible refine (spec_l01In.calls _ 1 4 true _ HIN.out).mono ?_);rintro e w1 ⟨rfl,⟨nd1,rfl⟩⟩)
 go_wp2
 clear hd hb hn hd1 hb1 hn1
 go_loopg [4] keys.length (fun gg s4 wr=>∃i:Nat,i≤keys.length∧keys.length-i≤gg∧s4= .int .i64 i∧Z0 (∀j,j<i→NCond false keys vals kids j)∧Z0 (Below w.heap.size w wr)∧Z0 (wr.heap[w.heap.size]?=some (.cells #[.bool false,.slice A0_1 keys.length c0_1,.slice A0_2 vals.length c0_2,.slice A0_3 kids.length c0_3] 45 (0,0))))
 case atStart=>exact ⟨0,Nat.zero_le _,zq11,rfl,⟨fun j hj=>absurd hj (Nat.not_lt_zero _)⟩,⟨zd (zg (Below.refl _ _) _) _⟩,⟨zf (zta _ _) _⟩⟩
 case round=>
  obtain ⟨i,hi,hg,rfl,A,HB,BN⟩:=hrel
  have hb0:wr.cell? ⟨w.heap.size,0,none⟩=some (.bool false):=(zb BN.out 0).trans rfl
  by_cases hlt:i<keys.length
  ·have hltz:(i:Int)<(keys.length:Int):=zq11
   obtain ⟨ad,rfl,hc⟩:=Kd.at_string (Kd.C_below HR1.out HB.out) (i:Int) zq11 hltz
   rw [Int.toNat_natCast] at hc
   obtain ⟨x,hx⟩:∃x,zpa ByteArray.empty keys (i:Int)=x:=⟨_,rfl⟩
   rw [hx] at hc
   have HX:Z0 (keys.getD i ByteArray.empty=x):=⟨hx⟩
   clear hx
   obtain ⟨ak,rfl,hck⟩:=Kd.at_int (Kd.C_below HR3.out HB.out) (i:Int) zq11 (by have:=HVE.out;omega)
   rw [Int.toNat_natCast] at hck
   obtain ⟨y,hy⟩:∃y,rd kids (i:Int)=y:=⟨_,rfl⟩
   rw [hy] at hck
   have HY:Z0 (kids.getD i 0=y):=⟨hy⟩
   have hylz:(i:Int)<(kids.length:Int):=by have:=HVE.out;omega
   clear hy
   have hb2:True:=trivial
   have hb3:wr.cell? ⟨w.heap.size,3,none⟩=some (.slice (some ak) kids.length c0_3):=(zb BN.out 3).trans rfl
   have hb1:wr.cell? ⟨w.heap.size,1,none⟩=some (.slice (some ad) keys.length c0_1):=(zb BN.out 1).trans rfl
   by_cases h24:24<x.size
   ·have h24d:decide ((24:Int)<(x.size:Int))=true:=decide_eq_true zq11
    have hr:r=false:=no_r HF.out (fun h=>by have:=(h.2 i hlt).1;rw [HX.out] at this;omega)
    subst hr
    go_wp2
    repeat (go_quiet (fail);try go_wp2)
    go_ret
    exact ⟨rfl,Below.trans HB.out (Below.mono (Drawn0.below ⟨_,rfl⟩) HB.out.size)⟩
   ·have h24d:decide ((24:Int)<(x.size:Int))=false:=decide_eq_false zq11
    by_cases hi0:i=0
    ·have hi0z:¬(0:Int)<(i:Int):=zq11
     have hi0d:decide ((0:Int)<(i:Int))=false:=decide_eq_false hi0z
     have HI0:=zz hi0
     have hi0n:¬0<i:=zq11
     have hi0e:decide (0<i)=false:=decide_eq_false hi0n
     clear hi0
     by_cases hq:2≤y∧y≤39
     ·have HQ:Z0 (spec_l01In.f y 2 39=some true):=⟨zq94⟩
      go_wp2_with fail
      repeat (go_quiet (fail);try go_wp2_with fail)
      ((with_reducible refine (spec_l01In.calls y 2 39 true _ HQ.out).mono ?_);rintro e w9 ⟨rfl,⟨nd9,rfl⟩⟩)
      go_wp2
      go_loopg [5] i (fun gg s5 wq=>∃q:Nat,q≤i∧i-q≤gg∧s5= .int .i64 q∧Z0 (∀p,p<q→kids.getD p 0≠y)∧Z0 (Below w.heap.size w wq)∧Z0 (wq.heap[w.heap.size]?=some (.cells #[.bool false,.slice (some ad) keys.length c0_1,.slice A0_2 vals.length c0_2,.slice (some ak) kids.length c0_3] 45 (0,0))))
      case atStart=>exact ⟨0,Nat.zero_le _,zq11,rfl,⟨fun p hp=>absurd hp (Nat.not_lt_zero _)⟩,⟨Below.trans HB.out (Below.mono (Drawn0.below ⟨_,rfl⟩) HB.out.size)⟩,⟨zf BN.out _⟩⟩
      case round=>
       clear HB BN hb0 hb1 hb2 hb3
       obtain ⟨q,hqi,hg2,rfl,AQ,HB,BN⟩:=hrel
       have hb3:wr.cell? ⟨w.heap.size,3,none⟩=some (.slice (some ak) kids.length c0_3):=(zb BN.out 3).trans rfl
       have hb0:wr.cell? ⟨w.heap.size,0,none⟩=some (.bool false):=(zb BN.out 0).trans rfl
       by_cases hql:q<i
       ·have hqz:(q:Int)<(i:Int):=zq11
        have hik:(i:Int)<(kids.length:Int):=by have:=HVE.out;omega
        have hqk:(q:Int)<(kids.length:Int):=zq11
        obtain ⟨ak',e',hcq⟩:=Kd.at_int (Kd.C_below HR3.out HB.out) (q:Int) zq11 hqk
        obtain rfl:ak=ak':=by injection e'
        obtain ⟨ak',e'',hci⟩:=Kd.at_int (Kd.C_below HR3.out HB.out) (i:Int) zq11 hik
        obtain rfl:ak=ak':=by injection e''
        rw [Int.toNat_natCast] at hcq hci
        obtain ⟨z,hz⟩:∃z,rd kids (q:Int)=z:=⟨_,rfl⟩
        rw [hz] at hcq
        rw [show rd kids (i:Int)=y from HY.out] at hci
        have HZ:Z0 (kids.getD q 0=z):=⟨hz⟩
        clear hz e' e''
        by_cases hzy:z=y
        ·subst hzy
         have hr:r=false:=no_r HF.out (fun h=>by have:=((h.2 i hlt).2.2.2 rfl).2.2 q hql;rw [HZ.out,HY.out] at this;exact this rfl)
         subst hr
         go_wp2
         repeat (go_quiet (fail);try go_wp2)
         go_ret
         exact ⟨rfl,Below.trans HB.out (Below.mono (Drawn0.below ⟨_,rfl⟩) HB.out.size)⟩
        ·have hzd:=decide_eq_false hzy
         have hzb:(z==y)=false:=beq_eq_false_iff_ne.2 hzy
         have HZY:=zz hzy
         clear hzy
         go_wp2
         repeat (go_quiet (fail);try go_wp2)
         have HW:=zz (show wrap64 ((q:Int)+1)=((q+1:Nat):Int) by unfold wrap64;omega)
         go_roundg (i-(q+1))
         case measure=>omega
         case rel=>exact ⟨q+1,zq11,zq11,zq112,⟨fun p hp=>by
           by_cases e:p=q
           ·subst e;rw [HZ.out];exact HZY.out
           ·exact AQ.out p zq11⟩,⟨Below.trans HB.out (Below.mono (Drawn0.below ⟨_,rfl⟩) HB.out.size)⟩,⟨zf BN.out _⟩⟩
       ·obtain rfl:q=i:=zq11
        have hqz:¬(q:Int)<(q:Int):=zq11
        have HK:Z0 (2≤kids.getD q 0∧kids.getD q 0≤39∧∀p,p<q→kids.getD p 0≠kids.getD q 0):=⟨by rw [HY.out];exact ⟨hq.1,hq.2,AQ.out⟩⟩
        clear hqi hg2 hql
        go_wp2
        have HW:=zz (show wrap64 ((q:Int)+1)=((q+1:Nat):Int) by unfold wrap64;omega)
        go_roundg (keys.length-(q+1))
        case measure=>omega
        case rel=>exact ⟨q+1,zq11,zq11,zq112,⟨fun j hj=>by
          by_cases e:j=q
          ·subst e
           exact ⟨by rw [HX.out];omega,fun h=>absurd h (zq95 HI0.out),(fun q=>by cases q),fun _=>HK.out⟩
          ·exact A.out j zq11⟩,HB,BN⟩
     ·have HQ:Z0 (spec_l01In.f y 2 39=some false):=⟨zq111⟩
      have hr:r=false:=no_r HF.out (fun h=>by have:=(h.2 i hlt).2.2.2 rfl;rw [HY.out] at this;exact hq ⟨this.1,this.2.1⟩)
      subst hr
      go_wp2_with fail
      repeat (go_quiet (fail);try go_wp2_with fail)
      ((with_reducible refine (spec_l01In.calls y 2 39 false _ HQ.out).mono ?_);rintro e w9 ⟨rfl,⟨nd9,rfl⟩⟩)
      go_wp2
      go_ret
      exact ⟨rfl,Below.trans HB.out (Below.mono (Drawn0.below ⟨_,rfl⟩) HB.out.size)⟩
    ·obtain ⟨m,hm⟩:∃m,i=m+1:=⟨i-1,zq11⟩
     have hmz:(m:Int)<(keys.length:Int):=zq11
     obtain ⟨ad',e',hcm⟩:=Kd.at_string (Kd.C_below HR1.out HB.out) (m:Int) zq11 hmz
     obtain rfl:ad=ad':=by injection e'
     rw [Int.toNat_natCast] at hcm
     obtain ⟨p,hp⟩:∃p,zpa ByteArray.empty keys (m:Int)=p:=⟨_,rfl⟩
     rw [hp] at hcm
     have HP:Z0 (keys.getD (i-1) ByteArray.empty=p):=⟨by rw [hm];exact hp⟩
     have hw1:wrap64 ((i:Int)-1)=(m:Int):=zq128
     have hw2:IntKind.i64.wrap ((i:Int)-1)=(m:Int):=(zfa _).trans hw1
     have hi0z:(0:Int)<(i:Int):=zq11
     have hi0n:0<i:=zq11
     have hi0e:decide (0<i)=true:=decide_eq_true hi0n
     have HM:=zz hm
     clear hp e' hm
     cases hls:Op.bytesLess p.toList x.toList with
     |false=>
      have hr:r=false:=no_r HF.out (fun h=>by have:=(h.2 i hlt).2.1 zq11;rw [HP.out,HX.out] at this;unfold lessB at this;rw [hls] at this;cases this)
      subst hr
      go_wp2
      repeat (go_quiet (fail);try go_wp2)
      go_ret
      exact ⟨rfl,Below.trans HB.out (Below.mono (Drawn0.below ⟨_,rfl⟩) HB.out.size)⟩
     |true=>
      have HLS:Z0 (lessB (keys.getD (i-1) ByteArray.empty) (keys.getD i ByteArray.empty)=true):=⟨by rw [HP.out,HX.out];exact hls⟩
      by_cases hq:2≤y∧y≤39
      ·have HQ:Z0 (spec_l01In.f y 2 39=some true):=⟨zq94⟩
       go_wp2_with fail
       repeat (go_quiet (fail);try go_wp2_with fail)
       ((with_reducible refine (spec_l01In.calls y 2 39 true _ HQ.out).mono ?_);rintro e w9 ⟨rfl,⟨nd9,rfl⟩⟩)
       go_wp2
       go_loopg [5] i (fun gg s5 wq=>∃q:Nat,q≤i∧i-q≤gg∧s5= .int .i64 q∧Z0 (∀p,p<q→kids.getD p 0≠y)∧Z0 (Below w.heap.size w wq)∧Z0 (wq.heap[w.heap.size]?=some (.cells #[.bool false,.slice (some ad) keys.length c0_1,.slice A0_2 vals.length c0_2,.slice (some ak) kids.length c0_3] 45 (0,0))))
       case atStart=>exact ⟨0,Nat.zero_le _,zq11,rfl,⟨fun p hp=>absurd hp (Nat.not_lt_zero _)⟩,⟨Below.trans HB.out (Below.mono (Drawn0.below ⟨_,rfl⟩) HB.out.size)⟩,⟨zf BN.out _⟩⟩
       case round=>
        clear HB BN hb0 hb1 hb2 hb3
        obtain ⟨q,hqi,hg2,rfl,AQ,HB,BN⟩:=hrel
        have hb3:wr.cell? ⟨w.heap.size,3,none⟩=some (.slice (some ak) kids.length c0_3):=(zb BN.out 3).trans rfl
        have hb0:wr.cell? ⟨w.heap.size,0,none⟩=some (.bool false):=(zb BN.out 0).trans rfl
        by_cases hql:q<i
        ·have hqz:(q:Int)<(i:Int):=zq11
         have hik:(i:Int)<(kids.length:Int):=by have:=HVE.out;omega
         have hqk:(q:Int)<(kids.length:Int):=zq11
         obtain ⟨ak',e',hcq⟩:=Kd.at_int (Kd.C_below HR3.out HB.out) (q:Int) zq11 hqk
         obtain rfl:ak=ak':=by injection e'
         obtain ⟨ak',e'',hci⟩:=Kd.at_int (Kd.C_below HR3.out HB.out) (i:Int) zq11 hik
         obtain rfl:ak=ak':=by injection e''
         rw [Int.toNat_natCast] at hcq hci
         obtain ⟨z,hz⟩:∃z,rd kids (q:Int)=z:=⟨_,rfl⟩
         rw [hz] at hcq
         rw [show rd kids (i:Int)=y from HY.out] at hci
         have HZ:Z0 (kids.getD q 0=z):=⟨hz⟩
         clear hz e' e''
         by_cases hzy:z=y
         ·subst hzy
          have hr:r=false:=no_r HF.out (fun h=>by have:=((h.2 i hlt).2.2.2 rfl).2.2 q hql;rw [HZ.out,HY.out] at this;exact this rfl)
          subst hr
          go_wp2
          repeat (go_quiet (fail);try go_wp2)
          go_ret
          exact ⟨rfl,Below.trans HB.out (Below.mono (Drawn0.below ⟨_,rfl⟩) HB.out.size)⟩
         ·have hzd:=decide_eq_false hzy
          have hzb:(z==y)=false:=beq_eq_false_iff_ne.2 hzy
          have HZY:=zz hzy
          clear hzy
          go_wp2
          repeat (go_quiet (fail);try go_wp2)
          have HW:=zz (show wrap64 ((q:Int)+1)=((q+1:Nat):Int) by clear hw1 hw2;unfold wrap64;omega)
          go_roundg (i-(q+1))
          case measure=>omega
          case rel=>exact ⟨q+1,zq11,zq11,zq112,⟨fun p hp=>by
            by_cases e:p=q
            ·subst e;rw [HZ.out];exact HZY.out
            ·exact AQ.out p zq11⟩,⟨Below.trans HB.out (Below.mono (Drawn0.below ⟨_,rfl⟩) HB.out.size)⟩,⟨zf BN.out _⟩⟩
        ·obtain rfl:q=i:=zq11
         have hqz:¬(q:Int)<(q:Int):=zq11
         have HK:Z0 (2≤kids.getD q 0∧kids.getD q 0≤39∧∀p,p<q→kids.getD p 0≠kids.getD q 0):=⟨by rw [HY.out];exact ⟨hq.1,hq.2,AQ.out⟩⟩
         clear hqi hg2 hql
         go_wp2
         have HW:=zz (show wrap64 ((q:Int)+1)=((q+1:Nat):Int) by clear hw1 hw2;unfold wrap64;omega)
         go_roundg (keys.length-(q+1))
         case measure=>omega
         case rel=>exact ⟨q+1,zq11,zq11,zq112,⟨fun j hj=>by
           by_cases e:j=q
           ·subst e
            exact ⟨by rw [HX.out];omega,fun _=>HLS.out,(fun q=>by cases q),fun _=>HK.out⟩
           ·exact A.out j zq11⟩,HB,BN⟩
      ·have HQ:Z0 (spec_l01In.f y 2 39=some false):=⟨zq111⟩
       have hr:r=false:=no_r HF.out (fun h=>by have:=(h.2 i hlt).2.2.2 rfl;rw [HY.out] at this;exact hq ⟨this.1,this.2.1⟩)
       subst hr
       go_wp2_with fail
       repeat (go_quiet (fail);try go_wp2_with fail)
       ((with_reducible refine (spec_l01In.calls y 2 39 false _ HQ.out).mono ?_);rintro e w9 ⟨rfl,⟨nd9,rfl⟩⟩)
       go_wp2
       go_ret
       exact ⟨rfl,Below.trans HB.out (Below.mono (Drawn0.below ⟨_,rfl⟩) HB.out.size)⟩
  ·have hltz:¬(i:Int)<(keys.length:Int):=zq11
   have hr:r=true:=HF.out.2 ⟨⟨hx,(fun q=>by cases q),fun _=>HVE.out⟩,fun j hj=>A.out j zq11⟩
   subst hr
   go_wp2
   go_ret
   exact ⟨rfl,HB.out⟩
theorem spec_NodeOk.calls (k:Nat) (a0_0:Bool) (A0_1:Option Addr) (c0_1:Nat) (l0_1:List ByteArray) (A0_2:Option Addr) (c0_2:Nat) (l0_2:List ByteArray) (A0_3:Option Addr) (c0_3:Nat) (l0_3:List Int) (r:Bool) (w:World) (hr0_1:Kd.C Kd.string w A0_1 l0_1.length l0_1) (hc0_1:l0_1.length≤c0_1) (hr0_2:Kd.C Kd.string w A0_2 l0_2.length l0_2) (hc0_2:l0_2.length≤c0_2) (hr0_3:Kd.C (Kd.int .i64) w A0_3 l0_3.length l0_3) (hc0_3:l0_3.length≤c0_3) (h:spec_NodeOk.f k a0_0 l0_1 l0_2 l0_3=some r):
  Calls Try.prog 105 #[.agg #[.bool a0_0,.slice A0_1 l0_1.length c0_1,.slice A0_2 l0_2.length c0_2,.slice A0_3 l0_3.length c0_3]] w fun e w'=>e= .returned (.bool r)∧Below w.heap.size w w':=by
 obtain rfl:=Option.some.inj h
 have hf:=specB_iff a0_0 l0_1 l0_2 l0_3
 by_cases hx:1≤l0_1.length∧l0_1.length≤4
 ·cases a0_0 with
  |true=>
   by_cases hv:l0_2.length=l0_1.length
   ·by_cases hk:l0_3.length=0
    ·exact specNode_leaf A0_1 c0_1 l0_1 A0_2 c0_2 l0_2 A0_3 c0_3 l0_3 _ w hr0_1 hr0_2 hr0_3 hx hv hk hf
    ·exact specNode_leaf_kids A0_1 c0_1 l0_1 A0_2 c0_2 l0_2 A0_3 c0_3 l0_3 _ w hr0_1 hr0_2 hr0_3 hx hv hk hf
   ·exact specNode_leaf_vals A0_1 c0_1 l0_1 A0_2 c0_2 l0_2 A0_3 c0_3 l0_3 _ w hr0_1 hr0_2 hr0_3 hx hv hf
  |false=>
   by_cases hv:l0_3.length=l0_1.length
   ·by_cases hk:l0_2.length=0
    ·exact specNode_branch A0_1 c0_1 l0_1 A0_2 c0_2 l0_2 A0_3 c0_3 l0_3 _ w hr0_1 hr0_2 hr0_3 hx hv hk hf
    ·exact specNode_branch_vals A0_1 c0_1 l0_1 A0_2 c0_2 l0_2 A0_3 c0_3 l0_3 _ w hr0_1 hr0_2 hr0_3 hx hv hk hf
   ·exact specNode_branch_kids A0_1 c0_1 l0_1 A0_2 c0_2 l0_2 A0_3 c0_3 l0_3 _ w hr0_1 hr0_2 hr0_3 hx hv hf
 ·exact specNode_in a0_0 A0_1 c0_1 l0_1 A0_2 c0_2 l0_2 A0_3 c0_3 l0_3 _ w hr0_1 hr0_2 hr0_3 hx hf
end Go.Proofs.Ytonhdiemjgdcnaa.PFnExactGivePage
