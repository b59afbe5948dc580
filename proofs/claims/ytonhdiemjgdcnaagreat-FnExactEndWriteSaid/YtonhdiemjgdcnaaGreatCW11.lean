import Derived.Test.YtonhdiemjgdcnaaGreatCW10
set_option maxHeartbeats 64000000
set_option maxRecDepth 100000
set_option linter.unusedVariables false
set_option linter.unusedSimpArgs false
namespace Go.Proofs
theorem zq100{P:Prop}(h:P:=by rw [zKa];unfold wrap64;omega):P:=h
theorem zq110{P:Prop}(h:P:=by go_num):P:=h
theorem zq126{P:Prop}(h:P:=by rw [HSN.1,hk2,List.take_length,seen_succ HE.1]):P:=h
theorem zq218{P:Prop}(h:P:=by
 go_roundg k2
 case measure=>omega
 case rel=>exact ⟨k+1,_,rfl,zq110,⟨zq51 HQ2.1⟩,⟨zq9⟩,⟨fun j p2 hj hf=>by
  rcases Nat.lt_or_ge j k with h2|h2
  ·exact HP2.1 j p2 h2 hf
  ·obtain rfl:j=k:=zq9
   have:=HPK.1.symm.trans hf
   injection this with this
   subst this
   exact HPG.1⟩,⟨by
   obtain ⟨hkl,hkv⟩:=List.getElem?_eq_some_iff.1 HPK.1
   rw [List.take_succ_eq_append_getElem hkl,hkv,←List.append_assoc,←HSN.1]
   exact HS1.1⟩,BF1,OW1⟩):P:=h
theorem zq180{P:Prop}(h:P:=by
 obtain ⟨W3,hW3⟩:∃W3,W3=wr.drewN nq:=⟨_,rfl⟩
 have HB3:=zz (show Below wr.heap.size wr W3 from by rw [hW3];exact zrb _ _)
 rw [←hW3]
 clear hW3 hp2 hf1 hw2
 replace pc:=zi pc HB3.1
 replace HS:=zz (HS.1.step HB3.1)
 replace BF:=zz (zg BF.1 HB3.1)
 have hf1:W3.cell? ⟨gF,1,none⟩=some (.slice (some ap) el.f1.length c11):=(zj BF.1 1).trans rfl
 clear HB3
 go_wp2_with ((with_reducible refine zea (b:= .append) (xs:= #[.tmp 125,.tmp 131]) rfl ?_);at_builtin;refine seen_app rfl (.tmp 125) (.tmp 131) rfl rfl rfl HS.1 BF.1 OW.1 hsl2 ?_;intro v1 w1 HS1 BF1 OW1)
 exact zq218):P:=h
theorem zq183{P:Prop}(h:P:=by
 go_quiet (first|(go_at_call 77;exact inSq _ _ _ _ _)|(go_at_call 78;exact hasSq _ _ _ _ _ _ KS.1 hsl2))
 go_wp2
 go_ret
 exact ⟨rb HBF.1,ze HS.1.bel (zrb _ _)⟩):P:=h
theorem zq140{P:Prop}(h:P:=by
 go_quiet ((go_at_call 77;exact inSq _ _ _ _ _))
 simp only [eT,eL]
 clear eT eL
 obtain ⟨W2,hW2⟩:∃W2,W2=W1.drewN nq:=⟨_,rfl⟩
 have HB2:=zz (show Below W1.heap.size W1 W2 from by rw [hW2];exact zrb _ _)
 rw [←hW2]
 clear hW2 hp0 hp3 hf0 hf1
 replace HS:=zz (HS.1.step HB2.1)
 replace BF:=zz (zg BF.1 HB2.1)
 clear HB2
 go_wp2
 go_loopg [3,6] (el.f1.length+1) (fun kq v3 v6 w'=>∃(k:Nat) (v:Value),v3=v∧v6= .int .i64 (k:Int)∧Z0 (kq+k=el.f1.length+1)∧Z0 (k≤el.f1.length)∧Z0 (∀(j:Nat) (p:Int),j<k→el.f1[j]?=some p→PgOk x (zNa x i) el.f1 j p)∧Z0 (SeenAt w w' [.int .i64 x.f0,.int .i64 x.f1,.int .i64 x.f2,.slice (some ad) x.f3.length cF] (zNa x i++el.f1.take k) v)∧Z0 (w'.heap[gF]?=some (.cells ([.int .i64 el.f0,.slice A1 el.f1.length c11]:List Value).toArray 112 (0,0)))∧Z0 (∀q,v.ownBlock=some q→q≠gF))
 case atStart=>exact ⟨0,_,rfl,rfl,⟨zq9⟩,⟨z0b _⟩,⟨fun j p h=>absurd h (Nat.not_lt_zero _)⟩,⟨by rw [List.take_zero,List.append_nil];exact HS.1⟩,BF,⟨fun q hq=>z8a (OW.1 q hq)⟩⟩
 case round=>
  clear HS BF OW
  obtain ⟨k,v,rfl,rfl,HQ2,HI2,HP2,HS,BF,OW⟩:=hrel
  have hf1:wr.cell? ⟨gF,1,none⟩=some (.slice A1 el.f1.length c11):=(zj BF.1 1).trans rfl
  obtain ⟨sn,hsn⟩:∃sn,sn=zNa x i++el.f1.take k:=⟨_,rfl⟩
  have hsl:sn.length≤2000:=by
   have h1:=seen_len2 (fun j f hj hf=>(HP.1 j f hj hf).1.2.2.2) i (z3a _) HI.1
   have h2:=List.length_take_le k el.f1
   have h3:=HI.1
   have h4:=HI2.1
   rw [hsn,List.length_append]
   omega
  rw [←hsn] at HS
  have HSN:=zz hsn
  clear hsn
  obtain ⟨Av,cv,rfl⟩:=Kd.R_slice HS.1.row
  by_cases hk:k<el.f1.length
  ·have d1:decide ((k:Int)<(el.f1.length:Int))=true:=z6 zq9
   have d0:decide ((0:Int)≤(k:Int))=true:=z6 zq9
   have d2:((k:Int)<(el.f1.length:Int))=True:=eq_true zq9
   have d3:((0:Int)≤(k:Int))=True:=eq_true zq9
   cases gk with
   |zero=>exact absurd HQ2.1 zq9
   |succ k2=>
    obtain ⟨ap,hAp,pc⟩:=C_at KE.1 hk
    subst hAp
    obtain ⟨p,hp⟩:∃p,p=el.f1[k]:=⟨_,rfl⟩
    rw [←hp] at pc
    have HPK:=zz (show el.f1[k]?=some p from by rw [hp];exact List.getElem?_eq_getElem hk)
    clear hp
    replace pc:=zi pc HS.1.bel
    have hp2:wr.cell? ⟨w.heap.size,2,none⟩=some (.int .i64 x.f2):=(zj HS.1.box 2).trans rfl
    have KS:=zz (Kd.R_reads' HS.1.row).2.2
    have hsl2:sn.length≤2000000:=zq9
    go_upto_region 13 with (fail)
    have hways:=pg_ways x i el k p b HB.1 HE.1 HPK.1
    rw [←HSN.1] at hways
    have HW2:=zz (show IntKind.i64.wrap (x.f2-1)=x.f2-1 from by rw [zKa];unfold wrap64;omega)
    rcases hways with ⟨hbf,hways⟩|⟨hPg,eP,eS,hways⟩
    ·have HBF:=zz hbf
     clear hbf
     rcases hways with eP|⟨eP,hz0,eS⟩|⟨eP,q,hq,h0,hle⟩|⟨eP,q,hq,h0,hle,eS⟩
     ·have hw2:=HW2.1
      exact zq183
     ·have q1:decide ((0:Int)<(k:Int))=false:=z7 zq9
      have q2:decide (0<k)=false:=z7 zq9
      have hw2:=HW2.1
      clear hz0
      exact zq183
     ·have q1:decide ((0:Int)<(k:Int))=true:=z6 zq9
      have q2:decide (0<k)=true:=z6 zq9
      have hs1:IntKind.i64.wrap ((k:Int)-1)=((k-1:Nat):Int):=zq100
      have hs2:(0:Int)≤((k-1:Nat):Int):=zq9
      have hs3:((k-1:Nat):Int)<(el.f1.length:Int):=zq9
      obtain ⟨hql,hqv⟩:=List.getElem?_eq_some_iff.1 hq
      obtain ⟨ap2,hA2,zq⟩:=C_at KE.1 hql
      rw [hqv] at zq
      injection hA2 with hA2
      subst hA2
      clear hqv hq
      replace zq:=zi zq HS.1.bel
      have hw2:=HW2.1
      have q3:decide (p≤q)=true:=z6 hle
      exact zq183
     ·have q1:decide ((0:Int)<(k:Int))=true:=z6 zq9
      have q2:decide (0<k)=true:=z6 zq9
      have hs1:IntKind.i64.wrap ((k:Int)-1)=((k-1:Nat):Int):=zq100
      have hs2:(0:Int)≤((k-1:Nat):Int):=zq9
      have hs3:((k-1:Nat):Int)<(el.f1.length:Int):=zq9
      obtain ⟨hql,hqv⟩:=List.getElem?_eq_some_iff.1 hq
      obtain ⟨ap2,hA2,zq⟩:=C_at KE.1 hql
      rw [hqv] at zq
      injection hA2 with hA2
      subst hA2
      clear hqv hq
      replace zq:=zi zq HS.1.bel
      have hw2:=HW2.1
      have q3:decide (p≤q)=false:=z7 hle
      exact zq183
    ·have HPG:=zz hPg
     clear hPg
     rcases hways with hz0|⟨q,hq,h0,hle⟩
     ·have q1:decide ((0:Int)<(k:Int))=false:=z7 zq9
      have q2:decide (0<k)=false:=z7 zq9
      have hw2:=HW2.1
      clear hz0
      go_quiet (first|(go_at_call 77;exact inSq _ _ _ _ _)|(go_at_call 78;exact hasSq _ _ _ _ _ _ KS.1 hsl2))
      exact zq180
     ·have q1:decide ((0:Int)<(k:Int))=true:=z6 zq9
      have q2:decide (0<k)=true:=z6 zq9
      have hs1:IntKind.i64.wrap ((k:Int)-1)=((k-1:Nat):Int):=zq100
      have hs2:(0:Int)≤((k-1:Nat):Int):=zq9
      have hs3:((k-1:Nat):Int)<(el.f1.length:Int):=zq9
      obtain ⟨hql,hqv⟩:=List.getElem?_eq_some_iff.1 hq
      obtain ⟨ap2,hA2,zq⟩:=C_at KE.1 hql
      rw [hqv] at zq
      injection hA2 with hA2
      subst hA2
      clear hqv hq
      replace zq:=zi zq HS.1.bel
      have hw2:=HW2.1
      have q3:decide (p≤q)=false:=z7 hle
      go_quiet (first|(go_at_call 77;exact inSq _ _ _ _ _)|(go_at_call 78;exact hasSq _ _ _ _ _ _ KS.1 hsl2))
      clear zq
      exact zq180
  ·have d1:decide ((k:Int)<(el.f1.length:Int))=false:=z7 zq9
   have hk2:k=el.f1.length:=zq51 HI2.1
   have hsn:sn=zNa x (i+1):=zq126
   subst hk2
   obtain ⟨nn,hnn⟩:∃n,n=sn.length:=⟨_,rfl⟩
   go_wp2
   go_roundg k1
   case measure=>omega
   case rel=>exact ⟨i+1,_,rfl,zq110,⟨zq115⟩,⟨zq9⟩,⟨fun j f hj hf=>by
    rcases Nat.lt_or_ge j i with h2|h2
    ·exact HP.1 j f h2 hf
    ·obtain rfl:j=i:=zq9
     have:=HE.1.symm.trans hf
     injection this with this
     subst this
     exact ⟨HFR.1,fun k p hp=>HP2.1 k p (List.getElem?_eq_some_iff.1 hp).1 hp⟩⟩,⟨by rw [←hsn];exact HS.1⟩⟩):P:=h
theorem zq150{P:Prop}(h:P:=by
 go_wp2
 go_ret
 exact ⟨rb HBF.1,ze HS.1.bel (zrb _ _)⟩):P:=h
theorem zq170{P:Prop}(h:P:=by
 go_wp2
 go_round
 case rel=>exact ⟨k+1,zq110,zq9,⟨fun j p2 hj hf=>by
  rcases Nat.lt_or_ge j k with h2|h2
  ·exact HP.1 j p2 h2 hf
  ·obtain rfl:j=k:=zq9
   have:=HPK.1.symm.trans hf
   injection this with this
   subst this
   exact HG.1⟩⟩
 case measure=>simp [intOf];omega):P:=h
theorem zq174{P:Prop}(h:P:=by
 have c1:decide ((i:Int)<(x.f3.length:Int))=false:=z7 zq9
 have hbt:true=b:=(HB.1.2 ⟨HH.1,fun j f hj=>HP.1 j f (by have:=(List.getElem?_eq_some_iff.1 hj).1;have:=HI.1;omega) hj⟩).symm
 have HBT:=zz hbt
 clear hbt
 go_wp2
 go_ret
 exact ⟨rb HBT.1,HS.1.bel⟩):P:=h
theorem zq210{P:Prop}(h:P:=by
 go_quiet ((go_at_call 77;exact inSq _ _ _ _ _))
 exact zq150):P:=h
end Go.Proofs
namespace Go.Proofs.YtonhdiemjgdcnaaGreat.PFnExactGivePage
open Go.RowKit Go.Proofs.YtonhdiemjgdcnaaGreatW.PrintWords Go.Proofs.YtonhdiemjgdcnaaGreatW.PrintLast Go.Proofs.YtonhdiemjgdcnaaGreatW.PrintMore
attribute [local go_sem] zma zla zwa zxa zba zca zoa zna
def laws_szFree.f (a0_0:Int) (l0_1:List Int) (a1:Int):Option (Int):=(laws_szIntS.f l0_1 a1).bind fun t215=>(if t215<0 then (some (-1)) else (some t215))
theorem laws_szFree.calls (a0:Int) (A0:Option Addr) (c0:Nat) (l2:List Int) (a1:Int) (r:Int) (w:World) (r0:Kd.C (Kd.int .i64) w A0 l2.length l2) (h0:l2.length≤c0) (h:laws_szFree.f a0 l2 a1=some r):
  Calls Tryz.prog 114 #[.agg #[.int .i64 a0,.slice A0 l2.length c0],.int .i64 a1] w fun e w'=>e= .returned (.int .i64 r)∧Below w.heap.size w w':=by
 have hu183:=Tryz.underlying140
 have R0:=zz r0
 have C0:=zz h0
 clear r0 h0
 have HB:=zz (z1a w.heap.size w)
 have H:((laws_szIntS.f l2 a1).bind fun t0=>(if t0<0 then (some (-1)) else (some t0)))=some r:=h
 clear h
 replace H:=z2a H
 obtain ⟨t0,A1,H⟩:=H
 replace H:(if t0<0 then (some (-1)) else (some t0))=some r:=H
 have A3:=zz A1
 clear A1
 by_cases c4:t0<0
 ·rw [if_pos c4] at H
  have c4b0:=z6 c4
  clear c4
  obtain rfl:=z6a H
  go_enter Tryz.func114,Tryz.ntmps114
  go_wp2_with (first|((with_reducible refine zd (N:=2) rfl ?_);refine zx rfl (N:=2) rfl (cs:= #[.int .i64 a0,.slice A0 l2.length c0]) (t:=140) zq27 ?_;intro g0 hg w5 hbox hb;have B0:=zz hbox;have G0:=zz (zq15:w.heap.size≤g0);replace HB:=zz (ze zq0 hb);clear hb hbox hg;obtain ⟨_,_,_,_⟩:=zV B0.1)|((with_reducible refine zr (f:=76) rfl ?_);refine zN (some 8) rfl rfl Tryz.func76 zq13 rfl #[.slice A0 l2.length c0,.int .i64 a1] rfl zq8 ?_;(with_reducible refine (laws_szIntS.calls _ _ l2 a1 t0 _ ?side1 ?side2 A3.1).mono ?_);(case side1=>repeat (first|exact (Kd.C_below R0.1 HB.1)|(with_reducible refine Kd.C_alloc ?_ _)|(with_reducible refine Kd.C_drewN ?_ _)|(with_reducible refine Kd.C_drew ?_)));(case side2=>exact C0.1);rintro e w' ⟨rfl,⟨nd,rfl⟩⟩;refine ⟨_,rfl,?_⟩))
  exact zq153
 ·rw [if_neg c4] at H
  have c4b0:=z7 c4
  clear c4
  obtain rfl:=z6a H
  go_enter Tryz.func114,Tryz.ntmps114
  go_wp2_with (first|((with_reducible refine zd (N:=2) rfl ?_);refine zx rfl (N:=2) rfl (cs:= #[.int .i64 a0,.slice A0 l2.length c0]) (t:=140) zq27 ?_;intro g0 hg w7 hbox hb;have B0:=zz hbox;have G0:=zz (zq15:w.heap.size≤g0);replace HB:=zz (ze zq0 hb);clear hb hbox hg;obtain ⟨_,_,_,_⟩:=zV B0.1)|((with_reducible refine zr (f:=76) rfl ?_);refine zN (some 8) rfl rfl Tryz.func76 zq13 rfl #[.slice A0 l2.length c0,.int .i64 a1] rfl zq8 ?_;(with_reducible refine (laws_szIntS.calls _ _ l2 a1 t0 _ ?side1 ?side2 A3.1).mono ?_);(case side1=>repeat (first|exact (Kd.C_below R0.1 HB.1)|(with_reducible refine Kd.C_alloc ?_ _)|(with_reducible refine Kd.C_drewN ?_ _)|(with_reducible refine Kd.C_drew ?_)));(case side2=>exact C0.1);rintro e w' ⟨rfl,⟨nd,rfl⟩⟩;refine ⟨_,rfl,?_⟩))
  exact zq153
def laws_szFreeS.l0:Nat→List (S140)→Int→Int→Option (Int)
 |0,_,_,_=>none
 |k+1,x0,x1,x5=>if x5<(x0.length:Int) then (if 0≤x5 then ((laws_szFree.f ((zBa x0 x5).f0) ((zBa x0 x5).f1) x1).bind fun t217=>(if t217<0 then (some (-1)) else (laws_szFreeS.l0 k x0 t217 (wrap64 (x5+1))))) else (none)) else (some x1)
def laws_szFreeS.f (k:Nat) (l0:List (S140)) (a1:Int):Option (Int):=if (wrap64 (a1-(l0.length:Int)))<0 then (some (-1)) else (laws_szFreeS.l0 k l0 (wrap64 (a1-(l0.length:Int))) 0)
theorem laws_szFreeS.mono_l:∀k,(∀y0 y1 y2,LeO (laws_szFreeS.l0 k y0 y1 y2) (laws_szFreeS.l0 (k+1) y0 y1 y2))
 |0=>fun _ _ _ r h=>by simp [laws_szFreeS.l0] at h
 |k+1=>by
  have ih0:=laws_szFreeS.mono_l k
  ·intro y0 y1 y2
   unfold laws_szFreeS.l0
   exact zq145
theorem laws_szFreeS.mono:∀a0 a1 k,LeO (laws_szFreeS.f k a0 a1) (laws_szFreeS.f (k+1) a0 a1):=by
 intro a0 a1 k
 have ih0:=laws_szFreeS.mono_l k
 unfold laws_szFreeS.f
 exact zq144
theorem laws_szFreeS.calls (k:Nat) (A0:Option Addr) (c0:Nat) (l0:List (S140)) (a1:Int) (r:Int) (w:World) (hr0:Kd.C k140 w A0 l0.length l0) (hc0:l0.length≤c0) (h:laws_szFreeS.f k l0 a1=some r):
  Calls Tryz.prog 75 #[.slice A0 l0.length c0,.int .i64 a1] w fun e w'=>e= .returned (.int .i64 r)∧Below w.heap.size w w':=by
 have hu183:=Tryz.underlying140
 have HR0:=zz hr0
 clear hr0 hc0
 have HB:=zz (z1a w.heap.size w)
 have H:(if (wrap64 (a1-(l0.length:Int)))<0 then (some (-1)) else (laws_szFreeS.l0 k l0 (wrap64 (a1-(l0.length:Int))) 0))=some r:=h
 clear h
 by_cases c3:(wrap64 (a1-(l0.length:Int)))<0
 ·rw [if_pos c3] at H
  have c3b0:=z6 c3
  clear c3
  obtain rfl:=z6a H
  go_enter Tryz.func75,Tryz.ntmps75
  exact zq169
 ·rw [if_neg c3] at H
  have c3b0:=z7 c3
  clear c3
  have H':=zz H
  clear H
  go_enter Tryz.func75,Tryz.ntmps75
  go_wp2
  go_loopg [1,5] k (fun kq v1 v5 w'=>∃(x0:Int) (x1:Int),v1= .int .i64 x0∧v5= .int .i64 x1∧Z0 (laws_szFreeS.l0 kq l0 x0 x1=some r)∧Z0 (kq≤k)∧Z0 (Below w.heap.size w w'))
  case atStart=>exact ⟨(wrap64 (a1-(l0.length:Int))),(0),zq18,zq18,H',⟨z3a _⟩,⟨zq0⟩⟩
  case round=>
   clear H'
   try clear c3
   try clear c3b0
   obtain ⟨x0,x1,rfl,rfl,HA,HK1,HB⟩:=hrel
   cases gk with
   |zero=>exact absurd HA.1 (by simp [laws_szFreeS.l0])
   |succ k1=>
    have H:=HA.1
    clear HA
    simp only [laws_szFreeS.l0] at H
    by_cases c4:x1<(l0.length:Int)
    ·rw [if_pos c4] at H
     have c4b0:=z6 c4
     clear c4
     by_cases c5:0≤x1
     ·rw [if_pos c5] at H
      have c5b0:=z6 c5
      clear c5
      replace H:=z2a H
      obtain ⟨t0,A1,H⟩:=H
      replace H:(if t0<0 then (some (-1)) else (laws_szFreeS.l0 k1 l0 t0 (wrap64 (x1+1))))=some r:=H
      have A6:=zz A1
      clear A1
      by_cases c7:t0<0
      ·rw [if_pos c7] at H
       have c7b0:=z6 c7
       clear c7
       obtain rfl:=z6a H
       have p0:0≤(x1:Int):=z8 zq21
       have q0:x1<(l0.length:Int):=z8 zq21
       obtain ⟨b0,A2,c1,e0,k0,k2,hl216_1,hi216_1⟩:=at_T140 HR0.1 x1 p0 q0
       cases e0
       replace k0:=(HB.1.cell (z0a w _ k0)).trans k0
       replace k2:=(HB.1.cell (z0a w _ k2)).trans k2
       have R0:=zz hi216_1
       have C0:=zz hl216_1
       clear hi216_1 hl216_1
       replace p0:=eq_true p0
       replace q0:=eq_true q0
       go_wp2_with (first|((with_reducible refine zr (f:=114) rfl ?_);refine zN (some 23) rfl rfl Tryz.func114 zq13 rfl #[.agg #[.int .i64 ((zBa l0 x1).f0),.slice A2 ((zBa l0 x1).f1).length c1],.int .i64 x0] rfl zq8 ?_;(with_reducible refine (laws_szFree.calls ((zBa l0 x1).f0) _ _ ((zBa l0 x1).f1) x0 t0 _ ?side1 ?side2 A6.1).mono ?_);(case side1=>repeat (first|exact (Kd.C_below R0.1 HB.1)|(with_reducible refine Kd.C_alloc ?_ _)|(with_reducible refine Kd.C_drewN ?_ _)|(with_reducible refine Kd.C_drew ?_)));(case side2=>exact C0.1);rintro e w8 ⟨rfl,hb⟩;refine ⟨_,rfl,?_⟩;replace HB:=zz (ze zq0 hb);(try clear hb);(try clear hb2);(try clear hk);(try clear hi)))
       go_ret
       exact ⟨zq16,zq0⟩
      ·rw [if_neg c7] at H
       have c7b0:=z7 c7
       clear c7
       have H':=zz H
       clear H
       have p0:0≤(x1:Int):=z8 zq21
       have q0:x1<(l0.length:Int):=z8 zq21
       obtain ⟨b0,A2,c1,e0,k0,k2,hl216_1,hi216_1⟩:=at_T140 HR0.1 x1 p0 q0
       cases e0
       replace k0:=(HB.1.cell (z0a w _ k0)).trans k0
       replace k2:=(HB.1.cell (z0a w _ k2)).trans k2
       have R0:=zz hi216_1
       have C0:=zz hl216_1
       clear hi216_1 hl216_1
       replace p0:=eq_true p0
       replace q0:=eq_true q0
       go_wp2_with (first|((with_reducible refine zr (f:=114) rfl ?_);refine zN (some 23) rfl rfl Tryz.func114 zq13 rfl #[.agg #[.int .i64 ((zBa l0 x1).f0),.slice A2 ((zBa l0 x1).f1).length c1],.int .i64 x0] rfl zq8 ?_;(with_reducible refine (laws_szFree.calls ((zBa l0 x1).f0) _ _ ((zBa l0 x1).f1) x0 t0 _ ?side1 ?side2 A6.1).mono ?_);(case side1=>repeat (first|exact (Kd.C_below R0.1 HB.1)|(with_reducible refine Kd.C_alloc ?_ _)|(with_reducible refine Kd.C_drewN ?_ _)|(with_reducible refine Kd.C_drew ?_)));(case side2=>exact C0.1);rintro e w9 ⟨rfl,hb⟩;refine ⟨_,rfl,?_⟩;replace HB:=zz (ze zq0 hb);(try clear hb);(try clear hb2);(try clear hk);(try clear hi)))
       exact zq186
     ·exact zq155
    ·exact zq152
def laws_szMeta.f (k:Nat) (a0_0:Int) (a0_1:Int) (a0_2:Int) (l0_3:List (S140)) (a1:Int):Option (Int):=(laws_szFreeS.f k l0_3 a1).bind fun t219=>(if t219<0 then (some (-1)) else (some t219))
theorem laws_szMeta.mono:∀a0 a1 a2 a3 a4 k,LeO (laws_szMeta.f k a0 a1 a2 a3 a4) (laws_szMeta.f (k+1) a0 a1 a2 a3 a4):=by
 intro a0 a1 a2 a3 a4 k
 unfold laws_szMeta.f
 repeat' first
   |(with_reducible exact laws_szFreeS.mono _ _ _)
   |(with_reducible exact LeO.refl _)
   |(with_reducible exact LeO.none _)
   |(with_reducible refine LeO.ite ?_ ?_)
   |(with_reducible refine LeO.bind ?_ (fun _=> ?_))
   |exact laws_szFreeS.mono _ _ _
theorem laws_szMeta.calls (k:Nat) (a0:Int) (a2:Int) (a3:Int) (A0:Option Addr) (c0:Nat) (l2:List (S140)) (a1:Int) (r:Int) (w:World) (r0:Kd.C k140 w A0 l2.length l2) (h0:l2.length≤c0) (h:laws_szMeta.f k a0 a2 a3 l2 a1=some r):
  Calls Tryz.prog 30 #[.agg #[.int .i64 a0,.int .i64 a2,.int .i64 a3,.slice A0 l2.length c0],.int .i64 a1] w fun e w'=>e= .returned (.int .i64 r)∧Below w.heap.size w w':=by
 have hu69:=Tryz.underlying24
 have R0:=zz r0
 have C0:=zz h0
 clear r0 h0
 have HB:=zz (z1a w.heap.size w)
 have H:((laws_szFreeS.f k l2 a1).bind fun t0=>(if t0<0 then (some (-1)) else (some t0)))=some r:=h
 clear h
 replace H:=z2a H
 obtain ⟨t0,A1,H⟩:=H
 replace H:(if t0<0 then (some (-1)) else (some t0))=some r:=H
 have A3:=zz A1
 clear A1
 by_cases c4:t0<0
 ·rw [if_pos c4] at H
  have c4b0:=z6 c4
  clear c4
  obtain rfl:=z6a H
  go_enter Tryz.func30,Tryz.ntmps30
  go_wp2_with (first|((with_reducible refine zd (N:=2) rfl ?_);refine zx rfl (N:=2) rfl (cs:= #[.int .i64 a0,.int .i64 a2,.int .i64 a3,.slice A0 l2.length c0]) (t:=24) zq27 ?_;intro g0 hg w5 hbox hb;have B0:=zz hbox;have G0:=zz (zq15:w.heap.size≤g0);replace HB:=zz (ze zq0 hb);clear hb hbox hg;obtain ⟨_,_,_,_,_,_,_,_⟩:=zcell4 B0.1)|((with_reducible refine zr (f:=75) rfl ?_);refine zN (some 8) rfl rfl Tryz.func75 zq13 rfl #[.slice A0 l2.length c0,.int .i64 a1] rfl zq8 ?_;(with_reducible refine (laws_szFreeS.calls k _ _ l2 a1 t0 _ ?side1 ?side2 A3.1).mono ?_);(case side1=>repeat (first|exact (Kd.C_below R0.1 HB.1)|(with_reducible refine Kd.C_alloc ?_ _)|(with_reducible refine Kd.C_drewN ?_ _)|(with_reducible refine Kd.C_drew ?_)));(case side2=>exact C0.1);rintro e w7 ⟨rfl,hb⟩;refine ⟨_,rfl,?_⟩;replace B0:=zz (zg (g:=g0) (o:= .cells #[.int .i64 a0,.int .i64 a2,.int .i64 a3,.slice A0 l2.length c0] 24 (0,0)) (zq1 B0.1) hb);replace HB:=zz (ze (zq4 G0.1) hb);(try clear hb);(try clear hb2);(try clear hk);(try clear hi)))
  exact zq153
 ·rw [if_neg c4] at H
  have c4b0:=z7 c4
  clear c4
  obtain rfl:=z6a H
  go_enter Tryz.func30,Tryz.ntmps30
  go_wp2_with (first|((with_reducible refine zd (N:=2) rfl ?_);refine zx rfl (N:=2) rfl (cs:= #[.int .i64 a0,.int .i64 a2,.int .i64 a3,.slice A0 l2.length c0]) (t:=24) zq27 ?_;intro g0 hg w8 hbox hb;have B0:=zz hbox;have G0:=zz (zq15:w.heap.size≤g0);replace HB:=zz (ze zq0 hb);clear hb hbox hg;obtain ⟨_,_,_,_,_,_,_,_⟩:=zcell4 B0.1)|((with_reducible refine zr (f:=75) rfl ?_);refine zN (some 8) rfl rfl Tryz.func75 zq13 rfl #[.slice A0 l2.length c0,.int .i64 a1] rfl zq8 ?_;(with_reducible refine (laws_szFreeS.calls k _ _ l2 a1 t0 _ ?side1 ?side2 A3.1).mono ?_);(case side1=>repeat (first|exact (Kd.C_below R0.1 HB.1)|(with_reducible refine Kd.C_alloc ?_ _)|(with_reducible refine Kd.C_drewN ?_ _)|(with_reducible refine Kd.C_drew ?_)));(case side2=>exact C0.1);rintro e w10 ⟨rfl,hb⟩;refine ⟨_,rfl,?_⟩;replace B0:=zz (zg (g:=g0) (o:= .cells #[.int .i64 a0,.int .i64 a2,.int .i64 a3,.slice A0 l2.length c0] 24 (0,0)) (zq1 B0.1) hb);replace HB:=zz (ze (zq4 G0.1) hb);(try clear hb);(try clear hb2);(try clear hk);(try clear hi)))
  exact zq153
def laws_szTxn.f (k:Nat) (a0_0:Int) (a0_1:Int) (a0_2:Int) (l0_3:List (S140)) (l0_4:List ByteArray) (l0_5:List (S156)) (a0_6:Int) (l0_7:List Int) (l0_8:List Int) (l0_9:List Int) (a0_10:Int) (a1:Int):Option (Int):=(laws_szMeta.f k a0_0 a0_1 a0_2 l0_3 a1).bind fun t221=>(if t221<0 then (some (-1)) else ((laws_szWork.f k l0_4 l0_5 a0_6 l0_7 l0_8 l0_9 t221).bind fun t222=>(if t222<0 then (some (-1)) else (some t222))))
theorem laws_szTxn.calls (k:Nat) (a0:Int) (a2:Int) (a3:Int) (A0:Option Addr) (c0:Nat) (l2:List (S140)) (A1:Option Addr) (c1:Nat) (l3:List ByteArray) (A2:Option Addr) (c11:Nat) (l4:List (S156)) (a4:Int) (A4:Option Addr) (c12:Nat) (l5:List Int) (A5:Option Addr) (c13:Nat) (l6:List Int) (A6:Option Addr) (c14:Nat) (l7:List Int) (a5:Int) (a1:Int) (r:Int) (w:World) (r0:Kd.C k140 w A0 l2.length l2) (h0:l2.length≤c0) (r1:Kd.C Kd.string w A1 l3.length l3) (h2:l3.length≤c1) (r2:Kd.C k156 w A2 l4.length l4) (h3:l4.length≤c11) (r3:Kd.C (Kd.int .i64) w A4 l5.length l5) (h4:l5.length≤c12) (r4:Kd.C (Kd.int .i64) w A5 l6.length l6) (h5:l6.length≤c13) (r5:Kd.C (Kd.int .i64) w A6 l7.length l7) (h6:l7.length≤c14) (h:laws_szTxn.f k a0 a2 a3 l2 l3 l4 a4 l5 l6 l7 a5 a1=some r):
  Calls Tryz.prog 6 #[.agg #[.int .i64 a0,.int .i64 a2,.int .i64 a3,.slice A0 l2.length c0,.slice A1 l3.length c1,.slice A2 l4.length c11,.int .i64 a4,.slice A4 l5.length c12,.slice A5 l6.length c13,.slice A6 l7.length c14,.int .i64 a5],.int .i64 a1] w fun e w'=>e= .returned (.int .i64 r)∧Below w.heap.size w w':=by
 have hu72:=Tryz.underlying33
 have hu69:=Tryz.underlying24
 have hu28:=Tryz.underlying31
 have R0:=zz r0
 have C0:=zz h0
 clear r0 h0
 have R1:=zz r1
 have C1:=zz h2
 clear r1 h2
 have R2:=zz r2
 have C2:=zz h3
 clear r2 h3
 have R3:=zz r3
 have C3:=zz h4
 clear r3 h4
 have R4:=zz r4
 have C4:=zz h5
 clear r4 h5
 have R5:=zz r5
 have C5:=zz h6
 clear r5 h6
 have HB:=zz (z1a w.heap.size w)
 have H:((laws_szMeta.f k a0 a2 a3 l2 a1).bind fun t0=>(if t0<0 then (some (-1)) else ((laws_szWork.f k l3 l4 a4 l5 l6 l7 t0).bind fun t1=>(if t1<0 then (some (-1)) else (some t1)))))=some r:=h
 clear h
 replace H:=z2a H
 obtain ⟨t0,A7,H⟩:=H
 replace H:(if t0<0 then (some (-1)) else ((laws_szWork.f k l3 l4 a4 l5 l6 l7 t0).bind fun t1=>(if t1<0 then (some (-1)) else (some t1))))=some r:=H
 have A3:=zz A7
 clear A7
 by_cases c4:t0<0
 ·rw [if_pos c4] at H
  have c4b0:=z6 c4
  clear c4
  obtain rfl:=z6a H
  go_enter Tryz.func6,Tryz.ntmps6
  go_wp2_with (first|((with_reducible refine zd (N:=2) rfl ?_);refine zx rfl (N:=2) rfl (cs:= #[.int .i64 a0,.int .i64 a2,.int .i64 a3,.slice A0 l2.length c0,.slice A1 l3.length c1,.slice A2 l4.length c11,.int .i64 a4,.slice A4 l5.length c12,.slice A5 l6.length c13,.slice A6 l7.length c14,.int .i64 a5]) (t:=33) zq27 ?_;intro g0 hg w5 hbox hb;have B0:=zz hbox;have G0:=zz (zq15:w.heap.size≤g0);replace HB:=zz (ze zq0 hb);clear hb hbox hg;obtain ⟨_,_,_,_,_,_,_,_,_,_,_,_,_,_,_,_,_,_,_,_,_,_⟩:=zcell11 B0.1)|((with_reducible refine zr (f:=30) rfl ?_);refine zN (some 8) rfl rfl Tryz.func30 zq13 rfl #[.agg #[.int .i64 a0,.int .i64 a2,.int .i64 a3,.slice A0 l2.length c0],.int .i64 a1] rfl zq8 ?_;(with_reducible refine (laws_szMeta.calls k a0 a2 a3 _ _ l2 a1 t0 _ ?side1 ?side2 A3.1).mono ?_);(case side1=>repeat (first|exact (Kd.C_below R0.1 HB.1)|(with_reducible refine Kd.C_alloc ?_ _)|(with_reducible refine Kd.C_drewN ?_ _)|(with_reducible refine Kd.C_drew ?_)));(case side2=>exact C0.1);rintro e w7 ⟨rfl,hb⟩;refine ⟨_,rfl,?_⟩;replace B0:=zz (zg (g:=g0) (o:= .cells #[.int .i64 a0,.int .i64 a2,.int .i64 a3,.slice A0 l2.length c0,.slice A1 l3.length c1,.slice A2 l4.length c11,.int .i64 a4,.slice A4 l5.length c12,.slice A5 l6.length c13,.slice A6 l7.length c14,.int .i64 a5] 33 (0,0)) (zq1 B0.1) hb);replace HB:=zz (ze (zq4 G0.1) hb);(try clear hb);(try clear hb2);(try clear hk);(try clear hi)))
  exact zq153
 ·rw [if_neg c4] at H
  have c4b0:=z7 c4
  clear c4
  replace H:=z2a H
  obtain ⟨t1,A9,H⟩:=H
  replace H:(if t1<0 then (some (-1)) else (some t1))=some r:=H
  have A8:=zz A9
  clear A9
  by_cases c9:t1<0
  ·rw [if_pos c9] at H
   have c9b0:=z6 c9
   clear c9
   obtain rfl:=z6a H
   go_enter Tryz.func6,Tryz.ntmps6
   go_wp2_with (first|((with_reducible refine zd (N:=2) rfl ?_);refine zx rfl (N:=2) rfl (cs:= #[.int .i64 a0,.int .i64 a2,.int .i64 a3,.slice A0 l2.length c0,.slice A1 l3.length c1,.slice A2 l4.length c11,.int .i64 a4,.slice A4 l5.length c12,.slice A5 l6.length c13,.slice A6 l7.length c14,.int .i64 a5]) (t:=33) zq27 ?_;intro g0 hg w10 hbox hb;have B0:=zz hbox;have G0:=zz (zq15:w.heap.size≤g0);replace HB:=zz (ze zq0 hb);clear hb hbox hg;obtain ⟨_,_,_,_,_,_,_,_,_,_,_,_,_,_,_,_,_,_,_,_,_,_⟩:=zcell11 B0.1)|((with_reducible refine zr (f:=30) rfl ?_);refine zN (some 8) rfl rfl Tryz.func30 zq13 rfl #[.agg #[.int .i64 a0,.int .i64 a2,.int .i64 a3,.slice A0 l2.length c0],.int .i64 a1] rfl zq8 ?_;(with_reducible refine (laws_szMeta.calls k a0 a2 a3 _ _ l2 a1 t0 _ ?side1 ?side2 A3.1).mono ?_);(case side1=>repeat (first|exact (Kd.C_below R0.1 HB.1)|(with_reducible refine Kd.C_alloc ?_ _)|(with_reducible refine Kd.C_drewN ?_ _)|(with_reducible refine Kd.C_drew ?_)));(case side2=>exact C0.1);rintro e w12 ⟨rfl,hb⟩;refine ⟨_,rfl,?_⟩;replace B0:=zz (zg (g:=g0) (o:= .cells #[.int .i64 a0,.int .i64 a2,.int .i64 a3,.slice A0 l2.length c0,.slice A1 l3.length c1,.slice A2 l4.length c11,.int .i64 a4,.slice A4 l5.length c12,.slice A5 l6.length c13,.slice A6 l7.length c14,.int .i64 a5] 33 (0,0)) (zq1 B0.1) hb);replace HB:=zz (ze (zq4 G0.1) hb);(try clear hb);(try clear hb2);(try clear hk);(try clear hi);obtain ⟨_,_,_,_,_,_,_,_,_,_,_,_,_,_,_,_,_,_,_,_,_,_⟩:=zcell11 B0.1)|((with_reducible refine zr (f:=31) rfl ?_);refine zN (some 14) rfl rfl Tryz.func31 zq13 rfl #[.agg #[.slice A1 l3.length c1,.slice A2 l4.length c11,.int .i64 a4,.slice A4 l5.length c12,.slice A5 l6.length c13,.slice A6 l7.length c14],.int .i64 t0] rfl zq8 ?_;(with_reducible refine (laws_szWork.calls k _ _ l3 _ _ l4 a4 _ _ l5 _ _ l6 _ _ l7 t0 t1 _ ?side1 ?side2 ?side3 ?side4 ?side5 ?side6 ?side7 ?side8 ?side9 ?j0 A8.1).mono ?_);(case side1=>repeat (first|exact (Kd.C_below R1.1 HB.1)|(with_reducible refine Kd.C_alloc ?_ _)|(with_reducible refine Kd.C_drewN ?_ _)|(with_reducible refine Kd.C_drew ?_)));(case side2=>exact C1.1);(case side3=>repeat (first|exact (Kd.C_below R2.1 HB.1)|(with_reducible refine Kd.C_alloc ?_ _)|(with_reducible refine Kd.C_drewN ?_ _)|(with_reducible refine Kd.C_drew ?_)));(case side4=>exact C2.1);(case side5=>repeat (first|exact (Kd.C_below R3.1 HB.1)|(with_reducible refine Kd.C_alloc ?_ _)|(with_reducible refine Kd.C_drewN ?_ _)|(with_reducible refine Kd.C_drew ?_)));(case side6=>exact C3.1);(case side7=>repeat (first|exact (Kd.C_below R4.1 HB.1)|(with_reducible refine Kd.C_alloc ?_ _)|(with_reducible refine Kd.C_drewN ?_ _)|(with_reducible refine Kd.C_drew ?_)));(case side8=>exact C4.1);(case side9=>repeat (first|exact (Kd.C_below R5.1 HB.1)|(with_reducible refine Kd.C_alloc ?_ _)|(with_reducible refine Kd.C_drewN ?_ _)|(with_reducible refine Kd.C_drew ?_)));(case j0=>exact C5.1);rintro e w14 ⟨rfl,hb⟩;refine ⟨_,rfl,?_⟩;replace B0:=zz (zg (g:=g0) (o:= .cells #[.int .i64 a0,.int .i64 a2,.int .i64 a3,.slice A0 l2.length c0,.slice A1 l3.length c1,.slice A2 l4.length c11,.int .i64 a4,.slice A4 l5.length c12,.slice A5 l6.length c13,.slice A6 l7.length c14,.int .i64 a5] 33 (0,0)) (zq1 B0.1) hb);replace HB:=zz (ze (zq4 G0.1) hb);(try clear hb);(try clear hb2);(try clear hk);(try clear hi)))
   exact zq153
  ·rw [if_neg c9] at H
   have c9b0:=z7 c9
   clear c9
   obtain rfl:=z6a H
   go_enter Tryz.func6,Tryz.ntmps6
   go_wp2_with (first|((with_reducible refine zd (N:=2) rfl ?_);refine zx rfl (N:=2) rfl (cs:= #[.int .i64 a0,.int .i64 a2,.int .i64 a3,.slice A0 l2.length c0,.slice A1 l3.length c1,.slice A2 l4.length c11,.int .i64 a4,.slice A4 l5.length c12,.slice A5 l6.length c13,.slice A6 l7.length c14,.int .i64 a5]) (t:=33) zq27 ?_;intro g0 hg w15 hbox hb;have B0:=zz hbox;have G0:=zz (zq15:w.heap.size≤g0);replace HB:=zz (ze zq0 hb);clear hb hbox hg;obtain ⟨_,_,_,_,_,_,_,_,_,_,_,_,_,_,_,_,_,_,_,_,_,_⟩:=zcell11 B0.1)|((with_reducible refine zr (f:=30) rfl ?_);refine zN (some 8) rfl rfl Tryz.func30 zq13 rfl #[.agg #[.int .i64 a0,.int .i64 a2,.int .i64 a3,.slice A0 l2.length c0],.int .i64 a1] rfl zq8 ?_;(with_reducible refine (laws_szMeta.calls k a0 a2 a3 _ _ l2 a1 t0 _ ?side1 ?side2 A3.1).mono ?_);(case side1=>repeat (first|exact (Kd.C_below R0.1 HB.1)|(with_reducible refine Kd.C_alloc ?_ _)|(with_reducible refine Kd.C_drewN ?_ _)|(with_reducible refine Kd.C_drew ?_)));(case side2=>exact C0.1);rintro e w17 ⟨rfl,hb⟩;refine ⟨_,rfl,?_⟩;replace B0:=zz (zg (g:=g0) (o:= .cells #[.int .i64 a0,.int .i64 a2,.int .i64 a3,.slice A0 l2.length c0,.slice A1 l3.length c1,.slice A2 l4.length c11,.int .i64 a4,.slice A4 l5.length c12,.slice A5 l6.length c13,.slice A6 l7.length c14,.int .i64 a5] 33 (0,0)) (zq1 B0.1) hb);replace HB:=zz (ze (zq4 G0.1) hb);(try clear hb);(try clear hb2);(try clear hk);(try clear hi);obtain ⟨_,_,_,_,_,_,_,_,_,_,_,_,_,_,_,_,_,_,_,_,_,_⟩:=zcell11 B0.1)|((with_reducible refine zr (f:=31) rfl ?_);refine zN (some 14) rfl rfl Tryz.func31 zq13 rfl #[.agg #[.slice A1 l3.length c1,.slice A2 l4.length c11,.int .i64 a4,.slice A4 l5.length c12,.slice A5 l6.length c13,.slice A6 l7.length c14],.int .i64 t0] rfl zq8 ?_;(with_reducible refine (laws_szWork.calls k _ _ l3 _ _ l4 a4 _ _ l5 _ _ l6 _ _ l7 t0 t1 _ ?side1 ?side2 ?side3 ?side4 ?side5 ?side6 ?side7 ?side8 ?side9 ?j0 A8.1).mono ?_);(case side1=>repeat (first|exact (Kd.C_below R1.1 HB.1)|(with_reducible refine Kd.C_alloc ?_ _)|(with_reducible refine Kd.C_drewN ?_ _)|(with_reducible refine Kd.C_drew ?_)));(case side2=>exact C1.1);(case side3=>repeat (first|exact (Kd.C_below R2.1 HB.1)|(with_reducible refine Kd.C_alloc ?_ _)|(with_reducible refine Kd.C_drewN ?_ _)|(with_reducible refine Kd.C_drew ?_)));(case side4=>exact C2.1);(case side5=>repeat (first|exact (Kd.C_below R3.1 HB.1)|(with_reducible refine Kd.C_alloc ?_ _)|(with_reducible refine Kd.C_drewN ?_ _)|(with_reducible refine Kd.C_drew ?_)));(case side6=>exact C3.1);(case side7=>repeat (first|exact (Kd.C_below R4.1 HB.1)|(with_reducible refine Kd.C_alloc ?_ _)|(with_reducible refine Kd.C_drewN ?_ _)|(with_reducible refine Kd.C_drew ?_)));(case side8=>exact C4.1);(case side9=>repeat (first|exact (Kd.C_below R5.1 HB.1)|(with_reducible refine Kd.C_alloc ?_ _)|(with_reducible refine Kd.C_drewN ?_ _)|(with_reducible refine Kd.C_drew ?_)));(case j0=>exact C5.1);rintro e w19 ⟨rfl,hb⟩;refine ⟨_,rfl,?_⟩;replace B0:=zz (zg (g:=g0) (o:= .cells #[.int .i64 a0,.int .i64 a2,.int .i64 a3,.slice A0 l2.length c0,.slice A1 l3.length c1,.slice A2 l4.length c11,.int .i64 a4,.slice A4 l5.length c12,.slice A5 l6.length c13,.slice A6 l7.length c14,.int .i64 a5] 33 (0,0)) (zq1 B0.1) hb);replace HB:=zz (ze (zq4 G0.1) hb);(try clear hb);(try clear hb2);(try clear hk);(try clear hi)))
   exact zq153
def laws_szReader.f (k:Nat) (a0_0:Int) (a0_1:Int) (a0_2:Int) (a0_3:Int) (l0_4:List (S140)) (a1:Int):Option (Int):=(laws_szMeta.f k a0_1 a0_2 a0_3 l0_4 a1).bind fun t224=>(if t224<0 then (some (-1)) else (some t224))
theorem laws_szReader.calls (k:Nat) (a0:Int) (a2:Int) (a3:Int) (a4:Int) (A0:Option Addr) (c0:Nat) (l2:List (S140)) (a1:Int) (r:Int) (w:World) (r0:Kd.C k140 w A0 l2.length l2) (h0:l2.length≤c0) (h:laws_szReader.f k a0 a2 a3 a4 l2 a1=some r):
  Calls Tryz.prog 106 #[.agg #[.int .i64 a0,.int .i64 a2,.int .i64 a3,.int .i64 a4,.slice A0 l2.length c0],.int .i64 a1] w fun e w'=>e= .returned (.int .i64 r)∧Below w.heap.size w w':=by
 have hu154:=Tryz.underlying132
 have hu69:=Tryz.underlying24
 have R0:=zz r0
 have C0:=zz h0
 clear r0 h0
 have HB:=zz (z1a w.heap.size w)
 have H:((laws_szMeta.f k a2 a3 a4 l2 a1).bind fun t0=>(if t0<0 then (some (-1)) else (some t0)))=some r:=h
 clear h
 replace H:=z2a H
 obtain ⟨t0,A1,H⟩:=H
 replace H:(if t0<0 then (some (-1)) else (some t0))=some r:=H
 have A3:=zz A1
 clear A1
 by_cases c4:t0<0
 ·rw [if_pos c4] at H
  have c4b0:=z6 c4
  clear c4
  obtain rfl:=z6a H
  go_enter Tryz.func106,Tryz.ntmps106
  go_wp2_with (first|((with_reducible refine zd (N:=2) rfl ?_);refine zx rfl (N:=2) rfl (cs:= #[.int .i64 a0,.int .i64 a2,.int .i64 a3,.int .i64 a4,.slice A0 l2.length c0]) (t:=132) zq27 ?_;intro g0 hg w5 hbox hb;have B0:=zz hbox;have G0:=zz (zq15:w.heap.size≤g0);replace HB:=zz (ze zq0 hb);clear hb hbox hg;obtain ⟨_,_,_,_,_,_,_,_,_,_⟩:=zcell5 B0.1)|((with_reducible refine zr (f:=30) rfl ?_);refine zN (some 8) rfl rfl Tryz.func30 zq13 rfl #[.agg #[.int .i64 a2,.int .i64 a3,.int .i64 a4,.slice A0 l2.length c0],.int .i64 a1] rfl zq8 ?_;(with_reducible refine (laws_szMeta.calls k a2 a3 a4 _ _ l2 a1 t0 _ ?side1 ?side2 A3.1).mono ?_);(case side1=>repeat (first|exact (Kd.C_below R0.1 HB.1)|(with_reducible refine Kd.C_alloc ?_ _)|(with_reducible refine Kd.C_drewN ?_ _)|(with_reducible refine Kd.C_drew ?_)));(case side2=>exact C0.1);rintro e w7 ⟨rfl,hb⟩;refine ⟨_,rfl,?_⟩;replace B0:=zz (zg (g:=g0) (o:= .cells #[.int .i64 a0,.int .i64 a2,.int .i64 a3,.int .i64 a4,.slice A0 l2.length c0] 132 (0,0)) (zq1 B0.1) hb);replace HB:=zz (ze (zq4 G0.1) hb);(try clear hb);(try clear hb2);(try clear hk);(try clear hi)))
  exact zq153
 ·rw [if_neg c4] at H
  have c4b0:=z7 c4
  clear c4
  obtain rfl:=z6a H
  go_enter Tryz.func106,Tryz.ntmps106
  go_wp2_with (first|((with_reducible refine zd (N:=2) rfl ?_);refine zx rfl (N:=2) rfl (cs:= #[.int .i64 a0,.int .i64 a2,.int .i64 a3,.int .i64 a4,.slice A0 l2.length c0]) (t:=132) zq27 ?_;intro g0 hg w8 hbox hb;have B0:=zz hbox;have G0:=zz (zq15:w.heap.size≤g0);replace HB:=zz (ze zq0 hb);clear hb hbox hg;obtain ⟨_,_,_,_,_,_,_,_,_,_⟩:=zcell5 B0.1)|((with_reducible refine zr (f:=30) rfl ?_);refine zN (some 8) rfl rfl Tryz.func30 zq13 rfl #[.agg #[.int .i64 a2,.int .i64 a3,.int .i64 a4,.slice A0 l2.length c0],.int .i64 a1] rfl zq8 ?_;(with_reducible refine (laws_szMeta.calls k a2 a3 a4 _ _ l2 a1 t0 _ ?side1 ?side2 A3.1).mono ?_);(case side1=>repeat (first|exact (Kd.C_below R0.1 HB.1)|(with_reducible refine Kd.C_alloc ?_ _)|(with_reducible refine Kd.C_drewN ?_ _)|(with_reducible refine Kd.C_drew ?_)));(case side2=>exact C0.1);rintro e w10 ⟨rfl,hb⟩;refine ⟨_,rfl,?_⟩;replace B0:=zz (zg (g:=g0) (o:= .cells #[.int .i64 a0,.int .i64 a2,.int .i64 a3,.int .i64 a4,.slice A0 l2.length c0] 132 (0,0)) (zq1 B0.1) hb);replace HB:=zz (ze (zq4 G0.1) hb);(try clear hb);(try clear hb2);(try clear hk);(try clear hi)))
  exact zq153
def laws_szReaderS.l0:Nat→List (S132)→Int→Int→Option (Int)
 |0,_,_,_=>none
 |k+1,x0,x1,x5=>if x5<(x0.length:Int) then (if 0≤x5 then ((laws_szReader.f k ((zY x0 x5).f0) ((zY x0 x5).f1.f0) ((zY x0 x5).f1.f1) ((zY x0 x5).f1.f2) ((zY x0 x5).f1.f3) x1).bind fun t226=>(if t226<0 then (some (-1)) else (laws_szReaderS.l0 k x0 t226 (wrap64 (x5+1))))) else (none)) else (some x1)
def laws_szReaderS.f (k:Nat) (l0:List (S132)) (a1:Int):Option (Int):=if (wrap64 (a1-(l0.length:Int)))<0 then (some (-1)) else (laws_szReaderS.l0 k l0 (wrap64 (a1-(l0.length:Int))) 0)
theorem laws_szReaderS.calls (k:Nat) (A0:Option Addr) (c0:Nat) (l0:List (S132)) (a1:Int) (r:Int) (w:World) (hr0:Kd.C k132 w A0 l0.length l0) (hc0:l0.length≤c0) (h:laws_szReaderS.f k l0 a1=some r):
  Calls Tryz.prog 62 #[.slice A0 l0.length c0,.int .i64 a1] w fun e w'=>e= .returned (.int .i64 r)∧Below w.heap.size w w':=by
 have hu154:=Tryz.underlying132
 have HR0:=zz hr0
 clear hr0 hc0
 have HB:=zz (z1a w.heap.size w)
 have H:(if (wrap64 (a1-(l0.length:Int)))<0 then (some (-1)) else (laws_szReaderS.l0 k l0 (wrap64 (a1-(l0.length:Int))) 0))=some r:=h
 clear h
 by_cases c3:(wrap64 (a1-(l0.length:Int)))<0
 ·rw [if_pos c3] at H
  have c3b0:=z6 c3
  clear c3
  obtain rfl:=z6a H
  go_enter Tryz.func62,Tryz.ntmps62
  exact zq169
 ·rw [if_neg c3] at H
  have c3b0:=z7 c3
  clear c3
  have H':=zz H
  clear H
  go_enter Tryz.func62,Tryz.ntmps62
  go_wp2
  go_loopg [1,5] k (fun kq v1 v5 w'=>∃(x0:Int) (x1:Int),v1= .int .i64 x0∧v5= .int .i64 x1∧Z0 (laws_szReaderS.l0 kq l0 x0 x1=some r)∧Z0 (kq≤k)∧Z0 (Below w.heap.size w w'))
  case atStart=>exact ⟨(wrap64 (a1-(l0.length:Int))),(0),zq18,zq18,H',⟨z3a _⟩,⟨zq0⟩⟩
  case round=>
   clear H'
   try clear c3
   try clear c3b0
   obtain ⟨x0,x1,rfl,rfl,HA,HK1,HB⟩:=hrel
   cases gk with
   |zero=>exact absurd HA.1 (by simp [laws_szReaderS.l0])
   |succ k1=>
    have H:=HA.1
    clear HA
    simp only [laws_szReaderS.l0] at H
    by_cases c4:x1<(l0.length:Int)
    ·rw [if_pos c4] at H
     have c4b0:=z6 c4
     clear c4
     by_cases c5:0≤x1
     ·rw [if_pos c5] at H
      have c5b0:=z6 c5
      clear c5
      replace H:=z2a H
      obtain ⟨t0,A1,H⟩:=H
      replace H:(if t0<0 then (some (-1)) else (laws_szReaderS.l0 k1 l0 t0 (wrap64 (x1+1))))=some r:=H
      have A6:=zz A1
      clear A1
      by_cases c7:t0<0
      ·rw [if_pos c7] at H
       have c7b0:=z6 c7
       clear c7
       obtain rfl:=z6a H
       have p0:0≤(x1:Int):=z8 zq21
       have q0:x1<(l0.length:Int):=z8 zq21
       obtain ⟨b0,A2,c1,e0,k0,k2,k3,k4,k5,hl225_4,hi225_4⟩:=at_T132 HR0.1 x1 p0 q0
       cases e0
       replace k0:=(HB.1.cell (z0a w _ k0)).trans k0
       replace k2:=(HB.1.cell (z0a w _ k2)).trans k2
       replace k3:=(HB.1.cell (z0a w _ k3)).trans k3
       replace k4:=(HB.1.cell (z0a w _ k4)).trans k4
       replace k5:=(HB.1.cell (z0a w _ k5)).trans k5
       have R0:=zz hi225_4
       have C0:=zz hl225_4
       clear hi225_4 hl225_4
       replace p0:=eq_true p0
       replace q0:=eq_true q0
       go_wp2_with (first|((with_reducible refine zr (f:=106) rfl ?_);refine zN (some 23) rfl rfl Tryz.func106 zq13 rfl #[.agg #[.int .i64 ((zY l0 x1).f0),.int .i64 ((zY l0 x1).f1.f0),.int .i64 ((zY l0 x1).f1.f1),.int .i64 ((zY l0 x1).f1.f2),.slice A2 ((zY l0 x1).f1.f3).length c1],.int .i64 x0] rfl zq8 ?_;(with_reducible refine (laws_szReader.calls k1 ((zY l0 x1).f0) ((zY l0 x1).f1.f0) ((zY l0 x1).f1.f1) ((zY l0 x1).f1.f2) _ _ ((zY l0 x1).f1.f3) x0 t0 _ ?side1 ?side2 A6.1).mono ?_);(case side1=>repeat (first|exact (Kd.C_below R0.1 HB.1)|(with_reducible refine Kd.C_alloc ?_ _)|(with_reducible refine Kd.C_drewN ?_ _)|(with_reducible refine Kd.C_drew ?_)));(case side2=>exact C0.1);rintro e w8 ⟨rfl,hb⟩;refine ⟨_,rfl,?_⟩;replace HB:=zz (ze zq0 hb);(try clear hb);(try clear hb2);(try clear hk);(try clear hi)))
       go_ret
       exact ⟨zq16,zq0⟩
      ·rw [if_neg c7] at H
       have c7b0:=z7 c7
       clear c7
       have H':=zz H
       clear H
       have p0:0≤(x1:Int):=z8 zq21
       have q0:x1<(l0.length:Int):=z8 zq21
       obtain ⟨b0,A2,c1,e0,k0,k2,k3,k4,k5,hl225_4,hi225_4⟩:=at_T132 HR0.1 x1 p0 q0
       cases e0
       replace k0:=(HB.1.cell (z0a w _ k0)).trans k0
       replace k2:=(HB.1.cell (z0a w _ k2)).trans k2
       replace k3:=(HB.1.cell (z0a w _ k3)).trans k3
       replace k4:=(HB.1.cell (z0a w _ k4)).trans k4
       replace k5:=(HB.1.cell (z0a w _ k5)).trans k5
       have R0:=zz hi225_4
       have C0:=zz hl225_4
       clear hi225_4 hl225_4
       replace p0:=eq_true p0
       replace q0:=eq_true q0
       go_wp2_with (first|((with_reducible refine zr (f:=106) rfl ?_);refine zN (some 23) rfl rfl Tryz.func106 zq13 rfl #[.agg #[.int .i64 ((zY l0 x1).f0),.int .i64 ((zY l0 x1).f1.f0),.int .i64 ((zY l0 x1).f1.f1),.int .i64 ((zY l0 x1).f1.f2),.slice A2 ((zY l0 x1).f1.f3).length c1],.int .i64 x0] rfl zq8 ?_;(with_reducible refine (laws_szReader.calls k1 ((zY l0 x1).f0) ((zY l0 x1).f1.f0) ((zY l0 x1).f1.f1) ((zY l0 x1).f1.f2) _ _ ((zY l0 x1).f1.f3) x0 t0 _ ?side1 ?side2 A6.1).mono ?_);(case side1=>repeat (first|exact (Kd.C_below R0.1 HB.1)|(with_reducible refine Kd.C_alloc ?_ _)|(with_reducible refine Kd.C_drewN ?_ _)|(with_reducible refine Kd.C_drew ?_)));(case side2=>exact C0.1);rintro e w9 ⟨rfl,hb⟩;refine ⟨_,rfl,?_⟩;replace HB:=zz (ze zq0 hb);(try clear hb);(try clear hb2);(try clear hk);(try clear hi)))
       exact zq186
     ·exact zq155
    ·exact zq152
def zpb (k:Nat) (z0:(List ByteArray×List S156)) (a:Int):Option Int:=laws_szDisk.f k z0.1 z0.2 a
theorem szDisk_c (k:Nat) (z0:(List ByteArray×List S156)) {cs0:List Value} (a:Int) (r:Int) (w:World) (h0:kDiskL.K w z0 cs0) (hf:zpb k z0 a=some r):
  Calls Tryz.prog 61 #[.agg cs0.toArray,.int .i64 a] w fun e w'=>e= .returned (.int .i64 r)∧Below w.heap.size w w':=by
 obtain ⟨p0,q0⟩:=z0
 obtain ⟨A0,c0,A1,c1,rfl,m10,r_00,m11,r_01⟩:=kDiskL_open h0
 exact laws_szDisk.calls k A0 c0 p0 A1 c1 q0 a r w r_00 m10 r_01 m11 hf
def zBb (k:Nat) (z0:S24) (a:Int):Option Int:=laws_szMeta.f k z0.f0 z0.f1 z0.f2 z0.f3 a
theorem szMeta_c (k:Nat) (z0:S24) {cs0:List Value} (a:Int) (r:Int) (w:World) (h0:k24.K w z0 cs0) (hf:zBb k z0 a=some r):
  Calls Tryz.prog 30 #[.agg cs0.toArray,.int .i64 a] w fun e w'=>e= .returned (.int .i64 r)∧Below w.heap.size w w':=by
 obtain ⟨x0,rfl⟩:∃x,x=z0:=⟨_,rfl⟩
 obtain ⟨A0,c0,rfl,m10,r_0⟩:=k24_open h0
 exact laws_szMeta.calls k x0.f0 x0.f1 x0.f2 A0 c0 x0.f3 a r w r_0 m10 hf
def szTxn_c_f (k:Nat) (z0:(S24×(List ByteArray×List S156×Int×List Int×List Int×List Int)×Int)) (a:Int):Option Int:=laws_szTxn.f k z0.1.f0 z0.1.f1 z0.1.f2 z0.1.f3 z0.2.1.1 z0.2.1.2.1 z0.2.1.2.2.1 z0.2.1.2.2.2.1 z0.2.1.2.2.2.2.1 z0.2.1.2.2.2.2.2 z0.2.2 a
theorem szTxn_c (k:Nat) (z0:(S24×(List ByteArray×List S156×Int×List Int×List Int×List Int)×Int)) {cs0:List Value} (a:Int) (r:Int) (w:World) (h0:kTxnL.K w z0 cs0) (hf:szTxn_c_f k z0 a=some r):
  Calls Tryz.prog 6 #[.agg cs0.toArray,.int .i64 a] w fun e w'=>e= .returned (.int .i64 r)∧Below w.heap.size w w':=by
 obtain ⟨y0,⟨l2,l3,l4,l5,l6,l7⟩,n0⟩:=z0
 obtain ⟨u_00_,_,rfl,g_00,u_01_,u0,rfl,g_01,g_02⟩:=h0
 obtain ⟨A0,c0,rfl,m10,r_00⟩:=k24_open g_00
 obtain ⟨A1,c1,A2,c11,A4,c12,A5,c13,A6,c14,rfl,m11,r_010,m12,r_011,m13,r_013,m14,r_014,m15,r_015⟩:=kWorkL_open g_01
 obtain rfl:u0=[.int .i64 n0]:=g_02
 exact laws_szTxn.calls k y0.f0 y0.f1 y0.f2 A0 c0 y0.f3 A1 c1 l2 A2 c11 l3 l4 A4 c12 l5 A5 c13 l6 A6 c14 l7 n0 a r w r_00 m10 r_010 m11 r_011 m12 r_013 m13 r_014 m14 r_015 m15 hf
theorem szReaders_c (k:Nat) (z:List S132) (a r:Int) {v:Value} (w:World) (h:(Own.srow 132 k132).K w z [v]) (hf:laws_szReaderS.f k z a=some r):
  Calls Tryz.prog 62 #[v,.int .i64 a] w fun e w'=>e= .returned (.int .i64 r)∧Below w.heap.size w w':=by
 obtain ⟨A,c,hv,m,rr⟩:=h
 injection hv with hv
 subst hv
 exact laws_szReaderS.calls k A c z a r w rr m hf
theorem szStore_1 (k:Nat) (a:((List ByteArray×List S156)×S24×List S132×(S24×(List ByteArray×List S156×Int×List Int×List Int×List Int)×Int)×Bool×Bool)) (b:Int) (t1:Int) {cs:List Value} (w:World) (h:kStoreL.K w a cs) (f1:zpb k a.1 b=some t1) (n1:t1<0):
  Calls Tryz.prog 23 #[.agg cs.toArray,.int .i64 b] w fun e w'=>e= .returned (.int .i64 (-1))∧Below w.heap.size w w':=by
 obtain ⟨cD,_,rfl,hD,cM,_,rfl,hM,cR,_,rfl,hR,cT,_,rfl,hT,cB,cF,rfl,hW,hF⟩:=h
 obtain rfl:cB=[.bool a.2.2.2.2.1]:=hW
 obtain rfl:cF=[.bool a.2.2.2.2.2]:=hF
 have hR2:=hR
 obtain ⟨AR,ccR,rfl,-,-⟩:=hR
 obtain ⟨vR,hvR⟩:∃v,v=Value.slice AR a.2.2.1.length ccR:=⟨_,rfl⟩
 rw [←hvR] at hR2 ⊢
 obtain ⟨cs,hcs⟩:∃cs,cs=cD++(cM++([vR]++(cT++([.bool a.2.2.2.2.1]++[.bool a.2.2.2.2.2])))):=⟨_,rfl⟩
 rw [←hcs]
 have Ecs:=zz hcs
 have KD:=zz hD
 have LD:=zz (show cD.length=2 from kDiskL.K_len hD)
 clear hD hM hR2 hT hcs hvR
 have F1:=zz f1;clear f1
 have d1:decide (t1<0)=true:=z6 n1
 have O:=zz (z3a w.heap.size)
 have E:=zz (Env.start w)
 go_enter Tryz.func23,Tryz.ntmps23
 go_wp2_with (first|((with_reducible refine zd (N:=6) rfl ?_);replace O:=zz (And.intro E.1.le O.1);replace E:=zz (E.1.alloc cs 63 (g:=w.heap.size) rfl);refine zf rfl 28 _ rfl w.heap.size 0 [] cD (cM++([vR]++(cT++([.bool a.2.2.2.2.1]++[.bool a.2.2.2.2.2])))) _ rfl (E.1.box 0 rfl) zq19 (rfl) Tryz.underlying28 rfl zq128 ?_))
 ((with_reducible refine (szDisk_c k a.1 b t1 _ (E.1.K KD.1) F1.1).mono ?_);rintro e w1_ ⟨rfl,hb⟩)
 replace E:=zz (E.1.call hb);clear hb
 go_wp2_with fail
 go_ret
 exact ⟨rfl,E.1.below⟩
theorem szStore_2 (k:Nat) (a:((List ByteArray×List S156)×S24×List S132×(S24×(List ByteArray×List S156×Int×List Int×List Int×List Int)×Int)×Bool×Bool)) (b:Int) (t1 t2:Int) {cs:List Value} (w:World) (h:kStoreL.K w a cs) (f1:zpb k a.1 b=some t1) (f2:zBb k a.2.1 t1=some t2) (n1:¬t1<0) (n2:t2<0):
  Calls Tryz.prog 23 #[.agg cs.toArray,.int .i64 b] w fun e w'=>e= .returned (.int .i64 (-1))∧Below w.heap.size w w':=by
 obtain ⟨cD,_,rfl,hD,cM,_,rfl,hM,cR,_,rfl,hR,cT,_,rfl,hT,cB,cF,rfl,hW,hF⟩:=h
 obtain rfl:cB=[.bool a.2.2.2.2.1]:=hW
 obtain rfl:cF=[.bool a.2.2.2.2.2]:=hF
 have hR2:=hR
 obtain ⟨AR,ccR,rfl,-,-⟩:=hR
 obtain ⟨vR,hvR⟩:∃v,v=Value.slice AR a.2.2.1.length ccR:=⟨_,rfl⟩
 rw [←hvR] at hR2 ⊢
 obtain ⟨cs,hcs⟩:∃cs,cs=cD++(cM++([vR]++(cT++([.bool a.2.2.2.2.1]++[.bool a.2.2.2.2.2])))):=⟨_,rfl⟩
 rw [←hcs]
 have Ecs:=zz hcs
 have KD:=zz hD;have KM:=zz hM
 have LD:=zz (show cD.length=2 from kDiskL.K_len hD);have LM:=zz (show cM.length=4 from k24.K_len hM)
 clear hD hM hR2 hT hcs hvR
 have F1:=zz f1;clear f1
 have F2:=zz f2;clear f2
 have d1:decide (t1<0)=false:=z7 n1
 have d2:decide (t2<0)=true:=z6 n2
 have O:=zz (z3a w.heap.size)
 have E:=zz (Env.start w)
 go_enter Tryz.func23,Tryz.ntmps23
 go_wp2_with (first|((with_reducible refine zd (N:=6) rfl ?_);replace O:=zz (And.intro E.1.le O.1);replace E:=zz (E.1.alloc cs 63 (g:=w.heap.size) rfl);refine zf rfl 28 _ rfl w.heap.size 0 [] cD (cM++([vR]++(cT++([.bool a.2.2.2.2.1]++[.bool a.2.2.2.2.2])))) _ rfl (E.1.box 0 rfl) zq19 (rfl) Tryz.underlying28 rfl zq128 ?_))
 ((with_reducible refine (szDisk_c k a.1 b t1 _ (E.1.K KD.1) F1.1).mono ?_);rintro e w1_ ⟨rfl,hb⟩)
 replace E:=zz (E.1.call hb);clear hb
 go_wp2_with (first|((with_reducible refine zd (N:=12) rfl ?_);refine zf rfl 24 _ rfl w.heap.size 2 cD cM ([vR]++(cT++([.bool a.2.2.2.2.1]++[.bool a.2.2.2.2.2]))) _ rfl (E.1.box 0 rfl) zq19 (LD.1) Tryz.underlying24 rfl zq89 ?_))
 ((with_reducible refine (szMeta_c k a.2.1 t1 t2 _ (E.1.K KM.1) F2.1).mono ?_);rintro e w2_ ⟨rfl,hb⟩)
 replace E:=zz (E.1.call hb);clear hb
 go_wp2_with fail
 go_ret
 exact ⟨rfl,E.1.below⟩
theorem szStore_3 (k:Nat) (a:((List ByteArray×List S156)×S24×List S132×(S24×(List ByteArray×List S156×Int×List Int×List Int×List Int)×Int)×Bool×Bool)) (b:Int) (t1 t2 t3:Int) {cs:List Value} (w:World) (h:kStoreL.K w a cs) (f1:zpb k a.1 b=some t1) (f2:zBb k a.2.1 t1=some t2) (f3:laws_szReaderS.f k a.2.2.1 t2=some t3) (n1:¬t1<0) (n2:¬t2<0) (n3:t3<0):
  Calls Tryz.prog 23 #[.agg cs.toArray,.int .i64 b] w fun e w'=>e= .returned (.int .i64 (-1))∧Below w.heap.size w w':=by
 obtain ⟨cD,_,rfl,hD,cM,_,rfl,hM,cR,_,rfl,hR,cT,_,rfl,hT,cB,cF,rfl,hW,hF⟩:=h
 obtain rfl:cB=[.bool a.2.2.2.2.1]:=hW
 obtain rfl:cF=[.bool a.2.2.2.2.2]:=hF
 have hR2:=hR
 obtain ⟨AR,ccR,rfl,-,-⟩:=hR
 obtain ⟨vR,hvR⟩:∃v,v=Value.slice AR a.2.2.1.length ccR:=⟨_,rfl⟩
 rw [←hvR] at hR2 ⊢
 obtain ⟨cs,hcs⟩:∃cs,cs=cD++(cM++([vR]++(cT++([.bool a.2.2.2.2.1]++[.bool a.2.2.2.2.2])))):=⟨_,rfl⟩
 rw [←hcs]
 have Ecs:=zz hcs
 have KD:=zz hD;have KM:=zz hM;have KR:=zz hR2
 have LD:=zz (show cD.length=2 from kDiskL.K_len hD);have LM:=zz (show cM.length=4 from k24.K_len hM)
 clear hD hM hR2 hT hcs hvR
 have F1:=zz f1;clear f1
 have F2:=zz f2;clear f2
 have F3:=zz f3;clear f3
 have d1:decide (t1<0)=false:=z7 n1
 have d2:decide (t2<0)=false:=z7 n2
 have d3:decide (t3<0)=true:=z6 n3
 have O:=zz (z3a w.heap.size)
 have E:=zz (Env.start w)
 go_enter Tryz.func23,Tryz.ntmps23
 go_wp2_with (first|((with_reducible refine zd (N:=6) rfl ?_);replace O:=zz (And.intro E.1.le O.1);replace E:=zz (E.1.alloc cs 63 (g:=w.heap.size) rfl);refine zf rfl 28 _ rfl w.heap.size 0 [] cD (cM++([vR]++(cT++([.bool a.2.2.2.2.1]++[.bool a.2.2.2.2.2])))) _ rfl (E.1.box 0 rfl) zq19 (rfl) Tryz.underlying28 rfl zq128 ?_))
 ((with_reducible refine (szDisk_c k a.1 b t1 _ (E.1.K KD.1) F1.1).mono ?_);rintro e w1_ ⟨rfl,hb⟩)
 replace E:=zz (E.1.call hb);clear hb
 go_wp2_with (first|((with_reducible refine zd (N:=12) rfl ?_);refine zf rfl 24 _ rfl w.heap.size 2 cD cM ([vR]++(cT++([.bool a.2.2.2.2.1]++[.bool a.2.2.2.2.2]))) _ rfl (E.1.box 0 rfl) zq19 (LD.1) Tryz.underlying24 rfl zq89 ?_))
 ((with_reducible refine (szMeta_c k a.2.1 t1 t2 _ (E.1.K KM.1) F2.1).mono ?_);rintro e w2_ ⟨rfl,hb⟩)
 replace E:=zz (E.1.call hb);clear hb
 go_wp2_with (first|((with_reducible refine zd (N:=18) rfl ?_);refine zy rfl 61 _ rfl w.heap.size 6 (cD++cM) (vR) (cT++([.bool a.2.2.2.2.1]++[.bool a.2.2.2.2.2])) rfl (E.1.box 0 rfl) zq19 zq45 Tryz.underlying61 rfl ?_))
 ((with_reducible refine (szReaders_c k a.2.2.1 t2 t3 _ (E.1.K KR.1) F3.1).mono ?_);rintro e w3_ ⟨rfl,hb⟩)
 replace E:=zz (E.1.call hb);clear hb
 go_wp2_with fail
 go_ret
 exact ⟨rfl,E.1.below⟩
theorem szStore_4 (k:Nat) (a:((List ByteArray×List S156)×S24×List S132×(S24×(List ByteArray×List S156×Int×List Int×List Int×List Int)×Int)×Bool×Bool)) (b:Int) (t1 t2 t3 t4:Int) {cs:List Value} (w:World) (h:kStoreL.K w a cs) (f1:zpb k a.1 b=some t1) (f2:zBb k a.2.1 t1=some t2) (f3:laws_szReaderS.f k a.2.2.1 t2=some t3) (f4:szTxn_c_f k a.2.2.2.1 t3=some t4) (n1:¬t1<0) (n2:¬t2<0) (n3:¬t3<0) (n4:t4<0):
  Calls Tryz.prog 23 #[.agg cs.toArray,.int .i64 b] w fun e w'=>e= .returned (.int .i64 (-1))∧Below w.heap.size w w':=by
 obtain ⟨cD,_,rfl,hD,cM,_,rfl,hM,cR,_,rfl,hR,cT,_,rfl,hT,cB,cF,rfl,hW,hF⟩:=h
 obtain rfl:cB=[.bool a.2.2.2.2.1]:=hW
 obtain rfl:cF=[.bool a.2.2.2.2.2]:=hF
 have hR2:=hR
 obtain ⟨AR,ccR,rfl,-,-⟩:=hR
 obtain ⟨vR,hvR⟩:∃v,v=Value.slice AR a.2.2.1.length ccR:=⟨_,rfl⟩
 rw [←hvR] at hR2 ⊢
 obtain ⟨cs,hcs⟩:∃cs,cs=cD++(cM++([vR]++(cT++([.bool a.2.2.2.2.1]++[.bool a.2.2.2.2.2])))):=⟨_,rfl⟩
 rw [←hcs]
 have Ecs:=zz hcs
 have KD:=zz hD;have KM:=zz hM;have KR:=zz hR2;have KT:=zz hT
 have LD:=zz (show cD.length=2 from kDiskL.K_len hD);have LM:=zz (show cM.length=4 from k24.K_len hM);have LT:=zz (show cT.length=11 from kTxnL.K_len hT)
 clear hD hM hR2 hT hcs hvR
 have F1:=zz f1;clear f1
 have F2:=zz f2;clear f2
 have F3:=zz f3;clear f3
 have F4:=zz f4;clear f4
 have d1:decide (t1<0)=false:=z7 n1
 have d2:decide (t2<0)=false:=z7 n2
 have d3:decide (t3<0)=false:=z7 n3
 have d4:decide (t4<0)=true:=z6 n4
 have O:=zz (z3a w.heap.size)
 have E:=zz (Env.start w)
 go_enter Tryz.func23,Tryz.ntmps23
 go_wp2_with (first|((with_reducible refine zd (N:=6) rfl ?_);replace O:=zz (And.intro E.1.le O.1);replace E:=zz (E.1.alloc cs 63 (g:=w.heap.size) rfl);refine zf rfl 28 _ rfl w.heap.size 0 [] cD (cM++([vR]++(cT++([.bool a.2.2.2.2.1]++[.bool a.2.2.2.2.2])))) _ rfl (E.1.box 0 rfl) zq19 (rfl) Tryz.underlying28 rfl zq128 ?_))
 ((with_reducible refine (szDisk_c k a.1 b t1 _ (E.1.K KD.1) F1.1).mono ?_);rintro e w1_ ⟨rfl,hb⟩)
 replace E:=zz (E.1.call hb);clear hb
 go_wp2_with (first|((with_reducible refine zd (N:=12) rfl ?_);refine zf rfl 24 _ rfl w.heap.size 2 cD cM ([vR]++(cT++([.bool a.2.2.2.2.1]++[.bool a.2.2.2.2.2]))) _ rfl (E.1.box 0 rfl) zq19 (LD.1) Tryz.underlying24 rfl zq89 ?_))
 ((with_reducible refine (szMeta_c k a.2.1 t1 t2 _ (E.1.K KM.1) F2.1).mono ?_);rintro e w2_ ⟨rfl,hb⟩)
 replace E:=zz (E.1.call hb);clear hb
 go_wp2_with (first|((with_reducible refine zd (N:=18) rfl ?_);refine zy rfl 61 _ rfl w.heap.size 6 (cD++cM) (vR) (cT++([.bool a.2.2.2.2.1]++[.bool a.2.2.2.2.2])) rfl (E.1.box 0 rfl) zq19 zq45 Tryz.underlying61 rfl ?_))
 ((with_reducible refine (szReaders_c k a.2.2.1 t2 t3 _ (E.1.K KR.1) F3.1).mono ?_);rintro e w3_ ⟨rfl,hb⟩)
 replace E:=zz (E.1.call hb);clear hb
 go_wp2_with (first|((with_reducible refine zd (N:=24) rfl ?_);refine zf rfl 33 _ rfl w.heap.size 7 (cD++(cM++[vR])) cT ([.bool a.2.2.2.2.1]++[.bool a.2.2.2.2.2]) _ rfl (E.1.box 0 rfl) zq19 zq45 Tryz.underlying33 rfl zq113 ?_))
 ((with_reducible refine (szTxn_c k a.2.2.2.1 t3 t4 _ (E.1.K KT.1) F4.1).mono ?_);rintro e w4_ ⟨rfl,hb⟩)
 replace E:=zz (E.1.call hb);clear hb
 go_wp2_with fail
 go_ret
 exact ⟨rfl,E.1.below⟩
theorem szStore_5 (k:Nat) (a:((List ByteArray×List S156)×S24×List S132×(S24×(List ByteArray×List S156×Int×List Int×List Int×List Int)×Int)×Bool×Bool)) (b:Int) (t1 t2 t3 t4:Int) {cs:List Value} (w:World) (h:kStoreL.K w a cs) (f1:zpb k a.1 b=some t1) (f2:zBb k a.2.1 t1=some t2) (f3:laws_szReaderS.f k a.2.2.1 t2=some t3) (f4:szTxn_c_f k a.2.2.2.1 t3=some t4) (n1:¬t1<0) (n2:¬t2<0) (n3:¬t3<0) (n4:¬t4<0):
  Calls Tryz.prog 23 #[.agg cs.toArray,.int .i64 b] w fun e w'=>e= .returned (.int .i64 t4)∧Below w.heap.size w w':=by
 obtain ⟨cD,_,rfl,hD,cM,_,rfl,hM,cR,_,rfl,hR,cT,_,rfl,hT,cB,cF,rfl,hW,hF⟩:=h
 obtain rfl:cB=[.bool a.2.2.2.2.1]:=hW
 obtain rfl:cF=[.bool a.2.2.2.2.2]:=hF
 have hR2:=hR
 obtain ⟨AR,ccR,rfl,-,-⟩:=hR
 obtain ⟨vR,hvR⟩:∃v,v=Value.slice AR a.2.2.1.length ccR:=⟨_,rfl⟩
 rw [←hvR] at hR2 ⊢
 obtain ⟨cs,hcs⟩:∃cs,cs=cD++(cM++([vR]++(cT++([.bool a.2.2.2.2.1]++[.bool a.2.2.2.2.2])))):=⟨_,rfl⟩
 rw [←hcs]
 have Ecs:=zz hcs
 have KD:=zz hD;have KM:=zz hM;have KR:=zz hR2;have KT:=zz hT
 have LD:=zz (show cD.length=2 from kDiskL.K_len hD);have LM:=zz (show cM.length=4 from k24.K_len hM);have LT:=zz (show cT.length=11 from kTxnL.K_len hT)
 clear hD hM hR2 hT hcs hvR
 have F1:=zz f1;clear f1
 have F2:=zz f2;clear f2
 have F3:=zz f3;clear f3
 have F4:=zz f4;clear f4
 have d1:decide (t1<0)=false:=z7 n1
 have d2:decide (t2<0)=false:=z7 n2
 have d3:decide (t3<0)=false:=z7 n3
 have d4:decide (t4<0)=false:=z7 n4
 have O:=zz (z3a w.heap.size)
 have E:=zz (Env.start w)
 go_enter Tryz.func23,Tryz.ntmps23
 go_wp2_with (first|((with_reducible refine zd (N:=6) rfl ?_);replace O:=zz (And.intro E.1.le O.1);replace E:=zz (E.1.alloc cs 63 (g:=w.heap.size) rfl);refine zf rfl 28 _ rfl w.heap.size 0 [] cD (cM++([vR]++(cT++([.bool a.2.2.2.2.1]++[.bool a.2.2.2.2.2])))) _ rfl (E.1.box 0 rfl) zq19 (rfl) Tryz.underlying28 rfl zq128 ?_))
 ((with_reducible refine (szDisk_c k a.1 b t1 _ (E.1.K KD.1) F1.1).mono ?_);rintro e w1_ ⟨rfl,hb⟩)
 replace E:=zz (E.1.call hb);clear hb
 go_wp2_with (first|((with_reducible refine zd (N:=12) rfl ?_);refine zf rfl 24 _ rfl w.heap.size 2 cD cM ([vR]++(cT++([.bool a.2.2.2.2.1]++[.bool a.2.2.2.2.2]))) _ rfl (E.1.box 0 rfl) zq19 (LD.1) Tryz.underlying24 rfl zq89 ?_))
 ((with_reducible refine (szMeta_c k a.2.1 t1 t2 _ (E.1.K KM.1) F2.1).mono ?_);rintro e w2_ ⟨rfl,hb⟩)
 replace E:=zz (E.1.call hb);clear hb
 go_wp2_with (first|((with_reducible refine zd (N:=18) rfl ?_);refine zy rfl 61 _ rfl w.heap.size 6 (cD++cM) (vR) (cT++([.bool a.2.2.2.2.1]++[.bool a.2.2.2.2.2])) rfl (E.1.box 0 rfl) zq19 zq45 Tryz.underlying61 rfl ?_))
 ((with_reducible refine (szReaders_c k a.2.2.1 t2 t3 _ (E.1.K KR.1) F3.1).mono ?_);rintro e w3_ ⟨rfl,hb⟩)
 replace E:=zz (E.1.call hb);clear hb
 go_wp2_with (first|((with_reducible refine zd (N:=24) rfl ?_);refine zf rfl 33 _ rfl w.heap.size 7 (cD++(cM++[vR])) cT ([.bool a.2.2.2.2.1]++[.bool a.2.2.2.2.2]) _ rfl (E.1.box 0 rfl) zq19 zq45 Tryz.underlying33 rfl zq113 ?_))
 ((with_reducible refine (szTxn_c k a.2.2.2.1 t3 t4 _ (E.1.K KT.1) F4.1).mono ?_);rintro e w4_ ⟨rfl,hb⟩)
 replace E:=zz (E.1.call hb);clear hb
 go_wp2_with fail
 go_ret
 exact ⟨rfl,E.1.below⟩
def szStore_f (k:Nat) (a:((List ByteArray×List S156)×S24×List S132×(S24×(List ByteArray×List S156×Int×List Int×List Int×List Int)×Int)×Bool×Bool)) (b:Int):Option Int:=(zpb k a.1 b).bind fun t1=>if t1<0 then some (-1) else (zBb k a.2.1 t1).bind fun t2=>if t2<0 then some (-1) else (laws_szReaderS.f k a.2.2.1 t2).bind fun t3=>if t3<0 then some (-1) else (szTxn_c_f k a.2.2.2.1 t3).bind fun t4=>if t4<0 then some (-1) else some t4
theorem szStore_c (k:Nat) (a:((List ByteArray×List S156)×S24×List S132×(S24×(List ByteArray×List S156×Int×List Int×List Int×List Int)×Int)×Bool×Bool)) (b r:Int) {cs:List Value} (w:World) (h:kStoreL.K w a cs) (hf:szStore_f k a b=some r):
  Calls Tryz.prog 23 #[.agg cs.toArray,.int .i64 b] w fun e w'=>e= .returned (.int .i64 r)∧Below w.heap.size w w':=by
 unfold szStore_f at hf
 obtain ⟨t1,f1,hf⟩:=Option.bind_eq_some_iff.1 hf
 by_cases n1:t1<0
 ·rw [if_pos n1] at hf;injection hf with hf;subst hf;exact szStore_1 k a b t1 w h f1 n1
 rw [if_neg n1] at hf
 obtain ⟨t2,f2,hf⟩:=Option.bind_eq_some_iff.1 hf
 by_cases n2:t2<0
 ·rw [if_pos n2] at hf;injection hf with hf;subst hf;exact szStore_2 k a b t1 t2 w h f1 f2 n1 n2
 rw [if_neg n2] at hf
 obtain ⟨t3,f3,hf⟩:=Option.bind_eq_some_iff.1 hf
 by_cases n3:t3<0
 ·rw [if_pos n3] at hf;injection hf with hf;subst hf;exact szStore_3 k a b t1 t2 t3 w h f1 f2 f3 n1 n2 n3
 rw [if_neg n3] at hf
 obtain ⟨t4,f4,hf⟩:=Option.bind_eq_some_iff.1 hf
 by_cases n4:t4<0
 ·rw [if_pos n4] at hf;injection hf with hf;subst hf;exact szStore_4 k a b t1 t2 t3 t4 w h f1 f2 f3 f4 n1 n2 n3 n4
 rw [if_neg n4] at hf
 injection hf with hf
 subst hf
 exact szStore_5 k a b t1 t2 t3 t4 w h f1 f2 f3 f4 n1 n2 n3 n4
def MarkStore (k:Nat) (z:((List ByteArray×List S110)×S40×List S135×(S40×(List ByteArray×List S110×Int×List Int×List Int×List Int)×Int)×Bool×Bool)) (a:Int) (z':((List ByteArray×List S110)×S40×List S135×(S40×(List ByteArray×List S110×Int×List Int×List Int×List Int)×Int)×Bool×Bool)) (r:Int):Prop:=∃u1 u2 u3 u4 t1 t2 t3:Int,laws_markDisk.f k z.1.1 z.1.2 a=some (u1,z'.1.1,z'.1.2)∧markF.l0 k z.2.1.f3 u1 0=some (u2,z'.2.1.f3)∧markR.l0 k z.2.2.1 u2 0=some (u3,z'.2.2.1)∧markF.l0 k z.2.2.2.1.1.f3 u3 0=some (u4,z'.2.2.2.1.1.f3)∧laws_markDisk.f k z.2.2.2.1.2.1.1 z.2.2.2.1.2.1.2.1 u4=some (t1,z'.2.2.2.1.2.1.1,z'.2.2.2.1.2.1.2.1)∧laws_markIntS.f k z.2.2.2.1.2.1.2.2.2.1 t1=some (t2,z'.2.2.2.1.2.1.2.2.2.1)∧laws_markIntS.f k z.2.2.2.1.2.1.2.2.2.2.1 t2=some (t3,z'.2.2.2.1.2.1.2.2.2.2.1)∧laws_markIntS.f k z.2.2.2.1.2.1.2.2.2.2.2 t3=some (r,z'.2.2.2.1.2.1.2.2.2.2.2)∧
 z'=((z'.1.1,z'.1.2),(⟨z.2.1.f0,z.2.1.f1,z.2.1.f2,z'.2.1.f3⟩:S40),z'.2.2.1,((⟨z.2.2.2.1.1.f0,z.2.2.2.1.1.f1,z.2.2.2.1.1.f2,z'.2.2.2.1.1.f3⟩:S40),(z'.2.2.2.1.2.1.1,z'.2.2.2.1.2.1.2.1,z.2.2.2.1.2.1.2.2.1,z'.2.2.2.1.2.1.2.2.2.1,z'.2.2.2.1.2.1.2.2.2.2.1,z'.2.2.2.1.2.1.2.2.2.2.2),z.2.2.2.1.2.2),z.2.2.2.2.1,z.2.2.2.2.2)
theorem markStore_c (k:Nat) (z:((List ByteArray×List S110)×S40×List S135×(S40×(List ByteArray×List S110×Int×List Int×List Int×List Int)×Int)×Bool×Bool)) (a:Int) (z':((List ByteArray×List S110)×S40×List S135×(S40×(List ByteArray×List S110×Int×List Int×List Int×List Int)×Int)×Bool×Bool)) (r:Int) (ok:Nat→Prop) {cs:List Value} (w0 w:World) (hB:Below w0.heap.size w0 w) (hk:∀k,ok k→k<w.heap.size) (h:kStore.M w w0.heap.size ok z cs) (hf:MarkStore k z a z' r):
  Calls Tryz.prog 28 #[.agg cs.toArray,.int .i64 a] w fun e w'=>e= .returned (.int .i64 r)∧kStore.M w' w0.heap.size ok z' cs∧Below w0.heap.size w0 w'∧Kept w w' ok:=by
 obtain ⟨u1,u2,u3,u4,t1,t2,t3,f1,f2,f3,f4,g1,g2,g3,g4,e⟩:=hf
 rw [e]
 obtain ⟨⟨l0,l1⟩,x,rs,⟨y,⟨j0,j1,j2,j3,j4,j5⟩,n⟩,bw,bf⟩:=z
 exact markStore_o k l0 l1 x rs y j0 j1 j2 j3 j4 j5 n bw bf a u1 u2 u3 u4 t1 t2 t3 r _ _ _ _ _ _ _ _ _ _ ok w0 w hB hk h f1 f2 f3 f4 g1 g2 g3 g4
theorem Env.mbound {w0 W:World} {top:Nat} {fs:List Fct} (E:Env w0 W top fs) (i:Nat) {α:Type} {d:Kd α} {base lo hi:Nat} {ok:Nat→Prop} {x:α} {cs:List Value} (hf:fs[i]?=some (Fct.made d base lo hi ok x cs)):∀k,ok k∧Iv lo hi k→k<W.heap.size:=
 fun k hk=>z4a hk.2.2 (z5a (All.get i E.all hf).1 E.le)
theorem Env.marked {w0 W W':World} {top:Nat} {fs:List Fct} (E:Env w0 W top fs) (i:Nat) {α:Type} {d:Kd α} {lo hi:Nat} {ok:Nat→Prop} {x x':α} {cs:List Value} (hf:fs[i]?=some (Fct.made d w0.heap.size lo hi ok x cs)) (M:d.M W' w0.heap.size (fun k=>ok k∧Iv lo hi k) x' cs) (hB:Below w0.heap.size w0 W') (hK:Kept W W' (fun k=>ok k∧Iv lo hi k)) (ho:Off2 lo hi fs i):Env w0 W' top (fs.set i (Fct.made d w0.heap.size lo hi ok x' cs)):=
 ⟨hB,z5a E.le hK.1,E.ge,All.off2 (fun k hk h2=>hK.2 k (z4a hk E.le) (fun h=>by have h3:=h.2.1;have h4:=h.2.2;omega)) (z3a _) (f':=Fct.made d w0.heap.size lo hi ok x' cs) (show hi≤top from (All.get i E.all hf).1) M i E.all ho⟩
theorem eqI_ev1 (l:List Int) (h:l.length≤1048576):Ev (fun k=>laws_eqIntS.f k l l) true:=eqI_ev l zq9
theorem rd_T140_nat (xs:List S140) (k:Nat) (hk:k<xs.length):zBa xs (k:Int)=xs[k]:=by
 simp [zBa,List.getD_eq_getElem?_getD,List.getElem?_eq_getElem hk]
def sumF (l:List S140):Nat:=((l.map S140.f1).flatten).length
theorem sumF_cons (x:S140) (l:List S140):sumF (x::l)=x.f1.length+sumF l:=by simp [sumF]
theorem szF_go (l:List S140) (hs:∀s∈l,s.f1.length≤9223372036854775807) (hl:l.length≤9223372036854775807):∀(n i:Nat) (x:Int),i+n=l.length→0≤x→x≤1048576→∃r,laws_szFreeS.l0 (n+1) l x (i:Int)=some r∧(r<0∨(0≤r∧r≤x∧(sumF (l.drop i):Int)≤x)):=by
 intro n
 induction n with
 |zero=>
  intro i x hi h0 h1
  refine ⟨x,?_,.inr ⟨h0,Int.le_refl _,by rw [List.drop_eq_nil_of_le zq9];simpa [sumF] using h0⟩⟩
  rw [laws_szFreeS.l0,if_neg zq9]
 |succ n ih=>
  intro i x hi h0 h1
  have hlt:i<l.length:=zq9
  have hsz:=hs l[i] (List.getElem_mem hlt)
  have hdr:sumF (l.drop i)=l[i].f1.length+sumF (l.drop (i+1)):=by rw [List.drop_eq_getElem_cons hlt,sumF_cons]
  rw [laws_szFreeS.l0,if_pos zq9,if_pos zq9,rd_T140_nat _ _ hlt,laws_szFree.f,laws_szIntS.f,zJ (x:=x-_) zq9 zq9,zJ (x:=(i:Int)+1) zq9 zq9]
  by_cases hneg:x-(l[i].f1.length:Int)<0
  ·rw [if_pos hneg,Option.bind_some,if_pos zq9,Option.bind_some,if_pos zq9]
   exact ⟨-1,rfl,.inl zq9⟩
  ·rw [if_neg hneg,Option.bind_some,if_neg hneg,Option.bind_some,if_neg hneg]
   obtain ⟨r,h2,h3⟩:=ih (i+1) (x-(l[i].f1.length:Int)) zq9 zq9 zq9
   refine ⟨r,by rw [show (i:Int)+1=((i+1:Nat):Int) by omega];exact h2,?_⟩
   rcases h3 with h3|⟨h4,h5,h6⟩
   ·exact .inl h3
   ·exact .inr ⟨h4,zq9,by rw [hdr];omega⟩
theorem szM_ev (m0 m1 m2:Int) (l:List S140) (hs:∀s∈l,s.f1.length≤9223372036854775807) (hl:l.length≤9223372036854775807) (x:Int) (h0:0≤x) (h1:x≤1048576):∃r,Ev (fun k=>laws_szMeta.f k m0 m1 m2 l x) r∧(r<0∨(¬r<0∧r≤x∧l.length≤1048576∧sumF l≤1048576)):=by
 by_cases hneg:x-(l.length:Int)<0
 ·refine ⟨-1,Ev.of (k:=0) (fun k=>laws_szMeta.mono _ _ _ _ _ k) ?_,.inl zq9⟩
  unfold laws_szMeta.f laws_szFreeS.f
  rw [zJ zq9 zq9,if_pos hneg,Option.bind_some,if_pos zq9]
 ·obtain ⟨r,h2,h3⟩:=szF_go l hs hl l.length 0 (x-(l.length:Int)) zq9 zq9 zq9
  have hev:∀r',(laws_szFreeS.l0 (l.length+1) l (x-(l.length:Int)) 0=some r)→(if r<0 then-1 else r)=r'→Ev (fun k=>laws_szMeta.f k m0 m1 m2 l x) r':=fun r' h e=>by
   refine Ev.of (k:=l.length+1) (fun k=>laws_szMeta.mono _ _ _ _ _ k) ?_
   unfold laws_szMeta.f laws_szFreeS.f
   rw [zJ zq9 zq9,if_neg hneg,h,Option.bind_some,←e]
   split<;>rfl
  rcases h3 with h3|⟨h4,h5,h6⟩
  ·exact ⟨-1,hev _ h2 (if_pos h3),.inl zq9⟩
  ·refine ⟨r,hev _ h2 (if_neg zq9),.inr ⟨zq9,zq9,zq9,?_⟩⟩
   rw [List.drop_zero] at h6
   omega
theorem sumF_mem (l:List S140) (s:S140) (h:s∈l):s.f1.length≤sumF l:=by
 induction l with
 |nil=>cases h
 |cons x l ih=>
  rw [sumF_cons]
  rcases List.mem_cons.1 h with rfl|h
  ·omega
  ·have:=ih h;omega
def convF (x:S140):S112:=⟨x.f0,x.f1⟩
theorem toF_go (l:List S140) (hl:l.length≤1048576) (hs:∀s∈l,s.f1.length≤1048576):∀(n i:Nat),i+n=l.length→Ev (fun k=>laws_toFreeS.l0 k l ((l.map convF).take i++List.replicate n z112) (i:Int)) (l.map convF):=by
 intro n
 induction n with
 |zero=>
  intro i hi
  refine Ev.step (f:=fun _=>some (l.map convF)) (fun k=> ?_) (Ev.now _)
  rw [laws_toFreeS.l0,if_neg zq9,List.replicate_zero,List.append_nil,List.take_of_length_le (by rw [List.length_map];omega)]
 |succ n ih=>
  intro i hi
  have hlt:i<l.length:=zq9
  have hlt':i<(l.map convF).length:=by rw [List.length_map];exact hlt
  have hti:((l.map convF).take i).length=i:=by rw [List.length_take,List.length_map];omega
  refine Ev.step (f:=fun k=>(laws_toIntS.f k l[i].f1).bind fun t=>laws_toFreeS.l0 k l (((l.map convF).take i++z112::List.replicate n z112).set i ⟨l[i].f0,t⟩) ((i+1:Nat):Int)) (fun k=> ?_) (Ev.bind (toI_ev _ (hs _ (List.getElem_mem hlt))) ?_)
  ·rw [laws_toFreeS.l0,if_pos zq9,if_pos zq9,rd_T140_nat _ _ hlt,laws_toFree.f,zJ zq9 zq9,Int.toNat_natCast,List.replicate_succ]
   cases laws_toIntS.f k l[i].f1 with
   |none=>rfl
   |some t=>
    simp only [Option.bind_some]
    rw [if_pos zq117]
    rfl
  ·have:=set_front ((l.map convF).take i) (List.replicate n z112) z112 (convF l[i])
   rw [hti] at this
   show Ev (fun k=>laws_toFreeS.l0 k l (((l.map convF).take i++z112::List.replicate n z112).set i (convF l[i])) _) _
   rw [this,show convF l[i]=(l.map convF)[i] by rw [List.getElem_map],List.take_append_getElem hlt']
   exact ih (i+1) zq9
theorem toM_ev (m0 m1 m2:Int) (l:List S140) (hl:l.length≤1048576) (hs:∀s∈l,s.f1.length≤1048576):Ev (fun k=>laws_toMeta.f k m0 m1 m2 l) (m0,m1,m2,l.map convF):=by
 refine Ev.bind (a:=l.map convF) ?_ (Ev.now _)
 have h:=toF_go l hl hs l.length 0 zq9
 refine Ev.congr (f:=fun k=>laws_toFreeS.l0 k l ((l.map convF).take 0++List.replicate l.length z112) 0) (fun k=> ?_) h
 unfold laws_toFreeS.f
 rw [if_pos zq9,if_pos zq139,Int.toNat_natCast,List.take_zero,List.nil_append]
theorem zic (xs:List S112) (k:Nat) (hk:k<xs.length):zF xs (k:Int)=xs[k]:=by
 simp [zF,List.getD_eq_getElem?_getD,List.getElem?_eq_getElem hk]
theorem eqF_go (l:List S112) (hl:l.length≤1048576) (hs:∀s∈l,s.f1.length≤1048576):∀(n i:Nat),i+n=l.length→Ev (fun k=>laws_eqFreeS.l0 k l l (i:Int)) true:=by
 intro n
 induction n with
 |zero=>
  intro i hi
  exact Ev.step (f:=fun _=>some true) (fun k=>by rw [laws_eqFreeS.l0,if_neg zq9]) (Ev.now _)
 |succ n ih=>
  intro i hi
  have hlt:i<l.length:=zq9
  refine Ev.step (f:=fun k=>(laws_eqIntS.f k l[i].f1 l[i].f1).bind fun t=>if t=true then laws_eqFreeS.l0 k l l ((i+1:Nat):Int) else none) (fun k=> ?_) (Ev.bind (eqI_ev1 _ (hs _ (List.getElem_mem hlt))) ?_)
  ·rw [laws_eqFreeS.l0,if_pos zq9,if_pos zq9,if_pos zq9,zic _ _ hlt,laws_eqFree.f,if_pos rfl,zJ zq9 zq9]
   cases laws_eqIntS.f k l[i].f1 l[i].f1 with
   |none=>rfl
   |some t=>cases t<;>rfl
  ·simp only [if_true]
   exact ih (i+1) zq9
theorem eqM_ev (m0 m1 m2:Int) (l:List S112) (hl:l.length≤1048576) (hs:∀s∈l,s.f1.length≤1048576):Ev (fun k=>laws_eqMeta.f k m0 m1 m2 l m0 m1 m2 l) true:=by
 have h:=eqF_go l hl hs l.length 0 zq9
 refine Ev.congr (f:=fun k=>(laws_eqFreeS.l0 k l l 0).bind fun t=>if t=true then some true else none) (fun k=> ?_) (Ev.bind h (Ev.now _))
 unfold laws_eqMeta.f laws_eqFreeS.f
 rw [if_pos rfl,if_pos rfl,if_pos rfl,if_pos rfl]
def OKm (l:List S140):Prop:=l.length≤1048576∧∀s∈l,s.f1.length≤1048576
def INm (l:List S140):Prop:=(∀s∈l,s.f1.length≤9223372036854775807)∧l.length≤9223372036854775807
theorem szMx (m0 m1 m2:Int) (l:List S140) (h:INm l) (x:Int) (h0:0≤x) (hx:x≤1048576):∃r,Ev (fun k=>laws_szMeta.f k m0 m1 m2 l x) r∧(r<0∨(0≤r∧r≤x∧OKm l)):=by
 obtain ⟨r,e,hr⟩:=szM_ev m0 m1 m2 l h.1 h.2 x h0 hx
 refine ⟨r,e,?_⟩
 rcases hr with hr|⟨a,b,c,d⟩
 ·exact .inl hr
 ·exact .inr ⟨zq9,b,c,fun s hs=>z5a (sumF_mem l s hs) d⟩
theorem rd_T132_nat (xs:List S132) (k:Nat) (hk:k<xs.length):zY xs (k:Int)=xs[k]:=by
 simp [zY,List.getD_eq_getElem?_getD,List.getElem?_eq_getElem hk]
theorem rd_T135_nat (xs:List S135) (k:Nat) (hk:k<xs.length):zE xs (k:Int)=xs[k]:=by
 simp [zE,List.getD_eq_getElem?_getD,List.getElem?_eq_getElem hk]
theorem szR_go (l:List S132) (hs:∀s∈l,INm s.f1.f3) (hl:l.length≤9223372036854775807):∀(n i:Nat) (x:Int),i+n=l.length→0≤x→x≤1048576→∃r,Ev (fun k=>laws_szReaderS.l0 k l x (i:Int)) r∧(r<0∨(0≤r∧r≤x∧∀j (hj:j<l.length),i≤j→OKm l[j].f1.f3)):=by
 intro n
 induction n with
 |zero=>
  intro i x hi h0 h1
  exact ⟨x,Ev.step (f:=fun _=>some x) (fun k=>by rw [laws_szReaderS.l0,if_neg zq9]) (Ev.now _),.inr ⟨h0,Int.le_refl _,fun j hj hij=>by omega⟩⟩
 |succ n ih=>
  intro i x hi h0 h1
  have hlt:i<l.length:=zq9
  obtain ⟨a,ea,ha⟩:=szMx l[i].f1.f0 l[i].f1.f1 l[i].f1.f2 l[i].f1.f3 (hs _ (List.getElem_mem hlt)) x h0 h1
  have hst:∀k,laws_szReaderS.l0 (k+1) l x (i:Int)=((laws_szMeta.f k l[i].f1.f0 l[i].f1.f1 l[i].f1.f2 l[i].f1.f3 x).bind fun t=>if t<0 then some (-1) else some t).bind fun t=>if t<0 then some (-1) else laws_szReaderS.l0 k l t ((i+1:Nat):Int):=fun k=>by
   rw [laws_szReaderS.l0,if_pos zq9,if_pos zq9,rd_T132_nat _ _ hlt,zJ zq9 zq9]
   rfl
  rcases ha with ha|⟨a0,a1,a2⟩
  ·exact ⟨-1,Ev.step hst (Ev.bind (a:= -1) (Ev.bind ea zq137) (by simp only [if_pos (show (-1:Int)<0 by omega)];exact Ev.now _)),.inl zq9⟩
  ·obtain ⟨r,er,hr⟩:=ih (i+1) a zq9 a0 zq9
   refine ⟨r,Ev.step hst (Ev.bind (a:=a) (Ev.bind ea (by simp only [if_neg (show ¬a<0 by omega)];exact Ev.now _)) (by simp only [if_neg (show ¬a<0 by omega)];exact er)),?_⟩
   rcases hr with hr|⟨r0,r1,r2⟩
   ·exact .inl hr
   ·refine .inr ⟨r0,zq9,fun j hj hij=> ?_⟩
    by_cases hji:j=i
    ·subst hji;exact a2
    ·exact r2 j hj zq9
theorem szRx (l:List S132) (hs:∀s∈l,INm s.f1.f3) (hl:l.length≤9223372036854775807) (x:Int) (h0:0≤x) (hx:x≤1048576):∃r,Ev (fun k=>laws_szReaderS.f k l x) r∧(r<0∨(0≤r∧r≤x∧l.length≤1048576∧∀s∈l,OKm s.f1.f3)):=by
 by_cases hneg:x-(l.length:Int)<0
 ·exact ⟨-1,Ev.congr (f:=fun _=>some (-1)) (fun k=>by unfold laws_szReaderS.f;rw [zJ zq9 zq9,if_pos hneg]) (Ev.now _),.inl zq9⟩
 ·obtain ⟨r,er,hr⟩:=szR_go l hs hl l.length 0 (x-(l.length:Int)) zq9 zq9 zq9
  refine ⟨r,Ev.congr (fun k=>by unfold laws_szReaderS.f;rw [zJ zq9 zq9,if_neg hneg];rfl) er,?_⟩
  rcases hr with hr|⟨r0,r1,r2⟩
  ·exact .inl hr
  ·refine .inr ⟨r0,zq9,zq9,fun s hs=> ?_⟩
   obtain ⟨j,hj,rfl⟩:=List.getElem_of_mem hs
   exact r2 j hj (z0b _)
def convR (s:S132):S135:=⟨s.f0,⟨s.f1.f0,s.f1.f1,s.f1.f2,s.f1.f3.map convF⟩⟩
theorem toR_go (l:List S132) (hl:l.length≤1048576) (hs:∀s∈l,OKm s.f1.f3):∀(n i:Nat),i+n=l.length→Ev (fun k=>laws_toReaderS.l0 k l ((l.map convR).take i++List.replicate n z135) (i:Int)) (l.map convR):=by
 intro n
 induction n with
 |zero=>
  intro i hi
  refine Ev.step (f:=fun _=>some (l.map convR)) (fun k=> ?_) (Ev.now _)
  rw [laws_toReaderS.l0,if_neg zq9,List.replicate_zero,List.append_nil,List.take_of_length_le (by rw [List.length_map];omega)]
 |succ n ih=>
  intro i hi
  have hlt:i<l.length:=zq9
  have hlt':i<(l.map convR).length:=by rw [List.length_map];exact hlt
  have hti:((l.map convR).take i).length=i:=by rw [List.length_take,List.length_map];omega
  have hm:=hs _ (List.getElem_mem hlt)
  refine Ev.step (f:=fun k=>(laws_toMeta.f k l[i].f1.f0 l[i].f1.f1 l[i].f1.f2 l[i].f1.f3).bind fun t=>laws_toReaderS.l0 k l (((l.map convR).take i++z135::List.replicate n z135).set i ⟨l[i].f0,⟨t.1,t.2.1,t.2.2.1,t.2.2.2⟩⟩) ((i+1:Nat):Int)) (fun k=> ?_) (Ev.bind (toM_ev _ _ _ _ hm.1 hm.2) ?_)
  ·rw [laws_toReaderS.l0,if_pos zq9,if_pos zq9,rd_T132_nat _ _ hlt,laws_toReader.f,zJ zq9 zq9,Int.toNat_natCast,List.replicate_succ]
   cases laws_toMeta.f k l[i].f1.f0 l[i].f1.f1 l[i].f1.f2 l[i].f1.f3 with
   |none=>rfl
   |some t=>
    simp only [Option.bind_some]
    rw [if_pos zq117]
    rfl
  ·have:=set_front ((l.map convR).take i) (List.replicate n z135) z135 (convR l[i])
   rw [hti] at this
   show Ev (fun k=>laws_toReaderS.l0 k l (((l.map convR).take i++z135::List.replicate n z135).set i (convR l[i])) _) _
   rw [this,show convR l[i]=(l.map convR)[i] by rw [List.getElem_map],List.take_append_getElem hlt']
   exact ih (i+1) zq9
theorem toR_ev (l:List S132) (hl:l.length≤1048576) (hs:∀s∈l,OKm s.f1.f3):Ev (fun k=>laws_toReaderS.f k l) (l.map convR):=by
 refine Ev.congr (f:=fun k=>laws_toReaderS.l0 k l ((l.map convR).take 0++List.replicate l.length z135) 0) (fun k=> ?_) (toR_go l hl hs l.length 0 zq9)
 unfold laws_toReaderS.f
 rw [if_pos zq9,if_pos zq139,Int.toNat_natCast,List.take_zero,List.nil_append]
def OKn (l:List S112):Prop:=l.length≤1048576∧∀s∈l,s.f1.length≤1048576
theorem OKn_conv {l:List S140} (h:OKm l):OKn (l.map convF):=⟨by rw [List.length_map];exact h.1,fun s hs=>by obtain ⟨y,hy,rfl⟩:=List.mem_map.1 hs;exact h.2 y hy⟩
theorem eqR_go (l:List S135) (hl:l.length≤1048576) (hs:∀s∈l,OKn s.f1.f3):∀(n i:Nat),i+n=l.length→Ev (fun k=>laws_eqReaderS.l0 k l l (i:Int)) true:=by
 intro n
 induction n with
 |zero=>
  intro i hi
  exact Ev.step (f:=fun _=>some true) (fun k=>by rw [laws_eqReaderS.l0,if_neg zq9]) (Ev.now _)
 |succ n ih=>
  intro i hi
  have hlt:i<l.length:=zq9
  have hm:=hs _ (List.getElem_mem hlt)
  refine Ev.step (f:=fun k=>(laws_eqMeta.f k l[i].f1.f0 l[i].f1.f1 l[i].f1.f2 l[i].f1.f3 l[i].f1.f0 l[i].f1.f1 l[i].f1.f2 l[i].f1.f3).bind fun t=>if t=true then laws_eqReaderS.l0 k l l ((i+1:Nat):Int) else none) (fun k=> ?_) (Ev.bind (eqM_ev _ _ _ _ hm.1 hm.2) ?_)
  ·rw [laws_eqReaderS.l0,if_pos zq9,if_pos zq9,if_pos zq9,rd_T135_nat _ _ hlt,laws_eqReader.f,if_pos rfl,zJ zq9 zq9]
   cases laws_eqMeta.f k l[i].f1.f0 l[i].f1.f1 l[i].f1.f2 l[i].f1.f3 l[i].f1.f0 l[i].f1.f1 l[i].f1.f2 l[i].f1.f3 with
   |none=>rfl
   |some t=>cases t<;>rfl
  ·simp only [if_true]
   exact ih (i+1) zq9
theorem eqR_ev (l:List S135) (hl:l.length≤1048576) (hs:∀s∈l,OKn s.f1.f3):Ev (fun k=>laws_eqReaderS.f k l l) true:=
 Ev.congr (fun k=>by unfold laws_eqReaderS.f;rw [if_pos rfl];rfl) (eqR_go l hl hs l.length 0 zq9)
theorem szTx (a b c:Int) (fr:List S140) (pages:List ByteArray) (late:List S156) (n:Int) (u g f:List Int) (q:Int) (hm:INm fr) (hd:INd pages late) (hu:INi u) (hg:INi g) (hf:INi f) (x:Int) (h0:0≤x) (hx:x≤1048576):∃r,Ev (fun k=>laws_szTxn.f k a b c fr pages late n u g f q x) r∧(r<0∨(0≤r∧r≤x∧OKm fr∧Small pages late∧u.length≤1048576∧g.length≤1048576∧f.length≤1048576)):=by
 unfold laws_szTxn.f
 exact sz_step (szMx a b c fr hm x h0 hx) fun y y0 y1=>sz_end (szWx pages late n u g f hd hu hg hf y y0 zq9)
theorem mhF:∀(n i:Nat) (l:List S112) (a:Int),i+n=l.length→0<a→a+n*1048577<4000000000000000000→l.length≤2000000→(∀j (h:j<l.length),i≤j→l[j].f1.length≤1048576)→∃l' c,0≤c∧c≤(n:Int)*1048577∧Ev (fun k=>markF.l0 k l a (i:Int)) (a+c,l')∧l'.length=l.length∧(∀j,j<i→l'[j]?=l[j]?)∧Ev (fun k=>laws_heldFreeS.l0 k l' a (i:Int)) (a+c):=by
 intro n
 induction n with
 |zero=>
  intro i l a hi h0 h1 hl hs
  refine ⟨l,0,zq9,zq9,Ev.step (f:=fun _=>some (a+0,l)) (fun k=> ?_) (Ev.now _),rfl,fun _ _=>rfl,Ev.step (f:=fun _=>some (a+0)) (fun k=> ?_) (Ev.now _)⟩
  ·rw [markF.l0,if_neg zq9]
   simp
  ·rw [laws_heldFreeS.l0,if_neg zq9]
   simp
 |succ n ih=>
  intro i l a hi h0 h1 hl hs
  have hlt0:i<l.length:=zq9
  have hsi:=hs i hlt0 (z3a _)
  obtain ⟨p,g1,g2⟩:=mhI_ev l[i].f1 (a+1) zq9 zq9 zq9
  obtain ⟨l',c,c0,c1,e1,e2,e3,e4⟩:=ih (i+1) (l.set i (⟨a,p⟩:S112)) (a+1+l[i].f1.length) zq136 zq9 zq9 (by rw [List.length_set];exact hl) (fun j h hj=>by
   rw [List.length_set] at h
   rw [List.getElem_set_ne zq9]
   exact hs j h zq9)
  rw [List.length_set] at e2
  have hlt:i<l'.length:=zq9
  have hat:l'[i]?=some (⟨a,p⟩:S112):=zq104
  have hget:l'[i]=(⟨a,p⟩:S112):=zq102
  have hn:a+1+(l[i].f1.length:Int)+c=a+(1+(l[i].f1.length:Int)+c):=zq9
  rw [hn] at e1 e4
  refine ⟨l',1+(l[i].f1.length:Int)+c,zq9,zq9,Ev.step (f:=fun k=>(laws_markIntS.f k l[i].f1 (a+1)).bind fun b=>markF.l0 k (l.set i (⟨a,b.2⟩:S112)) b.1 ((i+1:Nat):Int)) (fun k=> ?_) (Ev.bind g1 e1),e2,fun j hj=> ?_,Ev.step (f:=fun k=>(laws_heldIntS.f k p (a+1)).bind fun t=>if t<0 then none else laws_heldFreeS.l0 k l' t ((i+1:Nat):Int)) (fun k=> ?_) (Ev.bind g2 (by simp only [if_neg (show ¬a+1+(l[i].f1.length:Int)<0 by omega)];exact e4))⟩
  ·rw [markF.l0,if_pos zq9,if_pos zq9,zic _ _ hlt0,zJ (x:=a+1) zq9 zq9,zJ (x:=(i:Int)+1) zq9 zq9,Int.toNat_natCast]
   rfl
  ·rw [e3 j zq9,List.getElem?_set_ne zq9]
  ·rw [laws_heldFreeS.l0,if_pos zq9,if_pos zq9,zic _ _ hlt,hget,if_pos rfl,zJ (x:=a+1) zq9 zq9,zJ (x:=(i:Int)+1) zq9 zq9]
   rfl
theorem mhF_ev (l:List S112) (a:Int) (h0:0<a) (h1:a+l.length*1048577<4000000000000000000) (hl:OKn l):∃l' c,0≤c∧c≤(l.length:Int)*1048577∧Ev (fun k=>markF.l0 k l a 0) (a+c,l')∧Ev (fun k=>laws_heldFreeS.f k l' a) (a+c):=by
 obtain ⟨l',c,c0,c1,e1,_,_,e4⟩:=mhF l.length 0 l a zq9 h0 h1 (by have:=hl.1;omega) (fun j h _=>hl.2 _ (List.getElem_mem h))
 exact ⟨l',c,c0,c1,e1,e4⟩
theorem mhR:∀(n i:Nat) (l:List S135) (a:Int),i+n=l.length→0<a→a+n*1099512676356<3000000000000000000→l.length≤1048576→(∀j (h:j<l.length),i≤j→OKn l[j].f1.f3)→∃l' c,0≤c∧c≤(n:Int)*1099512676356∧Ev (fun k=>markR.l0 k l a (i:Int)) (a+c,l')∧l'.length=l.length∧(∀j,j<i→l'[j]?=l[j]?)∧Ev (fun k=>laws_heldReaderS.l0 k l' a (i:Int)) (a+c):=by
 intro n
 induction n with
 |zero=>
  intro i l a hi h0 h1 hl hs
  refine ⟨l,0,zq9,zq9,Ev.step (f:=fun _=>some (a+0,l)) (fun k=> ?_) (Ev.now _),rfl,fun _ _=>rfl,Ev.step (f:=fun _=>some (a+0)) (fun k=> ?_) (Ev.now _)⟩
  ·rw [markR.l0,if_neg zq9]
   simp
  ·rw [laws_heldReaderS.l0,if_neg zq9]
   simp
 |succ n ih=>
  intro i l a hi h0 h1 hl hs
  have hlt0:i<l.length:=zq9
  have hsi:=hs i hlt0 (z3a _)
  have hsl:=hsi.1
  obtain ⟨p,d,d0,d1,g1,g2⟩:=mhF_ev l[i].f1.f3 (a+4) zq9 zq9 hsi
  obtain ⟨x1,hx1⟩:∃x:S135,x=⟨a,⟨a+1,a+2,a+3,p⟩⟩:=⟨_,rfl⟩
  obtain ⟨l',c,c0,c1,e1,e2,e3,e4⟩:=ih (i+1) (l.set i x1) (a+4+d) zq136 zq9 zq9 (by rw [List.length_set];exact hl) (fun j h hj=>by
   rw [List.length_set] at h
   rw [List.getElem_set_ne zq9]
   exact hs j h zq9)
  rw [List.length_set] at e2
  have hlt:i<l'.length:=zq9
  have hat:l'[i]?=some x1:=zq104
  have hget:l'[i]=x1:=zq102
  have hn:a+4+d+c=a+(4+d+c):=zq9
  rw [hn] at e1 e4
  have w1:wrap64 (a+1)=a+1:=zJ zq9 zq9
  have w2:wrap64 (a+1+1)=a+2:=by rw [show a+1+1=a+2 by omega];exact zJ zq9 zq9
  have w3:wrap64 (a+2+1)=a+3:=by rw [show a+2+1=a+3 by omega];exact zJ zq9 zq9
  have w4:wrap64 (a+3+1)=a+4:=by rw [show a+3+1=a+4 by omega];exact zJ zq9 zq9
  refine ⟨l',4+d+c,zq9,zq9,Ev.step (f:=fun k=>(markF.l0 k l[i].f1.f3 (a+4) 0).bind fun b=>markR.l0 k (l.set i (⟨a,⟨a+1,a+2,a+3,b.2⟩⟩:S135)) b.1 ((i+1:Nat):Int)) (fun k=> ?_) (Ev.bind g1 (by rw [←hx1];exact e1)),e2,fun j hj=> ?_,Ev.step (f:=fun k=>(laws_heldFreeS.f k p (a+4)).bind fun t=>if t<0 then none else laws_heldReaderS.l0 k l' t ((i+1:Nat):Int)) (fun k=> ?_) (Ev.bind g2 (by simp only [if_neg (show ¬a+4+d<0 by omega)];exact e4))⟩
  ·rw [markR.l0,if_pos zq9,if_pos zq9,rd_T135_nat _ _ hlt0,w1,w2,w3,w4,zJ (x:=(i:Int)+1) zq9 zq9,Int.toNat_natCast]
   rfl
  ·rw [e3 j zq9,List.getElem?_set_ne zq9]
  ·rw [laws_heldReaderS.l0,if_pos zq9,if_pos zq9,rd_T135_nat _ _ hlt,hget,hx1,if_pos rfl,w1,if_pos rfl,w2,if_pos rfl,w3,if_pos rfl,w4,zJ (x:=(i:Int)+1) zq9 zq9]
   rfl
theorem mhR_ev (l:List S135) (a:Int) (h0:0<a) (h1:a≤1000000000000000000) (hl:l.length≤1048576) (hs:∀s∈l,OKn s.f1.f3):∃l' c,0≤c∧c≤1152922604122669056∧Ev (fun k=>markR.l0 k l a 0) (a+c,l')∧Ev (fun k=>laws_heldReaderS.f k l' a) (a+c):=by
 obtain ⟨l',c,c0,c1,e1,_,_,e4⟩:=mhR l.length 0 l a zq9 h0 zq9 hl (fun j h _=>hs _ (List.getElem_mem h))
 exact ⟨l',c,c0,zq9,e1,e4⟩
def EvP (P:Nat→Prop):Prop:=∃K,∀k,K≤k→P k
theorem EvP.and {P Q:Nat→Prop} (h:EvP P) (h2:EvP Q):EvP (fun k=>P k∧Q k):=by
 obtain ⟨K,h⟩:=h
 obtain ⟨J,h2⟩:=h2
 exact ⟨K+J,fun k hk=>⟨h k zq9,h2 k zq9⟩⟩
theorem EvP.now {P:Prop} (h:P):EvP (fun _=>P):=⟨0,fun _ _=>h⟩
theorem EvP.imp {P Q:Nat→Prop} (h:EvP P) (hi:∀k,P k→Q k):EvP Q:=by
 obtain ⟨K,h⟩:=h
 exact ⟨K,fun k hk=>hi k (h k hk)⟩
theorem EvP.of {α:Type} {f:Nat→Option α} {r:α} (h:Ev f r):EvP (fun k=>f k=some r):=h
def INs (a:((List ByteArray×List S156)×S24×List S132×(S24×(List ByteArray×List S156×Int×List Int×List Int×List Int)×Int)×Bool×Bool)):Prop:=INd a.1.1 a.1.2∧INm a.2.1.f3∧((∀s∈a.2.2.1,INm s.f1.f3)∧a.2.2.1.length≤9223372036854775807)∧INm a.2.2.2.1.1.f3∧INd a.2.2.2.1.2.1.1 a.2.2.2.1.2.1.2.1∧INi a.2.2.2.1.2.1.2.2.2.1∧INi a.2.2.2.1.2.1.2.2.2.2.1∧INi a.2.2.2.1.2.1.2.2.2.2.2
def OKl (a:((List ByteArray×List S156)×S24×List S132×(S24×(List ByteArray×List S156×Int×List Int×List Int×List Int)×Int)×Bool×Bool)):Prop:=Small a.1.1 a.1.2∧OKm a.2.1.f3∧(a.2.2.1.length≤1048576∧∀s∈a.2.2.1,OKm s.f1.f3)∧OKm a.2.2.2.1.1.f3∧Small a.2.2.2.1.2.1.1 a.2.2.2.1.2.1.2.1∧a.2.2.2.1.2.1.2.2.2.1.length≤1048576∧a.2.2.2.1.2.1.2.2.2.2.1.length≤1048576∧a.2.2.2.1.2.1.2.2.2.2.2.length≤1048576
def OKs (d:((List ByteArray×List S110)×S40×List S135×(S40×(List ByteArray×List S110×Int×List Int×List Int×List Int)×Int)×Bool×Bool)):Prop:=(d.1.1.length≤1048576∧d.1.2.length≤1048576)∧OKn d.2.1.f3∧(d.2.2.1.length≤1048576∧∀s∈d.2.2.1,OKn s.f1.f3)∧OKn d.2.2.2.1.1.f3∧(d.2.2.2.1.2.1.1.length≤1048576∧d.2.2.2.1.2.1.2.1.length≤1048576)∧d.2.2.2.1.2.1.2.2.2.1.length≤1048576∧d.2.2.2.1.2.1.2.2.2.2.1.length≤1048576∧d.2.2.2.1.2.1.2.2.2.2.2.length≤1048576
theorem sz_store (a:((List ByteArray×List S156)×S24×List S132×(S24×(List ByteArray×List S156×Int×List Int×List Int×List Int)×Int)×Bool×Bool)) (h:INs a):∃r,Ev (fun k=>szStore_f k a 1048576) r∧(r<0∨(¬r<0∧OKl a)):=by
 obtain ⟨⟨a0,a1⟩,x,rs,⟨y,⟨l0,l1,l2,l3,l4,l5⟩,n⟩,bw,bf⟩:=a
 obtain ⟨h1,h2,h3,h4,h5,h6,h7,h8⟩:=h
 obtain ⟨r,e,h⟩:=sz_step (szDx a0 a1 h1 1048576 zq9 zq9) (fun v v0 v1=>sz_step (szMx x.f0 x.f1 x.f2 x.f3 h2 v v0 zq9) (fun u u0 u1=>sz_step (szRx rs h3.1 h3.2 u u0 zq9) (fun t t0 t1=>sz_end (szTx y.f0 y.f1 y.f2 y.f3 l0 l1 l2 l3 l4 l5 n h4 h5 h6 h7 h8 t t0 zq9))))
 refine ⟨r,e,?_⟩
 rcases h with h|⟨g0,_,g1,g2,g3,g4,g5,g6,g7,g8⟩
 ·exact .inl h
 ·exact .inr ⟨zq9,g1,g2,g3,g4,g5,g6,g7,g8⟩
def convM (x:S24):S40:=⟨x.f0,x.f1,x.f2,x.f3.map convF⟩
def convS (a:((List ByteArray×List S156)×S24×List S132×(S24×(List ByteArray×List S156×Int×List Int×List Int×List Int)×Int)×Bool×Bool)):((List ByteArray×List S110)×S40×List S135×(S40×(List ByteArray×List S110×Int×List Int×List Int×List Int)×Int)×Bool×Bool):=((a.1.1,a.1.2.map conv),convM a.2.1,a.2.2.1.map convR,(convM a.2.2.2.1.1,(a.2.2.2.1.2.1.1,a.2.2.2.1.2.1.2.1.map conv,a.2.2.2.1.2.1.2.2.1,a.2.2.2.1.2.1.2.2.2.1,a.2.2.2.1.2.1.2.2.2.2.1,a.2.2.2.1.2.1.2.2.2.2.2),a.2.2.2.1.2.2),a.2.2.2.2.1,a.2.2.2.2.2)
theorem to_store (a:((List ByteArray×List S156)×S24×List S132×(S24×(List ByteArray×List S156×Int×List Int×List Int×List Int)×Int)×Bool×Bool)) (h:OKl a):EvP (fun k=>ToStore k a (convS a))∧OKs (convS a):=by
 obtain ⟨h1,h2,h3,h4,h5,h6,h7,h8⟩:=h
 have hW:EvP (fun k=>ToWork k a.2.2.2.1.2.1 (convS a).2.2.2.1.2.1):=((EvP.of (toD_ev _ _ h5)).and ((EvP.now rfl).and ((EvP.of (toI_ev _ h6)).and ((EvP.of (toI_ev _ h7)).and (EvP.of (toI_ev _ h8)))))).imp (fun k h=>h)
 have hT:EvP (fun k=>ToTxn k a.2.2.2.1 (convS a).2.2.2.1):=((EvP.of (toM_ev _ _ _ _ h4.1 h4.2)).and (hW.and (EvP.now rfl))).imp (fun k h=>h)
 refine ⟨((EvP.of (toD_ev _ _ h1)).and ((EvP.of (toM_ev _ _ _ _ h2.1 h2.2)).and ((EvP.of (toR_ev _ h3.1 h3.2)).and (hT.and (EvP.now ⟨rfl,rfl⟩))))).imp (fun k h=>h),?_⟩
 refine ⟨⟨h1.1.1,by show (a.1.2.map conv).length≤_;rw [List.length_map];exact h1.2.1⟩,OKn_conv h2,⟨by show (a.2.2.1.map convR).length≤_;rw [List.length_map];exact h3.1,fun s hs=> ?_⟩,OKn_conv h4,⟨h5.1.1,by show (a.2.2.2.1.2.1.2.1.map conv).length≤_;rw [List.length_map];exact h5.2.1⟩,h6,h7,h8⟩
 obtain ⟨t,ht,rfl⟩:=List.mem_map.1 hs
 exact OKn_conv (h3.2 t ht)
theorem eq_store (d:((List ByteArray×List S110)×S40×List S135×(S40×(List ByteArray×List S110×Int×List Int×List Int×List Int)×Int)×Bool×Bool)) (h:OKs d):EvP (fun k=>EqStore k d):=by
 obtain ⟨⟨a0,a1⟩,x,rs,⟨y,⟨l0,l1,l2,l3,l4,l5⟩,n⟩,bw,bf⟩:=d
 obtain ⟨h1,h2,h3,h4,h5,h6,h7,h8⟩:=h
 have g:=fun {n:Nat} (h:n≤1048576)=>z5a h (show 1048576≤2000000 by decide)
 exact ((EvP.of (eqD_ev a0 a1 (g h1.1) (g h1.2))).and ((EvP.of (eqM_ev x.f0 x.f1 x.f2 x.f3 h2.1 h2.2)).and ((EvP.of (eqR_ev rs h3.1 h3.2)).and ((EvP.of (eqM_ev y.f0 y.f1 y.f2 y.f3 h4.1 h4.2)).and ((EvP.of (eqD_ev l0 l1 (g h5.1) (g h5.2))).and ((EvP.of (eqI_ev l3 (g h6))).and ((EvP.of (eqI_ev l4 (g h7))).and (EvP.of (eqI_ev l5 (g h8)))))))))).imp (fun k h=>h)
theorem mark_store (d:((List ByteArray×List S110)×S40×List S135×(S40×(List ByteArray×List S110×Int×List Int×List Int×List Int)×Int)×Bool×Bool)) (h:OKs d):∃d' mk,EvP (fun k=>MarkStore k d 1 d' mk)∧¬mk<0∧EvP (fun k=>HeldStore k d' 1 mk):=by
 obtain ⟨⟨a0,a1⟩,x,rs,⟨y,⟨l0,l1,l2,l3,l4,l5⟩,n⟩,bw,bf⟩:=d
 obtain ⟨h1,h2,h3,h4,h5,h6,h7,h8⟩:=h
 have b0:a0.length≤1048576:=h1.1
 have b1:a1.length≤1048576:=h1.2
 have b2:x.f3.length≤1048576:=h2.1
 have b4:y.f3.length≤1048576:=h4.1
 have b5:l0.length≤1048576:=h5.1
 have b6:l1.length≤1048576:=h5.2
 have b7:l3.length≤1048576:=h6
 have b8:l4.length≤1048576:=h7
 have b9:l5.length≤1048576:=h8
 obtain ⟨p,q,m1,d1⟩:=mhD_ev a0 a1 1 zq9 zq9 zq9 zq9
 obtain ⟨u1,hu1⟩:∃u:Int,u=1+a0.length+2*a1.length:=⟨_,rfl⟩
 rw [←hu1] at m1 d1
 obtain ⟨fr,c2,c20,c21,m2,d2⟩:=mhF_ev x.f3 u1 zq9 zq9 h2
 obtain ⟨u2,hu2⟩:∃u:Int,u=u1+c2:=⟨_,rfl⟩
 rw [←hu2] at m2 d2
 obtain ⟨rr,c3,c30,c31,m3,d3⟩:=mhR_ev rs u2 zq9 zq9 h3.1 h3.2
 obtain ⟨u3,hu3⟩:∃u:Int,u=u2+c3:=⟨_,rfl⟩
 rw [←hu3] at m3 d3
 obtain ⟨gr,c4,c40,c41,m4,d4⟩:=mhF_ev y.f3 u3 zq9 zq9 h4
 obtain ⟨u4,hu4⟩:∃u:Int,u=u3+c4:=⟨_,rfl⟩
 rw [←hu4] at m4 d4
 obtain ⟨p',q',m5,d5⟩:=mhD_ev l0 l1 u4 zq9 zq9 zq9 zq9
 obtain ⟨u5,hu5⟩:∃u:Int,u=u4+l0.length+2*l1.length:=⟨_,rfl⟩
 rw [←hu5] at m5 d5
 obtain ⟨s3,m6,d6⟩:=mhI_ev l3 u5 zq9 zq9 zq9
 obtain ⟨u6,hu6⟩:∃u:Int,u=u5+l3.length:=⟨_,rfl⟩
 rw [←hu6] at m6 d6
 obtain ⟨s4,m7,d7⟩:=mhI_ev l4 u6 zq9 zq9 zq9
 obtain ⟨u7,hu7⟩:∃u:Int,u=u6+l4.length:=⟨_,rfl⟩
 rw [←hu7] at m7 d7
 obtain ⟨s5,m8,d8⟩:=mhI_ev l5 u7 zq9 zq9 zq9
 obtain ⟨u8,hu8⟩:∃u:Int,u=u7+l5.length:=⟨_,rfl⟩
 rw [←hu8] at m8 d8
 refine ⟨((p,q),⟨x.f0,x.f1,x.f2,fr⟩,rr,(⟨y.f0,y.f1,y.f2,gr⟩,(p',q',l2,s3,s4,s5),n),bw,bf),u8,?_,zq9,?_⟩
 ·refine ((EvP.of m1).and ((EvP.of m2).and ((EvP.of m3).and ((EvP.of m4).and ((EvP.of m5).and ((EvP.of m6).and ((EvP.of m7).and (EvP.of m8)))))))).imp ?_
  rintro k ⟨f1,f2,f3,f4,f5,f6,f7,f8⟩
  exact ⟨u1,u2,u3,u4,u5,u6,u7,f1,f2,f3,f4,f5,f6,f7,f8,rfl⟩
 ·have hm:=fun {a b c u u':Int} {fr:List S112} (d:Ev (fun k=>laws_heldFreeS.l0 k fr u 0) u') (hu:0≤u')=>(show Ev (fun k=>zwb k ⟨a,b,c,fr⟩ u) u' by show Ev (fun k=>laws_heldMeta.f k a b c fr u) u';unfold laws_heldMeta.f;exact hld d zq9 (Ev.now _))
  refine ((EvP.of d1).and ((EvP.of (hm (a:=x.f0) (b:=x.f1) (c:=x.f2) d2 zq9)).and ((EvP.of d3).and ((EvP.of (hm (a:=y.f0) (b:=y.f1) (c:=y.f2) d4 zq9)).and ((EvP.of d5).and ((EvP.of d6).and ((EvP.of d7).and (EvP.of d8)))))))).imp ?_
  rintro k ⟨f1,f2,f3,f4,f5,f6,f7,f8⟩
  exact ⟨u1,u2,u3,f1,zq9,f2,zq9,f3,zq9,⟨u4,f4,zq9,⟨u5,u6,u7,f5,zq9,f6,zq9,f7,zq9,f8,zq9⟩,zq9⟩,zq9⟩
def MHead (x:S40):Prop:=(0≤x.f0∧x.f0≤100000)∧(2≤x.f2∧x.f2≤40)∧(x.f1=0∨(2≤x.f1∧x.f1≤x.f2-1))∧x.f3.length≤20
def FrHead (x:S40) (i:Nat) (f:S112):Prop:=(1≤f.f0∧f.f0≤x.f0)∧(∀g:S112,0<i→x.f3[i-1]?=some g→g.f0<f.f0)∧(1≤f.f1.length∧f.f1.length≤40)
def PgOk (x:S40) (seen ps:List Int) (k:Nat) (p:Int):Prop:=(2≤p∧p≤x.f2-1)∧(∀q:Int,0<k→ps[k-1]?=some q→q<p)∧p∉seen++ps.take k
def zNa (x:S40) (i:Nat):List Int:=x.f1::(x.f3.take i).flatMap (·.f1)
def FrPages (x:S40) (i:Nat) (f:S112):Prop:=∀k p,f.f1[k]?=some p→PgOk x (zNa x i) f.f1 k p
def MOk (x:S40):Prop:=MHead x∧∀i f,x.f3[i]?=some f→FrHead x i f∧FrPages x i f
theorem seen_succ {x:S40} {i:Nat} {f:S112} (h:x.f3[i]?=some f):zNa x (i+1)=zNa x i++f.f1:=by
 obtain ⟨hi,rfl⟩:=List.getElem?_eq_some_iff.1 h
 show x.f1::(x.f3.take (i+1)).flatMap (·.f1)=(x.f1::(x.f3.take i).flatMap (·.f1))++x.f3[i].f1
 rw [List.take_succ_eq_append_getElem hi,List.flatMap_append]
 show _::(_++(x.f3[i].f1++[]))=_::(_++_)
 rw [List.append_nil]
def inB (a lo hi:Int):Bool:=decide (lo≤a)&&decide (a≤hi)
theorem znb {a lo hi:Int} (h:lo≤a∧a≤hi):inB a lo hi=true:=by simp [inB,h.1,h.2]
theorem inB_f {a lo hi:Int} (h:¬(lo≤a∧a≤hi)):inB a lo hi=false:=by
 simp only [inB,Bool.and_eq_false_iff,decide_eq_false_iff_not]
 omega
theorem inB_at {a lo hi:Int} (h:lo≤a):decide (a≤hi)=inB a lo hi:=by simp [inB,h]
theorem inB_af {a lo hi:Int} (h:¬lo≤a):false=inB a lo hi:=by simp only [inB,h,decide_false,Bool.false_and]
theorem rb {a b:Bool} (h:a=b):Ending.returned (.bool a)= .returned (.bool b):=by rw [h]
def hasB (l:List Int) (x:Int):Bool:=decide (x∈l)
theorem inS (a lo hi:Int) (w:World):Calls Tryz.prog 77 #[.int .i64 a,.int .i64 lo,.int .i64 hi] w fun e w'=>e= .returned (.bool (inB a lo hi))∧w=w':=by
 by_cases h:lo≤a
 ·go_enter Tryz.func77,Tryz.ntmps77
  go_wp2
  go_ret
  exact ⟨rb (inB_at h),rfl⟩
 ·go_enter Tryz.func77,Tryz.ntmps77
  go_wp2
  go_ret
  exact ⟨rb (inB_af zq9),rfl⟩
theorem inI (a lo hi:Int) (w:World):Calls Tryz.prog 118 #[.int .i64 a,.int .i64 lo,.int .i64 hi] w fun e w'=>e= .returned (.bool (inB a lo hi))∧w=w':=by
 by_cases h:lo≤a
 ·go_enter Tryz.func118,Tryz.ntmps118
  go_wp2
  go_ret
  exact ⟨rb (inB_at h),rfl⟩
 ·go_enter Tryz.func118,Tryz.ntmps118
  go_wp2
  go_ret
  exact ⟨rb (inB_af zq9),rfl⟩
theorem C_at {w:World} {A:Option Addr} {n:Nat} {xs:List Int} (h:Kd.C (Kd.int .i64) w A n xs) {i:Nat} (hi:i<xs.length):∃ad,A=some ad∧w.cell? (ad.add i)=some (.int .i64 xs[i]):=by
 obtain ⟨ad,v,cs,e,hk,hc,-⟩:=elem_at h hi zq31
 refine ⟨ad,e,?_⟩
 have:v::cs=[.int .i64 xs[i]]:=hk
 injection this with h1 h2
 rw [←h1]
 rw [show i*(Kd.int .i64).sz=i from Nat.mul_one i] at hc
 exact hc
theorem hasS (xs:List Int) (x:Int) (A:Option Addr) (c:Nat) (w:World) (h:Kd.C (Kd.int .i64) w A xs.length xs) (hl:xs.length≤2000000):Calls Tryz.prog 78 #[.slice A xs.length c,.int .i64 x] w fun e w'=>e= .returned (.bool (hasB xs x))∧w=w':=by
 have H:=zz h
 clear h
 go_enter Tryz.func78,Tryz.ntmps78
 go_wp2
 go_loop [5] (fun v5=>∃i:Nat,v5= .int .i64 (i:Int)∧i≤xs.length∧Z0 (x∉xs.take i)) (fun v5=>xs.length-(intOf v5).toNat)
 case atStart=>exact ⟨0,rfl,z0b _,⟨by simp⟩⟩
 case round=>
  obtain ⟨i,rfl,hi,HN⟩:=hrel
  by_cases hlt:i<xs.length
  ·obtain ⟨ad,hA,hc⟩:=C_at H.1 hlt
   subst hA
   have c3:((0:Int)≤(i:Int))=True:=eq_true zq9
   have c2:((i:Int)<(xs.length:Int))=True:=eq_true zq9
   obtain ⟨y,hy⟩:∃y,y=xs[i]:=⟨_,rfl⟩
   rw [←hy] at hc
   have HY:=zz hy
   clear hy
   by_cases e:y=x
   ·subst e
    have e1:(y==y)=true:=beq_self_eq_true y
    go_wp2
    go_ret
    exact ⟨rb (show true=hasB xs y from (z6 (by rw [HY.1];exact List.getElem_mem hlt)).symm),rfl⟩
   ·have e1:(y==x)=false:=beq_eq_false_iff_ne.2 e
    have HE:=zz e
    clear e
    go_wp2
    go_round
    case rel=>exact ⟨i+1,zq110,zq9,⟨by
     rw [List.take_succ_eq_append_getElem hlt,←HY.1]
     simp only [List.mem_append,List.mem_singleton,not_or]
     exact ⟨HN.1,fun h=>HE.1 h.symm⟩⟩⟩
    case measure=>simp [intOf];omega
  ·have:i=xs.length:=zq9
   subst this
   go_wp2
   go_ret
   exact ⟨rb (show false=hasB xs x from (z7 (by have:=HN.1;rwa [List.take_length] at this)).symm),rfl⟩
theorem inSq (a lo hi:Int) (w:World) (n:Nat):Calls Tryz.prog 77 #[.int .i64 a,.int .i64 lo,.int .i64 hi] (w.drewN n) fun e w''=>e= .returned (.bool (inB a lo hi))∧∃m,w''=w.drewN m:=(inS a lo hi _).mono fun _ _ h=>⟨h.1,n,h.2.symm⟩
theorem hasSq (xs:List Int) (x:Int) (A:Option Addr) (c:Nat) (w:World) (n:Nat) (h:Kd.C (Kd.int .i64) w A xs.length xs) (hl:xs.length≤2000000):Calls Tryz.prog 78 #[.slice A xs.length c,.int .i64 x] (w.drewN n) fun e w''=>e= .returned (.bool (hasB xs x))∧∃m,w''=w.drewN m:=(hasS xs x A c _ (Kd.C_drewN h n) hl).mono fun _ _ h=>⟨h.1,n,h.2.symm⟩
structure SeenAt (w w':World) (cs:List Value) (seen:List Int) (v:Value):Prop where
 row:Kd.R (Kd.int .i64) 3 w' w.heap.size (fun k=>w.heap.size<k) v seen
 box:w'.heap[w.heap.size]?=some (.cells cs.toArray 40 (0,0))
 bel:Below w.heap.size w w'
theorem SeenAt.step {w w' w2:World} {cs:List Value} {seen:List Int} {v:Value} (h:SeenAt w w' cs seen v) (hb:Below w'.heap.size w' w2):SeenAt w w2 cs seen v:=⟨Kd.R_below h.row hb,zg h.box hb,ze h.bel hb⟩
theorem R_one (n:Int) (base:Nat) (w:World) (ok:Nat→Prop) (hb:base≤w.heap.size) (hok:ok w.heap.size):Kd.R (Kd.int .i64) 3 (w.alloc (.cells #[.int .i64 n] 3)) base ok (.slice (some ⟨w.heap.size,0,none⟩) 1 1) [n]:=
 ⟨fun k hk=>by simp [Value.ownBlock] at hk;rw [←hk];exact hok,[.int .i64 n],⟨rfl,.inr ⟨w.heap.size,1,#[.int .i64 n],rfl,hb,heap_alloc_new w _,z3a _,zq31,rfl,rfl⟩⟩,Reps.one (rfl:(Kd.int .i64).M _ base _ n [.int .i64 n]) (Reps.none _ _)⟩
theorem seen0 (x:S40) (cs:List Value) (w:World):SeenAt w ((w.alloc (.cells cs.toArray 40)).alloc (.cells #[.int .i64 x.f1] 3)) cs (zNa x 0) (.slice (some ⟨w.heap.size+1,0,none⟩) 1 1):=by
 refine ⟨?_,zh (zqa w _) _,zo (zo (z1a _ _) _) _⟩
 have h:=R_one x.f1 w.heap.size (w.alloc (.cells cs.toArray 40)) (fun k=>w.heap.size<k) zq38 zq38
 rwa [show (w.alloc (.cells cs.toArray 40)).heap.size=w.heap.size+1 by simp] at h
theorem zrb (w:World) (n:Nat):Below w.heap.size w (w.drewN n):=zO (z1a _ _) n
theorem zi {w w2:World} {a:Addr} {v:Value} (h:w.cell? a=some v) (hb:Below w.heap.size w w2):w2.cell? a=some v:=(hb.cell (z0a w _ h)).trans h
theorem bfalse {b:Bool} {p:Prop} (h:b=true↔p) (hn:¬p):false=b:=by
 cases b
 ·rfl
 ·exact absurd (h.1 rfl) hn
theorem fr_ways (x:S40) (i:Nat) (f:S112) (b:Bool) (hb:b=true↔MOk x) (hi:x.f3[i]?=some f):
  (false=b∧((inB f.f0 1 x.f0=false)∨(inB f.f0 1 x.f0=true∧i=0∧inB (f.f1.length:Int) 1 40=false)∨(inB f.f0 1 x.f0=true∧∃p,x.f3[i-1]?=some p∧0<i∧f.f0≤p.f0)∨(inB f.f0 1 x.f0=true∧∃p,x.f3[i-1]?=some p∧0<i∧¬f.f0≤p.f0∧inB (f.f1.length:Int) 1 40=false)))∨
  (FrHead x i f∧inB f.f0 1 x.f0=true∧inB (f.f1.length:Int) 1 40=true∧(i=0∨∃p,x.f3[i-1]?=some p∧0<i∧¬f.f0≤p.f0)):=by
 have hilt:=(List.getElem?_eq_some_iff.1 hi).1
 have nb:¬FrHead x i f→false=b:=fun h=>bfalse hb (fun hm=>h (hm.2 i f hi).1)
 by_cases h1:1≤f.f0∧f.f0≤x.f0
 ·by_cases h3:1≤(f.f1.length:Int)∧(f.f1.length:Int)≤40
  ·by_cases hz:i=0
   ·exact .inr ⟨⟨h1,fun g h0 _=>absurd h0 zq9,zq9⟩,znb h1,znb h3,.inl hz⟩
   ·have hp:x.f3[i-1]?=some (x.f3[i-1]'zq9):=List.getElem?_eq_getElem zq9
    by_cases h2:f.f0≤(x.f3[i-1]'zq9).f0
    ·exact .inl ⟨nb (fun h=>by have:=h.2.1 _ zq9 hp;omega),.inr (.inr (.inl ⟨znb h1,_,hp,zq9,h2⟩))⟩
    ·exact .inr ⟨⟨h1,fun g _ hg=>by rw [hp] at hg;injection hg with hg;subst hg;omega,zq9⟩,znb h1,znb h3,.inr ⟨_,hp,zq9,h2⟩⟩
  ·have nh:false=b:=nb (fun h=>h3 (by have:=h.2.2;omega))
   by_cases hz:i=0
   ·exact .inl ⟨nh,.inr (.inl ⟨znb h1,hz,inB_f h3⟩)⟩
   ·have hp:x.f3[i-1]?=some (x.f3[i-1]'zq9):=List.getElem?_eq_getElem zq9
    by_cases h2:f.f0≤(x.f3[i-1]'zq9).f0
    ·exact .inl ⟨nh,.inr (.inr (.inl ⟨znb h1,_,hp,zq9,h2⟩))⟩
    ·exact .inl ⟨nh,.inr (.inr (.inr ⟨znb h1,_,hp,zq9,h2,inB_f h3⟩))⟩
 ·exact .inl ⟨nb (fun h=>h1 h.1),.inl (inB_f h1)⟩
theorem pg_ways (x:S40) (i:Nat) (f:S112) (k:Nat) (p:Int) (b:Bool) (hb:b=true↔MOk x) (hi:x.f3[i]?=some f) (hk:f.f1[k]?=some p):
  (false=b∧((inB p 2 (x.f2-1)=false)∨(inB p 2 (x.f2-1)=true∧k=0∧hasB (zNa x i++f.f1.take k) p=true)∨(inB p 2 (x.f2-1)=true∧∃q,f.f1[k-1]?=some q∧0<k∧p≤q)∨(inB p 2 (x.f2-1)=true∧∃q,f.f1[k-1]?=some q∧0<k∧¬p≤q∧hasB (zNa x i++f.f1.take k) p=true)))∨
  (PgOk x (zNa x i) f.f1 k p∧inB p 2 (x.f2-1)=true∧hasB (zNa x i++f.f1.take k) p=false∧(k=0∨∃q,f.f1[k-1]?=some q∧0<k∧¬p≤q)):=by
 have hklt:=(List.getElem?_eq_some_iff.1 hk).1
 have nb:¬PgOk x (zNa x i) f.f1 k p→false=b:=fun h=>bfalse hb (fun hm=>h ((hm.2 i f hi).2 k p hk))
 by_cases h1:2≤p∧p≤x.f2-1
 ·by_cases h3:p∈zNa x i++f.f1.take k
  ·have nh:false=b:=nb (fun h=>h.2.2 h3)
   have h3':hasB (zNa x i++f.f1.take k) p=true:=z6 h3
   by_cases hz:k=0
   ·exact .inl ⟨nh,.inr (.inl ⟨znb h1,hz,h3'⟩)⟩
   ·have hp:f.f1[k-1]?=some (f.f1[k-1]'zq9):=List.getElem?_eq_getElem zq9
    by_cases h2:p≤f.f1[k-1]'zq9
    ·exact .inl ⟨nh,.inr (.inr (.inl ⟨znb h1,_,hp,zq9,h2⟩))⟩
    ·exact .inl ⟨nh,.inr (.inr (.inr ⟨znb h1,_,hp,zq9,h2,h3'⟩))⟩
  ·have h3':hasB (zNa x i++f.f1.take k) p=false:=z7 h3
   by_cases hz:k=0
   ·exact .inr ⟨⟨h1,fun q h0 _=>absurd h0 zq9,h3⟩,znb h1,h3',.inl hz⟩
   ·have hp:f.f1[k-1]?=some (f.f1[k-1]'zq9):=List.getElem?_eq_getElem zq9
    by_cases h2:p≤f.f1[k-1]'zq9
    ·exact .inl ⟨nb (fun h=>by have:=h.2.1 _ zq9 hp;omega),.inr (.inr (.inl ⟨znb h1,_,hp,zq9,h2⟩))⟩
    ·exact .inr ⟨⟨h1,fun g _ hg=>by rw [hp] at hg;injection hg with hg;subst hg;omega,h3⟩,znb h1,h3',.inr ⟨_,hp,zq9,h2⟩⟩
 ·exact .inl ⟨nb (fun h=>h1 h.1),.inl (inB_f h1)⟩
theorem seen_app {ops:Array Oper} {rest:List Oper} {o:Oper} {a:Act} {Q:Exit→Act→World→Prop} {w W:World} {cs cf:List Value} {seen:List Int} {v:Value} {gF:Nat} {p:Int} (hgd:o.guard=none) (s y:Operand) (ho:o.op= .call {callee:= .builtin .append,args:= #[s,y],argTypes:= #[29,29]}) (hs:a.eval s=v) (hy:a.eval y= .slice (some ⟨W.heap.size,0,none⟩) 1 1)
  (H:SeenAt w W cs seen v) (BF:W.heap[gF]?=some (.cells cf.toArray 112 (0,0))) (OW:∀k,v.ownBlock=some k→k≠gF) (hl:seen.length≤2000000)
  (h:∀v1 w1,Z0 (SeenAt w w1 cs (seen++[p]) v1)→Z0 (w1.heap[gF]?=some (.cells cf.toArray 112 (0,0)))→Z0 (∀k,v1.ownBlock=some k→k≠gF)→wpList Tryz.prog ops Q rest (a.put o.dst v1) w1):
  wpList Tryz.prog ops Q (o::rest) a (W.alloc (.cells #[.int .i64 p] 3)):=by
 refine Kd.R_append (Kd.int .i64) (w0:=w) w.heap.size hgd s y 29 3 (.int .i64 0) 8 ho Tryz.underlying29 info3 rfl zq31 zq31 v seen p [.int .i64 p] (fun k=>w.heap.size<k) (fun _=>False) hs hy rfl (fun _ h=>h.elim) (fun k hk=>z4a (zP H.box) hk) H.row H.bel H.bel.size zq9 ?_
 intro v1 w1 hr hb hg hat
 have hv:∀k,v.ownBlock=some k→w.heap.size<k:=H.row.1
 refine h v1 w1 ⟨hr,zK H.box hg (fun e=>by have:=hv _ e.symm;omega),hb⟩ ⟨zK BF hg (fun e=>OW _ e.symm rfl)⟩ ⟨fun k hk=> ?_⟩
 rcases hat with hat|⟨b,hb2,hle⟩
 ·exact OW k (by rw [←hat];exact hk)
 ·rw [hb2] at hk
  injection hk with hk
  have:=zP BF
  omega
theorem seen_len2 {x:S40} {i:Nat} (h0:∀(j:Nat) (f:S112),j<i→x.f3[j]?=some f→f.f1.length≤40):∀n,n≤i→n≤x.f3.length→(zNa x n).length≤1+40*n
 |0,_,_=>by simp [zNa]
 |n+1,hi,h=>by
  have he:x.f3[n]?=some x.f3[n]:=List.getElem?_eq_getElem h
  rw [seen_succ he,List.length_append]
  have:=seen_len2 h0 n zq9 zq9
  have:=h0 n _ zq9 he
  omega
theorem mh_ways (x:S40) (h:¬MHead x):(inB x.f0 0 100000=false)∨(inB x.f0 0 100000=true∧inB x.f2 2 40=false)∨((inB x.f0 0 100000=true∧inB x.f2 2 40=true∧2≤x.f2∧x.f2≤40)∧(((x.f1 !=0)=true∧(x.f1==0)=false∧inB x.f1 2 (x.f2-1)=false)∨(((x.f1 !=0)=false∧(x.f1==0)=true)∧(20<(x.f3.length:Int))=True)∨(((x.f1 !=0)=true∧(x.f1==0)=false∧inB x.f1 2 (x.f2-1)=true)∧(20<(x.f3.length:Int))=True))):=by
 by_cases h0:0≤x.f0∧x.f0≤100000
 ·by_cases h2:2≤x.f2∧x.f2≤40
  ·refine .inr (.inr ⟨⟨znb h0,znb h2,h2⟩,?_⟩)
   by_cases h1:x.f1=0
   ·refine .inr (.inl ⟨⟨by simp [h1],by simp [h1]⟩,eq_true ?_⟩)
    have:¬x.f3.length≤20:=fun hl=>h ⟨h0,h2,.inl h1,hl⟩
    omega
   ·by_cases h3:2≤x.f1∧x.f1≤x.f2-1
    ·refine .inr (.inr ⟨⟨by simp [h1],by simp [h1],znb h3⟩,eq_true ?_⟩)
     have:¬x.f3.length≤20:=fun hl=>h ⟨h0,h2,.inr h3,hl⟩
     omega
    ·exact .inl ⟨by simp [h1],by simp [h1],inB_f h3⟩
  ·exact .inr (.inl ⟨znb h0,inB_f h2⟩)
 ·exact .inl (inB_f h0)
theorem prev_at {w:World} {A:Option Addr} {n:Nat} {xs:List S112} (h:Kd.C k112 w A n xs) {i:Nat} {p:S112} (hp:xs[i]?=some p):∃ad,A=some ad∧w.cell? (ad.add (i*2))=some (.int .i64 p.f0):=by
 obtain ⟨hi,rfl⟩:=List.getElem?_eq_some_iff.1 hp
 obtain ⟨ad,v,cs,e,hk,hc,-⟩:=elem_at h hi zq31
 refine ⟨ad,e,?_⟩
 obtain ⟨A_,c_,hcs,-⟩:=k112_open hk
 injection hcs with h1 h2
 rw [←h1]
 exact hc
theorem specMetaOk_c (x:S40) (b:Bool) {cs:List Value} (w:World) (h:k40.K w x cs) (hb:b=true↔MOk x):
  Calls Tryz.prog 80 #[.agg cs.toArray] w fun e w'=>e= .returned (.bool b)∧Below w.heap.size w w':=by
 obtain ⟨AF,cF,rfl,mF,rF⟩:=zEa h
 have KR:=zz rF
 have HB:=zz hb
 have bn:=rF.2.1
 have hbl:=zz (zo (z1a w.heap.size w) (.cells #[.int .i64 x.f0,.int .i64 x.f1,.int .i64 x.f2,.slice AF x.f3.length cF] 40))
 clear h mF rF hb
 by_cases hh:MHead x
 ·obtain ⟨h0,h2,h1,hl⟩:=hh
  have HH:=zz (show MHead x from ⟨h0,h2,h1,hl⟩)
  have e0:=znb h0
  have e2:=znb h2
  have bl:(20<(x.f3.length:Int))=False:=eq_false zq9
  obtain ⟨h2a,h2b⟩:=h2
  clear h0
  have hv:((x.f1 !=0)=false∧(x.f1==0)=true)∨((x.f1 !=0)=true∧(x.f1==0)=false∧inB x.f1 2 (x.f2-1)=true):=by
   rcases h1 with h1|h1
   ·exact .inl (by simp [h1])
   ·exact .inr ⟨zq117,zq117,znb h1⟩
  clear h1
  rcases hv with ⟨e1,e1'⟩|⟨e1,e1',e1''⟩
  all_goals
   go_enter Tryz.func80,Tryz.ntmps80
   go_wp2_with (((with_reducible refine (inS _ _ _ _).mono ?_);rintro e w1 ⟨rfl,rfl⟩))
   have H0:=zz (seen0 x [.int .i64 x.f0,.int .i64 x.f1,.int .i64 x.f2,.slice AF x.f3.length cF] w)
   go_loopg [3,4] (x.f3.length+1) (fun kq v3 v4 w'=>∃(i:Nat) (v:Value),v3=v∧v4= .int .i64 (i:Int)∧Z0 (kq+i=x.f3.length+1)∧Z0 (i≤x.f3.length)∧Z0 (∀(j:Nat) (f:S112),j<i→x.f3[j]?=some f→FrHead x j f∧FrPages x j f)∧Z0 (SeenAt w w' [.int .i64 x.f0,.int .i64 x.f1,.int .i64 x.f2,.slice AF x.f3.length cF] (zNa x i) v))
   case atStart=>exact ⟨0,_,rfl,rfl,⟨zq9⟩,⟨z0b _⟩,⟨fun j f h=>absurd h (Nat.not_lt_zero _)⟩,H0⟩
   case round=>
    clear H0 e0 e1 e1' e2 bl hbl
    obtain ⟨i,v,rfl,rfl,HQ,HI,HP,HS⟩:=hrel
    have hp3:wr.cell? ⟨w.heap.size,3,none⟩=some (.slice AF x.f3.length cF):=(zj HS.1.box 3).trans rfl
    by_cases hlt:i<x.f3.length
    ·have c1:decide ((i:Int)<(x.f3.length:Int))=true:=z6 zq9
     have c0:decide ((0:Int)≤(i:Int))=true:=z6 zq9
     have c2:((i:Int)<(x.f3.length:Int))=True:=eq_true zq9
     have c3:((0:Int)≤(i:Int))=True:=eq_true zq9
     cases gk with
     |zero=>exact absurd HQ.1 zq9
     |succ k1=>
      obtain ⟨ad,A1,c11,hA,z0,z1,hl4,hC4⟩:=zxb KR.1 (i:Int) zq9 zq9
      subst hA
      obtain ⟨el,hel⟩:∃el,el=zF x.f3 (i:Int):=⟨_,rfl⟩
      have hel2:x.f3[i]?=some el:=zq72
      rw [←hel] at z0 z1 hl4 hC4
      simp only [Int.toNat_natCast] at z0 z1
      replace z0:=(HS.1.bel.cell (z0a w _ z0)).trans z0
      replace z1:=(HS.1.bel.cell (z0a w _ z1)).trans z1
      have HE:=zz hel2
      have KE:=zz hC4
      have be:el.f1.length≤9223372036854775807:=hC4.2.1
      have hz:=zP HS.1.box
      clear hel hel2 hC4 hl4
      go_upto_region 8 with (fail)
      obtain ⟨W1,hW1⟩:∃W1,W1=wr.alloc (.cells #[.int .i64 el.f0,.slice A1 el.f1.length c11] 112):=⟨_,rfl⟩
      have BF:=zz (show W1.heap[wr.heap.size]?=some (.cells ([.int .i64 el.f0,.slice A1 el.f1.length c11]:List Value).toArray 112 (0,0)) from by rw [hW1];exact zqa wr _)
      have HB1:=zz (show Below wr.heap.size wr W1 from by rw [hW1];exact zo (z1a _ _) _)
      rw [←hW1]
      clear hW1 hp3 z0 z1
      obtain ⟨gF,hgF⟩:∃g,g=wr.heap.size:=⟨_,rfl⟩
      rw [←hgF] at BF hz ⊢
      have OW:=zz (show ∀k,u3.ownBlock=some k→k<gF from by rw [hgF];exact Kd.R_lt HS.1.row)
      replace HS:=zz (HS.1.step HB1.1)
      clear HB1 hgF
      have hp0:W1.cell? ⟨w.heap.size,0,none⟩=some (.int .i64 x.f0):=(zj HS.1.box 0).trans rfl
      have hp3:W1.cell? ⟨w.heap.size,3,none⟩=some (.slice (some ad) x.f3.length cF):=(zj HS.1.box 3).trans rfl
      have hf0:W1.cell? ⟨gF,0,none⟩=some (.int .i64 el.f0):=(zj BF.1 0).trans rfl
      have hf1:W1.cell? ⟨gF,1,none⟩=some (.slice A1 el.f1.length c11):=(zj BF.1 1).trans rfl
      have hways:=fr_ways x i el b HB.1 HE.1
      rcases hways with ⟨hbf,hways⟩|⟨hFr,eT,eL,hways⟩
      ·have HBF:=zz hbf
       clear hbf
       rcases hways with eT|⟨eT,hz0,eL⟩|⟨eT,p,hp,h0,hle⟩|⟨eT,p,hp,h0,hle,eL⟩
       ·exact zq210
       ·have q1:decide ((0:Int)<(i:Int))=false:=z7 zq9
        have q2:decide (0<i)=false:=z7 zq9
        clear hz0
        exact zq210
       ·have q1:decide ((0:Int)<(i:Int))=true:=z6 zq9
        have q2:decide (0<i)=true:=z6 zq9
        have hs1:IntKind.i64.wrap ((i:Int)-1)=((i-1:Nat):Int):=zq100
        have hs2:(0:Int)≤((i-1:Nat):Int):=zq9
        have hs3:((i-1:Nat):Int)<(x.f3.length:Int):=zq9
        obtain ⟨ad2,hA2,zp⟩:=prev_at KR.1 hp
        injection hA2 with hA2
        subst hA2
        clear hp
        replace zp:=zi zp HS.1.bel
        have q3:decide (el.f0≤p.f0)=true:=z6 hle
        exact zq210
       ·have q1:decide ((0:Int)<(i:Int))=true:=z6 zq9
        have q2:decide (0<i)=true:=z6 zq9
        have hs1:IntKind.i64.wrap ((i:Int)-1)=((i-1:Nat):Int):=zq100
        have hs2:(0:Int)≤((i-1:Nat):Int):=zq9
        have hs3:((i-1:Nat):Int)<(x.f3.length:Int):=zq9
        obtain ⟨ad2,hA2,zp⟩:=prev_at KR.1 hp
        injection hA2 with hA2
        subst hA2
        clear hp
        replace zp:=zi zp HS.1.bel
        have q3:decide (el.f0≤p.f0)=false:=z7 hle
        exact zq210
      ·have HFR:=zz hFr
       have hel1:el.f1.length≤40:=hFr.2.2.2
       clear hFr
       rcases hways with hz0|⟨p,hp,h0,hle⟩
       ·have q1:decide ((0:Int)<(i:Int))=false:=z7 zq9
        have q2:decide (0<i)=false:=z7 zq9
        clear hz0
        exact zq140
       ·have q1:decide ((0:Int)<(i:Int))=true:=z6 zq9
        have q2:decide (0<i)=true:=z6 zq9
        have hs1:IntKind.i64.wrap ((i:Int)-1)=((i-1:Nat):Int):=zq100
        have hs2:(0:Int)≤((i-1:Nat):Int):=zq9
        have hs3:((i-1:Nat):Int)<(x.f3.length:Int):=zq9
        obtain ⟨ad2,hA2,zp⟩:=prev_at KR.1 hp
        injection hA2 with hA2
        subst hA2
        clear hp
        replace zp:=zi zp HS.1.bel
        have q3:decide (el.f0≤p.f0)=false:=z7 hle
        exact zq140
    ·exact zq174
 ·have HBF:=zz (bfalse HB.1 (fun h=>hh h.1))
  rcases mh_ways x hh with e0|⟨e0,e2⟩|⟨⟨e0,e2,h2a,h2b⟩,⟨e1,e1',e1''⟩|⟨⟨e1,e1'⟩,bl⟩|⟨⟨e1,e1',e1''⟩,bl⟩⟩
  all_goals
   clear hh
   go_enter Tryz.func80,Tryz.ntmps80
   go_wp2_with (((with_reducible refine (inS _ _ _ _).mono ?_);rintro e w1 ⟨rfl,rfl⟩))
   go_ret
   exact ⟨rb HBF.1,hbl.out⟩
def FreeOk (f:S112) (x:S40):Prop:=(∀k p,f.f1[k]?=some p→(2≤p∧p≤x.f2-1)∧∀q:Int,0<k→f.f1[k-1]?=some q→q<p)∧(1≤f.f0∧f.f0≤x.f0)∧(1≤f.f1.length∧f.f1.length≤40)
theorem fp_ways (f:S112) (x:S40) (k:Nat) (p:Int) (b:Bool) (hb:b=true↔FreeOk f x) (hk:f.f1[k]?=some p):
  (false=b∧(p<2∨(¬p<2∧x.f2≤p)∨(¬p<2∧¬x.f2≤p∧∃q,f.f1[k-1]?=some q∧0<k∧p≤q)))∨
  (((2≤p∧p≤x.f2-1)∧∀q:Int,0<k→f.f1[k-1]?=some q→q<p)∧¬p<2∧¬x.f2≤p∧(k=0∨∃q,f.f1[k-1]?=some q∧0<k∧¬p≤q)):=by
 have hklt:=(List.getElem?_eq_some_iff.1 hk).1
 have nb:¬((2≤p∧p≤x.f2-1)∧∀q:Int,0<k→f.f1[k-1]?=some q→q<p)→false=b:=fun h=>bfalse hb (fun hm=>h (hm.1 k p hk))
 by_cases h1:p<2
 ·exact .inl ⟨nb (fun h=>by have:=h.1;omega),.inl h1⟩
 by_cases h2:x.f2≤p
 ·exact .inl ⟨nb (fun h=>by have:=h.1;omega),.inr (.inl ⟨h1,h2⟩)⟩
 by_cases hz:k=0
 ·exact .inr ⟨⟨zq9,fun q h0 _=>absurd h0 zq9⟩,h1,h2,.inl hz⟩
 have hp:f.f1[k-1]?=some (f.f1[k-1]'zq9):=List.getElem?_eq_getElem zq9
 by_cases h3:p≤f.f1[k-1]'zq9
 ·exact .inl ⟨nb (fun h=>by have:=h.2 _ zq9 hp;omega),.inr (.inr ⟨h1,h2,_,hp,zq9,h3⟩)⟩
 ·exact .inr ⟨⟨zq9,fun g _ hg=>by rw [hp] at hg;injection hg with hg;subst hg;omega⟩,h1,h2,.inr ⟨_,hp,zq9,h3⟩⟩
theorem freeOk_c (f:S112) (x:S40) (b:Bool) {A1 AF:Option Addr} {c0 cF:Nat} (w:World) (h:Kd.C (Kd.int .i64) w A1 f.f1.length f.f1) (hb:b=true↔FreeOk f x):
  Calls Tryz.prog 146 #[.agg #[.int .i64 f.f0,.slice A1 f.f1.length c0],.agg #[.int .i64 x.f0,.int .i64 x.f1,.int .i64 x.f2,.slice AF x.f3.length cF]] w fun e w'=>e= .returned (.bool b)∧Below w.heap.size w w':=by
 have KE:=zz h
 have HB:=zz hb
 have bn:=h.2.1
 have B0:=zz (zh (zqa w (.cells ([.int .i64 f.f0,.slice A1 f.f1.length c0]:List Value).toArray 112)) (.cells ([.int .i64 x.f0,.int .i64 x.f1,.int .i64 x.f2,.slice AF x.f3.length cF]:List Value).toArray 40))
 have B1:=zz (zqa (w.alloc (.cells ([.int .i64 f.f0,.slice A1 f.f1.length c0]:List Value).toArray 112)) (.cells ([.int .i64 x.f0,.int .i64 x.f1,.int .i64 x.f2,.slice AF x.f3.length cF]:List Value).toArray 40))
 have hbl:=zz (zo (zo (z1a w.heap.size w) (.cells ([.int .i64 f.f0,.slice A1 f.f1.length c0]:List Value).toArray 112)) (.cells ([.int .i64 x.f0,.int .i64 x.f1,.int .i64 x.f2,.slice AF x.f3.length cF]:List Value).toArray 40))
 clear h hb
 go_enter Tryz.func146,Tryz.ntmps146
 go_upto_region 1 with (fail)
 obtain ⟨W,hW⟩:∃W,W=(w.alloc (.cells #[.int .i64 f.f0,.slice A1 f.f1.length c0] 112)).alloc (.cells #[.int .i64 x.f0,.int .i64 x.f1,.int .i64 x.f2,.slice AF x.f3.length cF] 40):=⟨_,rfl⟩
 rw [←hW]
 have hgs:(w.alloc (.cells ([.int .i64 f.f0,.slice A1 f.f1.length c0]:List Value).toArray 112)).heap.size=w.heap.size+1:=zq38
 rw [hgs] at B1
 have hbW:Below w.heap.size w W:=by rw [hW];exact hbl.out
 have f0:W.cell? ⟨w.heap.size,0,none⟩=some (.int .i64 f.f0):=by rw [hW];exact (zj B0.1 0).trans rfl
 have f1:W.cell? ⟨w.heap.size,1,none⟩=some (.slice A1 f.f1.length c0):=by rw [hW];exact (zj B0.1 1).trans rfl
 have m0:W.cell? ⟨w.heap.size+1,0,none⟩=some (.int .i64 x.f0):=by rw [hW];exact (zj B1.1 0).trans rfl
 have m2:W.cell? ⟨w.heap.size+1,2,none⟩=some (.int .i64 x.f2):=by rw [hW];exact (zj B1.1 2).trans rfl
 have HW:=zz hbW
 clear hW B0 B1 hbl hgs hbW
 go_wp2_with fail
 go_loop [10] (fun v0=>∃k:Nat,v0= .int .i64 (k:Int)∧k≤f.f1.length∧Z0 (∀(j:Nat) (p:Int),j<k→f.f1[j]?=some p→(2≤p∧p≤x.f2-1)∧∀q:Int,0<j→f.f1[j-1]?=some q→q<p)) (fun v0=>f.f1.length-(intOf v0).toNat)
 case atStart=>exact ⟨0,rfl,z0b _,⟨fun j p h=>absurd h (Nat.not_lt_zero _)⟩⟩
 case round=>
  obtain ⟨k,rfl,hk0,HP⟩:=hrel
  by_cases hk:k<f.f1.length
  ·have d1:decide ((k:Int)<(f.f1.length:Int))=true:=z6 zq9
   have d0:decide ((0:Int)≤(k:Int))=true:=z6 zq9
   have d2:((k:Int)<(f.f1.length:Int))=True:=eq_true zq9
   have d3:((0:Int)≤(k:Int))=True:=eq_true zq9
   obtain ⟨ap,hAp,pc⟩:=C_at KE.1 hk
   subst hAp
   obtain ⟨p,hp⟩:∃p,p=f.f1[k]:=⟨_,rfl⟩
   rw [←hp] at pc
   have HPK:=zz (show f.f1[k]?=some p from by rw [hp];exact List.getElem?_eq_getElem hk)
   clear hp
   replace pc:=zi pc HW.1
   have hw:=fp_ways f x k p b HB.1 HPK.1
   rcases hw with ⟨hbf,hw⟩|⟨hg,h1,h2,hw⟩
   ·have HBF:=zz hbf
    clear hbf
    rcases hw with h1|⟨h1,h2⟩|⟨h1,h2,q,hq,h0,hle⟩
    ·have e1:=z6 h1
     go_wp2
     go_ret
     exact ⟨rb HBF.1,HW.1⟩
    ·have e1:=z7 h1
     have e2:=z6 h2
     go_wp2
     go_ret
     exact ⟨rb HBF.1,HW.1⟩
    ·have e1:=z7 h1
     have e2:=z7 h2
     have q1:decide ((0:Int)<(k:Int))=true:=z6 zq9
     have q2:decide (0<k)=true:=z6 zq9
     have hs2:(0:Int)≤((k-1:Nat):Int):=zq9
     have hs3:((k-1:Nat):Int)<(f.f1.length:Int):=zq9
     have hs4:(k:Int)-1=((k-1:Nat):Int):=zq9
     obtain ⟨hql,hqv⟩:=List.getElem?_eq_some_iff.1 hq
     obtain ⟨ap2,hA2,zq⟩:=C_at KE.1 hql
     rw [hqv] at zq
     injection hA2 with hA2
     subst hA2
     clear hqv hq
     replace zq:=zi zq HW.1
     have q3:decide (p≤q)=true:=z6 hle
     go_wp2
     go_ret
     exact ⟨rb HBF.1,HW.1⟩
   ·have HG:=zz hg
    have e1:=z7 h1
    have e2:=z7 h2
    clear hg
    rcases hw with hz0|⟨q,hq,h0,hle⟩
    ·have q1:decide ((0:Int)<(k:Int))=false:=z7 zq9
     have q2:decide (0<k)=false:=z7 zq9
     clear hz0
     exact zq170
    ·have q1:decide ((0:Int)<(k:Int))=true:=z6 zq9
     have q2:decide (0<k)=true:=z6 zq9
     have hs2:(0:Int)≤((k-1:Nat):Int):=zq9
     have hs3:((k-1:Nat):Int)<(f.f1.length:Int):=zq9
     have hs4:(k:Int)-1=((k-1:Nat):Int):=zq9
     obtain ⟨hql,hqv⟩:=List.getElem?_eq_some_iff.1 hq
     obtain ⟨ap2,hA2,zq⟩:=C_at KE.1 hql
     rw [hqv] at zq
     injection hA2 with hA2
     subst hA2
     clear hqv hq
     replace zq:=zi zq HW.1
     have q3:decide (p≤q)=false:=z7 hle
     clear hle
     exact zq170
  ·have d1:decide ((k:Int)<(f.f1.length:Int))=false:=z7 zq9
   have hk2:k=f.f1.length:=zq9
   have hall:∀(j:Nat) (p:Int),f.f1[j]?=some p→(2≤p∧p≤x.f2-1)∧∀q:Int,0<j→f.f1[j-1]?=some q→q<p:=fun j p hj=>HP.1 j p (by have:=(List.getElem?_eq_some_iff.1 hj).1;omega) hj
   have hw:(inB f.f0 1 x.f0=false∧false=b)∨(inB f.f0 1 x.f0=true∧inB (f.f1.length:Int) 1 40=b):=by
    by_cases h1:1≤f.f0∧f.f0≤x.f0
    ·by_cases h2:1≤(f.f1.length:Int)∧(f.f1.length:Int)≤40
     ·exact .inr ⟨znb h1,by rw [znb h2];exact (HB.1.2 ⟨hall,h1,zq9⟩).symm⟩
     ·exact .inr ⟨znb h1,by rw [inB_f h2];exact bfalse HB.1 (fun h=>h2 (by have:=h.2.2;omega))⟩
    ·exact .inl ⟨inB_f h1,bfalse HB.1 (fun h=>h1 h.2.1)⟩
   clear hall hk2
   rcases hw with ⟨e1,hw⟩|⟨e1,hw⟩
   all_goals
    have HX:=zz hw
    clear hw
    go_wp2_with (((with_reducible refine (inI _ _ _ _).mono ?_);rintro e w1 ⟨rfl,rfl⟩))
    go_ret
    exact ⟨rb HX.1,HW.1⟩
end Go.Proofs.YtonhdiemjgdcnaaGreat.PFnExactGivePage
