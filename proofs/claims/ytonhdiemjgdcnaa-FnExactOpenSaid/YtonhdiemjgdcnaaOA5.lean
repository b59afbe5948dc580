import Derived.Test.YtonhdiemjgdcnaaOA4
set_option maxHeartbeats 64000000
set_option maxRecDepth 100000
set_option linter.unusedVariables false
set_option linter.unusedSimpArgs false
namespace Go.Proofs
theorem zq22{P:Prop}(h:P:=by rw [Ep.1];first|done|rfl|(simp only [aA,aN,aL];first|done|rfl)):P:=h
theorem zq30{P Q0:Prop}(q0:Q0)(h:Q0→P:=by intro q0;rw [q0];kernel_rfl):P:=h q0
theorem zq31{P:Prop}(h:P:=by rw [Eq.1];first|done|rfl|(simp only [aA,aN,aL];first|done|rfl)):P:=h
theorem zq34{P Q0 Q1:Prop}(q0:Q0)(q1:Q1)(h:Q0→Q1→P:=by intro q0 q1;simp only [List.length_append,List.length_cons,List.length_nil,q0,q1]):P:=h q0 q1
theorem zq56{P:Prop}(h:P:=by rw [zxa];unfold wrap64;omega):P:=h
theorem zq60{P:Prop}(h:P:=by rw [hel];simp [zJ,List.getD_eq_getElem?_getD,List.getElem?_eq_getElem hlt]):P:=h
theorem zq66{P Q0 Q1 Q2:Prop}(q0:Q0)(q1:Q1)(q2:Q2)(h:Q0→Q1→Q2→P:=by intro q0 q1 q2;simp only [List.length_append,List.length_cons,List.length_nil,q0,q1,q2]):P:=h q0 q1 q2
theorem zq76{P:Prop}(h:P:=by rw [HSN.1,hk2,List.take_length,seen_succ HE.1]):P:=h
theorem zq164{P:Prop}(h:P:=by
 go_roundg k2
 case measure=>omega
 case rel=>exact ⟨k+1,_,rfl,by go_num,⟨zq37 HQ2.1⟩,⟨zq3⟩,⟨fun j p2 hj hf=>by
  rcases Nat.lt_or_ge j k with h2|h2
  ·exact HP2.1 j p2 h2 hf
  ·obtain rfl:j=k:=zq3
   have:=HPK.1.symm.trans hf
   injection this with this
   subst this
   exact HPG.1⟩,⟨by
   obtain ⟨hkl,hkv⟩:=List.getElem?_eq_some_iff.1 HPK.1
   rw [List.take_succ_eq_append_getElem hkl,hkv,←List.append_assoc,←HSN.1]
   exact HS1.1⟩,BF1,OW1⟩):P:=h
theorem zq125{P:Prop}(h:P:=by
 obtain ⟨W3,hW3⟩:∃W3,W3=wr.drewN nq:=⟨_,rfl⟩
 have HB3:=zz (show Below wr.heap.size wr W3 from by rw [hW3];exact znb _ _)
 rw [←hW3]
 clear hW3 hp2 hf1 hw2
 replace pc:=ze pc HB3.1
 replace HS:=zz (HS.1.step HB3.1)
 replace BF:=zz (zj BF.1 HB3.1)
 have hf1:W3.cell? ⟨gF,1,none⟩=some (.slice (some ap) el.f1.length c11):=(zd BF.1 1).trans rfl
 clear HB3
 go_wp2_with ((with_reducible refine zfa (b:= .append) (xs:= #[.tmp 125,.tmp 131]) rfl ?_);at_builtin;refine seen_app rfl (.tmp 125) (.tmp 131) rfl rfl rfl HS.1 BF.1 OW.1 hsl2 ?_;intro v1 w1 HS1 BF1 OW1)
 exact zq164):P:=h
theorem zq128{P:Prop}(h:P:=by
 go_quiet (first|(go_at_call 108;exact inSq _ _ _ _ _)|(go_at_call 91;exact hasSq _ _ _ _ _ _ KS.1 hsl2))
 go_wp2
 go_ret
 exact ⟨rb HBF.1,zf HS.1.bel (znb _ _)⟩):P:=h
theorem zq84{P:Prop}(h:P:=by
 go_quiet ((go_at_call 108;exact inSq _ _ _ _ _))
 simp only [eT,eL]
 clear eT eL
 obtain ⟨W2,hW2⟩:∃W2,W2=W1.drewN nq:=⟨_,rfl⟩
 have HB2:=zz (show Below W1.heap.size W1 W2 from by rw [hW2];exact znb _ _)
 rw [←hW2]
 clear hW2 hp0 hp3 hf0 hf1
 replace HS:=zz (HS.1.step HB2.1)
 replace BF:=zz (zj BF.1 HB2.1)
 clear HB2
 go_wp2
 go_loopg [3,6] (el.f1.length+1) (fun kq v3 v6 w'=>∃(k:Nat) (v:Value),v3=v∧v6= .int .i64 (k:Int)∧Z0 (kq+k=el.f1.length+1)∧Z0 (k≤el.f1.length)∧Z0 (∀(j:Nat) (p:Int),j<k→el.f1[j]?=some p→PgOk x (zja x i) el.f1 j p)∧Z0 (SeenAt w w' [.int .i64 x.f0,.int .i64 x.f1,.int .i64 x.f2,.slice (some ad) x.f3.length cF] (zja x i++el.f1.take k) v)∧Z0 (w'.heap[gF]?=some (.cells ([.int .i64 el.f0,.slice A1 el.f1.length c11]:List Value).toArray 122 (0,0)))∧Z0 (∀q,v.ownBlock=some q→q≠gF))
 case atStart=>exact ⟨0,_,rfl,rfl,⟨zq3⟩,⟨z7a _⟩,⟨fun j p h=>absurd h (Nat.not_lt_zero _)⟩,⟨by rw [List.take_zero,List.append_nil];exact HS.1⟩,BF,⟨fun q hq=>Nat.ne_of_lt (OW.1 q hq)⟩⟩
 case round=>
  clear HS BF OW
  obtain ⟨k,v,rfl,rfl,HQ2,HI2,HP2,HS,BF,OW⟩:=hrel
  have hf1:wr.cell? ⟨gF,1,none⟩=some (.slice A1 el.f1.length c11):=(zd BF.1 1).trans rfl
  obtain ⟨sn,hsn⟩:∃sn,sn=zja x i++el.f1.take k:=⟨_,rfl⟩
  have hsl:sn.length≤2000:=by
   have h1:=seen_len2 (fun j f hj hf=>(HP.1 j f hj hf).1.2.2.2) i (z2a _) HI.1
   have h2:=List.length_take_le k el.f1
   have h3:=HI.1
   have h4:=HI2.1
   rw [hsn,List.length_append]
   omega
  rw [←hsn] at HS
  have HSN:=zz hsn
  clear hsn
  obtain ⟨Av,cv,rfl⟩:=Kd.R_slice HS.1.row
  by_cases hk:k<el.f1.length
  ·have d1:decide ((k:Int)<(el.f1.length:Int))=true:=z6 zq3
   have d0:decide ((0:Int)≤(k:Int))=true:=z6 zq3
   have d2:((k:Int)<(el.f1.length:Int))=True:=eq_true zq3
   have d3:((0:Int)≤(k:Int))=True:=eq_true zq3
   cases gk with
   |zero=>exact absurd HQ2.1 zq3
   |succ k2=>
    obtain ⟨ap,hAp,pc⟩:=C_at KE.1 hk
    subst hAp
    obtain ⟨p,hp⟩:∃p,p=el.f1[k]:=⟨_,rfl⟩
    rw [←hp] at pc
    have HPK:=zz (show el.f1[k]?=some p from by rw [hp];exact List.getElem?_eq_getElem hk)
    clear hp
    replace pc:=ze pc HS.1.bel
    have hp2:wr.cell? ⟨w.heap.size,2,none⟩=some (.int .i64 x.f2):=(zd HS.1.box 2).trans rfl
    have KS:=zz (Kd.R_reads' HS.1.row).2.2
    have hsl2:sn.length≤2000000:=zq3
    go_upto_region 13 with (fail)
    have hways:=pg_ways x i el k p b HB.1 HE.1 HPK.1
    rw [←HSN.1] at hways
    have HW2:=zz (show IntKind.i64.wrap (x.f2-1)=x.f2-1 from by rw [zxa];unfold wrap64;omega)
    rcases hways with ⟨hbf,hways⟩|⟨hPg,eP,eS,hways⟩
    ·have HBF:=zz hbf
     clear hbf
     rcases hways with eP|⟨eP,hz0,eS⟩|⟨eP,q,hq,h0,hle⟩|⟨eP,q,hq,h0,hle,eS⟩
     ·have hw2:=HW2.1
      exact zq128
     ·have q1:decide ((0:Int)<(k:Int))=false:=z7 zq3
      have q2:decide (0<k)=false:=z7 zq3
      have hw2:=HW2.1
      clear hz0
      exact zq128
     ·have q1:decide ((0:Int)<(k:Int))=true:=z6 zq3
      have q2:decide (0<k)=true:=z6 zq3
      have hs1:IntKind.i64.wrap ((k:Int)-1)=((k-1:Nat):Int):=zq56
      have hs2:(0:Int)≤((k-1:Nat):Int):=zq3
      have hs3:((k-1:Nat):Int)<(el.f1.length:Int):=zq3
      obtain ⟨hql,hqv⟩:=List.getElem?_eq_some_iff.1 hq
      obtain ⟨ap2,hA2,zq⟩:=C_at KE.1 hql
      rw [hqv] at zq
      injection hA2 with hA2
      subst hA2
      clear hqv hq
      replace zq:=ze zq HS.1.bel
      have hw2:=HW2.1
      have q3:decide (p≤q)=true:=z6 hle
      exact zq128
     ·have q1:decide ((0:Int)<(k:Int))=true:=z6 zq3
      have q2:decide (0<k)=true:=z6 zq3
      have hs1:IntKind.i64.wrap ((k:Int)-1)=((k-1:Nat):Int):=zq56
      have hs2:(0:Int)≤((k-1:Nat):Int):=zq3
      have hs3:((k-1:Nat):Int)<(el.f1.length:Int):=zq3
      obtain ⟨hql,hqv⟩:=List.getElem?_eq_some_iff.1 hq
      obtain ⟨ap2,hA2,zq⟩:=C_at KE.1 hql
      rw [hqv] at zq
      injection hA2 with hA2
      subst hA2
      clear hqv hq
      replace zq:=ze zq HS.1.bel
      have hw2:=HW2.1
      have q3:decide (p≤q)=false:=z7 hle
      exact zq128
    ·have HPG:=zz hPg
     clear hPg
     rcases hways with hz0|⟨q,hq,h0,hle⟩
     ·have q1:decide ((0:Int)<(k:Int))=false:=z7 zq3
      have q2:decide (0<k)=false:=z7 zq3
      have hw2:=HW2.1
      clear hz0
      go_quiet (first|(go_at_call 108;exact inSq _ _ _ _ _)|(go_at_call 91;exact hasSq _ _ _ _ _ _ KS.1 hsl2))
      exact zq125
     ·have q1:decide ((0:Int)<(k:Int))=true:=z6 zq3
      have q2:decide (0<k)=true:=z6 zq3
      have hs1:IntKind.i64.wrap ((k:Int)-1)=((k-1:Nat):Int):=zq56
      have hs2:(0:Int)≤((k-1:Nat):Int):=zq3
      have hs3:((k-1:Nat):Int)<(el.f1.length:Int):=zq3
      obtain ⟨hql,hqv⟩:=List.getElem?_eq_some_iff.1 hq
      obtain ⟨ap2,hA2,zq⟩:=C_at KE.1 hql
      rw [hqv] at zq
      injection hA2 with hA2
      subst hA2
      clear hqv hq
      replace zq:=ze zq HS.1.bel
      have hw2:=HW2.1
      have q3:decide (p≤q)=false:=z7 hle
      go_quiet (first|(go_at_call 108;exact inSq _ _ _ _ _)|(go_at_call 91;exact hasSq _ _ _ _ _ _ KS.1 hsl2))
      clear zq
      exact zq125
  ·have d1:decide ((k:Int)<(el.f1.length:Int))=false:=z7 zq3
   have hk2:k=el.f1.length:=zq37 HI2.1
   have hsn:sn=zja x (i+1):=zq76
   subst hk2
   obtain ⟨nn,hnn⟩:∃n,n=sn.length:=⟨_,rfl⟩
   go_wp2
   go_roundg k1
   case measure=>omega
   case rel=>exact ⟨i+1,_,rfl,by go_num,⟨by have:=HQ.1;omega⟩,⟨zq3⟩,⟨fun j f hj hf=>by
    rcases Nat.lt_or_ge j i with h2|h2
    ·exact HP.1 j f h2 hf
    ·obtain rfl:j=i:=zq3
     have:=HE.1.symm.trans hf
     injection this with this
     subst this
     exact ⟨HFR.1,fun k p hp=>HP2.1 k p (List.getElem?_eq_some_iff.1 hp).1 hp⟩⟩,⟨by rw [←hsn];exact HS.1⟩⟩):P:=h
theorem zq99{P:Prop}(h:P:=by
 go_wp2
 go_ret
 exact ⟨rb HBF.1,zf HS.1.bel (znb _ _)⟩):P:=h
theorem zq119{P:Prop}(h:P:=by
 go_wp2
 go_round
 case rel=>exact ⟨k+1,by go_num,zq3,⟨fun j p2 hj hf=>by
  rcases Nat.lt_or_ge j k with h2|h2
  ·exact HP.1 j p2 h2 hf
  ·obtain rfl:j=k:=zq3
   have:=HPK.1.symm.trans hf
   injection this with this
   subst this
   exact HG.1⟩⟩
 case measure=>simp [intOf];omega):P:=h
theorem zq122{P:Prop}(h:P:=by
 have c1:decide ((i:Int)<(x.f3.length:Int))=false:=z7 zq3
 have hbt:true=b:=(HB.1.2 ⟨HH.1,fun j f hj=>HP.1 j f (by have:=(List.getElem?_eq_some_iff.1 hj).1;have:=HI.1;omega) hj⟩).symm
 have HBT:=zz hbt
 clear hbt
 go_wp2
 go_ret
 exact ⟨rb HBT.1,HS.1.bel⟩):P:=h
theorem zq157{P:Prop}(h:P:=by
 go_quiet ((go_at_call 108;exact inSq _ _ _ _ _))
 exact zq99):P:=h
end Go.Proofs
namespace Go.Proofs.Ytonhdiemjgdcnaa.PFnExactGivePage
open Go.RowKit Go.Proofs.YtonhdiemjgdcnaaW.PrintWords Go.Proofs.YtonhdiemjgdcnaaW.PrintLast Go.Proofs.YtonhdiemjgdcnaaW.PrintMore
attribute [local go_sem] zV zU zia zha zP zN zS zT
theorem cloneDisk_c (z:(List ByteArray×List S135)) {cs:List Value} (w:World) (h:kDisk.K w z cs) (hl:z.1.length≤2000000∧z.2.length≤2000000):
  Calls Try.prog 69 #[.agg cs.toArray] w fun e w'=>∃ds:List Value,e= .returned (.agg ds.toArray)∧kDisk.M w' w.heap.size (Fr w w') z ds∧Below w.heap.size w w':=by
 obtain ⟨l0,l1⟩:=z
 obtain ⟨A0,c0,A1,c1,rfl,m0,r0,m1,r1⟩:=zma h
 refine (impl_cloneDisk.calls A0 c0 l0 A1 c1 l1 l0 l1 w r0 m0 r1 m1 (by
  have h1:l0.length≤2000000:=hl.1
  have h2:l1.length≤2000000:=hl.2
  unfold impl_cloneDisk.f slices_Clone_string_string.f impl_Put.f
  rw [if_pos zq3,if_pos zq3]
  rfl)).mono ?_
 rintro e w' ⟨v0,v1,rfl,R0,R1,hb⟩
 have T0:=Own.R_tightB rfl R0
 have T1:=Own.R_tightB rfl R1
 exact ⟨[v0,v1],rfl,kDisk_mkM T0.1 T1.1 T0.2.1 T1.2.1 (Own.types_ne T0.2.2 T1.2.2 zq32),hb⟩
theorem eqInts_c (k:Nat) (z:List Int) {v0:Value} {v1:Value} (w:World) (h0:(Own.arow 3 (Kd.int .i64)).K w z [v0]) (h1:(Own.arow 3 (Kd.int .i64)).K w z [v1]) (hf:laws_eqIntS.f k z z=some true):
  Calls Try.prog 50 #[v0,v1] w fun e w'=>e= .returned (.bool true)∧Below w.heap.size w w':=by
 obtain ⟨A0,c0,hv,m0,r0⟩:=h0
 injection hv with hv
 subst hv
 obtain ⟨A1,c1,hv,m1,r1⟩:=h1
 injection hv with hv
 subst hv
 refine (laws_eqIntS.calls k A0 c0 z A1 c1 z true w r0 m0 r1 m1 hf).mono ?_
 rintro e w' ⟨he,hb⟩
 exact ⟨he,by first|exact hb|exact hb.below⟩
theorem eqReaders_c (k:Nat) (z:List S118) {v0:Value} {v1:Value} (w:World) (h0:(Own.srow 118 k118).K w z [v0]) (h1:(Own.srow 118 k118).K w z [v1]) (hf:laws_eqReaderS.f k z z=some true):
  Calls Try.prog 70 #[v0,v1] w fun e w'=>e= .returned (.bool true)∧Below w.heap.size w w':=by
 obtain ⟨A0,c0,hv,m0,r0⟩:=h0
 injection hv with hv
 subst hv
 obtain ⟨A1,c1,hv,m1,r1⟩:=h1
 injection hv with hv
 subst hv
 refine (laws_eqReaderS.calls k A0 c0 z A1 c1 z true w r0 m0 r1 m1 hf).mono ?_
 rintro e w' ⟨he,hb⟩
 exact ⟨he,by first|exact hb|exact hb.below⟩
theorem heldInts_c (k:Nat) (z:List Int) (a r:Int) {v0:Value} (w:World) (h0:(Own.arow 3 (Kd.int .i64)).K w z [v0]) (hf:laws_heldIntS.f k z a=some r):
  Calls Try.prog 53 #[v0,.int .i64 a] w fun e w'=>e= .returned (.int .i64 r)∧Below w.heap.size w w':=by
 obtain ⟨A0,c0,hv,m0,r0⟩:=h0
 injection hv with hv
 subst hv
 refine (laws_heldIntS.calls k A0 c0 z a r w r0 m0 hf).mono ?_
 rintro e w' ⟨he,hb⟩
 exact ⟨he,by first|exact hb|exact hb.below⟩
theorem heldReaders_c (k:Nat) (z:List S118) (a r:Int) {v0:Value} (w:World) (h0:(Own.srow 118 k118).K w z [v0]) (hf:laws_heldReaderS.f k z a=some r):
  Calls Try.prog 74 #[v0,.int .i64 a] w fun e w'=>e= .returned (.int .i64 r)∧Below w.heap.size w w':=by
 obtain ⟨A0,c0,hv,m0,r0⟩:=h0
 injection hv with hv
 subst hv
 refine (laws_heldReaderS.calls k A0 c0 z a r w r0 m0 hf).mono ?_
 rintro e w' ⟨he,hb⟩
 exact ⟨he,by first|exact hb|exact hb.below⟩
theorem toDisk_c (k:Nat) (a:(List ByteArray×List S140)) (z:(List ByteArray×List S135)) {cs:List Value} (w:World) (h:kDiskL.K w a cs) (hf:laws_toDisk.f k a.1 a.2=some (z.1,z.2)):
 Calls Try.prog 24 #[.agg cs.toArray] w fun e w'=>∃ds:List Value,e= .returned (.agg ds.toArray)∧kDisk.M w' w.heap.size (Fr w w') z ds∧Below w.heap.size w w':=toDisk_o k a.1 a.2 z.1 z.2 w h hf
def eqDisk_c_f (k:Nat) (z0:(List ByteArray×List S135)) (z1:(List ByteArray×List S135)):Option Bool:=laws_eqDisk.f k z0.1 z0.2 z1.1 z1.2
theorem eqDisk_c (k:Nat) (z0:(List ByteArray×List S135)) {cs0:List Value} (z1:(List ByteArray×List S135)) {cs1:List Value} (r:Bool) (w:World) (h0:kDisk.K w z0 cs0) (h1:kDisk.K w z1 cs1) (hf:eqDisk_c_f k z0 z1=some r):
  Calls Try.prog 27 #[.agg cs0.toArray,.agg cs1.toArray] w fun e w'=>e= .returned (.bool r)∧Below w.heap.size w w':=by
 obtain ⟨p0,q0⟩:=z0
 obtain ⟨A0,c0,A1,c1,rfl,m10,r_00,m11,r_01⟩:=zma h0
 obtain ⟨p1,q1⟩:=z1
 obtain ⟨A2,c11,A3,c12,rfl,m12,r_10,m13,r_11⟩:=zma h1
 exact laws_eqDisk.calls k A0 c0 p0 A1 c1 q0 A2 c11 p1 A3 c12 q1 r w r_00 m10 r_01 m11 r_10 m12 r_11 m13 hf
def heldDisk_c_f (k:Nat) (z0:(List ByteArray×List S135)) (a:Int):Option Int:=laws_heldDisk.f k z0.1 z0.2 a
theorem heldDisk_c (k:Nat) (z0:(List ByteArray×List S135)) {cs0:List Value} (a:Int) (r:Int) (w:World) (h0:kDisk.K w z0 cs0) (hf:heldDisk_c_f k z0 a=some r):
  Calls Try.prog 52 #[.agg cs0.toArray,.int .i64 a] w fun e w'=>e= .returned (.int .i64 r)∧Below w.heap.size w w':=by
 obtain ⟨p0,q0⟩:=z0
 obtain ⟨A0,c0,A1,c1,rfl,m10,r_00,m11,r_01⟩:=zma h0
 exact laws_heldDisk.calls k A0 c0 p0 A1 c1 q0 a r w r_00 m10 r_01 m11 hf
def eqMeta_c_f (k:Nat) (z0:S53) (z1:S53):Option Bool:=laws_eqMeta.f k z0.f0 z0.f1 z0.f2 z0.f3 z1.f0 z1.f1 z1.f2 z1.f3
theorem eqMeta_c (k:Nat) (z0:S53) {cs0:List Value} (z1:S53) {cs1:List Value} (r:Bool) (w:World) (h0:k53.K w z0 cs0) (h1:k53.K w z1 cs1) (hf:eqMeta_c_f k z0 z1=some r):
  Calls Try.prog 41 #[.agg cs0.toArray,.agg cs1.toArray] w fun e w'=>e= .returned (.bool r)∧Below w.heap.size w w':=by
 obtain ⟨x0,rfl⟩:∃x,x=z0:=⟨_,rfl⟩
 obtain ⟨A0,c0,rfl,m10,r_0⟩:=zYa h0
 obtain ⟨x1,rfl⟩:∃x,x=z1:=⟨_,rfl⟩
 obtain ⟨A1,c1,rfl,m11,r_1⟩:=zYa h1
 exact laws_eqMeta.calls k x0.f0 x0.f1 x0.f2 A0 c0 x0.f3 x1.f0 x1.f1 x1.f2 A1 c1 x1.f3 r w r_0 m10 r_1 m11 hf
def zOa (k:Nat) (z0:S53) (a:Int):Option Int:=laws_heldMeta.f k z0.f0 z0.f1 z0.f2 z0.f3 a
theorem heldMeta_c (k:Nat) (z0:S53) {cs0:List Value} (a:Int) (r:Int) (w:World) (h0:k53.K w z0 cs0) (hf:zOa k z0 a=some r):
  Calls Try.prog 45 #[.agg cs0.toArray,.int .i64 a] w fun e w'=>e= .returned (.int .i64 r)∧Below w.heap.size w w':=by
 obtain ⟨x0,rfl⟩:∃x,x=z0:=⟨_,rfl⟩
 obtain ⟨A0,c0,rfl,m10,r_0⟩:=zYa h0
 exact laws_heldMeta.calls k x0.f0 x0.f1 x0.f2 A0 c0 x0.f3 a r w r_0 m10 hf
def EqWork (k:Nat) (z:(List ByteArray×List S135×Int×List Int×List Int×List Int)):Prop:=eqDisk_c_f k (z.1,z.2.1) (z.1,z.2.1)=some true∧laws_eqIntS.f k z.2.2.2.1 z.2.2.2.1=some true∧laws_eqIntS.f k z.2.2.2.2.1 z.2.2.2.2.1=some true∧laws_eqIntS.f k z.2.2.2.2.2 z.2.2.2.2.2=some true
theorem eqWork_c (k:Nat) (z:(List ByteArray×List S135×Int×List Int×List Int×List Int)) {cs ds:List Value} (w:World) (h:kWork.K w z cs) (h2:kWork.K w z ds) (hf:EqWork k z):
  Calls Try.prog 13 #[.agg cs.toArray,.agg ds.toArray] w fun e w'=>e= .returned (.bool true)∧Below w.heap.size w w':=by
 have hwp:=h
 obtain ⟨cp0,_,rfl,hp0,cp1,_,rfl,hp1,cp2,_,rfl,hp2,cp3,_,rfl,hp3,cp4,cp5,rfl,hp4,hp5⟩:=h
 have gp0:=hp0;obtain ⟨A_,k_,rfl,-,-⟩:=hp0;obtain ⟨vp0,hv⟩:∃v,v=Value.slice A_ (z.1).length k_:=⟨_,rfl⟩;rw [←hv] at gp0 hwp ⊢;clear hv
 have gp1:=hp1;obtain ⟨A_,k_,rfl,-,-⟩:=hp1;obtain ⟨vp1,hv⟩:∃v,v=Value.slice A_ (z.2.1).length k_:=⟨_,rfl⟩;rw [←hv] at gp1 hwp ⊢;clear hv
 obtain rfl:cp2=[.int .i64 z.2.2.1]:=hp2
 have gp3:=hp3;obtain ⟨A_,k_,rfl,-,-⟩:=hp3;obtain ⟨vp3,hv⟩:∃v,v=Value.slice A_ (z.2.2.2.1).length k_:=⟨_,rfl⟩;rw [←hv] at gp3 hwp ⊢;clear hv
 have gp4:=hp4;obtain ⟨A_,k_,rfl,-,-⟩:=hp4;obtain ⟨vp4,hv⟩:∃v,v=Value.slice A_ (z.2.2.2.2.1).length k_:=⟨_,rfl⟩;rw [←hv] at gp4 hwp ⊢;clear hv
 have gp5:=hp5;obtain ⟨A_,k_,rfl,-,-⟩:=hp5;obtain ⟨vp5,hv⟩:∃v,v=Value.slice A_ (z.2.2.2.2.2).length k_:=⟨_,rfl⟩;rw [←hv] at gp5 hwp ⊢;clear hv
 obtain ⟨ep,he⟩:∃cs,cs=[vp0]++([vp1]++([.int .i64 z.2.2.1]++([vp3]++([vp4]++([vp5]))))):=⟨_,rfl⟩;rw [←he] at hwp ⊢;have Ep:=zz he;clear he hwp
 have Kp0:=zz gp0;clear gp0
 have Kp1:=zz gp1;clear gp1
 have Kp3:=zz gp3;clear gp3
 have Kp4:=zz gp4;clear gp4
 have Kp5:=zz gp5;clear gp5
 have hwq:=h2
 obtain ⟨cq0,_,rfl,hq0,cq1,_,rfl,hq1,cq2,_,rfl,hq2,cq3,_,rfl,hq3,cq4,cq5,rfl,hq4,hq5⟩:=h2
 have gq0:=hq0;obtain ⟨A_,k_,rfl,-,-⟩:=hq0;obtain ⟨vq0,hv⟩:∃v,v=Value.slice A_ (z.1).length k_:=⟨_,rfl⟩;rw [←hv] at gq0 hwq ⊢;clear hv
 have gq1:=hq1;obtain ⟨A_,k_,rfl,-,-⟩:=hq1;obtain ⟨vq1,hv⟩:∃v,v=Value.slice A_ (z.2.1).length k_:=⟨_,rfl⟩;rw [←hv] at gq1 hwq ⊢;clear hv
 obtain rfl:cq2=[.int .i64 z.2.2.1]:=hq2
 have gq3:=hq3;obtain ⟨A_,k_,rfl,-,-⟩:=hq3;obtain ⟨vq3,hv⟩:∃v,v=Value.slice A_ (z.2.2.2.1).length k_:=⟨_,rfl⟩;rw [←hv] at gq3 hwq ⊢;clear hv
 have gq4:=hq4;obtain ⟨A_,k_,rfl,-,-⟩:=hq4;obtain ⟨vq4,hv⟩:∃v,v=Value.slice A_ (z.2.2.2.2.1).length k_:=⟨_,rfl⟩;rw [←hv] at gq4 hwq ⊢;clear hv
 have gq5:=hq5;obtain ⟨A_,k_,rfl,-,-⟩:=hq5;obtain ⟨vq5,hv⟩:∃v,v=Value.slice A_ (z.2.2.2.2.2).length k_:=⟨_,rfl⟩;rw [←hv] at gq5 hwq ⊢;clear hv
 obtain ⟨eq,he⟩:∃cs,cs=[vq0]++([vq1]++([.int .i64 z.2.2.1]++([vq3]++([vq4]++([vq5]))))):=⟨_,rfl⟩;rw [←he] at hwq ⊢;have Eq:=zz he;clear he hwq
 have Kq0:=zz gq0;clear gq0
 have Kq1:=zz gq1;clear gq1
 have Kq3:=zz gq3;clear gq3
 have Kq4:=zz gq4;clear gq4
 have Kq5:=zz gq5;clear gq5
 obtain ⟨fF0,fF2,fF3,fF4⟩:=hf
 have F0:=zz fF0;clear fF0
 have F2:=zz fF2;clear fF2
 have F3:=zz fF3;clear fF3
 have F4:=zz fF4;clear fF4
 have O:=zz (z2a w.heap.size)
 have E:=zz (Env.start w)
 go_enter Try.func13,Try.ntmps13
 go_wp2_with (first|((with_reducible refine zg (N:=6) rfl ?_);replace O:=zz (And.intro E.1.le O.1);replace E:=zz (E.1.alloc ep 34 (g:=w.heap.size) rfl);replace E:=zz (E.1.alloc eq 34 (g:=(w.heap.size+1)) zq29);refine zl rfl 32 _ rfl w.heap.size 0 [] [vp0,vp1] ([.int .i64 z.2.2.1]++([vp3]++([vp4]++[vp5]))) _ rfl (E.1.box 1 rfl) zq22 (rfl) Try.underlying32 rfl zq8 ?_)|((with_reducible refine zg (N:=8) rfl ?_);refine zl rfl 32 _ rfl (w.heap.size+1) 0 [] [vq0,vq1] ([.int .i64 z.2.2.1]++([vq3]++([vq4]++[vq5]))) _ rfl (E.1.box 0 rfl) zq31 (rfl) Try.underlying32 rfl zq8 ?_))
 ((with_reducible refine (eqDisk_c k (z.1,z.2.1) (z.1,z.2.1) true _ (kDisk_lit (E.1.K Kp0.1) (E.1.K Kp1.1)) (kDisk_lit (E.1.K Kq0.1) (E.1.K Kq1.1)) F0.1).mono ?_);rintro e w1_ ⟨rfl,hb⟩)
 replace E:=zz (E.1.call hb);clear hb
 go_wp2_with (first|((with_reducible refine zg (N:=12) rfl ?_);refine zF rfl 3 _ rfl w.heap.size 2 ([vp0]++[vp1]) (.int .i64 z.2.2.1) ([vp3]++([vp4]++[vp5])) rfl (E.1.box 1 rfl) zq22 (rfl) Try.underlying3 rfl ?_)|((with_reducible refine zg (N:=14) rfl ?_);refine zF rfl 3 _ rfl (w.heap.size+1) 2 ([vq0]++[vq1]) (.int .i64 z.2.2.1) ([vq3]++([vq4]++[vq5])) rfl (E.1.box 0 rfl) zq31 (rfl) Try.underlying3 rfl ?_)|((with_reducible refine zg (N:=17) rfl ?_);refine zF rfl 26 _ rfl w.heap.size 3 ([vp0]++([vp1]++[.int .i64 z.2.2.1])) (vp3) ([vp4]++[vp5]) rfl (E.1.box 1 rfl) zq22 (rfl) Try.underlying26 rfl ?_)|((with_reducible refine zg (N:=19) rfl ?_);refine zF rfl 26 _ rfl (w.heap.size+1) 3 ([vq0]++([vq1]++[.int .i64 z.2.2.1])) (vq3) ([vq4]++[vq5]) rfl (E.1.box 0 rfl) zq31 (rfl) Try.underlying26 rfl ?_))
 ((with_reducible refine (eqInts_c k z.2.2.2.1 _ (E.1.K Kp3.1) (E.1.K Kq3.1) F2.1).mono ?_);rintro e w2_ ⟨rfl,hb⟩)
 replace E:=zz (E.1.call hb);clear hb
 go_wp2_with (first|((with_reducible refine zg (N:=23) rfl ?_);refine zF rfl 26 _ rfl w.heap.size 4 ([vp0]++([vp1]++([.int .i64 z.2.2.1]++[vp3]))) (vp4) [vp5] rfl (E.1.box 1 rfl) zq22 (rfl) Try.underlying26 rfl ?_)|((with_reducible refine zg (N:=25) rfl ?_);refine zF rfl 26 _ rfl (w.heap.size+1) 4 ([vq0]++([vq1]++([.int .i64 z.2.2.1]++[vq3]))) (vq4) [vq5] rfl (E.1.box 0 rfl) zq31 (rfl) Try.underlying26 rfl ?_))
 ((with_reducible refine (eqInts_c k z.2.2.2.2.1 _ (E.1.K Kp4.1) (E.1.K Kq4.1) F3.1).mono ?_);rintro e w3_ ⟨rfl,hb⟩)
 replace E:=zz (E.1.call hb);clear hb
 go_wp2_with (first|((with_reducible refine zg (N:=29) rfl ?_);refine zF rfl 26 _ rfl w.heap.size 5 ([vp0]++([vp1]++([.int .i64 z.2.2.1]++([vp3]++[vp4])))) (vp5) [] rfl (E.1.box 1 rfl) zq22 (rfl) Try.underlying26 rfl ?_)|((with_reducible refine zg (N:=31) rfl ?_);refine zF rfl 26 _ rfl (w.heap.size+1) 5 ([vq0]++([vq1]++([.int .i64 z.2.2.1]++([vq3]++[vq4])))) (vq5) [] rfl (E.1.box 0 rfl) zq31 (rfl) Try.underlying26 rfl ?_))
 ((with_reducible refine (eqInts_c k z.2.2.2.2.2 _ (E.1.K Kp5.1) (E.1.K Kq5.1) F4.1).mono ?_);rintro e w4_ ⟨rfl,hb⟩)
 replace E:=zz (E.1.call hb);clear hb
 go_wp2_with fail
 go_ret
 exact ⟨rfl,E.1.below⟩
def HeldWork (k:Nat) (z:(List ByteArray×List S135×Int×List Int×List Int×List Int)) (a r:Int):Prop:=∃t1 t2 t3:Int,heldDisk_c_f k (z.1,z.2.1) a=some t1∧¬t1<0∧laws_heldIntS.f k z.2.2.2.1 t1=some t2∧¬t2<0∧laws_heldIntS.f k z.2.2.2.2.1 t2=some t3∧¬t3<0∧laws_heldIntS.f k z.2.2.2.2.2 t3=some r∧¬r<0
theorem heldWork_c (k:Nat) (z:(List ByteArray×List S135×Int×List Int×List Int×List Int)) (a r:Int) {cs:List Value} (w:World) (h:kWork.K w z cs) (hf:HeldWork k z a r):
  Calls Try.prog 15 #[.agg cs.toArray,.int .i64 a] w fun e w'=>e= .returned (.int .i64 r)∧Below w.heap.size w w':=by
 have hwp:=h
 obtain ⟨cp0,_,rfl,hp0,cp1,_,rfl,hp1,cp2,_,rfl,hp2,cp3,_,rfl,hp3,cp4,cp5,rfl,hp4,hp5⟩:=h
 have gp0:=hp0;obtain ⟨A_,k_,rfl,-,-⟩:=hp0;obtain ⟨vp0,hv⟩:∃v,v=Value.slice A_ (z.1).length k_:=⟨_,rfl⟩;rw [←hv] at gp0 hwp ⊢;clear hv
 have gp1:=hp1;obtain ⟨A_,k_,rfl,-,-⟩:=hp1;obtain ⟨vp1,hv⟩:∃v,v=Value.slice A_ (z.2.1).length k_:=⟨_,rfl⟩;rw [←hv] at gp1 hwp ⊢;clear hv
 obtain rfl:cp2=[.int .i64 z.2.2.1]:=hp2
 have gp3:=hp3;obtain ⟨A_,k_,rfl,-,-⟩:=hp3;obtain ⟨vp3,hv⟩:∃v,v=Value.slice A_ (z.2.2.2.1).length k_:=⟨_,rfl⟩;rw [←hv] at gp3 hwp ⊢;clear hv
 have gp4:=hp4;obtain ⟨A_,k_,rfl,-,-⟩:=hp4;obtain ⟨vp4,hv⟩:∃v,v=Value.slice A_ (z.2.2.2.2.1).length k_:=⟨_,rfl⟩;rw [←hv] at gp4 hwp ⊢;clear hv
 have gp5:=hp5;obtain ⟨A_,k_,rfl,-,-⟩:=hp5;obtain ⟨vp5,hv⟩:∃v,v=Value.slice A_ (z.2.2.2.2.2).length k_:=⟨_,rfl⟩;rw [←hv] at gp5 hwp ⊢;clear hv
 obtain ⟨ep,he⟩:∃cs,cs=[vp0]++([vp1]++([.int .i64 z.2.2.1]++([vp3]++([vp4]++([vp5]))))):=⟨_,rfl⟩;rw [←he] at hwp ⊢;have Ep:=zz he;clear he hwp
 have Kp0:=zz gp0;clear gp0
 have Kp1:=zz gp1;clear gp1
 have Kp3:=zz gp3;clear gp3
 have Kp4:=zz gp4;clear gp4
 have Kp5:=zz gp5;clear gp5
 obtain ⟨t1,t2,t3,f0,n0,f1,n1,f2,n2,f3,n3⟩:=hf
 have F0:=zz f0;clear f0;replace n0:decide (t1<0)=false:=z7 n0
 have F1:=zz f1;clear f1;replace n1:decide (t2<0)=false:=z7 n1
 have F2:=zz f2;clear f2;replace n2:decide (t3<0)=false:=z7 n2
 have F3:=zz f3;clear f3;replace n3:decide (r<0)=false:=z7 n3
 have O:=zz (z2a w.heap.size)
 have E:=zz (Env.start w)
 go_enter Try.func15,Try.ntmps15
 go_wp2_with (first|((with_reducible refine zg (N:=6) rfl ?_);replace O:=zz (And.intro E.1.le O.1);replace E:=zz (E.1.alloc ep 34 (g:=w.heap.size) rfl);refine zl rfl 32 _ rfl w.heap.size 0 [] [vp0,vp1] ([.int .i64 z.2.2.1]++([vp3]++([vp4]++[vp5]))) _ rfl (E.1.box 0 rfl) zq22 (rfl) Try.underlying32 rfl zq8 ?_))
 ((with_reducible refine (heldDisk_c k (z.1,z.2.1) a t1 _ (kDisk_lit (E.1.K Kp0.1) (E.1.K Kp1.1)) F0.1).mono ?_);rintro e w1_ ⟨rfl,hb⟩)
 replace E:=zz (E.1.call hb);clear hb
 go_wp2_with (first|((with_reducible refine zg (N:=12) rfl ?_);refine zF rfl 26 _ rfl w.heap.size 3 ([vp0]++([vp1]++[.int .i64 z.2.2.1])) (vp3) ([vp4]++[vp5]) rfl (E.1.box 0 rfl) zq22 (rfl) Try.underlying26 rfl ?_))
 ((with_reducible refine (heldInts_c k z.2.2.2.1 t1 t2 _ (E.1.K Kp3.1) F1.1).mono ?_);rintro e w2_ ⟨rfl,hb⟩)
 replace E:=zz (E.1.call hb);clear hb
 go_wp2_with (first|((with_reducible refine zg (N:=18) rfl ?_);refine zF rfl 26 _ rfl w.heap.size 4 ([vp0]++([vp1]++([.int .i64 z.2.2.1]++[vp3]))) (vp4) [vp5] rfl (E.1.box 0 rfl) zq22 (rfl) Try.underlying26 rfl ?_))
 ((with_reducible refine (heldInts_c k z.2.2.2.2.1 t2 t3 _ (E.1.K Kp4.1) F2.1).mono ?_);rintro e w3_ ⟨rfl,hb⟩)
 replace E:=zz (E.1.call hb);clear hb
 go_wp2_with (first|((with_reducible refine zg (N:=24) rfl ?_);refine zF rfl 26 _ rfl w.heap.size 5 ([vp0]++([vp1]++([.int .i64 z.2.2.1]++([vp3]++[vp4])))) (vp5) [] rfl (E.1.box 0 rfl) zq22 (rfl) Try.underlying26 rfl ?_))
 ((with_reducible refine (heldInts_c k z.2.2.2.2.2 t3 r _ (E.1.K Kp5.1) F3.1).mono ?_);rintro e w4_ ⟨rfl,hb⟩)
 replace E:=zz (E.1.call hb);clear hb
 go_wp2_with fail
 go_ret
 exact ⟨rfl,E.1.below⟩
def EqTxn (k:Nat) (z:(S53×(List ByteArray×List S135×Int×List Int×List Int×List Int)×Int)):Prop:=eqMeta_c_f k z.1 z.1=some true∧EqWork k z.2.1
theorem eqTxn_c (k:Nat) (z:(S53×(List ByteArray×List S135×Int×List Int×List Int×List Int)×Int)) {cs ds:List Value} (w:World) (h:kTxn.K w z cs) (h2:kTxn.K w z ds) (hf:EqTxn k z):
  Calls Try.prog 42 #[.agg cs.toArray,.agg ds.toArray] w fun e w'=>e= .returned (.bool true)∧Below w.heap.size w w':=by
 have hwp:=h
 obtain ⟨cp0,_,rfl,hp0,cp1,cp2,rfl,hp1,hp2⟩:=h
 obtain rfl:cp2=[.int .i64 z.2.2]:=hp2
 obtain ⟨ep,he⟩:∃cs,cs=cp0++(cp1++([.int .i64 z.2.2])):=⟨_,rfl⟩;rw [←he] at hwp ⊢;have Ep:=zz he;clear he hwp
 have Kp0:=zz hp0;have Lp0:=zz (show cp0.length=4 from Kd.K_len _ hp0);clear hp0
 have Kp1:=zz hp1;have Lp1:=zz (show cp1.length=6 from Kd.K_len _ hp1);clear hp1
 have hwq:=h2
 obtain ⟨cq0,_,rfl,hq0,cq1,cq2,rfl,hq1,hq2⟩:=h2
 obtain rfl:cq2=[.int .i64 z.2.2]:=hq2
 obtain ⟨eq,he⟩:∃cs,cs=cq0++(cq1++([.int .i64 z.2.2])):=⟨_,rfl⟩;rw [←he] at hwq ⊢;have Eq:=zz he;clear he hwq
 have Kq0:=zz hq0;have Lq0:=zz (show cq0.length=4 from Kd.K_len _ hq0);clear hq0
 have Kq1:=zz hq1;have Lq1:=zz (show cq1.length=6 from Kd.K_len _ hq1);clear hq1
 obtain ⟨fF0,fF1⟩:=hf
 have F0:=zz fF0;clear fF0
 have F1:=zz fF1;clear fF1
 have O:=zz (z2a w.heap.size)
 have E:=zz (Env.start w)
 go_enter Try.func42,Try.ntmps42
 go_wp2_with (first|((with_reducible refine zg (N:=6) rfl ?_);replace O:=zz (And.intro E.1.le O.1);replace E:=zz (E.1.alloc ep 56 (g:=w.heap.size) rfl);replace E:=zz (E.1.alloc eq 56 (g:=(w.heap.size+1)) zq29);refine zl rfl 53 _ rfl w.heap.size 0 [] cp0 (cp1++[.int .i64 z.2.2]) _ rfl (E.1.box 1 rfl) zq22 (rfl) Try.underlying53 rfl (zq30 Lp0.1) ?_)|((with_reducible refine zg (N:=8) rfl ?_);refine zl rfl 53 _ rfl (w.heap.size+1) 0 [] cq0 (cq1++[.int .i64 z.2.2]) _ rfl (E.1.box 0 rfl) zq31 (rfl) Try.underlying53 rfl (zq30 Lq0.1) ?_))
 ((with_reducible refine (eqMeta_c k z.1 z.1 true _ (E.1.K Kp0.1) (E.1.K Kq0.1) F0.1).mono ?_);rintro e w1_ ⟨rfl,hb⟩)
 replace E:=zz (E.1.call hb);clear hb
 go_wp2_with (first|((with_reducible refine zg (N:=12) rfl ?_);refine zl rfl 34 _ rfl w.heap.size 4 cp0 cp1 [.int .i64 z.2.2] _ rfl (E.1.box 1 rfl) zq22 (Lp0.1) Try.underlying34 rfl (zq30 Lp1.1) ?_)|((with_reducible refine zg (N:=14) rfl ?_);refine zl rfl 34 _ rfl (w.heap.size+1) 4 cq0 cq1 [.int .i64 z.2.2] _ rfl (E.1.box 0 rfl) zq31 (Lq0.1) Try.underlying34 rfl (zq30 Lq1.1) ?_))
 ((with_reducible refine (eqWork_c k z.2.1 _ (E.1.K Kp1.1) (E.1.K Kq1.1) F1.1).mono ?_);rintro e w2_ ⟨rfl,hb⟩)
 replace E:=zz (E.1.call hb);clear hb
 go_wp2_with (first|((with_reducible refine zg (N:=18) rfl ?_);refine zF rfl 3 _ rfl w.heap.size 10 (cp0++cp1) (.int .i64 z.2.2) [] rfl (E.1.box 1 rfl) zq22 (zq34 Lp0.1 Lp1.1) Try.underlying3 rfl ?_)|((with_reducible refine zg (N:=20) rfl ?_);refine zF rfl 3 _ rfl (w.heap.size+1) 10 (cq0++cq1) (.int .i64 z.2.2) [] rfl (E.1.box 0 rfl) zq31 (zq34 Lq0.1 Lq1.1) Try.underlying3 rfl ?_))
 go_ret
 exact ⟨rfl,E.1.below⟩
def HeldTxn (k:Nat) (z:(S53×(List ByteArray×List S135×Int×List Int×List Int×List Int)×Int)) (a r:Int):Prop:=∃t1:Int,zOa k z.1 a=some t1∧¬t1<0∧HeldWork k z.2.1 t1 r∧¬r<0
theorem heldTxn_c (k:Nat) (z:(S53×(List ByteArray×List S135×Int×List Int×List Int×List Int)×Int)) (a r:Int) {cs:List Value} (w:World) (h:kTxn.K w z cs) (hf:HeldTxn k z a r):
  Calls Try.prog 75 #[.agg cs.toArray,.int .i64 a] w fun e w'=>e= .returned (.int .i64 r)∧Below w.heap.size w w':=by
 have hwp:=h
 obtain ⟨cp0,_,rfl,hp0,cp1,cp2,rfl,hp1,hp2⟩:=h
 obtain rfl:cp2=[.int .i64 z.2.2]:=hp2
 obtain ⟨ep,he⟩:∃cs,cs=cp0++(cp1++([.int .i64 z.2.2])):=⟨_,rfl⟩;rw [←he] at hwp ⊢;have Ep:=zz he;clear he hwp
 have Kp0:=zz hp0;have Lp0:=zz (show cp0.length=4 from Kd.K_len _ hp0);clear hp0
 have Kp1:=zz hp1;have Lp1:=zz (show cp1.length=6 from Kd.K_len _ hp1);clear hp1
 obtain ⟨t1,f0,n0,f1,n1⟩:=hf
 have F0:=zz f0;clear f0;replace n0:decide (t1<0)=false:=z7 n0
 have F1:=zz f1;clear f1;replace n1:decide (r<0)=false:=z7 n1
 have O:=zz (z2a w.heap.size)
 have E:=zz (Env.start w)
 go_enter Try.func75,Try.ntmps75
 go_wp2_with (first|((with_reducible refine zg (N:=6) rfl ?_);replace O:=zz (And.intro E.1.le O.1);replace E:=zz (E.1.alloc ep 56 (g:=w.heap.size) rfl);refine zl rfl 53 _ rfl w.heap.size 0 [] cp0 (cp1++[.int .i64 z.2.2]) _ rfl (E.1.box 0 rfl) zq22 (rfl) Try.underlying53 rfl (zq30 Lp0.1) ?_))
 ((with_reducible refine (heldMeta_c k z.1 a t1 _ (E.1.K Kp0.1) F0.1).mono ?_);rintro e w1_ ⟨rfl,hb⟩)
 replace E:=zz (E.1.call hb);clear hb
 go_wp2_with (first|((with_reducible refine zg (N:=12) rfl ?_);refine zl rfl 34 _ rfl w.heap.size 4 cp0 cp1 [.int .i64 z.2.2] _ rfl (E.1.box 0 rfl) zq22 (Lp0.1) Try.underlying34 rfl (zq30 Lp1.1) ?_))
 ((with_reducible refine (heldWork_c k z.2.1 t1 r _ (E.1.K Kp1.1) F1.1).mono ?_);rintro e w2_ ⟨rfl,hb⟩)
 replace E:=zz (E.1.call hb);clear hb
 go_wp2_with fail
 go_ret
 exact ⟨rfl,E.1.below⟩
def EqStore (k:Nat) (z:((List ByteArray×List S135)×S53×List S118×(S53×(List ByteArray×List S135×Int×List Int×List Int×List Int)×Int)×Bool×Bool)):Prop:=eqDisk_c_f k z.1 z.1=some true∧eqMeta_c_f k z.2.1 z.2.1=some true∧laws_eqReaderS.f k z.2.2.1 z.2.2.1=some true∧EqTxn k z.2.2.2.1
theorem eqStore_c (k:Nat) (z:((List ByteArray×List S135)×S53×List S118×(S53×(List ByteArray×List S135×Int×List Int×List Int×List Int)×Int)×Bool×Bool)) {cs ds:List Value} (w:World) (h:kStore.K w z cs) (h2:kStore.K w z ds) (hf:EqStore k z):
  Calls Try.prog 26 #[.agg cs.toArray,.agg ds.toArray] w fun e w'=>e= .returned (.bool true)∧Below w.heap.size w w':=by
 have hwp:=h
 obtain ⟨cp0,_,rfl,hp0,cp1,_,rfl,hp1,cp2,_,rfl,hp2,cp3,_,rfl,hp3,cp4,cp5,rfl,hp4,hp5⟩:=h
 have gp2:=hp2;obtain ⟨A_,k_,rfl,-,-⟩:=hp2;obtain ⟨vp2,hv⟩:∃v,v=Value.slice A_ (z.2.2.1).length k_:=⟨_,rfl⟩;rw [←hv] at gp2 hwp ⊢;clear hv
 obtain rfl:cp4=[.bool z.2.2.2.2.1]:=hp4
 obtain rfl:cp5=[.bool z.2.2.2.2.2]:=hp5
 obtain ⟨ep,he⟩:∃cs,cs=cp0++(cp1++([vp2]++(cp3++([.bool z.2.2.2.2.1]++([.bool z.2.2.2.2.2]))))):=⟨_,rfl⟩;rw [←he] at hwp ⊢;have Ep:=zz he;clear he hwp
 have Kp0:=zz hp0;have Lp0:=zz (show cp0.length=2 from Kd.K_len _ hp0);clear hp0
 have Kp1:=zz hp1;have Lp1:=zz (show cp1.length=4 from Kd.K_len _ hp1);clear hp1
 have Kp2:=zz gp2;clear gp2
 have Kp3:=zz hp3;have Lp3:=zz (show cp3.length=11 from Kd.K_len _ hp3);clear hp3
 have hwq:=h2
 obtain ⟨cq0,_,rfl,hq0,cq1,_,rfl,hq1,cq2,_,rfl,hq2,cq3,_,rfl,hq3,cq4,cq5,rfl,hq4,hq5⟩:=h2
 have gq2:=hq2;obtain ⟨A_,k_,rfl,-,-⟩:=hq2;obtain ⟨vq2,hv⟩:∃v,v=Value.slice A_ (z.2.2.1).length k_:=⟨_,rfl⟩;rw [←hv] at gq2 hwq ⊢;clear hv
 obtain rfl:cq4=[.bool z.2.2.2.2.1]:=hq4
 obtain rfl:cq5=[.bool z.2.2.2.2.2]:=hq5
 obtain ⟨eq,he⟩:∃cs,cs=cq0++(cq1++([vq2]++(cq3++([.bool z.2.2.2.2.1]++([.bool z.2.2.2.2.2]))))):=⟨_,rfl⟩;rw [←he] at hwq ⊢;have Eq:=zz he;clear he hwq
 have Kq0:=zz hq0;have Lq0:=zz (show cq0.length=2 from Kd.K_len _ hq0);clear hq0
 have Kq1:=zz hq1;have Lq1:=zz (show cq1.length=4 from Kd.K_len _ hq1);clear hq1
 have Kq2:=zz gq2;clear gq2
 have Kq3:=zz hq3;have Lq3:=zz (show cq3.length=11 from Kd.K_len _ hq3);clear hq3
 obtain ⟨fF0,fF1,fF2,fF3⟩:=hf
 have F0:=zz fF0;clear fF0
 have F1:=zz fF1;clear fF1
 have F2:=zz fF2;clear fF2
 have F3:=zz fF3;clear fF3
 have O:=zz (z2a w.heap.size)
 have E:=zz (Env.start w)
 go_enter Try.func26,Try.ntmps26
 go_wp2_with (first|((with_reducible refine zg (N:=6) rfl ?_);replace O:=zz (And.intro E.1.le O.1);replace E:=zz (E.1.alloc ep 58 (g:=w.heap.size) rfl);replace E:=zz (E.1.alloc eq 58 (g:=(w.heap.size+1)) zq29);refine zl rfl 32 _ rfl w.heap.size 0 [] cp0 (cp1++([vp2]++(cp3++([.bool z.2.2.2.2.1]++[.bool z.2.2.2.2.2])))) _ rfl (E.1.box 1 rfl) zq22 (rfl) Try.underlying32 rfl (zq30 Lp0.1) ?_)|((with_reducible refine zg (N:=8) rfl ?_);refine zl rfl 32 _ rfl (w.heap.size+1) 0 [] cq0 (cq1++([vq2]++(cq3++([.bool z.2.2.2.2.1]++[.bool z.2.2.2.2.2])))) _ rfl (E.1.box 0 rfl) zq31 (rfl) Try.underlying32 rfl (zq30 Lq0.1) ?_))
 ((with_reducible refine (eqDisk_c k z.1 z.1 true _ (E.1.K Kp0.1) (E.1.K Kq0.1) F0.1).mono ?_);rintro e w1_ ⟨rfl,hb⟩)
 replace E:=zz (E.1.call hb);clear hb
 go_wp2_with (first|((with_reducible refine zg (N:=12) rfl ?_);refine zl rfl 53 _ rfl w.heap.size 2 cp0 cp1 ([vp2]++(cp3++([.bool z.2.2.2.2.1]++[.bool z.2.2.2.2.2]))) _ rfl (E.1.box 1 rfl) zq22 (Lp0.1) Try.underlying53 rfl (zq30 Lp1.1) ?_)|((with_reducible refine zg (N:=14) rfl ?_);refine zl rfl 53 _ rfl (w.heap.size+1) 2 cq0 cq1 ([vq2]++(cq3++([.bool z.2.2.2.2.1]++[.bool z.2.2.2.2.2]))) _ rfl (E.1.box 0 rfl) zq31 (Lq0.1) Try.underlying53 rfl (zq30 Lq1.1) ?_))
 ((with_reducible refine (eqMeta_c k z.2.1 z.2.1 true _ (E.1.K Kp1.1) (E.1.K Kq1.1) F1.1).mono ?_);rintro e w2_ ⟨rfl,hb⟩)
 replace E:=zz (E.1.call hb);clear hb
 go_wp2_with (first|((with_reducible refine zg (N:=18) rfl ?_);refine zF rfl 54 _ rfl w.heap.size 6 (cp0++cp1) (vp2) (cp3++([.bool z.2.2.2.2.1]++[.bool z.2.2.2.2.2])) rfl (E.1.box 1 rfl) zq22 (zq34 Lp0.1 Lp1.1) Try.underlying54 rfl ?_)|((with_reducible refine zg (N:=20) rfl ?_);refine zF rfl 54 _ rfl (w.heap.size+1) 6 (cq0++cq1) (vq2) (cq3++([.bool z.2.2.2.2.1]++[.bool z.2.2.2.2.2])) rfl (E.1.box 0 rfl) zq31 (zq34 Lq0.1 Lq1.1) Try.underlying54 rfl ?_))
 ((with_reducible refine (eqReaders_c k z.2.2.1 _ (E.1.K Kp2.1) (E.1.K Kq2.1) F2.1).mono ?_);rintro e w3_ ⟨rfl,hb⟩)
 replace E:=zz (E.1.call hb);clear hb
 go_wp2_with (first|((with_reducible refine zg (N:=24) rfl ?_);refine zl rfl 56 _ rfl w.heap.size 7 (cp0++(cp1++[vp2])) cp3 ([.bool z.2.2.2.2.1]++[.bool z.2.2.2.2.2]) _ rfl (E.1.box 1 rfl) zq22 (zq34 Lp0.1 Lp1.1) Try.underlying56 rfl (zq30 Lp3.1) ?_)|((with_reducible refine zg (N:=26) rfl ?_);refine zl rfl 56 _ rfl (w.heap.size+1) 7 (cq0++(cq1++[vq2])) cq3 ([.bool z.2.2.2.2.1]++[.bool z.2.2.2.2.2]) _ rfl (E.1.box 0 rfl) zq31 (zq34 Lq0.1 Lq1.1) Try.underlying56 rfl (zq30 Lq3.1) ?_))
 ((with_reducible refine (eqTxn_c k z.2.2.2.1 _ (E.1.K Kp3.1) (E.1.K Kq3.1) F3.1).mono ?_);rintro e w4_ ⟨rfl,hb⟩)
 replace E:=zz (E.1.call hb);clear hb
 go_wp2_with (first|((with_reducible refine zg (N:=30) rfl ?_);refine zF rfl 4 _ rfl w.heap.size 18 (cp0++(cp1++([vp2]++cp3))) (.bool z.2.2.2.2.1) [.bool z.2.2.2.2.2] rfl (E.1.box 1 rfl) zq22 (zq66 Lp0.1 Lp1.1 Lp3.1) Try.underlying4 rfl ?_)|((with_reducible refine zg (N:=32) rfl ?_);refine zF rfl 4 _ rfl (w.heap.size+1) 18 (cq0++(cq1++([vq2]++cq3))) (.bool z.2.2.2.2.1) [.bool z.2.2.2.2.2] rfl (E.1.box 0 rfl) zq31 (zq66 Lq0.1 Lq1.1 Lq3.1) Try.underlying4 rfl ?_)|((with_reducible refine zg (N:=35) rfl ?_);refine zF rfl 4 _ rfl w.heap.size 19 (cp0++(cp1++([vp2]++(cp3++[.bool z.2.2.2.2.1])))) (.bool z.2.2.2.2.2) [] rfl (E.1.box 1 rfl) zq22 (zq66 Lp0.1 Lp1.1 Lp3.1) Try.underlying4 rfl ?_)|((with_reducible refine zg (N:=37) rfl ?_);refine zF rfl 4 _ rfl (w.heap.size+1) 19 (cq0++(cq1++([vq2]++(cq3++[.bool z.2.2.2.2.1])))) (.bool z.2.2.2.2.2) [] rfl (E.1.box 0 rfl) zq31 (zq66 Lq0.1 Lq1.1 Lq3.1) Try.underlying4 rfl ?_))
 go_ret
 exact ⟨rfl,E.1.below⟩
def HeldStore (k:Nat) (z:((List ByteArray×List S135)×S53×List S118×(S53×(List ByteArray×List S135×Int×List Int×List Int×List Int)×Int)×Bool×Bool)) (a r:Int):Prop:=∃t1 t2 t3:Int,heldDisk_c_f k z.1 a=some t1∧¬t1<0∧zOa k z.2.1 t1=some t2∧¬t2<0∧laws_heldReaderS.f k z.2.2.1 t2=some t3∧¬t3<0∧HeldTxn k z.2.2.2.1 t3 r∧¬r<0
theorem heldStore_c (k:Nat) (z:((List ByteArray×List S135)×S53×List S118×(S53×(List ByteArray×List S135×Int×List Int×List Int×List Int)×Int)×Bool×Bool)) (a r:Int) {cs:List Value} (w:World) (h:kStore.K w z cs) (hf:HeldStore k z a r):
  Calls Try.prog 30 #[.agg cs.toArray,.int .i64 a] w fun e w'=>e= .returned (.int .i64 r)∧Below w.heap.size w w':=by
 have hwp:=h
 obtain ⟨cp0,_,rfl,hp0,cp1,_,rfl,hp1,cp2,_,rfl,hp2,cp3,_,rfl,hp3,cp4,cp5,rfl,hp4,hp5⟩:=h
 have gp2:=hp2;obtain ⟨A_,k_,rfl,-,-⟩:=hp2;obtain ⟨vp2,hv⟩:∃v,v=Value.slice A_ (z.2.2.1).length k_:=⟨_,rfl⟩;rw [←hv] at gp2 hwp ⊢;clear hv
 obtain rfl:cp4=[.bool z.2.2.2.2.1]:=hp4
 obtain rfl:cp5=[.bool z.2.2.2.2.2]:=hp5
 obtain ⟨ep,he⟩:∃cs,cs=cp0++(cp1++([vp2]++(cp3++([.bool z.2.2.2.2.1]++([.bool z.2.2.2.2.2]))))):=⟨_,rfl⟩;rw [←he] at hwp ⊢;have Ep:=zz he;clear he hwp
 have Kp0:=zz hp0;have Lp0:=zz (show cp0.length=2 from Kd.K_len _ hp0);clear hp0
 have Kp1:=zz hp1;have Lp1:=zz (show cp1.length=4 from Kd.K_len _ hp1);clear hp1
 have Kp2:=zz gp2;clear gp2
 have Kp3:=zz hp3;have Lp3:=zz (show cp3.length=11 from Kd.K_len _ hp3);clear hp3
 obtain ⟨t1,t2,t3,f0,n0,f1,n1,f2,n2,f3,n3⟩:=hf
 have F0:=zz f0;clear f0;replace n0:decide (t1<0)=false:=z7 n0
 have F1:=zz f1;clear f1;replace n1:decide (t2<0)=false:=z7 n1
 have F2:=zz f2;clear f2;replace n2:decide (t3<0)=false:=z7 n2
 have F3:=zz f3;clear f3;replace n3:decide (r<0)=false:=z7 n3
 have O:=zz (z2a w.heap.size)
 have E:=zz (Env.start w)
 go_enter Try.func30,Try.ntmps30
 go_wp2_with (first|((with_reducible refine zg (N:=6) rfl ?_);replace O:=zz (And.intro E.1.le O.1);replace E:=zz (E.1.alloc ep 58 (g:=w.heap.size) rfl);refine zl rfl 32 _ rfl w.heap.size 0 [] cp0 (cp1++([vp2]++(cp3++([.bool z.2.2.2.2.1]++[.bool z.2.2.2.2.2])))) _ rfl (E.1.box 0 rfl) zq22 (rfl) Try.underlying32 rfl (zq30 Lp0.1) ?_))
 ((with_reducible refine (heldDisk_c k z.1 a t1 _ (E.1.K Kp0.1) F0.1).mono ?_);rintro e w1_ ⟨rfl,hb⟩)
 replace E:=zz (E.1.call hb);clear hb
 go_wp2_with (first|((with_reducible refine zg (N:=12) rfl ?_);refine zl rfl 53 _ rfl w.heap.size 2 cp0 cp1 ([vp2]++(cp3++([.bool z.2.2.2.2.1]++[.bool z.2.2.2.2.2]))) _ rfl (E.1.box 0 rfl) zq22 (Lp0.1) Try.underlying53 rfl (zq30 Lp1.1) ?_))
 ((with_reducible refine (heldMeta_c k z.2.1 t1 t2 _ (E.1.K Kp1.1) F1.1).mono ?_);rintro e w2_ ⟨rfl,hb⟩)
 replace E:=zz (E.1.call hb);clear hb
 go_wp2_with (first|((with_reducible refine zg (N:=18) rfl ?_);refine zF rfl 54 _ rfl w.heap.size 6 (cp0++cp1) (vp2) (cp3++([.bool z.2.2.2.2.1]++[.bool z.2.2.2.2.2])) rfl (E.1.box 0 rfl) zq22 (zq34 Lp0.1 Lp1.1) Try.underlying54 rfl ?_))
 ((with_reducible refine (heldReaders_c k z.2.2.1 t2 t3 _ (E.1.K Kp2.1) F2.1).mono ?_);rintro e w3_ ⟨rfl,hb⟩)
 replace E:=zz (E.1.call hb);clear hb
 go_wp2_with (first|((with_reducible refine zg (N:=24) rfl ?_);refine zl rfl 56 _ rfl w.heap.size 7 (cp0++(cp1++[vp2])) cp3 ([.bool z.2.2.2.2.1]++[.bool z.2.2.2.2.2]) _ rfl (E.1.box 0 rfl) zq22 (zq34 Lp0.1 Lp1.1) Try.underlying56 rfl (zq30 Lp3.1) ?_))
 ((with_reducible refine (heldTxn_c k z.2.2.2.1 t3 r _ (E.1.K Kp3.1) F3.1).mono ?_);rintro e w4_ ⟨rfl,hb⟩)
 replace E:=zz (E.1.call hb);clear hb
 go_wp2_with fail
 go_ret
 exact ⟨rfl,E.1.below⟩
def spec_l01In.f (a0:Int) (a1:Int) (a2:Int):Option (Bool):=if a0≥a1 then (some (decide (a0≤a2))) else (some false)
theorem spec_l01In.calls (a0:Int) (a1:Int) (a2:Int) (r:Bool) (w:World) (h:spec_l01In.f a0 a1 a2=some r):
  Calls Try.prog 108 #[.int .i64 a0,.int .i64 a1,.int .i64 a2] w fun e w'=>e= .returned (.bool r)∧Drawn0 w w':=by
 have H:(if a0≥a1 then (some (decide (a0≤a2))) else (some false))=some r:=h
 clear h
 by_cases c4:a0≥a1
 ·rw [if_pos c4] at H
  have c4b0:decide (a1≤a0)=true:=z6 c4
  clear c4
  obtain rfl:=z5a H
  go_enter Try.func108,Try.ntmps108
  exact zq120
 ·rw [if_neg c4] at H
  have c4b0:decide (a1≤a0)=false:=z7 c4
  clear c4
  obtain rfl:=z5a H
  go_enter Try.func108,Try.ntmps108
  exact zq120
def impl_in.f (a0:Int) (a1:Int) (a2:Int):Option (Bool):=if a0≥a1 then (some (decide (a0≤a2))) else (some false)
theorem impl_in.calls (a0:Int) (a1:Int) (a2:Int) (r:Bool) (w:World) (h:impl_in.f a0 a1 a2=some r):
  Calls Try.prog 121 #[.int .i64 a0,.int .i64 a1,.int .i64 a2] w fun e w'=>e= .returned (.bool r)∧Drawn0 w w':=by
 have H:(if a0≥a1 then (some (decide (a0≤a2))) else (some false))=some r:=h
 clear h
 by_cases c4:a0≥a1
 ·rw [if_pos c4] at H
  have c4b0:decide (a1≤a0)=true:=z6 c4
  clear c4
  obtain rfl:=z5a H
  go_enter Try.func121,Try.ntmps121
  exact zq120
 ·rw [if_neg c4] at H
  have c4b0:decide (a1≤a0)=false:=z7 c4
  clear c4
  obtain rfl:=z5a H
  go_enter Try.func121,Try.ntmps121
  exact zq120
def impl_isPage.f (l0_0:List ByteArray) (l0_1:List (S135)) (a1:Int):Option (Bool):=(impl_in.f a1 0 (wrap64 ((l0_0.length:Int)-1))).bind fun t470=>(some t470)
theorem impl_isPage.calls (A0:Option Addr) (c0:Nat) (l2:List ByteArray) (A1:Option Addr) (c1:Nat) (l3:List (S135)) (a1:Int) (r:Bool) (w:World) (r0:Kd.C Kd.string w A0 l2.length l2) (h0:l2.length≤c0) (r1:Kd.C k135 w A1 l3.length l3) (h2:l3.length≤c1) (h:impl_isPage.f l2 l3 a1=some r):
  Calls Try.prog 113 #[.agg #[.slice A0 l2.length c0,.slice A1 l3.length c1],.int .i64 a1] w fun e w'=>e= .returned (.bool r)∧Below w.heap.size w w':=by
 have hu32:=Try.underlying32
 clear r0 h0
 clear r1 h2
 have HB:=zz (z0a w.heap.size w)
 have H:((impl_in.f a1 0 (wrap64 ((l2.length:Int)-1))).bind fun t0=>(some t0))=some r:=h
 clear h
 replace H:=z1a H
 obtain ⟨t0,A2,H⟩:=H
 replace H:(some t0)=some r:=H
 have A3:=zz A2
 clear A2
 obtain rfl:=z5a H
 go_enter Try.func113,Try.ntmps113
 go_wp2_with (first|((with_reducible refine zg (N:=2) rfl ?_);refine zA rfl (N:=2) rfl (cs:= #[.slice A0 l2.length c0,.slice A1 l3.length c1]) (t:=32) zq26 ?_;intro g0 hg w4 hbox hb;have B0:=zz hbox;have G0:=zz (zq12:w.heap.size≤g0);replace HB:=zz (zf zq0 hb);clear hb hbox hg;obtain ⟨_,_,_,_⟩:=zba B0.1)|((with_reducible refine zn (f:=121) rfl ?_);refine zQ (some 10) rfl rfl Try.func121 zq8 rfl #[.int .i64 a1,.int .i64 0,.int .i64 (wrap64 ((l2.length:Int)-1))] rfl zq6 ?_;(with_reducible refine (impl_in.calls a1 0 (wrap64 ((l2.length:Int)-1)) t0 _ A3.1).mono ?_);rintro e w' ⟨rfl,⟨nd,rfl⟩⟩;refine ⟨_,rfl,?_⟩))
 go_ret
 exact ⟨zq9,zq4 G0.1⟩
theorem zero_53 {W:World} {base:Nat}:k53.M W base (fun _=>False) ⟨0,0,0,[]⟩ Z53:=k53_mkM _ _ _ (⟨0,0,0,[]⟩:S53) (Kd.S_nil _ _ _ _ _)
theorem zero_34 {W:World} {base:Nat}:kWork.M W base (fun _=>False) ([],[],0,[],[],[]) Z34:=
 kWork_mkM (Kd.R_nil _ _ _ _ (fun _=>False)) (Kd.R_nil _ _ _ _ (fun _=>False)) (Kd.Q_of_R (Kd.R_nil _ _ _ _ (fun _=>False))) (Kd.Q_of_R (Kd.R_nil _ _ _ _ (fun _=>False))) (Kd.Q_of_R (Kd.R_nil _ _ _ _ (fun _=>False))) (fun _ h=>h.elim) (fun _ h=>h.elim) (fun _ h=>h.elim) (fun _ h=>h.elim) (fun _ h=>h.elim) (fun _ h=>h.elim) (fun _ h=>h.elim) (fun _ h=>h.elim) (fun _ h=>h.elim) (fun _ h=>h.elim) (fun _ h=>h.elim) (fun _ h=>h.elim) (fun _ h=>h.elim) (fun _ h=>h.elim) (fun _ h=>h.elim)
theorem zero_56 {W:World} {base:Nat}:kTxn.M W base (fun _=>False) (⟨0,0,0,[]⟩,([],[],0,[],[],[]),0) Z56:=kTxn.M_mono (fun _ h=>h.elim id (fun h=>h.elim id id)) (comb zero_53 (comb zero_34 Mint (fun _ h=>h.elim)) (fun _ h=>h.elim))
def szDisk_c_f (k:Nat) (z0:(List ByteArray×List S140)) (a:Int):Option Int:=laws_szDisk.f k z0.1 z0.2 a
theorem szDisk_c (k:Nat) (z0:(List ByteArray×List S140)) {cs0:List Value} (a:Int) (r:Int) (w:World) (h0:kDiskL.K w z0 cs0) (hf:szDisk_c_f k z0 a=some r):
  Calls Try.prog 22 #[.agg cs0.toArray,.int .i64 a] w fun e w'=>e= .returned (.int .i64 r)∧Below w.heap.size w w':=by
 obtain ⟨p0,q0⟩:=z0
 obtain ⟨A0,c0,A1,c1,rfl,m10,r_00,m11,r_01⟩:=kDiskL_open h0
 exact laws_szDisk.calls k A0 c0 p0 A1 c1 q0 a r w r_00 m10 r_01 m11 hf
def MarkStore (k:Nat) (z:((List ByteArray×List S135)×S53×List S118×(S53×(List ByteArray×List S135×Int×List Int×List Int×List Int)×Int)×Bool×Bool)) (a:Int) (z':((List ByteArray×List S135)×S53×List S118×(S53×(List ByteArray×List S135×Int×List Int×List Int×List Int)×Int)×Bool×Bool)) (r:Int):Prop:=∃u1 u2 u3 u4 t1 t2 t3:Int,laws_markDisk.f k z.1.1 z.1.2 a=some (u1,z'.1.1,z'.1.2)∧markF.l0 k z.2.1.f3 u1 0=some (u2,z'.2.1.f3)∧markR.l0 k z.2.2.1 u2 0=some (u3,z'.2.2.1)∧markF.l0 k z.2.2.2.1.1.f3 u3 0=some (u4,z'.2.2.2.1.1.f3)∧laws_markDisk.f k z.2.2.2.1.2.1.1 z.2.2.2.1.2.1.2.1 u4=some (t1,z'.2.2.2.1.2.1.1,z'.2.2.2.1.2.1.2.1)∧laws_markIntS.f k z.2.2.2.1.2.1.2.2.2.1 t1=some (t2,z'.2.2.2.1.2.1.2.2.2.1)∧laws_markIntS.f k z.2.2.2.1.2.1.2.2.2.2.1 t2=some (t3,z'.2.2.2.1.2.1.2.2.2.2.1)∧laws_markIntS.f k z.2.2.2.1.2.1.2.2.2.2.2 t3=some (r,z'.2.2.2.1.2.1.2.2.2.2.2)∧
 z'=((z'.1.1,z'.1.2),(⟨z.2.1.f0,z.2.1.f1,z.2.1.f2,z'.2.1.f3⟩:S53),z'.2.2.1,((⟨z.2.2.2.1.1.f0,z.2.2.2.1.1.f1,z.2.2.2.1.1.f2,z'.2.2.2.1.1.f3⟩:S53),(z'.2.2.2.1.2.1.1,z'.2.2.2.1.2.1.2.1,z.2.2.2.1.2.1.2.2.1,z'.2.2.2.1.2.1.2.2.2.1,z'.2.2.2.1.2.1.2.2.2.2.1,z'.2.2.2.1.2.1.2.2.2.2.2),z.2.2.2.1.2.2),z.2.2.2.2.1,z.2.2.2.2.2)
theorem markStore_c (k:Nat) (z:((List ByteArray×List S135)×S53×List S118×(S53×(List ByteArray×List S135×Int×List Int×List Int×List Int)×Int)×Bool×Bool)) (a:Int) (z':((List ByteArray×List S135)×S53×List S118×(S53×(List ByteArray×List S135×Int×List Int×List Int×List Int)×Int)×Bool×Bool)) (r:Int) (ok:Nat→Prop) {cs:List Value} (w0 w:World) (hB:Below w0.heap.size w0 w) (hk:∀k,ok k→k<w.heap.size) (h:kStore.M w w0.heap.size ok z cs) (hf:MarkStore k z a z' r):
  Calls Try.prog 29 #[.agg cs.toArray,.int .i64 a] w fun e w'=>e= .returned (.int .i64 r)∧kStore.M w' w0.heap.size ok z' cs∧Below w0.heap.size w0 w'∧Kept w w' ok:=by
 obtain ⟨u1,u2,u3,u4,t1,t2,t3,f1,f2,f3,f4,g1,g2,g3,g4,e⟩:=hf
 rw [e]
 obtain ⟨⟨l0,l1⟩,x,rs,⟨y,⟨j0,j1,j2,j3,j4,j5⟩,n⟩,bw,bf⟩:=z
 exact markStore_o k l0 l1 x rs y j0 j1 j2 j3 j4 j5 n bw bf a u1 u2 u3 u4 t1 t2 t3 r _ _ _ _ _ _ _ _ _ _ ok w0 w hB hk h f1 f2 f3 f4 g1 g2 g3 g4
theorem Env.mbound {w0 W:World} {top:Nat} {fs:List Fct} (E:Env w0 W top fs) (i:Nat) {α:Type} {d:Kd α} {base lo hi:Nat} {ok:Nat→Prop} {x:α} {cs:List Value} (hf:fs[i]?=some (Fct.made d base lo hi ok x cs)):∀k,ok k∧Iv lo hi k→k<W.heap.size:=
 fun k hk=>z3a hk.2.2 (z4a (All.get i E.all hf).1 E.le)
theorem Env.marked {w0 W W':World} {top:Nat} {fs:List Fct} (E:Env w0 W top fs) (i:Nat) {α:Type} {d:Kd α} {lo hi:Nat} {ok:Nat→Prop} {x x':α} {cs:List Value} (hf:fs[i]?=some (Fct.made d w0.heap.size lo hi ok x cs)) (M:d.M W' w0.heap.size (fun k=>ok k∧Iv lo hi k) x' cs) (hB:Below w0.heap.size w0 W') (hK:Kept W W' (fun k=>ok k∧Iv lo hi k)) (ho:Off2 lo hi fs i):Env w0 W' top (fs.set i (Fct.made d w0.heap.size lo hi ok x' cs)):=
 ⟨hB,z4a E.le hK.1,E.ge,All.off2 (fun k hk h2=>hK.2 k (z3a hk E.le) (fun h=>by have h3:=h.2.1;have h4:=h.2.2;omega)) (z2a _) (f':=Fct.made d w0.heap.size lo hi ok x' cs) (show hi≤top from (All.get i E.all hf).1) M i E.all ho⟩
theorem eqI_ev1 (l:List Int) (h:l.length≤1048576):Ev (fun k=>laws_eqIntS.f k l l) true:=eqI_ev l zq3
theorem rd_T122_nat (xs:List S122) (k:Nat) (hk:k<xs.length):zJ xs (k:Int)=xs[k]:=by
 simp [zJ,List.getD_eq_getElem?_getD,List.getElem?_eq_getElem hk]
theorem eqF_go (l:List S122) (hl:l.length≤1048576) (hs:∀s∈l,s.f1.length≤1048576):∀(n i:Nat),i+n=l.length→Ev (fun k=>laws_eqFreeS.l0 k l l (i:Int)) true:=by
 intro n
 induction n with
 |zero=>
  intro i hi
  exact Ev.step (f:=fun _=>some true) (fun k=>by rw [laws_eqFreeS.l0,if_neg zq3]) (Ev.now _)
 |succ n ih=>
  intro i hi
  have hlt:i<l.length:=zq3
  refine Ev.step (f:=fun k=>(laws_eqIntS.f k l[i].f1 l[i].f1).bind fun t=>if t=true then laws_eqFreeS.l0 k l l ((i+1:Nat):Int) else none) (fun k=> ?_) (Ev.bind (eqI_ev1 _ (hs _ (List.getElem_mem hlt))) ?_)
  ·rw [laws_eqFreeS.l0,if_pos zq3,if_pos zq3,if_pos zq3,rd_T122_nat _ _ hlt,laws_eqFree.f,if_pos rfl,zB zq3 zq3]
   cases laws_eqIntS.f k l[i].f1 l[i].f1 with
   |none=>rfl
   |some t=>cases t<;>rfl
  ·simp only [if_true]
   exact ih (i+1) zq3
theorem eqM_ev (m0 m1 m2:Int) (l:List S122) (hl:l.length≤1048576) (hs:∀s∈l,s.f1.length≤1048576):Ev (fun k=>laws_eqMeta.f k m0 m1 m2 l m0 m1 m2 l) true:=by
 have h:=eqF_go l hl hs l.length 0 zq3
 refine Ev.congr (f:=fun k=>(laws_eqFreeS.l0 k l l 0).bind fun t=>if t=true then some true else none) (fun k=> ?_) (Ev.bind h (Ev.now _))
 unfold laws_eqMeta.f laws_eqFreeS.f
 rw [if_pos rfl,if_pos rfl,if_pos rfl,if_pos rfl]
theorem rd_T118_nat (xs:List S118) (k:Nat) (hk:k<xs.length):zu xs (k:Int)=xs[k]:=by
 simp [zu,List.getD_eq_getElem?_getD,List.getElem?_eq_getElem hk]
def OKn (l:List S122):Prop:=l.length≤1048576∧∀s∈l,s.f1.length≤1048576
theorem eqR_go (l:List S118) (hl:l.length≤1048576) (hs:∀s∈l,OKn s.f1.f3):∀(n i:Nat),i+n=l.length→Ev (fun k=>laws_eqReaderS.l0 k l l (i:Int)) true:=by
 intro n
 induction n with
 |zero=>
  intro i hi
  exact Ev.step (f:=fun _=>some true) (fun k=>by rw [laws_eqReaderS.l0,if_neg zq3]) (Ev.now _)
 |succ n ih=>
  intro i hi
  have hlt:i<l.length:=zq3
  have hm:=hs _ (List.getElem_mem hlt)
  refine Ev.step (f:=fun k=>(laws_eqMeta.f k l[i].f1.f0 l[i].f1.f1 l[i].f1.f2 l[i].f1.f3 l[i].f1.f0 l[i].f1.f1 l[i].f1.f2 l[i].f1.f3).bind fun t=>if t=true then laws_eqReaderS.l0 k l l ((i+1:Nat):Int) else none) (fun k=> ?_) (Ev.bind (eqM_ev _ _ _ _ hm.1 hm.2) ?_)
  ·rw [laws_eqReaderS.l0,if_pos zq3,if_pos zq3,if_pos zq3,rd_T118_nat _ _ hlt,laws_eqReader.f,if_pos rfl,zB zq3 zq3]
   cases laws_eqMeta.f k l[i].f1.f0 l[i].f1.f1 l[i].f1.f2 l[i].f1.f3 l[i].f1.f0 l[i].f1.f1 l[i].f1.f2 l[i].f1.f3 with
   |none=>rfl
   |some t=>cases t<;>rfl
  ·simp only [if_true]
   exact ih (i+1) zq3
theorem eqR_ev (l:List S118) (hl:l.length≤1048576) (hs:∀s∈l,OKn s.f1.f3):Ev (fun k=>laws_eqReaderS.f k l l) true:=
 Ev.congr (fun k=>by unfold laws_eqReaderS.f;rw [if_pos rfl];rfl) (eqR_go l hl hs l.length 0 zq3)
theorem mhF:∀(n i:Nat) (l:List S122) (a:Int),i+n=l.length→0<a→a+n*1048577<4000000000000000000→l.length≤2000000→(∀j (h:j<l.length),i≤j→l[j].f1.length≤1048576)→∃l' c,0≤c∧c≤(n:Int)*1048577∧Ev (fun k=>markF.l0 k l a (i:Int)) (a+c,l')∧l'.length=l.length∧(∀j,j<i→l'[j]?=l[j]?)∧Ev (fun k=>laws_heldFreeS.l0 k l' a (i:Int)) (a+c):=by
 intro n
 induction n with
 |zero=>
  intro i l a hi h0 h1 hl hs
  refine ⟨l,0,zq3,zq3,Ev.step (f:=fun _=>some (a+0,l)) (fun k=> ?_) (Ev.now _),rfl,fun _ _=>rfl,Ev.step (f:=fun _=>some (a+0)) (fun k=> ?_) (Ev.now _)⟩
  ·rw [markF.l0,if_neg zq3]
   simp
  ·rw [laws_heldFreeS.l0,if_neg zq3]
   simp
 |succ n ih=>
  intro i l a hi h0 h1 hl hs
  have hlt0:i<l.length:=zq3
  have hsi:=hs i hlt0 (z2a _)
  obtain ⟨p,g1,g2⟩:=mhI_ev l[i].f1 (a+1) zq3 zq3 zq3
  obtain ⟨l',c,c0,c1,e1,e2,e3,e4⟩:=ih (i+1) (l.set i (⟨a,p⟩:S122)) (a+1+l[i].f1.length) (by rw [List.length_set];omega) zq3 zq3 (by rw [List.length_set];exact hl) (fun j h hj=>by
   rw [List.length_set] at h
   rw [List.getElem_set_ne zq3]
   exact hs j h zq3)
  rw [List.length_set] at e2
  have hlt:i<l'.length:=zq3
  have hat:l'[i]?=some (⟨a,p⟩:S122):=zq59
  have hget:l'[i]=(⟨a,p⟩:S122):=zq58
  have hn:a+1+(l[i].f1.length:Int)+c=a+(1+(l[i].f1.length:Int)+c):=zq3
  rw [hn] at e1 e4
  refine ⟨l',1+(l[i].f1.length:Int)+c,zq3,zq3,Ev.step (f:=fun k=>(laws_markIntS.f k l[i].f1 (a+1)).bind fun b=>markF.l0 k (l.set i (⟨a,b.2⟩:S122)) b.1 ((i+1:Nat):Int)) (fun k=> ?_) (Ev.bind g1 e1),e2,fun j hj=> ?_,Ev.step (f:=fun k=>(laws_heldIntS.f k p (a+1)).bind fun t=>if t<0 then none else laws_heldFreeS.l0 k l' t ((i+1:Nat):Int)) (fun k=> ?_) (Ev.bind g2 (by simp only [if_neg (show ¬a+1+(l[i].f1.length:Int)<0 by omega)];exact e4))⟩
  ·rw [markF.l0,if_pos zq3,if_pos zq3,rd_T122_nat _ _ hlt0,zB (x:=a+1) zq3 zq3,zB (x:=(i:Int)+1) zq3 zq3,Int.toNat_natCast]
   rfl
  ·rw [e3 j zq3,List.getElem?_set_ne zq3]
  ·rw [laws_heldFreeS.l0,if_pos zq3,if_pos zq3,rd_T122_nat _ _ hlt,hget,if_pos rfl,zB (x:=a+1) zq3 zq3,zB (x:=(i:Int)+1) zq3 zq3]
   rfl
theorem mhF_ev (l:List S122) (a:Int) (h0:0<a) (h1:a+l.length*1048577<4000000000000000000) (hl:OKn l):∃l' c,0≤c∧c≤(l.length:Int)*1048577∧Ev (fun k=>markF.l0 k l a 0) (a+c,l')∧Ev (fun k=>laws_heldFreeS.f k l' a) (a+c):=by
 obtain ⟨l',c,c0,c1,e1,_,_,e4⟩:=mhF l.length 0 l a zq3 h0 h1 (by have:=hl.1;omega) (fun j h _=>hl.2 _ (List.getElem_mem h))
 exact ⟨l',c,c0,c1,e1,e4⟩
theorem mhR:∀(n i:Nat) (l:List S118) (a:Int),i+n=l.length→0<a→a+n*1099512676356<3000000000000000000→l.length≤1048576→(∀j (h:j<l.length),i≤j→OKn l[j].f1.f3)→∃l' c,0≤c∧c≤(n:Int)*1099512676356∧Ev (fun k=>markR.l0 k l a (i:Int)) (a+c,l')∧l'.length=l.length∧(∀j,j<i→l'[j]?=l[j]?)∧Ev (fun k=>laws_heldReaderS.l0 k l' a (i:Int)) (a+c):=by
 intro n
 induction n with
 |zero=>
  intro i l a hi h0 h1 hl hs
  refine ⟨l,0,zq3,zq3,Ev.step (f:=fun _=>some (a+0,l)) (fun k=> ?_) (Ev.now _),rfl,fun _ _=>rfl,Ev.step (f:=fun _=>some (a+0)) (fun k=> ?_) (Ev.now _)⟩
  ·rw [markR.l0,if_neg zq3]
   simp
  ·rw [laws_heldReaderS.l0,if_neg zq3]
   simp
 |succ n ih=>
  intro i l a hi h0 h1 hl hs
  have hlt0:i<l.length:=zq3
  have hsi:=hs i hlt0 (z2a _)
  have hsl:=hsi.1
  obtain ⟨p,d,d0,d1,g1,g2⟩:=mhF_ev l[i].f1.f3 (a+4) zq3 zq3 hsi
  obtain ⟨x1,hx1⟩:∃x:S118,x=⟨a,⟨a+1,a+2,a+3,p⟩⟩:=⟨_,rfl⟩
  obtain ⟨l',c,c0,c1,e1,e2,e3,e4⟩:=ih (i+1) (l.set i x1) (a+4+d) (by rw [List.length_set];omega) zq3 zq3 (by rw [List.length_set];exact hl) (fun j h hj=>by
   rw [List.length_set] at h
   rw [List.getElem_set_ne zq3]
   exact hs j h zq3)
  rw [List.length_set] at e2
  have hlt:i<l'.length:=zq3
  have hat:l'[i]?=some x1:=zq59
  have hget:l'[i]=x1:=zq58
  have hn:a+4+d+c=a+(4+d+c):=zq3
  rw [hn] at e1 e4
  have w1:wrap64 (a+1)=a+1:=zB zq3 zq3
  have w2:wrap64 (a+1+1)=a+2:=by rw [show a+1+1=a+2 by omega];exact zB zq3 zq3
  have w3:wrap64 (a+2+1)=a+3:=by rw [show a+2+1=a+3 by omega];exact zB zq3 zq3
  have w4:wrap64 (a+3+1)=a+4:=by rw [show a+3+1=a+4 by omega];exact zB zq3 zq3
  refine ⟨l',4+d+c,zq3,zq3,Ev.step (f:=fun k=>(markF.l0 k l[i].f1.f3 (a+4) 0).bind fun b=>markR.l0 k (l.set i (⟨a,⟨a+1,a+2,a+3,b.2⟩⟩:S118)) b.1 ((i+1:Nat):Int)) (fun k=> ?_) (Ev.bind g1 (by rw [←hx1];exact e1)),e2,fun j hj=> ?_,Ev.step (f:=fun k=>(laws_heldFreeS.f k p (a+4)).bind fun t=>if t<0 then none else laws_heldReaderS.l0 k l' t ((i+1:Nat):Int)) (fun k=> ?_) (Ev.bind g2 (by simp only [if_neg (show ¬a+4+d<0 by omega)];exact e4))⟩
  ·rw [markR.l0,if_pos zq3,if_pos zq3,rd_T118_nat _ _ hlt0,w1,w2,w3,w4,zB (x:=(i:Int)+1) zq3 zq3,Int.toNat_natCast]
   rfl
  ·rw [e3 j zq3,List.getElem?_set_ne zq3]
  ·rw [laws_heldReaderS.l0,if_pos zq3,if_pos zq3,rd_T118_nat _ _ hlt,hget,hx1,if_pos rfl,w1,if_pos rfl,w2,if_pos rfl,w3,if_pos rfl,w4,zB (x:=(i:Int)+1) zq3 zq3]
   rfl
theorem mhR_ev (l:List S118) (a:Int) (h0:0<a) (h1:a≤1000000000000000000) (hl:l.length≤1048576) (hs:∀s∈l,OKn s.f1.f3):∃l' c,0≤c∧c≤1152922604122669056∧Ev (fun k=>markR.l0 k l a 0) (a+c,l')∧Ev (fun k=>laws_heldReaderS.f k l' a) (a+c):=by
 obtain ⟨l',c,c0,c1,e1,_,_,e4⟩:=mhR l.length 0 l a zq3 h0 zq3 hl (fun j h _=>hs _ (List.getElem_mem h))
 exact ⟨l',c,c0,zq3,e1,e4⟩
def EvP (P:Nat→Prop):Prop:=∃K,∀k,K≤k→P k
theorem EvP.and {P Q:Nat→Prop} (h:EvP P) (h2:EvP Q):EvP (fun k=>P k∧Q k):=by
 obtain ⟨K,h⟩:=h
 obtain ⟨J,h2⟩:=h2
 exact ⟨K+J,fun k hk=>⟨h k zq3,h2 k zq3⟩⟩
theorem EvP.imp {P Q:Nat→Prop} (h:EvP P) (hi:∀k,P k→Q k):EvP Q:=by
 obtain ⟨K,h⟩:=h
 exact ⟨K,fun k hk=>hi k (h k hk)⟩
theorem EvP.of {α:Type} {f:Nat→Option α} {r:α} (h:Ev f r):EvP (fun k=>f k=some r):=h
def OKs (d:((List ByteArray×List S135)×S53×List S118×(S53×(List ByteArray×List S135×Int×List Int×List Int×List Int)×Int)×Bool×Bool)):Prop:=(d.1.1.length≤1048576∧d.1.2.length≤1048576)∧OKn d.2.1.f3∧(d.2.2.1.length≤1048576∧∀s∈d.2.2.1,OKn s.f1.f3)∧OKn d.2.2.2.1.1.f3∧(d.2.2.2.1.2.1.1.length≤1048576∧d.2.2.2.1.2.1.2.1.length≤1048576)∧d.2.2.2.1.2.1.2.2.2.1.length≤1048576∧d.2.2.2.1.2.1.2.2.2.2.1.length≤1048576∧d.2.2.2.1.2.1.2.2.2.2.2.length≤1048576
theorem eq_store (d:((List ByteArray×List S135)×S53×List S118×(S53×(List ByteArray×List S135×Int×List Int×List Int×List Int)×Int)×Bool×Bool)) (h:OKs d):EvP (fun k=>EqStore k d):=by
 obtain ⟨⟨a0,a1⟩,x,rs,⟨y,⟨l0,l1,l2,l3,l4,l5⟩,n⟩,bw,bf⟩:=d
 obtain ⟨h1,h2,h3,h4,h5,h6,h7,h8⟩:=h
 have g:=fun {n:Nat} (h:n≤1048576)=>z4a h (show 1048576≤2000000 by decide)
 exact ((EvP.of (eqD_ev a0 a1 (g h1.1) (g h1.2))).and ((EvP.of (eqM_ev x.f0 x.f1 x.f2 x.f3 h2.1 h2.2)).and ((EvP.of (eqR_ev rs h3.1 h3.2)).and ((EvP.of (eqM_ev y.f0 y.f1 y.f2 y.f3 h4.1 h4.2)).and ((EvP.of (eqD_ev l0 l1 (g h5.1) (g h5.2))).and ((EvP.of (eqI_ev l3 (g h6))).and ((EvP.of (eqI_ev l4 (g h7))).and (EvP.of (eqI_ev l5 (g h8)))))))))).imp (fun k h=>h)
theorem mark_store (d:((List ByteArray×List S135)×S53×List S118×(S53×(List ByteArray×List S135×Int×List Int×List Int×List Int)×Int)×Bool×Bool)) (h:OKs d):∃d' mk,EvP (fun k=>MarkStore k d 1 d' mk)∧¬mk<0∧EvP (fun k=>HeldStore k d' 1 mk):=by
 obtain ⟨⟨a0,a1⟩,x,rs,⟨y,⟨l0,l1,l2,l3,l4,l5⟩,n⟩,bw,bf⟩:=d
 obtain ⟨h1,h2,h3,h4,h5,h6,h7,h8⟩:=h
 have b0:a0.length≤1048576:=h1.1
 have b1:a1.length≤1048576:=h1.2
 have b2:x.f3.length≤1048576:=h2.1
 have b4:y.f3.length≤1048576:=h4.1
 have b5:l0.length≤1048576:=h5.1
 have b6:l1.length≤1048576:=h5.2
 have b7:l3.length≤1048576:=h6
 have b8:l4.length≤1048576:=h7
 have b9:l5.length≤1048576:=h8
 obtain ⟨p,q,m1,d1⟩:=mhD_ev a0 a1 1 zq3 zq3 zq3 zq3
 obtain ⟨u1,hu1⟩:∃u:Int,u=1+a0.length+2*a1.length:=⟨_,rfl⟩
 rw [←hu1] at m1 d1
 obtain ⟨fr,c2,c20,c21,m2,d2⟩:=mhF_ev x.f3 u1 zq3 zq3 h2
 obtain ⟨u2,hu2⟩:∃u:Int,u=u1+c2:=⟨_,rfl⟩
 rw [←hu2] at m2 d2
 obtain ⟨rr,c3,c30,c31,m3,d3⟩:=mhR_ev rs u2 zq3 zq3 h3.1 h3.2
 obtain ⟨u3,hu3⟩:∃u:Int,u=u2+c3:=⟨_,rfl⟩
 rw [←hu3] at m3 d3
 obtain ⟨gr,c4,c40,c41,m4,d4⟩:=mhF_ev y.f3 u3 zq3 zq3 h4
 obtain ⟨u4,hu4⟩:∃u:Int,u=u3+c4:=⟨_,rfl⟩
 rw [←hu4] at m4 d4
 obtain ⟨p',q',m5,d5⟩:=mhD_ev l0 l1 u4 zq3 zq3 zq3 zq3
 obtain ⟨u5,hu5⟩:∃u:Int,u=u4+l0.length+2*l1.length:=⟨_,rfl⟩
 rw [←hu5] at m5 d5
 obtain ⟨s3,m6,d6⟩:=mhI_ev l3 u5 zq3 zq3 zq3
 obtain ⟨u6,hu6⟩:∃u:Int,u=u5+l3.length:=⟨_,rfl⟩
 rw [←hu6] at m6 d6
 obtain ⟨s4,m7,d7⟩:=mhI_ev l4 u6 zq3 zq3 zq3
 obtain ⟨u7,hu7⟩:∃u:Int,u=u6+l4.length:=⟨_,rfl⟩
 rw [←hu7] at m7 d7
 obtain ⟨s5,m8,d8⟩:=mhI_ev l5 u7 zq3 zq3 zq3
 obtain ⟨u8,hu8⟩:∃u:Int,u=u7+l5.length:=⟨_,rfl⟩
 rw [←hu8] at m8 d8
 refine ⟨((p,q),⟨x.f0,x.f1,x.f2,fr⟩,rr,(⟨y.f0,y.f1,y.f2,gr⟩,(p',q',l2,s3,s4,s5),n),bw,bf),u8,?_,zq3,?_⟩
 ·refine ((EvP.of m1).and ((EvP.of m2).and ((EvP.of m3).and ((EvP.of m4).and ((EvP.of m5).and ((EvP.of m6).and ((EvP.of m7).and (EvP.of m8)))))))).imp ?_
  rintro k ⟨f1,f2,f3,f4,f5,f6,f7,f8⟩
  exact ⟨u1,u2,u3,u4,u5,u6,u7,f1,f2,f3,f4,f5,f6,f7,f8,rfl⟩
 ·have hm:=fun {a b c u u':Int} {fr:List S122} (d:Ev (fun k=>laws_heldFreeS.l0 k fr u 0) u') (hu:0≤u')=>(show Ev (fun k=>zOa k ⟨a,b,c,fr⟩ u) u' by show Ev (fun k=>laws_heldMeta.f k a b c fr u) u';unfold laws_heldMeta.f;exact hld d zq3 (Ev.now _))
  refine ((EvP.of d1).and ((EvP.of (hm (a:=x.f0) (b:=x.f1) (c:=x.f2) d2 zq3)).and ((EvP.of d3).and ((EvP.of (hm (a:=y.f0) (b:=y.f1) (c:=y.f2) d4 zq3)).and ((EvP.of d5).and ((EvP.of d6).and ((EvP.of d7).and (EvP.of d8)))))))).imp ?_
  rintro k ⟨f1,f2,f3,f4,f5,f6,f7,f8⟩
  exact ⟨u1,u2,u3,f1,zq3,f2,zq3,f3,zq3,⟨u4,f4,zq3,⟨u5,u6,u7,f5,zq3,f6,zq3,f7,zq3,f8,zq3⟩,zq3⟩,zq3⟩
def MHead (x:S53):Prop:=(0≤x.f0∧x.f0≤100000)∧(2≤x.f2∧x.f2≤40)∧(x.f1=0∨(2≤x.f1∧x.f1≤x.f2-1))∧x.f3.length≤20
def FrHead (x:S53) (i:Nat) (f:S122):Prop:=(1≤f.f0∧f.f0≤x.f0)∧(∀g:S122,0<i→x.f3[i-1]?=some g→g.f0<f.f0)∧(1≤f.f1.length∧f.f1.length≤40)
def PgOk (x:S53) (seen ps:List Int) (k:Nat) (p:Int):Prop:=(2≤p∧p≤x.f2-1)∧(∀q:Int,0<k→ps[k-1]?=some q→q<p)∧p∉seen++ps.take k
def zja (x:S53) (i:Nat):List Int:=x.f1::(x.f3.take i).flatMap (·.f1)
def FrPages (x:S53) (i:Nat) (f:S122):Prop:=∀k p,f.f1[k]?=some p→PgOk x (zja x i) f.f1 k p
def MOk (x:S53):Prop:=MHead x∧∀i f,x.f3[i]?=some f→FrHead x i f∧FrPages x i f
theorem seen_succ {x:S53} {i:Nat} {f:S122} (h:x.f3[i]?=some f):zja x (i+1)=zja x i++f.f1:=by
 obtain ⟨hi,rfl⟩:=List.getElem?_eq_some_iff.1 h
 show x.f1::(x.f3.take (i+1)).flatMap (·.f1)=(x.f1::(x.f3.take i).flatMap (·.f1))++x.f3[i].f1
 rw [List.take_succ_eq_append_getElem hi,List.flatMap_append]
 show _::(_++(x.f3[i].f1++[]))=_::(_++_)
 rw [List.append_nil]
def inB (a lo hi:Int):Bool:=decide (lo≤a)&&decide (a≤hi)
theorem zHa {a lo hi:Int} (h:lo≤a∧a≤hi):inB a lo hi=true:=by simp [inB,h.1,h.2]
theorem inB_f {a lo hi:Int} (h:¬(lo≤a∧a≤hi)):inB a lo hi=false:=by
 simp only [inB,Bool.and_eq_false_iff,decide_eq_false_iff_not]
 omega
theorem inB_at {a lo hi:Int} (h:lo≤a):decide (a≤hi)=inB a lo hi:=by simp [inB,h]
theorem inB_af {a lo hi:Int} (h:¬lo≤a):false=inB a lo hi:=by simp only [inB,h,decide_false,Bool.false_and]
theorem rb {a b:Bool} (h:a=b):Ending.returned (.bool a)= .returned (.bool b):=by rw [h]
def hasB (l:List Int) (x:Int):Bool:=decide (x∈l)
theorem inS (a lo hi:Int) (w:World):Calls Try.prog 108 #[.int .i64 a,.int .i64 lo,.int .i64 hi] w fun e w'=>e= .returned (.bool (inB a lo hi))∧w=w':=by
 by_cases h:lo≤a
 ·go_enter Try.func108,Try.ntmps108
  go_wp2
  go_ret
  exact ⟨rb (inB_at h),rfl⟩
 ·go_enter Try.func108,Try.ntmps108
  go_wp2
  go_ret
  exact ⟨rb (inB_af zq3),rfl⟩
theorem inI (a lo hi:Int) (w:World):Calls Try.prog 121 #[.int .i64 a,.int .i64 lo,.int .i64 hi] w fun e w'=>e= .returned (.bool (inB a lo hi))∧w=w':=by
 by_cases h:lo≤a
 ·go_enter Try.func121,Try.ntmps121
  go_wp2
  go_ret
  exact ⟨rb (inB_at h),rfl⟩
 ·go_enter Try.func121,Try.ntmps121
  go_wp2
  go_ret
  exact ⟨rb (inB_af zq3),rfl⟩
theorem C_at {w:World} {A:Option Addr} {n:Nat} {xs:List Int} (h:Kd.C (Kd.int .i64) w A n xs) {i:Nat} (hi:i<xs.length):∃ad,A=some ad∧w.cell? (ad.add i)=some (.int .i64 xs[i]):=by
 obtain ⟨ad,v,cs,e,hk,hc,-⟩:=elem_at h hi zq32
 refine ⟨ad,e,?_⟩
 have:v::cs=[.int .i64 xs[i]]:=hk
 injection this with h1 h2
 rw [←h1]
 rw [show i*(Kd.int .i64).sz=i from Nat.mul_one i] at hc
 exact hc
theorem hasS (xs:List Int) (x:Int) (A:Option Addr) (c:Nat) (w:World) (h:Kd.C (Kd.int .i64) w A xs.length xs) (hl:xs.length≤2000000):Calls Try.prog 91 #[.slice A xs.length c,.int .i64 x] w fun e w'=>e= .returned (.bool (hasB xs x))∧w=w':=by
 have H:=zz h
 clear h
 go_enter Try.func91,Try.ntmps91
 go_wp2
 go_loop [5] (fun v5=>∃i:Nat,v5= .int .i64 (i:Int)∧i≤xs.length∧Z0 (x∉xs.take i)) (fun v5=>xs.length-(intOf v5).toNat)
 case atStart=>exact ⟨0,rfl,z7a _,⟨by simp⟩⟩
 case round=>
  obtain ⟨i,rfl,hi,HN⟩:=hrel
  by_cases hlt:i<xs.length
  ·obtain ⟨ad,hA,hc⟩:=C_at H.1 hlt
   subst hA
   have c3:((0:Int)≤(i:Int))=True:=eq_true zq3
   have c2:((i:Int)<(xs.length:Int))=True:=eq_true zq3
   obtain ⟨y,hy⟩:∃y,y=xs[i]:=⟨_,rfl⟩
   rw [←hy] at hc
   have HY:=zz hy
   clear hy
   by_cases e:y=x
   ·subst e
    have e1:(y==y)=true:=beq_self_eq_true y
    go_wp2
    go_ret
    exact ⟨rb (show true=hasB xs y from (z6 (by rw [HY.1];exact List.getElem_mem hlt)).symm),rfl⟩
   ·have e1:(y==x)=false:=beq_eq_false_iff_ne.2 e
    have HE:=zz e
    clear e
    go_wp2
    go_round
    case rel=>exact ⟨i+1,by go_num,zq3,⟨by
     rw [List.take_succ_eq_append_getElem hlt,←HY.1]
     simp only [List.mem_append,List.mem_singleton,not_or]
     exact ⟨HN.1,fun h=>HE.1 h.symm⟩⟩⟩
    case measure=>simp [intOf];omega
  ·have:i=xs.length:=zq3
   subst this
   go_wp2
   go_ret
   exact ⟨rb (show false=hasB xs x from (z7 (by have:=HN.1;rwa [List.take_length] at this)).symm),rfl⟩
theorem inSq (a lo hi:Int) (w:World) (n:Nat):Calls Try.prog 108 #[.int .i64 a,.int .i64 lo,.int .i64 hi] (w.drewN n) fun e w''=>e= .returned (.bool (inB a lo hi))∧∃m,w''=w.drewN m:=(inS a lo hi _).mono fun _ _ h=>⟨h.1,n,h.2.symm⟩
theorem hasSq (xs:List Int) (x:Int) (A:Option Addr) (c:Nat) (w:World) (n:Nat) (h:Kd.C (Kd.int .i64) w A xs.length xs) (hl:xs.length≤2000000):Calls Try.prog 91 #[.slice A xs.length c,.int .i64 x] (w.drewN n) fun e w''=>e= .returned (.bool (hasB xs x))∧∃m,w''=w.drewN m:=(hasS xs x A c _ (Kd.C_drewN h n) hl).mono fun _ _ h=>⟨h.1,n,h.2.symm⟩
structure SeenAt (w w':World) (cs:List Value) (seen:List Int) (v:Value):Prop where
 row:Kd.R (Kd.int .i64) 3 w' w.heap.size (fun k=>w.heap.size<k) v seen
 box:w'.heap[w.heap.size]?=some (.cells cs.toArray 53 (0,0))
 bel:Below w.heap.size w w'
theorem SeenAt.step {w w' w2:World} {cs:List Value} {seen:List Int} {v:Value} (h:SeenAt w w' cs seen v) (hb:Below w'.heap.size w' w2):SeenAt w w2 cs seen v:=⟨Kd.R_below h.row hb,zj h.box hb,zf h.bel hb⟩
theorem R_one (n:Int) (base:Nat) (w:World) (ok:Nat→Prop) (hb:base≤w.heap.size) (hok:ok w.heap.size):Kd.R (Kd.int .i64) 3 (w.alloc (.cells #[.int .i64 n] 3)) base ok (.slice (some ⟨w.heap.size,0,none⟩) 1 1) [n]:=
 ⟨fun k hk=>by simp [Value.ownBlock] at hk;rw [←hk];exact hok,[.int .i64 n],⟨rfl,.inr ⟨w.heap.size,1,#[.int .i64 n],rfl,hb,heap_alloc_new w _,z2a _,zq32,rfl,rfl⟩⟩,Reps.one (rfl:(Kd.int .i64).M _ base _ n [.int .i64 n]) (Reps.none _ _)⟩
theorem seen0 (x:S53) (cs:List Value) (w:World):SeenAt w ((w.alloc (.cells cs.toArray 53)).alloc (.cells #[.int .i64 x.f1] 3)) cs (zja x 0) (.slice (some ⟨w.heap.size+1,0,none⟩) 1 1):=by
 refine ⟨?_,zo (zM w _) _,zi (zi (z0a _ _) _) _⟩
 have h:=R_one x.f1 w.heap.size (w.alloc (.cells cs.toArray 53)) (fun k=>w.heap.size<k) zq29 zq29
 rwa [show (w.alloc (.cells cs.toArray 53)).heap.size=w.heap.size+1 by simp] at h
theorem znb (w:World) (n:Nat):Below w.heap.size w (w.drewN n):=zG (z0a _ _) n
theorem ze {w w2:World} {a:Addr} {v:Value} (h:w.cell? a=some v) (hb:Below w.heap.size w w2):w2.cell? a=some v:=(hb.cell (z9 w _ h)).trans h
theorem bfalse {b:Bool} {p:Prop} (h:b=true↔p) (hn:¬p):false=b:=by
 cases b
 ·rfl
 ·exact absurd (h.1 rfl) hn
theorem fr_ways (x:S53) (i:Nat) (f:S122) (b:Bool) (hb:b=true↔MOk x) (hi:x.f3[i]?=some f):
  (false=b∧((inB f.f0 1 x.f0=false)∨(inB f.f0 1 x.f0=true∧i=0∧inB (f.f1.length:Int) 1 40=false)∨(inB f.f0 1 x.f0=true∧∃p,x.f3[i-1]?=some p∧0<i∧f.f0≤p.f0)∨(inB f.f0 1 x.f0=true∧∃p,x.f3[i-1]?=some p∧0<i∧¬f.f0≤p.f0∧inB (f.f1.length:Int) 1 40=false)))∨
  (FrHead x i f∧inB f.f0 1 x.f0=true∧inB (f.f1.length:Int) 1 40=true∧(i=0∨∃p,x.f3[i-1]?=some p∧0<i∧¬f.f0≤p.f0)):=by
 have hilt:=(List.getElem?_eq_some_iff.1 hi).1
 have nb:¬FrHead x i f→false=b:=fun h=>bfalse hb (fun hm=>h (hm.2 i f hi).1)
 by_cases h1:1≤f.f0∧f.f0≤x.f0
 ·by_cases h3:1≤(f.f1.length:Int)∧(f.f1.length:Int)≤40
  ·by_cases hz:i=0
   ·exact .inr ⟨⟨h1,fun g h0 _=>absurd h0 zq3,zq3⟩,zHa h1,zHa h3,.inl hz⟩
   ·have hp:x.f3[i-1]?=some (x.f3[i-1]'zq3):=List.getElem?_eq_getElem zq3
    by_cases h2:f.f0≤(x.f3[i-1]'zq3).f0
    ·exact .inl ⟨nb (fun h=>by have:=h.2.1 _ zq3 hp;omega),.inr (.inr (.inl ⟨zHa h1,_,hp,zq3,h2⟩))⟩
    ·exact .inr ⟨⟨h1,fun g _ hg=>by rw [hp] at hg;injection hg with hg;subst hg;omega,zq3⟩,zHa h1,zHa h3,.inr ⟨_,hp,zq3,h2⟩⟩
  ·have nh:false=b:=nb (fun h=>h3 (by have:=h.2.2;omega))
   by_cases hz:i=0
   ·exact .inl ⟨nh,.inr (.inl ⟨zHa h1,hz,inB_f h3⟩)⟩
   ·have hp:x.f3[i-1]?=some (x.f3[i-1]'zq3):=List.getElem?_eq_getElem zq3
    by_cases h2:f.f0≤(x.f3[i-1]'zq3).f0
    ·exact .inl ⟨nh,.inr (.inr (.inl ⟨zHa h1,_,hp,zq3,h2⟩))⟩
    ·exact .inl ⟨nh,.inr (.inr (.inr ⟨zHa h1,_,hp,zq3,h2,inB_f h3⟩))⟩
 ·exact .inl ⟨nb (fun h=>h1 h.1),.inl (inB_f h1)⟩
theorem pg_ways (x:S53) (i:Nat) (f:S122) (k:Nat) (p:Int) (b:Bool) (hb:b=true↔MOk x) (hi:x.f3[i]?=some f) (hk:f.f1[k]?=some p):
  (false=b∧((inB p 2 (x.f2-1)=false)∨(inB p 2 (x.f2-1)=true∧k=0∧hasB (zja x i++f.f1.take k) p=true)∨(inB p 2 (x.f2-1)=true∧∃q,f.f1[k-1]?=some q∧0<k∧p≤q)∨(inB p 2 (x.f2-1)=true∧∃q,f.f1[k-1]?=some q∧0<k∧¬p≤q∧hasB (zja x i++f.f1.take k) p=true)))∨
  (PgOk x (zja x i) f.f1 k p∧inB p 2 (x.f2-1)=true∧hasB (zja x i++f.f1.take k) p=false∧(k=0∨∃q,f.f1[k-1]?=some q∧0<k∧¬p≤q)):=by
 have hklt:=(List.getElem?_eq_some_iff.1 hk).1
 have nb:¬PgOk x (zja x i) f.f1 k p→false=b:=fun h=>bfalse hb (fun hm=>h ((hm.2 i f hi).2 k p hk))
 by_cases h1:2≤p∧p≤x.f2-1
 ·by_cases h3:p∈zja x i++f.f1.take k
  ·have nh:false=b:=nb (fun h=>h.2.2 h3)
   have h3':hasB (zja x i++f.f1.take k) p=true:=z6 h3
   by_cases hz:k=0
   ·exact .inl ⟨nh,.inr (.inl ⟨zHa h1,hz,h3'⟩)⟩
   ·have hp:f.f1[k-1]?=some (f.f1[k-1]'zq3):=List.getElem?_eq_getElem zq3
    by_cases h2:p≤f.f1[k-1]'zq3
    ·exact .inl ⟨nh,.inr (.inr (.inl ⟨zHa h1,_,hp,zq3,h2⟩))⟩
    ·exact .inl ⟨nh,.inr (.inr (.inr ⟨zHa h1,_,hp,zq3,h2,h3'⟩))⟩
  ·have h3':hasB (zja x i++f.f1.take k) p=false:=z7 h3
   by_cases hz:k=0
   ·exact .inr ⟨⟨h1,fun q h0 _=>absurd h0 zq3,h3⟩,zHa h1,h3',.inl hz⟩
   ·have hp:f.f1[k-1]?=some (f.f1[k-1]'zq3):=List.getElem?_eq_getElem zq3
    by_cases h2:p≤f.f1[k-1]'zq3
    ·exact .inl ⟨nb (fun h=>by have:=h.2.1 _ zq3 hp;omega),.inr (.inr (.inl ⟨zHa h1,_,hp,zq3,h2⟩))⟩
    ·exact .inr ⟨⟨h1,fun g _ hg=>by rw [hp] at hg;injection hg with hg;subst hg;omega,h3⟩,zHa h1,h3',.inr ⟨_,hp,zq3,h2⟩⟩
 ·exact .inl ⟨nb (fun h=>h1 h.1),.inl (inB_f h1)⟩
theorem seen_app {ops:Array Oper} {rest:List Oper} {o:Oper} {a:Act} {Q:Exit→Act→World→Prop} {w W:World} {cs cf:List Value} {seen:List Int} {v:Value} {gF:Nat} {p:Int} (hgd:o.guard=none) (s y:Operand) (ho:o.op= .call {callee:= .builtin .append,args:= #[s,y],argTypes:= #[26,26]}) (hs:a.eval s=v) (hy:a.eval y= .slice (some ⟨W.heap.size,0,none⟩) 1 1)
  (H:SeenAt w W cs seen v) (BF:W.heap[gF]?=some (.cells cf.toArray 122 (0,0))) (OW:∀k,v.ownBlock=some k→k≠gF) (hl:seen.length≤2000000)
  (h:∀v1 w1,Z0 (SeenAt w w1 cs (seen++[p]) v1)→Z0 (w1.heap[gF]?=some (.cells cf.toArray 122 (0,0)))→Z0 (∀k,v1.ownBlock=some k→k≠gF)→wpList Try.prog ops Q rest (a.put o.dst v1) w1):
  wpList Try.prog ops Q (o::rest) a (W.alloc (.cells #[.int .i64 p] 3)):=by
 refine Kd.R_append (Kd.int .i64) (w0:=w) w.heap.size hgd s y 26 3 (.int .i64 0) 8 ho Try.underlying26 info3 rfl zq32 zq32 v seen p [.int .i64 p] (fun k=>w.heap.size<k) (fun _=>False) hs hy rfl (fun _ h=>h.elim) (fun k hk=>z3a (zE H.box) hk) H.row H.bel H.bel.size zq3 ?_
 intro v1 w1 hr hb hg hat
 have hv:∀k,v.ownBlock=some k→w.heap.size<k:=H.row.1
 refine h v1 w1 ⟨hr,zaa H.box hg (fun e=>by have:=hv _ e.symm;omega),hb⟩ ⟨zaa BF hg (fun e=>OW _ e.symm rfl)⟩ ⟨fun k hk=> ?_⟩
 rcases hat with hat|⟨b,hb2,hle⟩
 ·exact OW k (by rw [←hat];exact hk)
 ·rw [hb2] at hk
  injection hk with hk
  have:=zE BF
  omega
theorem seen_len2 {x:S53} {i:Nat} (h0:∀(j:Nat) (f:S122),j<i→x.f3[j]?=some f→f.f1.length≤40):∀n,n≤i→n≤x.f3.length→(zja x n).length≤1+40*n
 |0,_,_=>by simp [zja]
 |n+1,hi,h=>by
  have he:x.f3[n]?=some x.f3[n]:=List.getElem?_eq_getElem h
  rw [seen_succ he,List.length_append]
  have:=seen_len2 h0 n zq3 zq3
  have:=h0 n _ zq3 he
  omega
theorem mh_ways (x:S53) (h:¬MHead x):(inB x.f0 0 100000=false)∨(inB x.f0 0 100000=true∧inB x.f2 2 40=false)∨((inB x.f0 0 100000=true∧inB x.f2 2 40=true∧2≤x.f2∧x.f2≤40)∧(((x.f1 !=0)=true∧(x.f1==0)=false∧inB x.f1 2 (x.f2-1)=false)∨(((x.f1 !=0)=false∧(x.f1==0)=true)∧(20<(x.f3.length:Int))=True)∨(((x.f1 !=0)=true∧(x.f1==0)=false∧inB x.f1 2 (x.f2-1)=true)∧(20<(x.f3.length:Int))=True))):=by
 by_cases h0:0≤x.f0∧x.f0≤100000
 ·by_cases h2:2≤x.f2∧x.f2≤40
  ·refine .inr (.inr ⟨⟨zHa h0,zHa h2,h2⟩,?_⟩)
   by_cases h1:x.f1=0
   ·refine .inr (.inl ⟨⟨by simp [h1],by simp [h1]⟩,eq_true ?_⟩)
    have:¬x.f3.length≤20:=fun hl=>h ⟨h0,h2,.inl h1,hl⟩
    omega
   ·by_cases h3:2≤x.f1∧x.f1≤x.f2-1
    ·refine .inr (.inr ⟨⟨by simp [h1],by simp [h1],zHa h3⟩,eq_true ?_⟩)
     have:¬x.f3.length≤20:=fun hl=>h ⟨h0,h2,.inr h3,hl⟩
     omega
    ·exact .inl ⟨by simp [h1],by simp [h1],inB_f h3⟩
  ·exact .inr (.inl ⟨zHa h0,inB_f h2⟩)
 ·exact .inl (inB_f h0)
theorem prev_at {w:World} {A:Option Addr} {n:Nat} {xs:List S122} (h:Kd.C k122 w A n xs) {i:Nat} {p:S122} (hp:xs[i]?=some p):∃ad,A=some ad∧w.cell? (ad.add (i*2))=some (.int .i64 p.f0):=by
 obtain ⟨hi,rfl⟩:=List.getElem?_eq_some_iff.1 hp
 obtain ⟨ad,v,cs,e,hk,hc,-⟩:=elem_at h hi zq32
 refine ⟨ad,e,?_⟩
 obtain ⟨A_,c_,hcs,-⟩:=k122_open hk
 injection hcs with h1 h2
 rw [←h1]
 exact hc
theorem specMetaOk_c (x:S53) (b:Bool) {cs:List Value} (w:World) (h:k53.K w x cs) (hb:b=true↔MOk x):
  Calls Try.prog 138 #[.agg cs.toArray] w fun e w'=>e= .returned (.bool b)∧Below w.heap.size w w':=by
 obtain ⟨AF,cF,rfl,mF,rF⟩:=zYa h
 have KR:=zz rF
 have HB:=zz hb
 have bn:=rF.2.1
 have hbl:=zz (zi (z0a w.heap.size w) (.cells #[.int .i64 x.f0,.int .i64 x.f1,.int .i64 x.f2,.slice AF x.f3.length cF] 53))
 clear h mF rF hb
 by_cases hh:MHead x
 ·obtain ⟨h0,h2,h1,hl⟩:=hh
  have HH:=zz (show MHead x from ⟨h0,h2,h1,hl⟩)
  have e0:=zHa h0
  have e2:=zHa h2
  have bl:(20<(x.f3.length:Int))=False:=eq_false zq3
  obtain ⟨h2a,h2b⟩:=h2
  clear h0
  have hv:((x.f1 !=0)=false∧(x.f1==0)=true)∨((x.f1 !=0)=true∧(x.f1==0)=false∧inB x.f1 2 (x.f2-1)=true):=by
   rcases h1 with h1|h1
   ·exact .inl (by simp [h1])
   ·exact .inr ⟨zq80,zq80,zHa h1⟩
  clear h1
  rcases hv with ⟨e1,e1'⟩|⟨e1,e1',e1''⟩
  all_goals
   go_enter Try.func138,Try.ntmps138
   go_wp2_with (((with_reducible refine (inS _ _ _ _).mono ?_);rintro e w1 ⟨rfl,rfl⟩))
   have H0:=zz (seen0 x [.int .i64 x.f0,.int .i64 x.f1,.int .i64 x.f2,.slice AF x.f3.length cF] w)
   go_loopg [3,4] (x.f3.length+1) (fun kq v3 v4 w'=>∃(i:Nat) (v:Value),v3=v∧v4= .int .i64 (i:Int)∧Z0 (kq+i=x.f3.length+1)∧Z0 (i≤x.f3.length)∧Z0 (∀(j:Nat) (f:S122),j<i→x.f3[j]?=some f→FrHead x j f∧FrPages x j f)∧Z0 (SeenAt w w' [.int .i64 x.f0,.int .i64 x.f1,.int .i64 x.f2,.slice AF x.f3.length cF] (zja x i) v))
   case atStart=>exact ⟨0,_,rfl,rfl,⟨zq3⟩,⟨z7a _⟩,⟨fun j f h=>absurd h (Nat.not_lt_zero _)⟩,H0⟩
   case round=>
    clear H0 e0 e1 e1' e2 bl hbl
    obtain ⟨i,v,rfl,rfl,HQ,HI,HP,HS⟩:=hrel
    have hp3:wr.cell? ⟨w.heap.size,3,none⟩=some (.slice AF x.f3.length cF):=(zd HS.1.box 3).trans rfl
    by_cases hlt:i<x.f3.length
    ·have c1:decide ((i:Int)<(x.f3.length:Int))=true:=z6 zq3
     have c0:decide ((0:Int)≤(i:Int))=true:=z6 zq3
     have c2:((i:Int)<(x.f3.length:Int))=True:=eq_true zq3
     have c3:((0:Int)≤(i:Int))=True:=eq_true zq3
     cases gk with
     |zero=>exact absurd HQ.1 zq3
     |succ k1=>
      obtain ⟨ad,A1,c11,hA,z0,z1,hl4,hC4⟩:=at_T122 KR.1 (i:Int) zq3 zq3
      subst hA
      obtain ⟨el,hel⟩:∃el,el=zJ x.f3 (i:Int):=⟨_,rfl⟩
      have hel2:x.f3[i]?=some el:=zq60
      rw [←hel] at z0 z1 hl4 hC4
      simp only [Int.toNat_natCast] at z0 z1
      replace z0:=(HS.1.bel.cell (z9 w _ z0)).trans z0
      replace z1:=(HS.1.bel.cell (z9 w _ z1)).trans z1
      have HE:=zz hel2
      have KE:=zz hC4
      have be:el.f1.length≤9223372036854775807:=hC4.2.1
      have hz:=zE HS.1.box
      clear hel hel2 hC4 hl4
      go_upto_region 8 with (fail)
      obtain ⟨W1,hW1⟩:∃W1,W1=wr.alloc (.cells #[.int .i64 el.f0,.slice A1 el.f1.length c11] 122):=⟨_,rfl⟩
      have BF:=zz (show W1.heap[wr.heap.size]?=some (.cells ([.int .i64 el.f0,.slice A1 el.f1.length c11]:List Value).toArray 122 (0,0)) from by rw [hW1];exact zM wr _)
      have HB1:=zz (show Below wr.heap.size wr W1 from by rw [hW1];exact zi (z0a _ _) _)
      rw [←hW1]
      clear hW1 hp3 z0 z1
      obtain ⟨gF,hgF⟩:∃g,g=wr.heap.size:=⟨_,rfl⟩
      rw [←hgF] at BF hz ⊢
      have OW:=zz (show ∀k,u3.ownBlock=some k→k<gF from by rw [hgF];exact Kd.R_lt HS.1.row)
      replace HS:=zz (HS.1.step HB1.1)
      clear HB1 hgF
      have hp0:W1.cell? ⟨w.heap.size,0,none⟩=some (.int .i64 x.f0):=(zd HS.1.box 0).trans rfl
      have hp3:W1.cell? ⟨w.heap.size,3,none⟩=some (.slice (some ad) x.f3.length cF):=(zd HS.1.box 3).trans rfl
      have hf0:W1.cell? ⟨gF,0,none⟩=some (.int .i64 el.f0):=(zd BF.1 0).trans rfl
      have hf1:W1.cell? ⟨gF,1,none⟩=some (.slice A1 el.f1.length c11):=(zd BF.1 1).trans rfl
      have hways:=fr_ways x i el b HB.1 HE.1
      rcases hways with ⟨hbf,hways⟩|⟨hFr,eT,eL,hways⟩
      ·have HBF:=zz hbf
       clear hbf
       rcases hways with eT|⟨eT,hz0,eL⟩|⟨eT,p,hp,h0,hle⟩|⟨eT,p,hp,h0,hle,eL⟩
       ·exact zq157
       ·have q1:decide ((0:Int)<(i:Int))=false:=z7 zq3
        have q2:decide (0<i)=false:=z7 zq3
        clear hz0
        exact zq157
       ·have q1:decide ((0:Int)<(i:Int))=true:=z6 zq3
        have q2:decide (0<i)=true:=z6 zq3
        have hs1:IntKind.i64.wrap ((i:Int)-1)=((i-1:Nat):Int):=zq56
        have hs2:(0:Int)≤((i-1:Nat):Int):=zq3
        have hs3:((i-1:Nat):Int)<(x.f3.length:Int):=zq3
        obtain ⟨ad2,hA2,zp⟩:=prev_at KR.1 hp
        injection hA2 with hA2
        subst hA2
        clear hp
        replace zp:=ze zp HS.1.bel
        have q3:decide (el.f0≤p.f0)=true:=z6 hle
        exact zq157
       ·have q1:decide ((0:Int)<(i:Int))=true:=z6 zq3
        have q2:decide (0<i)=true:=z6 zq3
        have hs1:IntKind.i64.wrap ((i:Int)-1)=((i-1:Nat):Int):=zq56
        have hs2:(0:Int)≤((i-1:Nat):Int):=zq3
        have hs3:((i-1:Nat):Int)<(x.f3.length:Int):=zq3
        obtain ⟨ad2,hA2,zp⟩:=prev_at KR.1 hp
        injection hA2 with hA2
        subst hA2
        clear hp
        replace zp:=ze zp HS.1.bel
        have q3:decide (el.f0≤p.f0)=false:=z7 hle
        exact zq157
      ·have HFR:=zz hFr
       have hel1:el.f1.length≤40:=hFr.2.2.2
       clear hFr
       rcases hways with hz0|⟨p,hp,h0,hle⟩
       ·have q1:decide ((0:Int)<(i:Int))=false:=z7 zq3
        have q2:decide (0<i)=false:=z7 zq3
        clear hz0
        exact zq84
       ·have q1:decide ((0:Int)<(i:Int))=true:=z6 zq3
        have q2:decide (0<i)=true:=z6 zq3
        have hs1:IntKind.i64.wrap ((i:Int)-1)=((i-1:Nat):Int):=zq56
        have hs2:(0:Int)≤((i-1:Nat):Int):=zq3
        have hs3:((i-1:Nat):Int)<(x.f3.length:Int):=zq3
        obtain ⟨ad2,hA2,zp⟩:=prev_at KR.1 hp
        injection hA2 with hA2
        subst hA2
        clear hp
        replace zp:=ze zp HS.1.bel
        have q3:decide (el.f0≤p.f0)=false:=z7 hle
        exact zq84
    ·exact zq122
 ·have HBF:=zz (bfalse HB.1 (fun h=>hh h.1))
  rcases mh_ways x hh with e0|⟨e0,e2⟩|⟨⟨e0,e2,h2a,h2b⟩,⟨e1,e1',e1''⟩|⟨⟨e1,e1'⟩,bl⟩|⟨⟨e1,e1',e1''⟩,bl⟩⟩
  all_goals
   clear hh
   go_enter Try.func138,Try.ntmps138
   go_wp2_with (((with_reducible refine (inS _ _ _ _).mono ?_);rintro e w1 ⟨rfl,rfl⟩))
   go_ret
   exact ⟨rb HBF.1,hbl.out⟩
def FreeOk (f:S122) (x:S53):Prop:=(∀k p,f.f1[k]?=some p→(2≤p∧p≤x.f2-1)∧∀q:Int,0<k→f.f1[k-1]?=some q→q<p)∧(1≤f.f0∧f.f0≤x.f0)∧(1≤f.f1.length∧f.f1.length≤40)
theorem fp_ways (f:S122) (x:S53) (k:Nat) (p:Int) (b:Bool) (hb:b=true↔FreeOk f x) (hk:f.f1[k]?=some p):
  (false=b∧(p<2∨(¬p<2∧x.f2≤p)∨(¬p<2∧¬x.f2≤p∧∃q,f.f1[k-1]?=some q∧0<k∧p≤q)))∨
  (((2≤p∧p≤x.f2-1)∧∀q:Int,0<k→f.f1[k-1]?=some q→q<p)∧¬p<2∧¬x.f2≤p∧(k=0∨∃q,f.f1[k-1]?=some q∧0<k∧¬p≤q)):=by
 have hklt:=(List.getElem?_eq_some_iff.1 hk).1
 have nb:¬((2≤p∧p≤x.f2-1)∧∀q:Int,0<k→f.f1[k-1]?=some q→q<p)→false=b:=fun h=>bfalse hb (fun hm=>h (hm.1 k p hk))
 by_cases h1:p<2
 ·exact .inl ⟨nb (fun h=>by have:=h.1;omega),.inl h1⟩
 by_cases h2:x.f2≤p
 ·exact .inl ⟨nb (fun h=>by have:=h.1;omega),.inr (.inl ⟨h1,h2⟩)⟩
 by_cases hz:k=0
 ·exact .inr ⟨⟨zq3,fun q h0 _=>absurd h0 zq3⟩,h1,h2,.inl hz⟩
 have hp:f.f1[k-1]?=some (f.f1[k-1]'zq3):=List.getElem?_eq_getElem zq3
 by_cases h3:p≤f.f1[k-1]'zq3
 ·exact .inl ⟨nb (fun h=>by have:=h.2 _ zq3 hp;omega),.inr (.inr ⟨h1,h2,_,hp,zq3,h3⟩)⟩
 ·exact .inr ⟨⟨zq3,fun g _ hg=>by rw [hp] at hg;injection hg with hg;subst hg;omega⟩,h1,h2,.inr ⟨_,hp,zq3,h3⟩⟩
theorem freeOk_c (f:S122) (x:S53) (b:Bool) {A1 AF:Option Addr} {c0 cF:Nat} (w:World) (h:Kd.C (Kd.int .i64) w A1 f.f1.length f.f1) (hb:b=true↔FreeOk f x):
  Calls Try.prog 171 #[.agg #[.int .i64 f.f0,.slice A1 f.f1.length c0],.agg #[.int .i64 x.f0,.int .i64 x.f1,.int .i64 x.f2,.slice AF x.f3.length cF]] w fun e w'=>e= .returned (.bool b)∧Below w.heap.size w w':=by
 have KE:=zz h
 have HB:=zz hb
 have bn:=h.2.1
 have B0:=zz (zo (zM w (.cells ([.int .i64 f.f0,.slice A1 f.f1.length c0]:List Value).toArray 122)) (.cells ([.int .i64 x.f0,.int .i64 x.f1,.int .i64 x.f2,.slice AF x.f3.length cF]:List Value).toArray 53))
 have B1:=zz (zM (w.alloc (.cells ([.int .i64 f.f0,.slice A1 f.f1.length c0]:List Value).toArray 122)) (.cells ([.int .i64 x.f0,.int .i64 x.f1,.int .i64 x.f2,.slice AF x.f3.length cF]:List Value).toArray 53))
 have hbl:=zz (zi (zi (z0a w.heap.size w) (.cells ([.int .i64 f.f0,.slice A1 f.f1.length c0]:List Value).toArray 122)) (.cells ([.int .i64 x.f0,.int .i64 x.f1,.int .i64 x.f2,.slice AF x.f3.length cF]:List Value).toArray 53))
 clear h hb
 go_enter Try.func171,Try.ntmps171
 go_upto_region 1 with (fail)
 obtain ⟨W,hW⟩:∃W,W=(w.alloc (.cells #[.int .i64 f.f0,.slice A1 f.f1.length c0] 122)).alloc (.cells #[.int .i64 x.f0,.int .i64 x.f1,.int .i64 x.f2,.slice AF x.f3.length cF] 53):=⟨_,rfl⟩
 rw [←hW]
 have hgs:(w.alloc (.cells ([.int .i64 f.f0,.slice A1 f.f1.length c0]:List Value).toArray 122)).heap.size=w.heap.size+1:=zq29
 rw [hgs] at B1
 have hbW:Below w.heap.size w W:=by rw [hW];exact hbl.out
 have f0:W.cell? ⟨w.heap.size,0,none⟩=some (.int .i64 f.f0):=by rw [hW];exact (zd B0.1 0).trans rfl
 have f1:W.cell? ⟨w.heap.size,1,none⟩=some (.slice A1 f.f1.length c0):=by rw [hW];exact (zd B0.1 1).trans rfl
 have m0:W.cell? ⟨w.heap.size+1,0,none⟩=some (.int .i64 x.f0):=by rw [hW];exact (zd B1.1 0).trans rfl
 have m2:W.cell? ⟨w.heap.size+1,2,none⟩=some (.int .i64 x.f2):=by rw [hW];exact (zd B1.1 2).trans rfl
 have HW:=zz hbW
 clear hW B0 B1 hbl hgs hbW
 go_wp2_with fail
 go_loop [10] (fun v0=>∃k:Nat,v0= .int .i64 (k:Int)∧k≤f.f1.length∧Z0 (∀(j:Nat) (p:Int),j<k→f.f1[j]?=some p→(2≤p∧p≤x.f2-1)∧∀q:Int,0<j→f.f1[j-1]?=some q→q<p)) (fun v0=>f.f1.length-(intOf v0).toNat)
 case atStart=>exact ⟨0,rfl,z7a _,⟨fun j p h=>absurd h (Nat.not_lt_zero _)⟩⟩
 case round=>
  obtain ⟨k,rfl,hk0,HP⟩:=hrel
  by_cases hk:k<f.f1.length
  ·have d1:decide ((k:Int)<(f.f1.length:Int))=true:=z6 zq3
   have d0:decide ((0:Int)≤(k:Int))=true:=z6 zq3
   have d2:((k:Int)<(f.f1.length:Int))=True:=eq_true zq3
   have d3:((0:Int)≤(k:Int))=True:=eq_true zq3
   obtain ⟨ap,hAp,pc⟩:=C_at KE.1 hk
   subst hAp
   obtain ⟨p,hp⟩:∃p,p=f.f1[k]:=⟨_,rfl⟩
   rw [←hp] at pc
   have HPK:=zz (show f.f1[k]?=some p from by rw [hp];exact List.getElem?_eq_getElem hk)
   clear hp
   replace pc:=ze pc HW.1
   have hw:=fp_ways f x k p b HB.1 HPK.1
   rcases hw with ⟨hbf,hw⟩|⟨hg,h1,h2,hw⟩
   ·have HBF:=zz hbf
    clear hbf
    rcases hw with h1|⟨h1,h2⟩|⟨h1,h2,q,hq,h0,hle⟩
    ·have e1:=z6 h1
     go_wp2
     go_ret
     exact ⟨rb HBF.1,HW.1⟩
    ·have e1:=z7 h1
     have e2:=z6 h2
     go_wp2
     go_ret
     exact ⟨rb HBF.1,HW.1⟩
    ·have e1:=z7 h1
     have e2:=z7 h2
     have q1:decide ((0:Int)<(k:Int))=true:=z6 zq3
     have q2:decide (0<k)=true:=z6 zq3
     have hs2:(0:Int)≤((k-1:Nat):Int):=zq3
     have hs3:((k-1:Nat):Int)<(f.f1.length:Int):=zq3
     have hs4:(k:Int)-1=((k-1:Nat):Int):=zq3
     obtain ⟨hql,hqv⟩:=List.getElem?_eq_some_iff.1 hq
     obtain ⟨ap2,hA2,zq⟩:=C_at KE.1 hql
     rw [hqv] at zq
     injection hA2 with hA2
     subst hA2
     clear hqv hq
     replace zq:=ze zq HW.1
     have q3:decide (p≤q)=true:=z6 hle
     go_wp2
     go_ret
     exact ⟨rb HBF.1,HW.1⟩
   ·have HG:=zz hg
    have e1:=z7 h1
    have e2:=z7 h2
    clear hg
    rcases hw with hz0|⟨q,hq,h0,hle⟩
    ·have q1:decide ((0:Int)<(k:Int))=false:=z7 zq3
     have q2:decide (0<k)=false:=z7 zq3
     clear hz0
     exact zq119
    ·have q1:decide ((0:Int)<(k:Int))=true:=z6 zq3
     have q2:decide (0<k)=true:=z6 zq3
     have hs2:(0:Int)≤((k-1:Nat):Int):=zq3
     have hs3:((k-1:Nat):Int)<(f.f1.length:Int):=zq3
     have hs4:(k:Int)-1=((k-1:Nat):Int):=zq3
     obtain ⟨hql,hqv⟩:=List.getElem?_eq_some_iff.1 hq
     obtain ⟨ap2,hA2,zq⟩:=C_at KE.1 hql
     rw [hqv] at zq
     injection hA2 with hA2
     subst hA2
     clear hqv hq
     replace zq:=ze zq HW.1
     have q3:decide (p≤q)=false:=z7 hle
     clear hle
     exact zq119
  ·have d1:decide ((k:Int)<(f.f1.length:Int))=false:=z7 zq3
   have hk2:k=f.f1.length:=zq3
   have hall:∀(j:Nat) (p:Int),f.f1[j]?=some p→(2≤p∧p≤x.f2-1)∧∀q:Int,0<j→f.f1[j-1]?=some q→q<p:=fun j p hj=>HP.1 j p (by have:=(List.getElem?_eq_some_iff.1 hj).1;omega) hj
   have hw:(inB f.f0 1 x.f0=false∧false=b)∨(inB f.f0 1 x.f0=true∧inB (f.f1.length:Int) 1 40=b):=by
    by_cases h1:1≤f.f0∧f.f0≤x.f0
    ·by_cases h2:1≤(f.f1.length:Int)∧(f.f1.length:Int)≤40
     ·exact .inr ⟨zHa h1,by rw [zHa h2];exact (HB.1.2 ⟨hall,h1,zq3⟩).symm⟩
     ·exact .inr ⟨zHa h1,by rw [inB_f h2];exact bfalse HB.1 (fun h=>h2 (by have:=h.2.2;omega))⟩
    ·exact .inl ⟨inB_f h1,bfalse HB.1 (fun h=>h1 h.2.1)⟩
   clear hall hk2
   rcases hw with ⟨e1,hw⟩|⟨e1,hw⟩
   all_goals
    have HX:=zz hw
    clear hw
    go_wp2_with (((with_reducible refine (inI _ _ _ _).mono ?_);rintro e w1 ⟨rfl,rfl⟩))
    go_ret
    exact ⟨rb HX.1,HW.1⟩
end Go.Proofs.Ytonhdiemjgdcnaa.PFnExactGivePage
